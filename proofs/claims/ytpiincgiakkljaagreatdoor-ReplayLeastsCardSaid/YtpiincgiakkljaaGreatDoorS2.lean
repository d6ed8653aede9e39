/-
  slices.Delete of one whole number: its contract over a block.
-/
import Derived.Test.YtpiincgiakkljaaGreatDoorDl
import Derived.Test.YtpiincgiakkljaaGreatDoorS1
import Derived.Test.YtpiincgiakkljaaGreatDoorFe
import Derived.Lib.RowBridge
set_option linter.unusedSimpArgs false
set_option linter.unusedVariables false
namespace Go.Proofs.YtpiincgiakkljaaGreatDoor
open Go

theorem RelH.drewN {c : Ctx} {φ : Locs} {F : CSet} {h : Heap} {w : World} (r : RelH c φ F h w) : ∀ q, RelH c φ F h (w.drewN q)
  | 0 => r
  | q + 1 => (RelH.drewN r q).drew

theorem grow_drewN {G : CSet} {φ : Locs} {F : CSet} {w : World} (q : Nat) : Grow G φ F w φ F (w.drewN q) := ⟨fun _ _ _ e => e, fun _ _ e => ⟨e, rfl⟩, fun _ _ e => ⟨e, rfl⟩⟩

theorem repL_vi {φ : Locs} {F G : CSet} {w : World} {k : Nat} : ∀ (l : List Int), RepL φ F G w k (l.map vi) (l.map (Value.int .i64))
  | [] => .nil
  | _ :: l => .cons .int (repL_vi l)

theorem rep_vi {φ : Locs} {F G : CSet} {w : World} {k : Nat} {n : Int} {v : Value} (h : Rep φ F G w k (vi n) v) : v = .int .i64 n := by
  unfold vi at h
  cases h
  rfl

def delAt (zs : List Int) (a : Nat) : List Int := zs.take a ++ zs.drop (a + 1)
theorem delAt_length {zs : List Int} {a : Nat} (ha : a < zs.length) : (delAt zs a).length = zs.length - 1 := by simp [delAt]; omega

theorem delete_has (m : Int) {h : Heap} {i nid a : Nat} {zs : List Int} {ty : Option TypeId} {cap : Option Nat} (hi : h i = .blk ⟨zs.map vi, 1, false, false, ty⟩) (hn : h nid = .free) (ha : a < zs.length) :
    Has prog (gl m) 74 [.rs i 0 zs.length zs.length cap, vi a, vi ((a + 1 : Nat) : Int)] h (.ret (.rs nid 0 (zs.length - 1) (zs.length - 1) none)) [(i, .dead), (nid, .blk ⟨(delAt zs a).map vi, 1, false, false, ty⟩)] := by
  intro c φ F w vs hgl r hargs
  generalize hvs : vs.toList = l at hargs
  cases hargs with
  | cons h1 hr => cases hr with
    | cons h2 hr => cases hr with
      | cons h3 hr =>
        cases hr
        rename_i v0 v1 v2
        have e1 := rep_vi h2
        have e2 := rep_vi h3
        subst e1 e2
        have hvs' : vs = #[v0, .int .i64 a, .int .i64 ((a + 1 : Nat) : Int)] := Array.ext' (by simpa using hvs)
        subst hvs'
        have hnid : nid ≠ i := fun e => by rw [e, hi] at hn; cases hn
        generalize hz : zs.length = n at h1
        cases h1 with
        | rsn => omega
        | rs g0 g1 g2 g3 g4 =>
          rename_i L cc
          rcases r.loc i _ hi with ⟨_, n2, _⟩ | ⟨L', eL, lies⟩
          · have : zs = [] := by simpa using n2
            subst this
            simp at ha
          · have hLL : L = L' := by
              simp only [List.length_map, hz] at eL
              rw [g1] at eL
              cases eL
              rfl
            subst hLL
            have hesz : L.esz = 1 := lies.esz
            obtain ⟨cs, t, hrow, hroom⟩ := lies.row
            have hH : Sort.Holds (Value.int .i64) w L.b (L.base + 0) zs.toArray := by
              intro j hj
              have hj' : j < zs.length := by simpa using hj
              obtain ⟨v, f1, f2, _⟩ := lies.cell j (vi zs[j]) (by simp [hj'])
              have := rep_vi f2
              subst this
              refine ⟨?_, (row_cell hrow _).2⟩
              rw [Nat.add_zero, f1]
              simp [hj']
            have hc := Tryz.delete_callsYtpiincgiakkljaaGreatDoor L.b (L.base + 0) cc a zs.toArray w hH (by simp; omega) (by simp; omega)
            have hsz : zs.toArray.size = n := by simp [hz]
            rw [hsz] at hc
            refine hc.mono ?_
            rintro e w' ⟨rfl, q, hw⟩
            have hlen : (delAt zs a ++ [0]).length = zs.toArray.size := by simp [delAt_length ha]; omega
            have hw' : w' = (w.drewN q).setCells L.b (L.base + 0) ((delAt zs a ++ [0]).map (Value.int .i64)) := by
              rw [hw]
              exact Lib.putRow_eq_setCells (Value.int .i64) w L.b (L.base + 0) _ (delAt zs a ++ [0]) q hH hlen
            have hlen' : (delAt zs a ++ [0]).length = n := by rw [hlen, hsz]
            obtain ⟨M, φ1, k1, _, _, k2, k3⟩ := (r.drewN q).store (off := 0) (xs := (delAt zs a ++ [0]).map vi) (vs := (delAt zs a ++ [0]).map (Value.int .i64)) hi rfl (by simp only [List.length_map, hlen', hz]; omega) (repL_vi _) (by
              intro v hv
              obtain ⟨x, _, rfl⟩ := List.mem_map.1 hv
              rfl) (by simp)
            simp only [List.length_map, hz] at k1
            rw [g1] at k1
            cases k1
            rw [← hw'] at k2 k3
            have hsp : splice (zs.map vi) 0 ((delAt zs a ++ [0]).map vi) = (delAt zs a ++ [0]).map vi := by
              unfold splice
              have : (zs.map vi).drop (0 + ((delAt zs a ++ [0]).map vi).length) = [] := List.drop_eq_nil_of_le (by simp only [List.length_map, hlen', hz]; omega)
              rw [this]
              simp
            rw [hsp] at k2
            have hi2 : upd h i (.blk ⟨(delAt zs a ++ [0]).map vi, 1, false, false, ty⟩) i = .blk ⟨(delAt zs a ++ [0]).map vi, 1, false, false, ty⟩ := upd_same ..
            obtain ⟨φ2, j1, j2, j3⟩ := k2.shorten (j := nid) (n - 1) hi2 (by rw [upd_ne _ _ hnid]; exact hn) rfl rfl (by simp only [List.length_map, hlen']; omega)
            have htk : ((delAt zs a ++ [0]).map vi).take (n - 1) = (delAt zs a).map vi := by
              rw [← List.map_take, List.take_append_of_le_length (by rw [delAt_length ha, hz]; omega), List.take_of_length_le (by rw [delAt_length ha, hz]; omega)]
            simp only [htk, upd_upd] at j1
            simp only [List.length_map, hlen'] at j3
            refine ⟨_, φ2, F, rfl, j1, ((grow_drewN q).trans k3).trans j2, ?_⟩
            have hL2 : φ2 nid (n - 1) = some L := j3.trans (k3.loc _ _ _ g1)
            exact .rs g0 hL2 (by simp) (by omega) g4
end Go.Proofs.YtpiincgiakkljaaGreatDoor
/-
  What is known of calls; slices.Contains; (*hands).may as the code says it.
-/
namespace Go.Proofs.YtpiincgiakkljaaGreatDoor
open Go

noncomputable def kAsked : KX := kL 21 fun as_ => match as_ with
  | [.int .i64 x, .int .i64 y] => some (vi (askedV x y), [])
  | _ => none
noncomputable def kAlive : KX := kL 11 fun as_ => match as_ with
  | [] => some (.bool true, [])
  | _ => none
noncomputable def kIndex : KX := kL 72 fun as_ => match as_ with
  | [.ds _ cells len, .int .i64 x] => some (vi (idxZ (cells.map getI) x), [.p (cells = (cells.map getI).map vi), .p (len = cells.length), .p (cells.length ≤ 281474976710655)])
  | _ => none
noncomputable def kDelete : KX := fun g as_ h nid => bi (Nat.beq g 74) (match as_ with
  | [.rs i off len tot _, .int .i64 a, .int .i64 b] => (match h i, h nid with
    | .blk k, .free => some ({ val := .rs nid 0 (len - 1) (len - 1) none, ups := [(i, .dead), (nid, .blk ⟨(delAt (k.cells.map getI) a.toNat).map vi, 1, false, false, k.ty⟩)], fp := [i] },
        [.d (off = 0) inferInstance, .d (k.esz = 1) inferInstance, .d (k.ao = false) inferInstance, .d (k.fixed = false) inferInstance, .p (k.cells = (k.cells.map getI).map vi), .p (len = k.cells.length), .p (tot = k.cells.length), .p (0 ≤ a), .p (a < len), .p (b = a + 1)])
    | _, _ => none)
  | _ => none) none

theorem kAsked_ok (m : Int) : KxOk prog (gl m) kAsked := kL_ok fun as_ a cs h _ => by
  split at h
  · cases h; exact asked_hasL m _ _
  · cases h
theorem kAlive_ok (m : Int) : KxOk prog (gl m) kAlive := kL_ok fun as_ a cs h _ => by
  split at h
  · cases h; exact alive_hasL m
  · cases h
theorem kIndex_ok (m : Int) : KxOk prog (gl m) kIndex := kL_ok fun as_ a cs h hc => by
  split at h
  · rename_i hd cells len x
    cases h
    simp only [List.mem_cons, List.mem_nil_iff, or_false, forall_eq_or_imp, forall_eq, Cd.ok] at hc
    obtain ⟨c1, c2, c3⟩ := hc
    have hh := index_hasL m x hd (cells.map getI) (by simpa using c3)
    rw [← c1] at hh
    rw [c2]
    simp only [List.length_map] at hh
    exact hh
  · cases h
theorem kDelete_ok (m : Int) : KxOk prog (gl m) kDelete := by
  intro g as_ h nid e cs he hc _ h' ha
  unfold kDelete at he
  rw [bi_eq] at he
  split at he
  · rename_i hg
    have := Nat.eq_of_beq_eq_true hg
    subst this
    split at he
    · rename_i i off len tot cap a b
      split at he
      · rename_i k hi hn
        cases he
        simp only [List.mem_cons, List.mem_nil_iff, or_false, forall_eq_or_imp, forall_eq, Cd.ok] at hc
        obtain ⟨c1, c2, c3, c4, c5, c6, c7, c8, c9, c10⟩ := hc
        have hi' : h' i = .blk k := by rw [ha.1 i (by simp)]; exact hi
        have hn' : h' nid = .free := by rw [ha.2 nid (by simp [Eff.wr])]; exact hn
        obtain ⟨cells, esz, ao, fx, ty⟩ := k
        simp only at c2 c3 c4 c5 c6 c7 hi' ⊢
        subst c1 c2 c3 c4
        have hlen : (cells.map getI).length = cells.length := by simp
        have hd := delete_has m (a := a.toNat) (zs := cells.map getI) (cap := cap) (by rw [← c5]; exact hi') hn' (by omega)
        rw [hlen] at hd
        subst c6
        rw [c7]
        have e1 : ((a.toNat : Nat) : Int) = a := by omega
        have e2 : (((a.toNat + 1 : Nat)) : Int) = b := by omega
        rw [e1, e2] at hd
        exact hd
      · cases he
    · cases he
  · cases he

noncomputable abbrev F73 : Code := bodyF Tryz.f73
noncomputable def ct0 (m x : Int) (hd : SH) (zs : List Int) (K : AExit → Tr AV → Mem → Prop) (S : Scr) : Prop := sxC prog (gl m) kIndex 9 mo F73 (finK 0 K) S (argsTr [.ds hd (zs.map vi) zs.length, vi x] 0 .e) (mm [])
set_option maxRecDepth 100000 in
theorem ct0_eq (m : Int) (x : Int) (hd : SH) (zs : List Int) (K : AExit → Tr AV → Mem → Prop) : ct0 m x hd zs K (Scr.vl (vi (idxZ zs x)) (Scr.op [true, true, true, true, true, true] (Scr.fin [4]))) = (
    AV.int IntKind.i64 (idxZ (List.map getI (List.map vi zs)) x) = vi (idxZ zs x) ∧
  List.map vi zs = List.map vi (List.map getI (List.map vi zs)) ∧
    List.length zs = List.length (List.map vi zs) ∧
      List.length (List.map vi zs) ≤ 281474976710655 ∧ K AExit.ret (few [(4, AV.bool (decide (idxZ zs x ≥ 0)))]) (mm [])) := by kernel_rfl
end Go.Proofs.YtpiincgiakkljaaGreatDoor
/-
  slices.Contains proved; (*hands).may as the code says it.
-/
namespace Go.Proofs.YtpiincgiakkljaaGreatDoor
open Go

theorem map_getI (zs : List Int) : List.map getI (List.map vi zs) = zs := by
  rw [List.map_map]
  exact List.map_id'' (fun _ => rfl) zs

set_option maxRecDepth 100000 in
theorem contains_hasL (m x : Int) (hd : SH) (zs : List Int) (hz : zs.length ≤ 281474976710655) : HasL prog (gl m) 73 [.ds hd (zs.map vi) zs.length, vi x] (.bool (decide (idxZ zs x ≥ 0))) := by
  refine hasL_sx Tryz.func73 (code := F73) (by kernel_rfl) (of_decide_eq_true (by kernel_rfl)) fun c st hel hs => awp_sx (kIndex_ok m) hel ((ct0_eq m x hd zs _).mpr ?_) hs
  rw [map_getI]
  exact ⟨rfl, rfl, by simp, by simpa using hz, finL_ret [.bool (decide (idxZ zs x ≥ 0))] [] (by kernel_rfl) (by kernel_rfl)⟩

noncomputable def kContains : KX := kL 73 fun as_ => match as_ with
  | [.ds _ cells len, .int .i64 x] => some (.bool (decide (idxZ (cells.map getI) x ≥ 0)), [.p (cells = (cells.map getI).map vi), .p (len = cells.length), .p (cells.length ≤ 281474976710655)])
  | _ => none
theorem kContains_ok (m : Int) : KxOk prog (gl m) kContains := kL_ok fun as_ a cs h hc => by
  split at h
  · rename_i hd cells len x
    cases h
    simp only [List.mem_cons, List.mem_nil_iff, or_false, forall_eq_or_imp, forall_eq, Cd.ok] at hc
    obtain ⟨c1, c2, c3⟩ := hc
    have hh := contains_hasL m x hd (cells.map getI) (by simpa using c3)
    rw [← c1] at hh
    rw [c2]
    simp only [List.length_map] at hh
    exact hh
  · cases h

noncomputable def kMayIn : KX := orK kIndex (orK kContains kDelete)
theorem kMayIn_ok (m : Int) : KxOk prog (gl m) kMayIn := orK_ok (kIndex_ok m) (orK_ok (kContains_ok m) (kDelete_ok m))

/-- The hands as blocks: the struct (block i), the states that are kept (block j). -/
noncomputable def handB (n s st due : Int) (j : Nat) (k : List Int) : Slot := .blk ⟨[vi n, vi s, vi st, vi due, .rs j 0 k.length k.length none], 5, false, false, some 109⟩
noncomputable def listB (k : List Int) : Slot := .blk ⟨k.map vi, 1, false, false, none⟩

noncomputable abbrev F43 : Code := bodyF Tryz.f43
noncomputable def mayA (m n s st due kd at_ : Int) (k : List Int) (K : AExit → Tr AV → Mem → Prop) (S : Scr) : Prop := sxC prog (gl m) kMayIn 132 mo (cp [0] F43) (finK 2 K) S (argsTr [.ra 0 0 5, .agg [vi kd, vi at_]] 0 .e) (mm [handB n s st due 1 k, listB k])
noncomputable def mayT : Tr AV := few [(0, .ra 0 0 5), (3, .ra 2 0 2), (4, .bool false)]
noncomputable def mayM (n s st due kd at_ : Int) (k : List Int) : Mem := mm [handB n s st due 1 k, listB k, .blk ⟨[vi kd, vi at_], 2, false, false, some 73⟩]
noncomputable def mayB (m n s st due kd at_ : Int) (k : List Int) (K : AExit → Tr AV → Mem → Prop) (S : Scr) : Prop := sxC prog (gl m) kMayIn 132 mo (cp [1,0] F43) (finK 2 K) S mayT (mayM n s st due kd at_ k)
noncomputable def mayC (m n s st due kd at_ : Int) (k : List Int) (K : AExit → Tr AV → Mem → Prop) (S : Scr) : Prop := sxC prog (gl m) kMayIn 132 mo (cp [1,1] F43) (finK 2 K) S mayT (mayM n s st due kd at_ k)
set_option maxRecDepth 100000 in
theorem mayA_eq (m : Int) (n : Int) (s : Int) (st : Int) (due : Int) (kd : Int) (at_ : Int) (k : List Int) (K : AExit → Tr AV → Mem → Prop) : mayA m n s st due kd at_ k K (Scr.fin [0, 3, 4]) = (
    K AExit.normal (few [(0, AV.ra 0 0 5), (3, AV.ra 2 0 2), (4, AV.bool false)])
  (mm
    [Slot.blk
        (Blk.mk
          [AV.int IntKind.i64 n, AV.int IntKind.i64 s, AV.int IntKind.i64 st, AV.int IntKind.i64 due,
            AV.rs 1 0 (List.length k) (List.length k) none]
          5 false false (some 109)),
      Slot.blk (Blk.mk (List.map vi k) 1 false false none),
      Slot.blk (Blk.mk [AV.int IntKind.i64 kd, AV.int IntKind.i64 at_] 2 false false (some 73))])) := by kernel_rfl
set_option maxRecDepth 100000 in
theorem mayB_eq (m : Int) (n : Int) (s : Int) (st : Int) (due : Int) (kd : Int) (at_ : Int) (k : List Int) (K : AExit → Tr AV → Mem → Prop) : mayB m n s st due kd at_ k K (Scr.sp
  (Scr.tt
    (Scr.tt
      (Scr.sp
        (Scr.tt
          (Scr.tt
            (Scr.sp (Scr.adj (Adj.move 0 4) (Scr.finR [4] [(0, false), (1, false), (3, true)])) (Scr.fin [0, 3, 4]))))
        (Scr.ff (Scr.ff (Scr.ff (Scr.fin [0, 3, 4])))))))
  (Scr.ff (Scr.ff (Scr.ff (Scr.ff (Scr.ff (Scr.ff (Scr.fin [0, 3, 4])))))))) = (
    ((at_ != 0) = true →
    ((kd != 2) = true →
        ((kd != 3) = true →
            List.length (List.map vi k) = List.length k ∧
              AV.m1L (List.map vi k) = true ∧
                K AExit.ret (few [(4, AV.bool false)])
                  (mm
                    [Slot.blk
                        (Blk.mk
                          [AV.int IntKind.i64 n, AV.int IntKind.i64 s, AV.int IntKind.i64 st, AV.int IntKind.i64 due,
                            AV.rs 2 0 (List.length k) (List.length k) none]
                          5 false false (some 109)),
                      Slot.dead, Slot.blk (Blk.mk (List.map vi k) 1 false false none)])) ∧
          ((kd != 3) = false →
            K AExit.normal (few [(0, AV.ra 0 0 5), (3, AV.ra 2 0 2), (4, AV.bool false)])
              (mm
                [Slot.blk
                    (Blk.mk
                      [AV.int IntKind.i64 n, AV.int IntKind.i64 s, AV.int IntKind.i64 st, AV.int IntKind.i64 due,
                        AV.rs 1 0 (List.length k) (List.length k) none]
                      5 false false (some 109)),
                  Slot.blk (Blk.mk (List.map vi k) 1 false false none),
                  Slot.blk (Blk.mk [AV.int IntKind.i64 kd, AV.int IntKind.i64 at_] 2 false false (some 73))]))) ∧
      ((kd != 2) = false →
        K AExit.normal (few [(0, AV.ra 0 0 5), (3, AV.ra 2 0 2), (4, AV.bool false)])
          (mm
            [Slot.blk
                (Blk.mk
                  [AV.int IntKind.i64 n, AV.int IntKind.i64 s, AV.int IntKind.i64 st, AV.int IntKind.i64 due,
                    AV.rs 1 0 (List.length k) (List.length k) none]
                  5 false false (some 109)),
              Slot.blk (Blk.mk (List.map vi k) 1 false false none),
              Slot.blk (Blk.mk [AV.int IntKind.i64 kd, AV.int IntKind.i64 at_] 2 false false (some 73))]))) ∧
  ((at_ != 0) = false →
    K AExit.normal (few [(0, AV.ra 0 0 5), (3, AV.ra 2 0 2), (4, AV.bool false)])
      (mm
        [Slot.blk
            (Blk.mk
              [AV.int IntKind.i64 n, AV.int IntKind.i64 s, AV.int IntKind.i64 st, AV.int IntKind.i64 due,
                AV.rs 1 0 (List.length k) (List.length k) none]
              5 false false (some 109)),
          Slot.blk (Blk.mk (List.map vi k) 1 false false none),
          Slot.blk (Blk.mk [AV.int IntKind.i64 kd, AV.int IntKind.i64 at_] 2 false false (some 73))]))) := by kernel_rfl
set_option maxRecDepth 100000 in
theorem mayC_eq (m : Int) (n : Int) (s : Int) (st : Int) (due : Int) (kd : Int) (at_ : Int) (k : List Int) (K : AExit → Tr AV → Mem → Prop) : mayC m n s st due kd at_ k K (Scr.vl (vi (idxZ k at_))
  (Scr.op [true, false, false, false, true, true, true, true]
    (Scr.sp
      (Scr.sp
        (Scr.tt
          (Scr.tt
            (Scr.tt
              (Scr.tt
                (Scr.tt
                  (Scr.tt
                    (Scr.tt
                      (Scr.tt
                        (Scr.tt (Scr.adj (Adj.move 0 4) (Scr.finR [4] [(0, false), (1, false), (3, true)])))))))))))
        (Scr.ff
          (Scr.ff
            (Scr.ff
              (Scr.ff
                (Scr.ff
                  (Scr.ff
                    (Scr.ff
                      (Scr.ff
                        (Scr.vl (AV.bool (decide (idxZ k st ≥ 0)))
                          (Scr.op [true, false, false, false, true, true, true, true]
                            (Scr.sp (Scr.adj (Adj.move 0 4) (Scr.finR [4] [(0, false), (1, false), (3, true)]))
                              (Scr.op []
                                (Scr.op []
                                  (Scr.op [true, false, true, true, true, false, true, false, false]
                                    (Scr.adj (Adj.move 0 4)
                                      (Scr.finR [4] [(0, false), (1, false), (3, true)])))))))))))))))))
      (Scr.sp
        (Scr.sp (Scr.adj (Adj.move 0 4) (Scr.finR [4] [(0, false), (1, false), (3, true)]))
          (Scr.adj (Adj.move 0 4) (Scr.finR [4] [(0, false), (1, false), (3, true)])))
        (Scr.sp
          (Scr.sp (Scr.adj (Adj.move 0 4) (Scr.finR [4] [(0, false), (1, false), (3, true)]))
            (Scr.finR [4] [(0, false), (1, false), (3, true)]))
          (Scr.sp
            (Scr.sp (Scr.adj (Adj.move 0 4) (Scr.finR [4] [(0, false), (1, false), (3, true)]))
              (Scr.adj (Adj.move 0 4) (Scr.finR [4] [(0, false), (1, false), (3, true)])))
            (Scr.sp
              (Scr.sp
                (Scr.tt
                  (Scr.tt
                    (Scr.tt
                      (Scr.tt
                        (Scr.tt
                          (Scr.tt
                            (Scr.tt
                              (Scr.tt
                                (Scr.tt
                                  (Scr.tt
                                    (Scr.adj (Adj.move 0 4)
                                      (Scr.finR [4] [(0, false), (1, false), (3, true)]))))))))))))
                (Scr.ff
                  (Scr.ff
                    (Scr.ff
                      (Scr.ff
                        (Scr.ff
                          (Scr.ff
                            (Scr.ff
                              (Scr.ff
                                (Scr.ff
                                  (Scr.sp (Scr.adj (Adj.move 0 4) (Scr.finR [4] [(0, false), (1, false), (3, true)]))
                                    (Scr.adj (Adj.move 0 4)
                                      (Scr.finR [4] [(0, false), (1, false), (3, true)])))))))))))))
              (Scr.adj (Adj.move 0 4) (Scr.finR [4] [(0, false), (1, false), (3, true)]))))))))) = (
    AV.int IntKind.i64 (idxZ (List.map getI (List.drop 0 (List.take (0 + List.length k * 1) (List.map vi k)))) at_) =
    vi (idxZ k at_) ∧
  List.length (List.map vi k) = List.length k ∧
    0 + List.length k * 1 ≤ List.length k ∧
      AV.m1L (List.drop 0 (List.take (0 + List.length k * 1) (List.map vi k))) = true ∧
        List.drop 0 (List.take (0 + List.length k * 1) (List.map vi k)) =
            List.map vi (List.map getI (List.drop 0 (List.take (0 + List.length k * 1) (List.map vi k)))) ∧
          List.length k = List.length (List.drop 0 (List.take (0 + List.length k * 1) (List.map vi k))) ∧
            List.length (List.drop 0 (List.take (0 + List.length k * 1) (List.map vi k))) ≤ 281474976710655 ∧
              ((kd == 1) = true →
                  (((↑(List.length k) : Int) == s) = true →
                      List.length (List.map vi k) = List.length k ∧
                        AV.m1L (List.map vi k) = true ∧
                          K AExit.ret (few [(4, AV.bool false)])
                            (mm
                              [Slot.blk
                                  (Blk.mk
                                    [AV.int IntKind.i64 n, AV.int IntKind.i64 s, AV.int IntKind.i64 st,
                                      AV.int IntKind.i64 due, AV.rs 2 0 (List.length k) (List.length k) none]
                                    5 false false (some 109)),
                                Slot.dead, Slot.blk (Blk.mk (List.map vi k) 1 false false none)])) ∧
                    (((↑(List.length k) : Int) == s) = false →
                      AV.bool
                            (decide
                              (idxZ (List.map getI (List.drop 0 (List.take (0 + List.length k * 1) (List.map vi k))))
                                  st ≥
                                0)) =
                          AV.bool (decide (idxZ k st ≥ 0)) ∧
                        List.length (List.map vi k) = List.length k ∧
                          0 + List.length k * 1 ≤ List.length k ∧
                            AV.m1L (List.drop 0 (List.take (0 + List.length k * 1) (List.map vi k))) = true ∧
                              List.drop 0 (List.take (0 + List.length k * 1) (List.map vi k)) =
                                  List.map vi
                                    (List.map getI (List.drop 0 (List.take (0 + List.length k * 1) (List.map vi k)))) ∧
                                List.length k =
                                    List.length (List.drop 0 (List.take (0 + List.length k * 1) (List.map vi k))) ∧
                                  List.length (List.drop 0 (List.take (0 + List.length k * 1) (List.map vi k))) ≤
                                      281474976710655 ∧
                                    (decide (idxZ k st ≥ 0) = true →
                                        List.length (List.map vi k) = List.length k ∧
                                          AV.m1L (List.map vi k) = true ∧
                                            K AExit.ret (few [(4, AV.bool false)])
                                              (mm
                                                [Slot.blk
                                                    (Blk.mk
                                                      [AV.int IntKind.i64 n, AV.int IntKind.i64 s,
                                                        AV.int IntKind.i64 st, AV.int IntKind.i64 due,
                                                        AV.rs 2 0 (List.length k) (List.length k) none]
                                                      5 false false (some 109)),
                                                  Slot.dead, Slot.blk (Blk.mk (List.map vi k) 1 false false none)])) ∧
                                      (decide (idxZ k st ≥ 0) = false →
                                        List.length (List.map vi k) = List.length k ∧
                                          List.length k * 1 = List.length k ∧
                                            (2 * ((↑(List.length k) : Int) + 1) + 256) * 8 ≤ 281474976710656 ∧
                                              (↑(List.length k) : Int) + 1 ≤ 281474976710656 ∧
                                                List.length (List.map vi k ++ [AV.int IntKind.i64 st]) =
                                                    List.length (List.map vi k ++ [AV.int IntKind.i64 st]) ∧
                                                  AV.m1L (List.map vi k ++ [AV.int IntKind.i64 st]) = true ∧
                                                    K AExit.ret (few [(4, AV.bool true)])
                                                      (mm
                                                        [Slot.blk
                                                            (Blk.mk
                                                              [AV.int IntKind.i64 n, AV.int IntKind.i64 s,
                                                                AV.int IntKind.i64 st, AV.int IntKind.i64 due,
                                                                AV.rs 2 0 (List.length k + 1)
                                                                  (List.length
                                                                    (List.map vi k ++ [AV.int IntKind.i64 st]))
                                                                  none]
                                                              5 false false (some 109)),
                                                          Slot.dead,
                                                          Slot.blk
                                                            (Blk.mk (List.map vi k ++ [AV.int IntKind.i64 st]) 1 false
                                                              false none)])))) ∧
                ((kd == 1) = false →
                  ((kd == 2) = true →
                      (decide (idxZ k at_ < 0) = true →
                          List.length (List.map vi k) = List.length k ∧
                            AV.m1L (List.map vi k) = true ∧
                              K AExit.ret (few [(4, AV.bool false)])
                                (mm
                                  [Slot.blk
                                      (Blk.mk
                                        [AV.int IntKind.i64 n, AV.int IntKind.i64 s, AV.int IntKind.i64 st,
                                          AV.int IntKind.i64 due, AV.rs 2 0 (List.length k) (List.length k) none]
                                        5 false false (some 109)),
                                    Slot.dead, Slot.blk (Blk.mk (List.map vi k) 1 false false none)])) ∧
                        (decide (idxZ k at_ < 0) = false →
                          List.length (List.map vi k) = List.length k ∧
                            AV.m1L (List.map vi k) = true ∧
                              K AExit.ret (few [(4, AV.bool true)])
                                (mm
                                  [Slot.blk
                                      (Blk.mk
                                        [AV.int IntKind.i64 n, AV.int IntKind.i64 s, AV.int IntKind.i64 at_,
                                          AV.int IntKind.i64 due, AV.rs 2 0 (List.length k) (List.length k) none]
                                        5 false false (some 109)),
                                    Slot.dead, Slot.blk (Blk.mk (List.map vi k) 1 false false none)]))) ∧
                    ((kd == 2) = false →
                      ((kd == 3) = true →
                          (decide (idxZ k at_ < 0) = true →
                              List.length (List.map vi k) = List.length k ∧
                                AV.m1L (List.map vi k) = true ∧
                                  K AExit.ret (few [(4, AV.bool false)])
                                    (mm
                                      [Slot.blk
                                          (Blk.mk
                                            [AV.int IntKind.i64 n, AV.int IntKind.i64 s, AV.int IntKind.i64 st,
                                              AV.int IntKind.i64 due, AV.rs 2 0 (List.length k) (List.length k) none]
                                            5 false false (some 109)),
                                        Slot.dead, Slot.blk (Blk.mk (List.map vi k) 1 false false none)])) ∧
                            (decide (idxZ k at_ < 0) = false →
                              List.map vi k = List.map vi (List.map getI (List.map vi k)) ∧
                                List.length k = List.length (List.map vi k) ∧
                                  List.length k = List.length (List.map vi k) ∧
                                    0 ≤ idxZ k at_ ∧
                                      idxZ k at_ < (↑(List.length k) : Int) ∧
                                        IntKind.wrap IntKind.i64 (idxZ k at_ + 1) = idxZ k at_ + 1 ∧
                                          AV.m1L
                                                (List.map vi
                                                  (delAt (List.map getI (List.map vi k)) (Int.toNat (idxZ k at_)))) =
                                              true ∧
                                            K AExit.ret (few [(4, AV.bool true)])
                                              (mm
                                                [Slot.blk
                                                    (Blk.mk
                                                      [AV.int IntKind.i64 n, AV.int IntKind.i64 s,
                                                        AV.int IntKind.i64 st, AV.int IntKind.i64 due,
                                                        AV.rs 2 0 (List.length k - 1) (List.length k - 1) none]
                                                      5 false false (some 109)),
                                                  Slot.dead,
                                                  Slot.blk
                                                    (Blk.mk
                                                      (List.map vi
                                                        (delAt (List.map getI (List.map vi k))
                                                          (Int.toNat (idxZ k at_))))
                                                      1 false false none)]))) ∧
                        ((kd == 3) = false →
                          ((kd == 4) = true →
                              ((st == n) = true →
                                  List.length (List.map vi k) = List.length k ∧
                                    AV.m1L (List.map vi k) = true ∧
                                      K AExit.ret (few [(4, AV.bool false)])
                                        (mm
                                          [Slot.blk
                                              (Blk.mk
                                                [AV.int IntKind.i64 n, AV.int IntKind.i64 s, AV.int IntKind.i64 st,
                                                  AV.int IntKind.i64 due,
                                                  AV.rs 2 0 (List.length k) (List.length k) none]
                                                5 false false (some 109)),
                                            Slot.dead, Slot.blk (Blk.mk (List.map vi k) 1 false false none)])) ∧
                                ((st == n) = false →
                                  List.length (List.map vi k) = List.length k ∧
                                    AV.m1L (List.map vi k) = true ∧
                                      K AExit.ret (few [(4, AV.bool true)])
                                        (mm
                                          [Slot.blk
                                              (Blk.mk
                                                [AV.int IntKind.i64 n, AV.int IntKind.i64 s,
                                                  AV.int IntKind.i64 (IntKind.wrap IntKind.i64 (st + 1)),
                                                  AV.int IntKind.i64 due,
                                                  AV.rs 2 0 (List.length k) (List.length k) none]
                                                5 false false (some 109)),
                                            Slot.dead, Slot.blk (Blk.mk (List.map vi k) 1 false false none)]))) ∧
                            ((kd == 4) = false →
                              ((kd == 5) = true →
                                  ((due == 0) = true →
                                      List.length (List.map vi k) = List.length k ∧
                                        AV.m1L (List.map vi k) = true ∧
                                          K AExit.ret (few [(4, AV.bool false)])
                                            (mm
                                              [Slot.blk
                                                  (Blk.mk
                                                    [AV.int IntKind.i64 n, AV.int IntKind.i64 s, AV.int IntKind.i64 st,
                                                      AV.int IntKind.i64 due,
                                                      AV.rs 2 0 (List.length k) (List.length k) none]
                                                    5 false false (some 109)),
                                                Slot.dead, Slot.blk (Blk.mk (List.map vi k) 1 false false none)])) ∧
                                    ((due == 0) = false →
                                      ((st != IntKind.wrap IntKind.i64 (due - 1)) = true →
                                          List.length (List.map vi k) = List.length k ∧
                                            AV.m1L (List.map vi k) = true ∧
                                              K AExit.ret (few [(4, AV.bool false)])
                                                (mm
                                                  [Slot.blk
                                                      (Blk.mk
                                                        [AV.int IntKind.i64 n, AV.int IntKind.i64 s,
                                                          AV.int IntKind.i64 st, AV.int IntKind.i64 due,
                                                          AV.rs 2 0 (List.length k) (List.length k) none]
                                                        5 false false (some 109)),
                                                    Slot.dead, Slot.blk (Blk.mk (List.map vi k) 1 false false none)])) ∧
                                        ((st != IntKind.wrap IntKind.i64 (due - 1)) = false →
                                          List.length (List.map vi k) = List.length k ∧
                                            AV.m1L (List.map vi k) = true ∧
                                              K AExit.ret (few [(4, AV.bool true)])
                                                (mm
                                                  [Slot.blk
                                                      (Blk.mk
                                                        [AV.int IntKind.i64 n, AV.int IntKind.i64 s,
                                                          AV.int IntKind.i64 st,
                                                          AV.int IntKind.i64 (IntKind.wrap IntKind.i64 (due - 1)),
                                                          AV.rs 2 0 (List.length k) (List.length k) none]
                                                        5 false false (some 109)),
                                                    Slot.dead,
                                                    Slot.blk (Blk.mk (List.map vi k) 1 false false none)])))) ∧
                                ((kd == 5) = false →
                                  List.length (List.map vi k) = List.length k ∧
                                    AV.m1L (List.map vi k) = true ∧
                                      K AExit.ret (few [(4, AV.bool false)])
                                        (mm
                                          [Slot.blk
                                              (Blk.mk
                                                [AV.int IntKind.i64 n, AV.int IntKind.i64 s, AV.int IntKind.i64 st,
                                                  AV.int IntKind.i64 due,
                                                  AV.rs 2 0 (List.length k) (List.length k) none]
                                                5 false false (some 109)),
                                            Slot.dead, Slot.blk (Blk.mk (List.map vi k) 1 false false none)]))))))) := by kernel_rfl
end Go.Proofs.YtpiincgiakkljaaGreatDoor
/-
  (*hands).may: its contract.
-/
namespace Go.Proofs.YtpiincgiakkljaaGreatDoor
open Go

structure Hs where
  st : Int
  due : Int
  k : List Int

def mayV (n s : Int) (h : Hs) (kd at_ : Int) : Bool × Hs :=
  if at_ ≠ 0 ∧ kd ≠ 2 ∧ kd ≠ 3 then (false, h)
  else if kd = 1 then (if (h.k.length : Int) = s ∨ 0 ≤ idxZ h.k h.st then (false, h) else (true, { h with k := h.k ++ [h.st] }))
  else if kd = 2 then (if idxZ h.k at_ < 0 then (false, h) else (true, { h with st := at_ }))
  else if kd = 3 then (if idxZ h.k at_ < 0 then (false, h) else (true, { h with k := delAt h.k (idxZ h.k at_).toNat }))
  else if kd = 4 then (if h.st = n then (false, h) else (true, { h with st := h.st + 1 }))
  else if kd = 5 then (if h.due = 0 ∨ h.st ≠ h.due - 1 then (false, h) else (true, { h with due := h.due - 1 }))
  else (false, h)

theorem idxZ_range (k : List Int) (x : Int) : -1 ≤ idxZ k x ∧ idxZ k x < k.length := by
  unfold idxZ
  split
  · rename_i h
    have := List.idxOf_lt_length_of_mem h
    omega
  · omega

theorem m1L_vi : ∀ (k : List Int), AV.m1L (List.map vi k) = true
  | [] => rfl
  | _ :: k => m1L_vi k

theorem vi_eq (x : Int) : AV.int IntKind.i64 x = vi x := rfl
theorem map_snoc (k : List Int) (x : Int) : List.map vi k ++ [vi x] = List.map vi (k ++ [x]) := by simp
theorem handB_eq (n s st due : Int) (j : Nat) (k : List Int) : Slot.blk (Blk.mk [vi n, vi s, vi st, vi due, AV.rs j 0 (List.length k) (List.length k) none] 5 false false (some 109)) = handB n s st due j k := rfl
theorem listB_eq (k : List Int) : Slot.blk (Blk.mk (List.map vi k) 1 false false none) = listB k := rfl

theorem mayFin (n s st due kd at_ : Int) (k : List Int) (b : Bool) (st' due' : Int) (k' : List Int) (h : mayV n s ⟨st, due, k⟩ kd at_ = (b, ⟨st', due', k'⟩)) :
    Lf (FinH prog Tryz.f43 [handB n s st due 1 k, listB k] (.bool (mayV n s ⟨st, due, k⟩ kd at_).1) [handB n s (mayV n s ⟨st, due, k⟩ kd at_).2.st (mayV n s ⟨st, due, k⟩ kd at_).2.due 2 (mayV n s ⟨st, due, k⟩ kd at_).2.k, .dead, listB (mayV n s ⟨st, due, k⟩ kd at_).2.k])
      .ret (few [(4, AV.bool b)]) (mm [handB n s st' due' 2 k', .dead, listB k']) := by
  rw [h]
  exact finH_ret [.bool b] (by simp) (by kernel_rfl) rfl

theorem F43_split : F43 = .seq (cp [0] F43) (.seq (cp [1,0] F43) (cp [1,1] F43)) := by kernel_rfl

set_option maxRecDepth 100000 in
theorem may_has (m n s st due kd at_ : Int) (k : List Int) (hk : k.length ≤ 1000000) (h1 : 0 ≤ st) (h2 : st ≤ 1000000) (h3 : 0 ≤ due) (h4 : due ≤ 1000000) :
    Has prog (gl m) 43 [.ra 0 0 5, .agg [vi kd, vi at_]] (mm [handB n s st due 1 k, listB k]).h.hf (.ret (.bool (mayV n s ⟨st, due, k⟩ kd at_).1))
      (upsOf [handB n s (mayV n s ⟨st, due, k⟩ kd at_).2.st (mayV n s ⟨st, due, k⟩ kd at_).2.due 2 (mayV n s ⟨st, due, k⟩ kd at_).2.k, .dead, listB (mayV n s ⟨st, due, k⟩ kd at_).2.k] 0) := by
  refine has_sx Tryz.func43 (code := F43) (by kernel_rfl) (of_decide_eq_true (by kernel_rfl)) fun c st0 hel hs => ?_
  have fin := mayFin n s st due kd at_ k
  generalize FinH prog Tryz.f43 [handB n s st due 1 k, listB k] (.bool (mayV n s ⟨st, due, k⟩ kd at_).1) [handB n s (mayV n s ⟨st, due, k⟩ kd at_).2.st (mayV n s ⟨st, due, k⟩ kd at_).2.due 2 (mayV n s ⟨st, due, k⟩ kd at_).2.k, .dead, listB (mayV n s ⟨st, due, k⟩ kd at_).2.k] = Q at *
  have hel2 : ∀ i t L, c.φ0 i t = some L → i < 2 := fun i t L e => by simpa using hel i t L e
  have e1 : List.take (List.length k) (List.map vi k) = List.map vi k := List.take_of_length_le (by simp)
  have hr := idxZ_range k at_
  have e2 : IntKind.wrap IntKind.i64 (idxZ k at_ + 1) = idxZ k at_ + 1 := wrap_id (by omega) (by omega)
  have e3 : IntKind.wrap IntKind.i64 (st + 1) = st + 1 := wrap_id (by omega) (by omega)
  have e4 : List.length k ≤ 281474976710655 := by omega
  have e5 : (2 * ((List.length k : Int) + 1) + 256) * 8 ≤ 281474976710656 := by omega
  have e6 : (List.length k : Int) + 1 ≤ 281474976710656 := by omega
  have e7 : List.length k + 1 = List.length (k ++ [st]) := by simp
  rw [F43_split]
  refine awp_seq (awp_sx (kMayIn_ok m) hel2 ((mayA_eq m n s st due kd at_ k _).mpr fun st1 hs1 => ?_) hs)
  have mid : ¬ (at_ ≠ 0 ∧ kd ≠ 2 ∧ kd ≠ 3) → ∀ st2, St.is st2 mayT (mayM n s st due kd at_ k) → AWP prog (gl m) Tryz.f43.ntmps c (cp [1,1] F43) st2 Q := by
    intro hn st2 hs2
    refine awp_sx (kMayIn_ok m) hel2 ((mayC_eq m n s st due kd at_ k _).mpr ?_) hs2
    simp only [Nat.zero_add, Nat.mul_one, e1, List.drop_zero, map_getI, vi_eq, map_snoc, List.length_map, m1L_vi, e2, e3, e4, e5, e6, e7, handB_eq, listB_eq, true_and, and_true, Nat.le_refl, beq_iff_eq, beq_eq_false_iff_ne, bne_iff_ne, bne_eq_false_iff_eq, decide_eq_true_eq, decide_eq_false_iff_not, ne_eq]
    refine ⟨fun g1 => ⟨fun g2 => ?_, fun g2 => ⟨fun g3 => ?_, fun g3 => ?_⟩⟩, fun g1 => ⟨fun g2 => ⟨fun g3 => ?_, fun g3 => ?_⟩, fun g2 => ⟨fun g3 => ⟨fun g4 => ?_, fun g4 => ?_⟩, fun g3 => ⟨fun g4 => ⟨fun g5 => ?_, fun g5 => ?_⟩, fun g4 => ⟨fun g5 => ⟨fun g6 => ?_, fun g6 => ?_⟩, fun g5 => ?_⟩⟩⟩⟩⟩
    · exact fin _ _ _ _ (by rw [mayV, if_neg hn, if_pos g1, if_pos (.inl g2)])
    · exact fin _ _ _ _ (by rw [mayV, if_neg hn, if_pos g1, if_pos (.inr g3)])
    · exact fin _ _ _ _ (by rw [mayV, if_neg hn, if_pos g1, if_neg (by intro h; rcases h with h | h; exact g2 h; exact g3 h)])
    · exact fin _ _ _ _ (by rw [mayV, if_neg hn, if_neg g1, if_pos g2, if_pos g3])
    · exact fin _ _ _ _ (by rw [mayV, if_neg hn, if_neg g1, if_pos g2, if_neg g3])
    · exact fin _ _ _ _ (by rw [mayV, if_neg hn, if_neg g1, if_neg g2, if_pos g3, if_pos g4])
    · have e8 : List.length k - 1 = List.length (delAt k (idxZ k at_).toNat) := by rw [delAt_length (by omega)]
      rw [e8]
      exact ⟨by omega, by omega, fin _ _ _ _ (by rw [mayV, if_neg hn, if_neg g1, if_neg g2, if_pos g3, if_neg g4])⟩
    · exact fin _ _ _ _ (by rw [mayV, if_neg hn, if_neg g1, if_neg g2, if_neg g3, if_pos g4, if_pos g5])
    · exact fin _ _ _ _ (by rw [mayV, if_neg hn, if_neg g1, if_neg g2, if_neg g3, if_pos g4, if_neg g5])
    · exact fin _ _ _ _ (by rw [mayV, if_neg hn, if_neg g1, if_neg g2, if_neg g3, if_neg g4, if_pos g5, if_pos (.inl g6)])
    · have e9 : IntKind.wrap IntKind.i64 (due - 1) = due - 1 := wrap_id (by omega) (by omega)
      rw [e9]
      exact ⟨fun g7 => fin _ _ _ _ (by rw [mayV, if_neg hn, if_neg g1, if_neg g2, if_neg g3, if_neg g4, if_pos g5, if_pos (.inr g7)]),
        fun g7 => fin _ _ _ _ (by rw [mayV, if_neg hn, if_neg g1, if_neg g2, if_neg g3, if_neg g4, if_pos g5, if_neg (by intro h; rcases h with h | h; exact g6 h; exact h g7)])⟩
    · exact fin _ _ _ _ (by rw [mayV, if_neg hn, if_neg g1, if_neg g2, if_neg g3, if_neg g4, if_neg g5])
  refine awp_seq (awp_sx (kMayIn_ok m) hel2 ((mayB_eq m n s st due kd at_ k _).mpr ?_) hs1)
  simp only [vi_eq, List.length_map, m1L_vi, handB_eq, listB_eq, true_and, beq_iff_eq, beq_eq_false_iff_ne, bne_iff_ne, bne_eq_false_iff_eq, ne_eq]
  refine ⟨fun g1 => ⟨fun g2 => ⟨fun g3 => ?_, fun g3 st2 hs2 => ?_⟩, fun g2 st2 hs2 => ?_⟩, fun g1 st2 hs2 => ?_⟩
  · exact fin _ _ _ _ (by rw [mayV, if_pos ⟨g1, g2, g3⟩])
  · exact mid (by intro h; exact h.2.2 g3) st2 hs2
  · exact mid (by intro h; exact h.2.1 g2) st2 hs2
  · exact mid (by intro h; exact h.1 g1) st2 hs2
end Go.Proofs.YtpiincgiakkljaaGreatDoor
