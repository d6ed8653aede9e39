/-
  (*hands).may as a known call; replay.check as the code says it.
-/
import Derived.Test.YtpiincgiakkljaaGreatDoorS2
import Derived.Test.YtpiincgiakkljaaGreatDoorSh
import Derived.Test.YtpiincgiakkljaaGreatDoorFe
set_option linter.unusedSimpArgs false
set_option linter.unusedVariables false
namespace Go.Proofs.YtpiincgiakkljaaGreatDoor
open Go

theorem mapIL_vi (π : Nat → Nat) : ∀ (k : List Int), AV.mapIL π (List.map vi k) = List.map vi k
  | [] => rfl
  | _ :: k => congrArg (_ :: ·) (mapIL_vi π k)

/-- may as a call from a greater heap; what it comes to is handed over. -/
noncomputable def kMay (b : Bool) (r : Hs) : KX := fun g as_ h nid => bi (Nat.beq g 43) (match as_ with
  | [.ra i off tot, .agg [.int .i64 kd, .int .i64 at_]] => (match h i, h nid with
    | .blk ⟨[.int .i64 n, .int .i64 s, .int .i64 st, .int .i64 due, .rs j o2 len tot2 cap], esz, ao, fx, ty⟩, .free => (match h j with
      | .blk ⟨cells, esz2, ao2, fx2, ty2⟩ => some ({ val := .bool b, ups := [(i, handB n s r.st r.due nid r.k), (j, .dead), (nid, listB r.k)], fp := [i, j] },
          [.d (off = 0 ∧ tot = 5 ∧ o2 = 0 ∧ cap = none ∧ i ≠ j ∧ i ≠ nid ∧ j ≠ nid ∧ esz = 5 ∧ ao = false ∧ fx = false ∧ ty = some 109 ∧ esz2 = 1 ∧ ao2 = false ∧ fx2 = false ∧ ty2 = none) inferInstance, .p (cells = (cells.map getI).map vi), .p (len = cells.length), .p (tot2 = cells.length), .p (cells.length ≤ 1000000), .p (0 ≤ st ∧ st ≤ 1000000 ∧ 0 ≤ due ∧ due ≤ 1000000), .p (mayV n s ⟨st, due, cells.map getI⟩ kd at_ = (b, r))])
      | _ => none)
    | _, _ => none)
  | _ => none) none

theorem kMay_ok (m : Int) (b : Bool) (r : Hs) : KxOk prog (gl m) (kMay b r) := by
  intro g as_ h nid e cs he hc _ h' ha
  unfold kMay at he
  rw [bi_eq] at he
  split at he
  · rename_i hg
    have := Nat.eq_of_beq_eq_true hg
    subst this
    split at he
    · rename_i i off tot kd at_
      split at he
      · rename_i n s st due j o2 len tot2 cap esz ao fx ty hi hn
        split at he
        · rename_i cells esz2 ao2 fx2 ty2 hj
          cases he
          simp only [List.mem_cons, List.mem_nil_iff, or_false, forall_eq_or_imp, forall_eq, Cd.ok] at hc
          obtain ⟨⟨rfl, rfl, rfl, rfl, c1, c2, c3, rfl, rfl, rfl, rfl, rfl, rfl, rfl, rfl⟩, c4, c5, c6, c7, ⟨c8, c9, c10, c11⟩, c12⟩ := hc
          have hi' : h' i = _ := (ha.1 i (by simp)).trans hi
          have hj' : h' j = _ := (ha.1 j (by simp)).trans hj
          have hn' : h' nid = .free := (ha.2 nid (by simp [Eff.wr])).trans hn
          generalize hk : cells.map getI = k at *
          subst c4
          simp only [List.length_map] at c5 c6 c7
          subst c5 c6
          have H := may_has m n s st due kd at_ k c7 c8 c9 c10 c11
          rw [c12] at H
          have hF := H.frame (h := h') (by simp) (fun q hq => by
            have : q = 0 ∨ q = 1 := by simp at hq; omega
            rcases this with rfl | rfl <;> rfl) (fun q hq => by
            have : q = 0 ∨ q = 1 ∨ q = 2 := by simp at hq; omega
            rcases this with rfl | rfl | rfl
            · rfl
            · trivial
            · rfl) (fun q => if q = 0 then i else if q = 1 then j else nid) (fun p q hp hq e => by
            have h1 : p = 0 ∨ p = 1 ∨ p = 2 := by simp at hp; omega
            have h2 : q = 0 ∨ q = 1 ∨ q = 2 := by simp at hq; omega
            rcases h1 with rfl | rfl | rfl <;> rcases h2 with rfl | rfl | rfl <;> simp at e ⊢ <;> first | exact c1 e | exact c1 e.symm | exact c2 e | exact c2 e.symm | exact c3 e | exact c3 e.symm)
            ⟨by show 0 < 2; omega, ⟨trivial, trivial, trivial⟩, trivial⟩ (fun q b hq hb => by
            have : q = 0 ∨ q = 1 := by simp at hq; omega
            rcases this with rfl | rfl
            · cases hb
              exact ⟨trivial, trivial, trivial, trivial, (by show 1 < 2; omega), trivial⟩
            · cases hb
              exact (m1L_mapI (π := id) (live := fun j => j < 2) _ (m1L_vi k)).2) trivial (fun q b hq hb => by
            have : q = 0 ∨ q = 1 ∨ q = 2 := by simp at hq; omega
            rcases this with rfl | rfl | rfl
            · cases hb
              exact ⟨trivial, trivial, trivial, trivial, (by show 2 < 3; omega), trivial⟩
            · cases hb
            · cases hb
              exact (m1L_mapI (π := id) (live := fun j => j < 3) _ (m1L_vi _)).2) (fun q hq => by
            have : q = 0 ∨ q = 1 := by simp at hq; omega
            rcases this with rfl | rfl
            · exact hi'
            · show h' j = .blk ⟨AV.mapIL _ (List.map vi k), 1, false, false, none⟩
              rw [mapIL_vi]
              exact hj') (fun q hq1 hq2 => by
            have : q = 2 := by simp at hq1 hq2; omega
            subst this
            exact hn')
          have e1 : ∀ (π : Nat → Nat) (l : List Int), Slot.mapI π (listB l) = listB l := fun π l => by
            show Slot.blk ⟨AV.mapIL π (List.map vi l), 1, false, false, none⟩ = _
            rw [mapIL_vi]
            rfl
          have e2 : ∀ a b c : Slot, upsTo (fun q => if q = 0 then i else if q = 1 then j else nid) [a, b, c] = [(i, a.mapI _), (j, b.mapI _), (nid, c.mapI _)] := fun _ _ _ => rfl
          rw [e2, e1] at hF
          exact hF
        · cases he
      · cases he
    · cases he
  · cases he
end Go.Proofs.YtpiincgiakkljaaGreatDoor
/-
  replay.check as the code says it.
-/
namespace Go.Proofs.YtpiincgiakkljaaGreatDoor
open Go

/-- A plan's cells. -/
def eA (p : List (Int × Int)) : List AV := p.flatMap fun a => [vi a.1, vi a.2]
noncomputable def dA (hd : SH) (p : List (Int × Int)) : AV := .ds hd (eA p) p.length

noncomputable abbrev F28 : Code := bodyF Tryz.f28
noncomputable def chA (m n s : Int) (hd : SH) (p : List (Int × Int)) (K : AExit → Tr AV → Mem → Prop) (S : Scr) : Prop := sxC prog (gl m) kx0 57 mo (cp [0] F28) (finK 0 K) S (argsTr [dA hd p, vi n, vi s] 0 .e) (mm [])
noncomputable def chT (n s : Int) (hd : SH) (p : List (Int × Int)) : Tr AV := few [(0, dA hd p), (1, vi n), (2, vi s)]
noncomputable def chB (m n s : Int) (hd : SH) (p : List (Int × Int)) (K : AExit → Tr AV → Mem → Prop) (S : Scr) : Prop := sxC prog (gl m) kx0 57 mo (cp [1,0] F28) (finK 0 K) S (chT n s hd p) (mm [])
noncomputable def chC (m n s : Int) (hd : SH) (p : List (Int × Int)) (K : AExit → Tr AV → Mem → Prop) (S : Scr) : Prop := sxC prog (gl m) kx0 57 mo (cp [1,1,0] F28) (finK 0 K) S (chT n s hd p) (mm [])
noncomputable def chH (n s : Int) : Slot := .blk ⟨[vi n, vi s, vi 0, vi n, .nils], 5, false, false, some 109⟩
noncomputable def chD (m n s : Int) (hd : SH) (p : List (Int × Int)) (K : AExit → Tr AV → Mem → Prop) (S : Scr) : Prop := sxC prog (gl m) kx0 57 mo (cp [1,1,1,0] F28) (finK 0 K) S (few [(0, dA hd p), (1, vi n), (9, .ra 0 0 5)]) (mm [chH n s])
noncomputable def chE (m n s : Int) (hd : SH) (p : List (Int × Int)) (o : List Int) (K : AExit → Tr AV → Mem → Prop) (S : Scr) : Prop := sxC prog (gl m) kx0 57 mo (cp [1,1,1,1,0,0] F28) (finK 0 K) S (few [(0, dA hd p), (9, .ra 0 0 5), (10, .rs 1 0 o.length o.length none)]) (mm [chH n s, listB o])
noncomputable def chLT (i : Int) (hd : SH) (p : List (Int × Int)) (o : List Int) : Tr AV := few [(0, dA hd p), (9, .ra 0 0 5), (10, .rs 1 0 o.length o.length none), (23, dA hd p), (24, vi p.length), (25, vi i)]
noncomputable def chLM (n s st due : Int) (k o : List Int) : Mem := mm [handB n s st due 2 k, listB o, listB k]
noncomputable def chL (m n s st due i kd at_ st2 due2 : Int) (b : Bool) (hd : SH) (p : List (Int × Int)) (k k2 o : List Int) (K : AExit → Tr AV → Mem → Prop) (S : Scr) : Prop := sxC prog (gl m) (kMay b ⟨st2, due2, k2⟩) 57 mo (cp [1,1,1,1,0,1,0,0] F28) (finK 0 K) S (chLT i hd p o) (chLM n s st due k o)
noncomputable def chF (m n s st due : Int) (hd : SH) (p : List (Int × Int)) (k o : List Int) (K : AExit → Tr AV → Mem → Prop) (S : Scr) : Prop := sxC prog (gl m) kx0 57 mo (cp [1,1,1,1,1] F28) (finK 0 K) S (few [(0, dA hd p), (9, .ra 0 0 5), (10, .rs 1 0 o.length o.length none)]) (chLM n s st due k o)
set_option maxRecDepth 100000 in
theorem chA_eq (m : Int) (n : Int) (s : Int) (hd : SH) (p : List (Int × Int)) (K : AExit → Tr AV → Mem → Prop) : chA m n s hd p K (Scr.fin [0, 1, 2]) = (
    K AExit.normal (few [(0, AV.ds hd (eA p) (List.length p)), (1, AV.int IntKind.i64 n), (2, AV.int IntKind.i64 s)])
  (mm [])) := by kernel_rfl
set_option maxRecDepth 100000 in
theorem chB_eq (m : Int) (n : Int) (s : Int) (hd : SH) (p : List (Int × Int)) (K : AExit → Tr AV → Mem → Prop) : chB m n s hd p K (Scr.sp (Scr.fin [6, 7, 8]) (Scr.fin [0, 1, 2])) = (
    (decide ((↑(List.length p) : Int) > 4000) = true →
    K AExit.ret (few [(6, AV.nils), (7, AV.int IntKind.i64 0), (8, AV.int IntKind.i64 3)]) (mm [])) ∧
  (decide ((↑(List.length p) : Int) > 4000) = false →
    K AExit.normal (few [(0, AV.ds hd (eA p) (List.length p)), (1, AV.int IntKind.i64 n), (2, AV.int IntKind.i64 s)])
      (mm []))) := by kernel_rfl
set_option maxRecDepth 100000 in
theorem chC_eq (m : Int) (n : Int) (s : Int) (hd : SH) (p : List (Int × Int)) (K : AExit → Tr AV → Mem → Prop) : chC m n s hd p K (Scr.fin [0, 1, 9]) = (
    K AExit.normal (few [(0, AV.ds hd (eA p) (List.length p)), (1, AV.int IntKind.i64 n), (9, AV.ra 0 0 5)])
  (mm
    [Slot.blk
        (Blk.mk [AV.int IntKind.i64 n, AV.int IntKind.i64 s, AV.int IntKind.i64 0, AV.int IntKind.i64 n, AV.nils] 5
          false false (some 109))])) := by kernel_rfl
set_option maxRecDepth 100000 in
theorem chD_eq (m : Int) (n : Int) (s : Int) (hd : SH) (p : List (Int × Int)) (K : AExit → Tr AV → Mem → Prop) : chD m n s hd p K (Scr.op [false, false, false, false] (Scr.fin [0, 9, 10])) = (
    0 ≤ n ∧
  n ≤ n ∧
    n * 8 ≤ 281474976710656 ∧
      n ≤ 281474976710656 ∧
        K AExit.normal
          (few
            [(0, AV.ds hd (eA p) (List.length p)), (9, AV.ra 0 0 5),
              (10, AV.rs 1 0 (Int.toNat n) (Int.toNat n * 1) none)])
          (mm
            [Slot.blk
                (Blk.mk
                  [AV.int IntKind.i64 n, AV.int IntKind.i64 s, AV.int IntKind.i64 0, AV.int IntKind.i64 n, AV.nils] 5
                  false false (some 109)),
              Slot.blk
                (Blk.mk
                  (tile (List.map constCell (Array.toList (Value.cells (Value.int IntKind.i64 0)))) (Int.toNat n * 1)
                    AV.junk)
                  1 false false none)])) := by kernel_rfl
set_option maxRecDepth 100000 in
theorem chE_eq (m : Int) (n : Int) (s : Int) (hd : SH) (p : List (Int × Int)) (o : List Int) (K : AExit → Tr AV → Mem → Prop) : chE m n s hd p o K (Scr.adj (Adj.virtc 0 4 1) (Scr.fin [0, 9, 10, 23, 24, 25])) = (
    K AExit.normal
  (few
    [(0, AV.ds hd (eA p) (List.length p)), (9, AV.ra 0 0 5), (10, AV.rs 1 0 (List.length o) (List.length o) none),
      (23, AV.ds hd (eA p) (List.length p)), (24, AV.int IntKind.i64 (↑(List.length p) : Int)),
      (25, AV.int IntKind.i64 0)])
  (mm
    [Slot.blk
        (Blk.mk
          [AV.int IntKind.i64 n, AV.int IntKind.i64 s, AV.int IntKind.i64 0, AV.int IntKind.i64 n, AV.rs 2 0 0 0 none] 5
          false false (some 109)),
      Slot.blk (Blk.mk (List.map vi o) 1 false false none), Slot.blk (Blk.mk [] 1 false false none)])) := by kernel_rfl
set_option maxRecDepth 100000 in
theorem chL_eq (m : Int) (n : Int) (s : Int) (st : Int) (due : Int) (i : Int) (kd : Int) (at_ : Int) (st2 : Int) (due2 : Int) (b : Bool) (hd : SH) (p : List (Int × Int)) (k : List Int) (k2 : List Int) (o : List Int) (K : AExit → Tr AV → Mem → Prop) : chL m n s st due i kd at_ st2 due2 b hd p k k2 o K (Scr.sp
  (Scr.op [false, false, false]
    (Scr.ld [Ek.is (vi kd), Ek.is (vi at_)]
      (Scr.op [false]
        (Scr.sp (Scr.fin [6, 7, 8])
          (Scr.sp
            (Scr.op []
              (Scr.op [false, false]
                (Scr.ld [Ek.is (vi (List.getD o (Int.toNat (st2 - 1)) 0))]
                  (Scr.op [false, false]
                    (Scr.op [false, false]
                      (Scr.op [false, true, false]
                        (Scr.finR [0, 9, 10, 23, 24, 25] [(0, false), (1, true), (4, true)])))))))
            (Scr.finR [0, 9, 10, 23, 24, 25] [(0, false), (1, true), (4, true)]))))))
  (Scr.fin [0, 9, 10])) = (
    (decide (i < (↑(List.length p) : Int)) = true →
    Int.toNat i * 2 ≤ List.length (eA p) ∧
      0 ≤ i ∧
        i + 1 ≤ (↑(List.length p) : Int) ∧
          2 ≤ List.length (List.drop (Int.toNat i * 2) (eA p)) ∧
            List.getD (List.drop (Int.toNat i * 2) (eA p)) 0 AV.junk = vi kd ∧
              List.getD (List.drop (Int.toNat i * 2) (eA p)) 1 AV.junk = vi at_ ∧
                List.map vi k = List.map vi (List.map getI (List.map vi k)) ∧
                  List.length k = List.length (List.map vi k) ∧
                    List.length k = List.length (List.map vi k) ∧
                      List.length (List.map vi k) ≤ 1000000 ∧
                        (0 ≤ st ∧ st ≤ 1000000 ∧ 0 ≤ due ∧ due ≤ 1000000) ∧
                          mayV n s (Hs.mk st due (List.map getI (List.map vi k))) kd at_ = (b, Hs.mk st2 due2 k2) ∧
                            ((!b) = true →
                                K AExit.ret (few [(6, AV.nils), (7, AV.int IntKind.i64 i), (8, AV.int IntKind.i64 10)])
                                  (mm
                                    [Slot.blk
                                        (Blk.mk
                                          [AV.int IntKind.i64 n, AV.int IntKind.i64 s, AV.int IntKind.i64 st2,
                                            AV.int IntKind.i64 due2, AV.rs 4 0 (List.length k2) (List.length k2) none]
                                          5 false false (some 109)),
                                      Slot.blk (Blk.mk (List.map vi o) 1 false false none), Slot.dead,
                                      Slot.blk
                                        (Blk.mk [AV.int IntKind.i64 kd, AV.int IntKind.i64 at_] 2 false false
                                          (some 73)),
                                      Slot.blk (Blk.mk (List.map vi k2) 1 false false none)])) ∧
                              ((!b) = false →
                                ((kd == 4) = true →
                                    0 ≤ IntKind.wrap IntKind.i64 (st2 - 1) ∧
                                      IntKind.wrap IntKind.i64 (st2 - 1) + 1 ≤ (↑(List.length o) : Int) ∧
                                        List.length (List.map vi o) = List.length o ∧
                                          0 + Int.toNat (IntKind.wrap IntKind.i64 (st2 - 1)) * 1 + 1 ≤
                                              List.length (List.map vi o) ∧
                                            List.getD (List.map vi o)
                                                  (0 + Int.toNat (IntKind.wrap IntKind.i64 (st2 - 1)) * 1) AV.junk =
                                                vi (List.getD o (Int.toNat (st2 - 1)) 0) ∧
                                              0 ≤ IntKind.wrap IntKind.i64 (st2 - 1) ∧
                                                IntKind.wrap IntKind.i64 (st2 - 1) + 1 ≤ (↑(List.length o) : Int) ∧
                                                  List.length (List.map vi o) = List.length o ∧
                                                    0 + Int.toNat (IntKind.wrap IntKind.i64 (st2 - 1)) * 1 + 1 ≤
                                                        List.length o ∧
                                                      AV.m1L
                                                            (splice (List.map vi o)
                                                              (0 + Int.toNat (IntKind.wrap IntKind.i64 (st2 - 1)) * 1)
                                                              [AV.int IntKind.i64
                                                                  (IntKind.wrap IntKind.i64
                                                                    (List.getD o (Int.toNat (st2 - 1)) 0 + 1))]) =
                                                          true ∧
                                                        AV.m1L (List.map vi k2) = true ∧
                                                          K AExit.normal
                                                            (few
                                                              [(0, AV.ds hd (eA p) (List.length p)), (9, AV.ra 0 0 5),
                                                                (10, AV.rs 1 0 (List.length o) (List.length o) none),
                                                                (23, AV.ds hd (eA p) (List.length p)),
                                                                (24, AV.int IntKind.i64 (↑(List.length p) : Int)),
                                                                (25,
                                                                  AV.int IntKind.i64
                                                                    (IntKind.wrap IntKind.i64 (i + 1)))])
                                                            (mm
                                                              [Slot.blk
                                                                  (Blk.mk
                                                                    [AV.int IntKind.i64 n, AV.int IntKind.i64 s,
                                                                      AV.int IntKind.i64 st2, AV.int IntKind.i64 due2,
                                                                      AV.rs 2 0 (List.length k2) (List.length k2) none]
                                                                    5 false false (some 109)),
                                                                Slot.blk
                                                                  (Blk.mk
                                                                    (splice (List.map vi o)
                                                                      (0 +
                                                                        Int.toNat (IntKind.wrap IntKind.i64 (st2 - 1)) *
                                                                          1)
                                                                      [AV.int IntKind.i64
                                                                          (IntKind.wrap IntKind.i64
                                                                            (List.getD o (Int.toNat (st2 - 1)) 0 + 1))])
                                                                    1 false false none),
                                                                Slot.blk
                                                                  (Blk.mk (List.map vi k2) 1 false false none)])) ∧
                                  ((kd == 4) = false →
                                    AV.m1L (List.map vi o) = true ∧
                                      AV.m1L (List.map vi k2) = true ∧
                                        K AExit.normal
                                          (few
                                            [(0, AV.ds hd (eA p) (List.length p)), (9, AV.ra 0 0 5),
                                              (10, AV.rs 1 0 (List.length o) (List.length o) none),
                                              (23, AV.ds hd (eA p) (List.length p)),
                                              (24, AV.int IntKind.i64 (↑(List.length p) : Int)),
                                              (25, AV.int IntKind.i64 (IntKind.wrap IntKind.i64 (i + 1)))])
                                          (mm
                                            [Slot.blk
                                                (Blk.mk
                                                  [AV.int IntKind.i64 n, AV.int IntKind.i64 s, AV.int IntKind.i64 st2,
                                                    AV.int IntKind.i64 due2,
                                                    AV.rs 2 0 (List.length k2) (List.length k2) none]
                                                  5 false false (some 109)),
                                              Slot.blk (Blk.mk (List.map vi o) 1 false false none),
                                              Slot.blk (Blk.mk (List.map vi k2) 1 false false none)])))) ∧
  (decide (i < (↑(List.length p) : Int)) = false →
    K (AExit.exit 0)
      (few
        [(0, AV.ds hd (eA p) (List.length p)), (9, AV.ra 0 0 5), (10, AV.rs 1 0 (List.length o) (List.length o) none)])
      (mm
        [Slot.blk
            (Blk.mk
              [AV.int IntKind.i64 n, AV.int IntKind.i64 s, AV.int IntKind.i64 st, AV.int IntKind.i64 due,
                AV.rs 2 0 (List.length k) (List.length k) none]
              5 false false (some 109)),
          Slot.blk (Blk.mk (List.map vi o) 1 false false none), Slot.blk (Blk.mk (List.map vi k) 1 false false none)]))) := by kernel_rfl
set_option maxRecDepth 100000 in
theorem chF_eq (m : Int) (n : Int) (s : Int) (st : Int) (due : Int) (hd : SH) (p : List (Int × Int)) (k : List Int) (o : List Int) (K : AExit → Tr AV → Mem → Prop) : chF m n s st due hd p k o K (Scr.sp (Scr.fin [6, 7, 8]) (Scr.fin [6, 7, 8])) = (
    (decide (due > 0) = true →
    K AExit.ret (few [(6, AV.nils), (7, AV.int IntKind.i64 (↑(List.length p) : Int)), (8, AV.int IntKind.i64 10)])
      (mm
        [Slot.blk
            (Blk.mk
              [AV.int IntKind.i64 n, AV.int IntKind.i64 s, AV.int IntKind.i64 st, AV.int IntKind.i64 due,
                AV.rs 2 0 (List.length k) (List.length k) none]
              5 false false (some 109)),
          Slot.blk (Blk.mk (List.map vi o) 1 false false none),
          Slot.blk (Blk.mk (List.map vi k) 1 false false none)])) ∧
  (decide (due > 0) = false →
    K AExit.ret
      (few [(6, AV.rs 1 0 (List.length o) (List.length o) none), (7, AV.int IntKind.i64 0), (8, AV.int IntKind.i64 0)])
      (mm
        [Slot.blk
            (Blk.mk
              [AV.int IntKind.i64 n, AV.int IntKind.i64 s, AV.int IntKind.i64 st, AV.int IntKind.i64 due,
                AV.rs 2 0 (List.length k) (List.length k) none]
              5 false false (some 109)),
          Slot.blk (Blk.mk (List.map vi o) 1 false false none), Slot.blk (Blk.mk (List.map vi k) 1 false false none)]))) := by kernel_rfl
end Go.Proofs.YtpiincgiakkljaaGreatDoor
/-
  replay.check: what it computes.
-/
namespace Go.Proofs.YtpiincgiakkljaaGreatDoor
open Go

def bump (o : List Int) (j : Nat) : List Int := splice o j [o.getD j 0 + 1]

def checkL (n s : Int) (len : Nat) : List (Int × Int) → Nat → Hs → List Int → List Int × Int × Int
  | [], _, h, o => if h.due > 0 then ([], len, 10) else (o, 0, 0)
  | a :: l, i, h, o => match mayV n s h a.1 a.2 with
    | (false, _) => ([], i, 10)
    | (true, h2) => checkL n s len l (i + 1) h2 (if a.1 = 4 then bump o (h2.st - 1).toNat else o)

def checkV (n s : Int) (p : List (Int × Int)) : List Int × Int × Int :=
  if 4000 < p.length then ([], 0, 3) else checkL n s p.length p 0 ⟨0, n, []⟩ (List.replicate n.toNat 0)

structure ChInv (n : Int) (i : Nat) (h : Hs) (o : List Int) : Prop where
  st0 : 0 ≤ h.st
  st1 : h.st ≤ n
  du0 : 0 ≤ h.due
  du1 : h.due ≤ n
  ke : ∀ x ∈ h.k, 0 ≤ x ∧ x ≤ n
  kl : h.k.length ≤ i
  ol : (o.length : Int) = n
  oe : ∀ x ∈ o, 0 ≤ x ∧ x ≤ i

theorem mem_of_idxZ {k : List Int} {x : Int} (h : ¬ idxZ k x < 0) : x ∈ k := by
  unfold idxZ at h
  split at h
  · assumption
  · omega

theorem bump_length {o : List Int} {j : Nat} (h : j < o.length) : (bump o j).length = o.length := splice_length _ _ _ (by simp; omega)

theorem bump_mem {o : List Int} {j : Nat} {x : Int} (h : x ∈ bump o j) : x ∈ o ∨ x = o.getD j 0 + 1 := by
  unfold bump splice at h
  simp only [List.mem_append, List.mem_singleton] at h
  rcases h with (h | h) | h
  · exact .inl (List.mem_of_mem_take h)
  · exact .inr h
  · exact .inl (List.mem_of_mem_drop h)

theorem may_inv {n s kd at_ : Int} {i : Nat} {h h2 : Hs} {o : List Int} (inv : ChInv n i h o) (hm : mayV n s h kd at_ = (true, h2)) :
    ChInv n (i + 1) h2 (if kd = 4 then bump o (h2.st - 1).toNat else o) ∧ (kd = 4 → 1 ≤ h2.st ∧ h2.st ≤ n) := by
  obtain ⟨a1, a2, a3, a4, a5, a6, a7, a8⟩ := inv
  unfold mayV at hm
  have keep : ∀ (h2 : Hs), 0 ≤ h2.st → h2.st ≤ n → 0 ≤ h2.due → h2.due ≤ n → (∀ x ∈ h2.k, 0 ≤ x ∧ x ≤ n) → h2.k.length ≤ i + 1 → ChInv n (i + 1) h2 o := fun h2 b1 b2 b3 b4 b5 b6 =>
    ⟨b1, b2, b3, b4, b5, b6, a7, fun x hx => by have := a8 x hx; omega⟩
  split at hm
  · cases hm
  · split at hm
    · rename_i g1
      split at hm
      · cases hm
      · cases hm
        rw [if_neg (by omega)]
        exact ⟨keep _ a1 a2 a3 a4 (fun x hx => by
          rcases List.mem_append.1 hx with q | q
          · exact a5 x q
          · rw [List.mem_singleton] at q; subst q; exact ⟨a1, a2⟩) (by simp; omega), fun e => by omega⟩
    · split at hm
      · split at hm
        · cases hm
        · rename_i g
          cases hm
          rw [if_neg (by omega)]
          have := a5 _ (mem_of_idxZ g)
          exact ⟨keep _ this.1 this.2 a3 a4 a5 (by simp only; omega), fun e => by omega⟩
      · split at hm
        · split at hm
          · cases hm
          · cases hm
            rw [if_neg (by omega)]
            exact ⟨keep _ a1 a2 a3 a4 (fun x hx => by
              rcases List.mem_append.1 hx with q | q
              · exact a5 x (List.mem_of_mem_take q)
              · exact a5 x (List.mem_of_mem_drop q)) (by simp [delAt]; omega), fun e => by omega⟩
        · split at hm
          · rename_i g4
            split at hm
            · cases hm
            · rename_i g5
              cases hm
              rw [if_pos g4]
              have hj : (h.st + 1 - 1).toNat < o.length := by omega
              refine ⟨⟨by simp only; omega, by simp only; omega, a3, a4, a5, by simp only; omega, by rw [bump_length hj]; exact a7, fun x hx => ?_⟩, fun _ => ⟨by simp only; omega, by simp only; omega⟩⟩
              rcases bump_mem hx with q | q
              · have := a8 x q; omega
              · simp only at q
                have := a8 (o.getD (h.st + 1 - 1).toNat 0) (by
                  rw [List.getD_eq_getElem?_getD, List.getElem?_eq_getElem hj]
                  exact List.getElem_mem hj)
                omega
          · split at hm
            · split at hm
              · cases hm
              · rename_i g
                cases hm
                rw [if_neg (by assumption)]
                exact ⟨keep _ a1 a2 (by simp only; omega) (by simp only; omega) a5 (by simp only; omega), fun e => by contradiction⟩
            · cases hm

theorem eA_length : ∀ (p : List (Int × Int)), (eA p).length = p.length * 2
  | [] => rfl
  | a :: p => by
    show ([vi a.1, vi a.2] ++ eA p).length = _
    rw [List.length_append, eA_length p]
    simp
    omega

theorem eA_drop : ∀ (p : List (Int × Int)) (i : Nat), (eA p).drop (i * 2) = eA (p.drop i)
  | p, 0 => by simp
  | [], i + 1 => by simp [eA]
  | a :: p, i + 1 => by
    show ([vi a.1, vi a.2] ++ eA p).drop ((i + 1) * 2) = _
    rw [show (i + 1) * 2 = i * 2 + 2 by omega]
    exact eA_drop p i

theorem tile_zero (n : Nat) : tile (List.map constCell (Array.toList (Value.cells (Value.int IntKind.i64 0)))) n AV.junk = List.map vi (List.replicate n 0) := by
  unfold tile
  apply List.ext_getElem
  · simp
  · intro i h1 h2
    simp at h1
    have : (List.map constCell (Array.toList (Value.cells (Value.int IntKind.i64 0)))) = [vi 0] := by kernel_rfl
    simp [this, Nat.mod_one]

theorem F28_split : F28 = .seq (cp [0] F28) (.seq (cp [1,0] F28) (.seq (cp [1,1,0] F28) (.seq (cp [1,1,1,0] F28) (.seq (.seq (cp [1,1,1,1,0,0] F28) (.block 0 (.loop (cp [1,1,1,1,0,1,0,0] F28)))) (cp [1,1,1,1,1] F28))))) := by kernel_rfl

noncomputable def resA (r : List Int × Int × Int) : AV := .tup [.ds {} (r.1.map vi) r.1.length, vi r.2.1, vi r.2.2]

theorem ch_err (x y : Int) (l : List Slot) : Lf (FinL prog Tryz.f28 (resA ([], x, y))) .ret (few [(6, AV.nils), (7, AV.int IntKind.i64 x), (8, AV.int IntKind.i64 y)]) (mm l) :=
  finL_le (a2 := .tup [.nils, vi x, vi y]) (AVle.tup (.cons AVle.nils (.cons (AVle.refl _) (.cons (AVle.refl _) .nil)))) [.nils, vi x, vi y] [] (by kernel_rfl) (by rfl)

theorem ch_ok (o : List Int) (s1 s3 : Slot) : Lf (FinL prog Tryz.f28 (resA (o, 0, 0))) .ret (few [(6, AV.rs 1 0 o.length o.length none), (7, AV.int IntKind.i64 0), (8, AV.int IntKind.i64 0)]) (mm [s1, listB o, s3]) := by
  obtain ⟨u, hu⟩ := frzD_rs (h := (mm [s1, listB o, s3]).h.hf) 10 (i := 1) (len := o.length) (cap := none) (cells := o.map vi) (esz := 1) (ao := false) (fx := false) (ty := none) (by rw [mm_hf]; rfl) (flat_vi o .i64) (by simp)
  rw [List.length_map] at hu
  exact finL_ret (a := resA (o, 0, 0)) [.rs 1 0 o.length o.length none, vi 0, vi 0] (u ++ []) (by kernel_rfl) (frzD_tup (d := 11) (frzDL_cons hu (frzDL_flat 11 (by simp [AV.flat, vi]))))
end Go.Proofs.YtpiincgiakkljaaGreatDoor
/-
  replay.check: its contract.
-/
namespace Go.Proofs.YtpiincgiakkljaaGreatDoor
open Go

def ChI (n s : Int) (p : List (Int × Int)) (R : List Int × Int × Int) (a : Nat × Hs × List Int) : Prop :=
  a.1 ≤ p.length ∧ checkL n s p.length (p.drop a.1) a.1 a.2.1 a.2.2 = R ∧ ChInv n a.1 a.2.1 a.2.2

theorem wrap_ok {x : Int} (h0 : 0 ≤ x) (h1 : x ≤ 281474976710656) : IntKind.wrap IntKind.i64 x = x := wrap_id h0 h1

theorem splice_bump {o : List Int} {j : Nat} : splice (List.map vi o) j [vi (o.getD j 0 + 1)] = List.map vi (bump o j) := by
  unfold bump splice
  simp

theorem getD_vi {zs : List Int} {k : Nat} (h : k < zs.length) : (zs.map vi).getD k .junk = vi (zs.getD k 0) := by
  simp [List.getD_eq_getElem?_getD, h]

set_option maxRecDepth 100000 in
theorem check_hasL (m n s : Int) (hd : SH) (p : List (Int × Int)) (hn : 1 ≤ n) (hn2 : n ≤ 40) : HasL prog (gl m) 28 [dA hd p, vi n, vi s] (resA (checkV n s p)) := by
  refine hasL_sx Tryz.func28 (code := F28) (by kernel_rfl) (of_decide_eq_true (by kernel_rfl)) fun c st hel hs => ?_
  rw [F28_split]
  refine awp_seq (awp_sx kx0_ok hel ((chA_eq m n s hd p _).mpr fun st1 h1 => ?_) hs)
  refine awp_seq (awp_sx kx0_ok hel ((chB_eq m n s hd p _).mpr ⟨fun hb => ?_, fun hb st2 h2 => ?_⟩) h1)
  · have hb' : 4000 < p.length := by have := of_decide_eq_true hb; omega
    rw [checkV, if_pos hb']
    exact ch_err 0 3 []
  have hp : p.length ≤ 4000 := by have := of_decide_eq_false hb; omega
  have hR : checkV n s p = checkL n s p.length p 0 ⟨0, n, []⟩ (List.replicate n.toNat 0) := by rw [checkV, if_neg (by omega)]
  generalize checkV n s p = R at *
  refine awp_seq (awp_sx kx0_ok hel ((chC_eq m n s hd p _).mpr fun st3 h3 => ?_) h2)
  refine awp_seq (awp_sx kx0_ok hel ((chD_eq m n s hd p _).mpr ⟨by omega, by omega, by omega, by omega, ?_⟩) h3)
  obtain ⟨o0, ho⟩ : ∃ o0, o0 = List.replicate n.toNat (0 : Int) := ⟨_, rfl⟩
  have hlen : n.toNat = o0.length := by simp [ho]
  rw [Nat.mul_one, tile_zero, ← ho, hlen]
  rw [← ho] at hR
  intro st4 h4
  refine awp_seq (awp_seq (awp_sx kx0_ok hel ((chE_eq m n s hd p o0 _).mpr fun st5 h5 => ?_) h4))
  refine awp_block (awp_loop_sx (α := Nat × Hs × List Int) (ChI n s p R) (fun a => chLT a.1 hd p a.2.2) (fun a => chLM n s a.2.1.st a.2.1.due a.2.1.k a.2.2) (fun a => p.length - a.1) (fun a st hI hst => ?_) (a := (0, ⟨0, n, []⟩, o0))
    ⟨by simp, hR.symm, ⟨by simp, by simp; omega, by simp; omega, by simp, by simp, by simp, by simp only; omega, fun x hx => by
      rw [ho] at hx
      have := List.eq_of_mem_replicate hx
      omega⟩⟩ h5)
  obtain ⟨i, h, o⟩ := a
  obtain ⟨hi, hres, inv⟩ := hI
  simp only at hi hres inv hst ⊢
  by_cases hlt : i < p.length
  · have hdrop : p.drop i = p[i] :: p.drop (i + 1) := List.drop_eq_getElem_cons hlt
    rw [hdrop, checkL] at hres
    rcases hpi : p[i] with ⟨kd, at_⟩
    rw [hpi] at hres hdrop
    simp only at hres
    obtain ⟨st0, due0, k0⟩ := h
    rcases hm : mayV n s ⟨st0, due0, k0⟩ kd at_ with ⟨b, st2, due2, k2⟩
    rw [hm] at hres
    have hd2 : (eA p).drop (i * 2) = vi kd :: vi at_ :: eA (p.drop (i + 1)) := by rw [eA_drop, hdrop]; rfl
    have hkl : k0.length ≤ 4000 := by have := inv.kl; simp only at this; omega
    refine awp_sx (kMay_ok m b ⟨st2, due2, k2⟩) hel ((chL_eq m n s st0 due0 i kd at_ st2 due2 b hd p k0 k2 o _).mpr ⟨fun _ => ?_, fun hge => ?_⟩) hst
    · simp only [Int.toNat_natCast, hd2, map_getI, List.length_map, true_and, eA_length, vi_eq]
      refine ⟨by omega, by omega, by omega, by simp, by simp, by simp, by omega, ⟨inv.st0, by have := inv.st1; simp only at this; omega, inv.du0, by have := inv.du1; simp only at this; omega⟩, hm, fun hb => ?_, fun hb => ?_⟩
      · have hb' : b = false := by simpa using hb
        subst hb'
        simp only at hres
        rw [← hres]
        exact ch_err i 10 _
      · have hb' : b = true := by simpa using hb
        subst hb'
        simp only at hres
        obtain ⟨inv2, inv3⟩ := may_inv inv hm
        have hw : IntKind.wrap IntKind.i64 ((i : Int) + 1) = ((i + 1 : Nat) : Int) := by rw [wrap_ok (by omega) (by omega)]; omega
        rw [hw]
        refine ⟨fun h4 => ?_, fun h4 => ?_⟩
        · have h4' : kd = 4 := by simpa using h4
          rw [if_pos h4'] at hres inv2
          obtain ⟨q1, q2⟩ := inv3 h4'
          simp only at q1 q2
          have hol := inv.ol
          have hj : (st2 - 1).toNat < o.length := by omega
          have hw2 : IntKind.wrap IntKind.i64 (st2 - 1) = st2 - 1 := wrap_ok (by omega) (by omega)
          have hoe := inv.oe (o.getD (st2 - 1).toNat 0) (by
            rw [List.getD_eq_getElem?_getD, List.getElem?_eq_getElem hj]
            exact List.getElem_mem hj)
          have hw3 : IntKind.wrap IntKind.i64 (o.getD (st2 - 1).toNat 0 + 1) = o.getD (st2 - 1).toNat 0 + 1 := wrap_ok (by omega) (by omega)
          rw [hw2, hw3]
          simp only [Nat.zero_add, Nat.mul_one, splice_bump, m1L_vi, true_and]
          refine ⟨by omega, by omega, by omega, ?_, by omega, by omega, by omega, fun st6 h6 => ⟨(i + 1, ⟨st2, due2, k2⟩, bump o (st2 - 1).toNat), ⟨by simp only; omega, hres, inv2⟩, by simp only; omega, ?_⟩⟩
          · exact getD_vi hj
          · have hbl := bump_length hj
            unfold chLT chLM handB listB
            simp only
            rw [hbl]
            exact h6
        · have h4' : ¬ kd = 4 := by simpa using h4
          rw [if_neg h4'] at hres inv2
          simp only [m1L_vi, true_and]
          exact fun st6 h6 => ⟨(i + 1, ⟨st2, due2, k2⟩, o), ⟨by simp only; omega, hres, inv2⟩, by simp only; omega, h6⟩
    · have : ¬ ((i : Int) < (p.length : Int)) := by simpa using hge
      omega
  · have hie : i = p.length := by omega
    subst hie
    rw [List.drop_length, checkL] at hres
    obtain ⟨st0, due0, k0⟩ := h
    refine awp_sx (kMay_ok m true ⟨0, 0, []⟩) hel ((chL_eq m n s st0 due0 p.length 0 0 0 0 true hd p k0 [] o _).mpr ⟨fun hh => ?_, fun _ st6 h6 => ?_⟩) hst
    · simp at hh
    · refine awp_sx kx0_ok hel ((chF_eq m n s st0 due0 hd p k0 o _).mpr ⟨fun hb => ?_, fun hb => ?_⟩) h6
      · have hb' : due0 > 0 := by simpa using hb
        rw [if_pos hb'] at hres
        rw [← hres]
        exact ch_err p.length 10 _
      · have hb' : ¬ due0 > 0 := by simpa using hb
        rw [if_neg hb'] at hres
        rw [← hres]
        exact ch_ok o _ _
end Go.Proofs.YtpiincgiakkljaaGreatDoor
/-
  replay.Check, replay.Often, fluxionref18.Bad, fluxionref08.Ints, cut as the code says them.
-/
namespace Go.Proofs.YtpiincgiakkljaaGreatDoor
open Go

/-- replay.check as a known call; what it comes to is handed over. -/
noncomputable def kCheck (p : List (Int × Int)) (o : List Int) (a e : Int) : KX := kL 28 fun l => match l with
  | [.ds _ cells len, .int .i64 n, .int .i64 s] => some (.tup [.ds {} (o.map vi) o.length, vi a, vi e], [.p (cells = eA p), .p (len = p.length), .p (1 ≤ n ∧ n ≤ 40), .p (checkV n s p = (o, a, e))])
  | _ => none
theorem kCheck_ok (m : Int) (p : List (Int × Int)) (o : List Int) (a e : Int) : KxOk prog (gl m) (kCheck p o a e) := kL_ok fun l v cs h hc => by
  split at h
  · rename_i hd cells len n s
    cases h
    simp only [List.mem_cons, List.mem_nil_iff, or_false, forall_eq_or_imp, forall_eq, Cd.ok] at hc
    obtain ⟨c1, c2, c3, c4⟩ := hc
    have := check_hasL m n s hd p c3.1 c3.2
    rw [c4] at this
    subst c1 c2
    exact this
  · cases h

noncomputable def kCk (p : List (Int × Int)) (o : List Int) (a e : Int) : KX := orK kAsked (kCheck p o a e)
theorem kCk_ok (m : Int) (p : List (Int × Int)) (o : List Int) (a e : Int) : KxOk prog (gl m) (kCk p o a e) := orK_ok (kAsked_ok m) (kCheck_ok m p o a e)

noncomputable abbrev F13 : Code := bodyF Tryz.f13
noncomputable def ckA (m n s : Int) (hd : SH) (p : List (Int × Int)) (K : AExit → Tr AV → Mem → Prop) (S : Scr) : Prop := sxC prog (gl m) kx0 43 mo (cp [0] F13) (finK 0 K) S (argsTr [dA hd p, vi n, vi s] 0 .e) (mm [])
noncomputable def ckB (m n s : Int) (hd : SH) (p : List (Int × Int)) (K : AExit → Tr AV → Mem → Prop) (S : Scr) : Prop := sxC prog (gl m) kAsked 43 mo (cp [1,0] F13) (finK 0 K) S (chT n s hd p) (mm [])
noncomputable def ckC (m n s : Int) (hd : SH) (p : List (Int × Int)) (o : List Int) (a e : Int) (K : AExit → Tr AV → Mem → Prop) (S : Scr) : Prop := sxC prog (gl m) (kCheck p o a e) 43 mo (cp [1,1,0] F13) (finK 0 K) S (chT n s hd p) (mm [])
noncomputable def ckD (m : Int) (o : List Int) (a e : Int) (K : AExit → Tr AV → Mem → Prop) (S : Scr) : Prop := sxC prog (gl m) kx0 43 mo (cp [1,1,1,0] F13) (finK 0 K) S (few [(10, .ds {} (o.map vi) o.length), (11, vi a), (12, vi e)]) (mm [])
noncomputable def ckE (m : Int) (o : List Int) (a e : Int) (K : AExit → Tr AV → Mem → Prop) (S : Scr) : Prop := sxC prog (gl m) kx0 43 mo (cp [1,1,1,1,0,0] F13) (finK 0 K) S (few [(10, .ds {} (o.map vi) o.length), (11, vi a), (12, vi e), (13, vi 0)]) (mm [])
noncomputable def ckT (i x : Int) (o : List Int) (a e : Int) : Tr AV := few [(11, vi a), (12, vi e), (13, vi x), (30, .ds {} (o.map vi) o.length), (31, vi o.length), (32, vi i)]
noncomputable def ckL (m i x : Int) (o : List Int) (a e : Int) (K : AExit → Tr AV → Mem → Prop) (S : Scr) : Prop := sxC prog (gl m) kx0 43 mo (cp [1,1,1,1,0,1,0,0] F13) (finK 0 K) S (ckT i x o a e) (mm [])
noncomputable def ckF (m x : Int) (a e : Int) (K : AExit → Tr AV → Mem → Prop) (S : Scr) : Prop := sxC prog (gl m) kx0 43 mo (cp [1,1,1,1,1] F13) (finK 0 K) S (few [(11, vi a), (12, vi e), (13, vi x)]) (mm [])
set_option maxRecDepth 100000 in
theorem ckA_eq (m : Int) (n : Int) (s : Int) (hd : SH) (p : List (Int × Int)) (K : AExit → Tr AV → Mem → Prop) : ckA m n s hd p K (Scr.fin [0, 1, 2]) = (
    K AExit.normal (few [(0, AV.ds hd (eA p) (List.length p)), (1, AV.int IntKind.i64 n), (2, AV.int IntKind.i64 s)])
  (mm [])) := by kernel_rfl
set_option maxRecDepth 100000 in
theorem ckB_eq (m : Int) (n : Int) (s : Int) (hd : SH) (p : List (Int × Int)) (K : AExit → Tr AV → Mem → Prop) : ckB m n s hd p K (Scr.sp (Scr.fin [6, 7, 8]) (Scr.fin [0, 1, 2])) = (
    ((askedV n s != 0) = true →
    K AExit.ret (few [(6, AV.int IntKind.i64 0), (7, AV.int IntKind.i64 0), (8, AV.int IntKind.i64 (askedV n s))])
      (mm [])) ∧
  ((askedV n s != 0) = false →
    K AExit.normal (few [(0, AV.ds hd (eA p) (List.length p)), (1, AV.int IntKind.i64 n), (2, AV.int IntKind.i64 s)])
      (mm []))) := by kernel_rfl
set_option maxRecDepth 100000 in
theorem ckC_eq (m : Int) (n : Int) (s : Int) (hd : SH) (p : List (Int × Int)) (o : List Int) (a : Int) (e : Int) (K : AExit → Tr AV → Mem → Prop) : ckC m n s hd p o a e K (Scr.fin [10, 11, 12]) = (
    eA p = eA p ∧
  List.length p = List.length p ∧
    (1 ≤ n ∧ n ≤ 40) ∧
      checkV n s p = (o, a, e) ∧
        K AExit.normal
          (few
            [(10, AV.ds (SH.mk false false none) (List.map vi o) (List.length o)), (11, AV.int IntKind.i64 a),
              (12, AV.int IntKind.i64 e)])
          (mm [])) := by kernel_rfl
set_option maxRecDepth 100000 in
theorem ckD_eq (m : Int) (o : List Int) (a : Int) (e : Int) (K : AExit → Tr AV → Mem → Prop) : ckD m o a e K (Scr.fin [10, 11, 12, 13]) = (
    K AExit.normal
  (few
    [(10, AV.ds (SH.mk false false none) (List.map vi o) (List.length o)), (11, AV.int IntKind.i64 a),
      (12, AV.int IntKind.i64 e), (13, AV.int IntKind.i64 0)])
  (mm [])) := by kernel_rfl
set_option maxRecDepth 100000 in
theorem ckE_eq (m : Int) (o : List Int) (a : Int) (e : Int) (K : AExit → Tr AV → Mem → Prop) : ckE m o a e K (Scr.fin [11, 12, 13, 30, 31, 32]) = (
    K AExit.normal
  (few
    [(11, AV.int IntKind.i64 a), (12, AV.int IntKind.i64 e), (13, AV.int IntKind.i64 0),
      (30, AV.ds (SH.mk false false none) (List.map vi o) (List.length o)),
      (31, AV.int IntKind.i64 (↑(List.length o) : Int)), (32, AV.int IntKind.i64 0)])
  (mm [])) := by kernel_rfl
set_option maxRecDepth 100000 in
theorem ckL_eq (m : Int) (i : Int) (x : Int) (o : List Int) (a : Int) (e : Int) (K : AExit → Tr AV → Mem → Prop) : ckL m i x o a e K (Scr.sp
  (Scr.op [false, false, false]
    (Scr.ld [Ek.is (vi (List.getD o (Int.toNat i) 0))] (Scr.op [false] (Scr.fin [11, 12, 13, 30, 31, 32]))))
  (Scr.fin [11, 12, 13])) = (
    (decide (i < (↑(List.length o) : Int)) = true →
    Int.toNat i * 1 ≤ List.length (List.map vi o) ∧
      0 ≤ i ∧
        i + 1 ≤ (↑(List.length o) : Int) ∧
          1 ≤ List.length (List.drop (Int.toNat i * 1) (List.map vi o)) ∧
            List.getD (List.drop (Int.toNat i * 1) (List.map vi o)) 0 AV.junk = vi (List.getD o (Int.toNat i) 0) ∧
              K AExit.normal
                (few
                  [(11, AV.int IntKind.i64 a), (12, AV.int IntKind.i64 e),
                    (13, AV.int IntKind.i64 (IntKind.wrap IntKind.i64 (x + List.getD o (Int.toNat i) 0))),
                    (30, AV.ds (SH.mk false false none) (List.map vi o) (List.length o)),
                    (31, AV.int IntKind.i64 (↑(List.length o) : Int)),
                    (32, AV.int IntKind.i64 (IntKind.wrap IntKind.i64 (i + 1)))])
                (mm [])) ∧
  (decide (i < (↑(List.length o) : Int)) = false →
    K (AExit.exit 0) (few [(11, AV.int IntKind.i64 a), (12, AV.int IntKind.i64 e), (13, AV.int IntKind.i64 x)]) (mm []))) := by kernel_rfl
set_option maxRecDepth 100000 in
theorem ckF_eq (m : Int) (x : Int) (a : Int) (e : Int) (K : AExit → Tr AV → Mem → Prop) : ckF m x a e K (Scr.fin [6, 7, 8]) = (
    K AExit.ret (few [(6, AV.int IntKind.i64 x), (7, AV.int IntKind.i64 a), (8, AV.int IntKind.i64 e)]) (mm [])) := by kernel_rfl

noncomputable abbrev F14 : Code := bodyF Tryz.f14
noncomputable def ofA (m n s : Int) (hd : SH) (p : List (Int × Int)) (K : AExit → Tr AV → Mem → Prop) (S : Scr) : Prop := sxC prog (gl m) kx0 28 mo (cp [0] F14) (finK 0 K) S (argsTr [dA hd p, vi n, vi s] 0 .e) (mm [])
noncomputable def ofB (m n s : Int) (hd : SH) (p : List (Int × Int)) (K : AExit → Tr AV → Mem → Prop) (S : Scr) : Prop := sxC prog (gl m) kAsked 28 mo (cp [1,0] F14) (finK 0 K) S (chT n s hd p) (mm [])
noncomputable def ofC (m n s : Int) (hd : SH) (p : List (Int × Int)) (o : List Int) (a e : Int) (K : AExit → Tr AV → Mem → Prop) (S : Scr) : Prop := sxC prog (gl m) (kCheck p o a e) 28 mo (cp [1,1] F14) (finK 0 K) S (chT n s hd p) (mm [])
set_option maxRecDepth 100000 in
theorem ofA_eq (m : Int) (n : Int) (s : Int) (hd : SH) (p : List (Int × Int)) (K : AExit → Tr AV → Mem → Prop) : ofA m n s hd p K (Scr.fin [0, 1, 2]) = (
    K AExit.normal (few [(0, AV.ds hd (eA p) (List.length p)), (1, AV.int IntKind.i64 n), (2, AV.int IntKind.i64 s)])
  (mm [])) := by kernel_rfl
set_option maxRecDepth 100000 in
theorem ofB_eq (m : Int) (n : Int) (s : Int) (hd : SH) (p : List (Int × Int)) (K : AExit → Tr AV → Mem → Prop) : ofB m n s hd p K (Scr.sp (Scr.fin [6, 7]) (Scr.fin [0, 1, 2])) = (
    ((askedV n s != 0) = true → K AExit.ret (few [(6, AV.nils), (7, AV.int IntKind.i64 (askedV n s))]) (mm [])) ∧
  ((askedV n s != 0) = false →
    K AExit.normal (few [(0, AV.ds hd (eA p) (List.length p)), (1, AV.int IntKind.i64 n), (2, AV.int IntKind.i64 s)])
      (mm []))) := by kernel_rfl
set_option maxRecDepth 100000 in
theorem ofC_eq (m : Int) (n : Int) (s : Int) (hd : SH) (p : List (Int × Int)) (o : List Int) (a : Int) (e : Int) (K : AExit → Tr AV → Mem → Prop) : ofC m n s hd p o a e K (Scr.fin [6, 7]) = (
    eA p = eA p ∧
  List.length p = List.length p ∧
    (1 ≤ n ∧ n ≤ 40) ∧
      checkV n s p = (o, a, e) ∧
        K AExit.ret
          (few [(6, AV.ds (SH.mk false false none) (List.map vi o) (List.length o)), (7, AV.int IntKind.i64 e)]) (mm [])) := by kernel_rfl

noncomputable abbrev F15 : Code := bodyF Tryz.f15
noncomputable def bdA (m x y : Int) (K : AExit → Tr AV → Mem → Prop) (S : Scr) : Prop := sxC prog (gl m) kx0 19 mo F15 (finK 0 K) S (argsTr [vi x, vi y] 0 .e) (mm [])
set_option maxRecDepth 100000 in
theorem bdA_eq (m : Int) (x : Int) (y : Int) (K : AExit → Tr AV → Mem → Prop) : bdA m x y K (Scr.sp (Scr.tt (Scr.tt (Scr.tt (Scr.tt (Scr.tt (Scr.fin [4]))))))
  (Scr.ff
    (Scr.sp (Scr.tt (Scr.tt (Scr.tt (Scr.fin [4])))) (Scr.ff (Scr.sp (Scr.tt (Scr.fin [4])) (Scr.ff (Scr.fin [4]))))))) = (
    (decide (x < 1) = true → K AExit.ret (few [(4, AV.bool true)]) (mm [])) ∧
  (decide (x < 1) = false →
    (decide (x > 40) = true → K AExit.ret (few [(4, AV.bool true)]) (mm [])) ∧
      (decide (x > 40) = false →
        (decide (y < 1) = true → K AExit.ret (few [(4, AV.bool true)]) (mm [])) ∧
          (decide (y < 1) = false → K AExit.ret (few [(4, AV.bool (decide (y > 8)))]) (mm []))))) := by kernel_rfl

noncomputable abbrev F17 : Code := bodyF Tryz.f17
noncomputable def inA (m : Int) (hd he : SH) (xs ys : List Int) (K : AExit → Tr AV → Mem → Prop) (S : Scr) : Prop := sxC prog (gl m) kx0 26 mo (cp [0] F17) (finK 0 K) S (argsTr [.ds hd (xs.map vi) xs.length, .ds he (ys.map vi) ys.length] 0 .e) (mm [])
noncomputable def inT (hd he : SH) (xs ys : List Int) : Tr AV := few [(0, .ds hd (xs.map vi) xs.length), (1, .ds he (ys.map vi) ys.length)]
noncomputable def inB (m : Int) (hd he : SH) (xs ys : List Int) (K : AExit → Tr AV → Mem → Prop) (S : Scr) : Prop := sxC prog (gl m) kx0 26 mo (cp [1,0] F17) (finK 0 K) S (inT hd he xs ys) (mm [])
noncomputable def inC (m : Int) (hd he : SH) (xs ys : List Int) (K : AExit → Tr AV → Mem → Prop) (S : Scr) : Prop := sxC prog (gl m) kx0 26 mo (cp [1,1,0,0] F17) (finK 0 K) S (inT hd he xs ys) (mm [])
noncomputable def inLT (i : Int) (hd he : SH) (xs ys : List Int) : Tr AV := few [(0, .ds hd (xs.map vi) xs.length), (1, .ds he (ys.map vi) ys.length), (5, vi i)]
noncomputable def inL (m i : Int) (hd he : SH) (xs ys : List Int) (K : AExit → Tr AV → Mem → Prop) (S : Scr) : Prop := sxC prog (gl m) kx0 26 mo (cp [1,1,0,1,0,0] F17) (finK 0 K) S (inLT i hd he xs ys) (mm [])
noncomputable def inF (m : Int) (K : AExit → Tr AV → Mem → Prop) (S : Scr) : Prop := sxC prog (gl m) kx0 26 mo (cp [1,1,1] F17) (finK 0 K) S (few []) (mm [])
set_option maxRecDepth 100000 in
theorem inA_eq (m : Int) (hd : SH) (he : SH) (xs : List Int) (ys : List Int) (K : AExit → Tr AV → Mem → Prop) : inA m hd he xs ys K (Scr.fin [0, 1]) = (
    K AExit.normal (few [(0, AV.ds hd (List.map vi xs) (List.length xs)), (1, AV.ds he (List.map vi ys) (List.length ys))])
  (mm [])) := by kernel_rfl
set_option maxRecDepth 100000 in
theorem inB_eq (m : Int) (hd : SH) (he : SH) (xs : List Int) (ys : List Int) (K : AExit → Tr AV → Mem → Prop) : inB m hd he xs ys K (Scr.sp (Scr.fin [4]) (Scr.fin [0, 1])) = (
    (((↑(List.length xs) : Int) != (↑(List.length ys) : Int)) = true → K AExit.ret (few [(4, AV.bool false)]) (mm [])) ∧
  (((↑(List.length xs) : Int) != (↑(List.length ys) : Int)) = false →
    K AExit.normal
      (few [(0, AV.ds hd (List.map vi xs) (List.length xs)), (1, AV.ds he (List.map vi ys) (List.length ys))]) (mm []))) := by kernel_rfl
set_option maxRecDepth 100000 in
theorem inC_eq (m : Int) (hd : SH) (he : SH) (xs : List Int) (ys : List Int) (K : AExit → Tr AV → Mem → Prop) : inC m hd he xs ys K (Scr.fin [0, 1, 5]) = (
    K AExit.normal
  (few
    [(0, AV.ds hd (List.map vi xs) (List.length xs)), (1, AV.ds he (List.map vi ys) (List.length ys)),
      (5, AV.int IntKind.i64 0)])
  (mm [])) := by kernel_rfl
set_option maxRecDepth 100000 in
theorem inL_eq (m : Int) (i : Int) (hd : SH) (he : SH) (xs : List Int) (ys : List Int) (K : AExit → Tr AV → Mem → Prop) : inL m i hd he xs ys K (Scr.sp
  (Scr.op [false, false, false]
    (Scr.ld [Ek.is (vi (List.getD xs (Int.toNat i) 0))]
      (Scr.op [false]
        (Scr.op [false, false, false]
          (Scr.ld [Ek.is (vi (List.getD ys (Int.toNat i) 0))]
            (Scr.op [false] (Scr.sp (Scr.fin [4]) (Scr.fin [0, 1, 5]))))))))
  (Scr.fin [])) = (
    (decide (i < (↑(List.length xs) : Int)) = true →
    Int.toNat i * 1 ≤ List.length (List.map vi xs) ∧
      0 ≤ i ∧
        i + 1 ≤ (↑(List.length xs) : Int) ∧
          1 ≤ List.length (List.drop (Int.toNat i * 1) (List.map vi xs)) ∧
            List.getD (List.drop (Int.toNat i * 1) (List.map vi xs)) 0 AV.junk = vi (List.getD xs (Int.toNat i) 0) ∧
              Int.toNat i * 1 ≤ List.length (List.map vi ys) ∧
                0 ≤ i ∧
                  i + 1 ≤ (↑(List.length ys) : Int) ∧
                    1 ≤ List.length (List.drop (Int.toNat i * 1) (List.map vi ys)) ∧
                      List.getD (List.drop (Int.toNat i * 1) (List.map vi ys)) 0 AV.junk =
                          vi (List.getD ys (Int.toNat i) 0) ∧
                        ((List.getD xs (Int.toNat i) 0 != List.getD ys (Int.toNat i) 0) = true →
                            K AExit.ret (few [(4, AV.bool false)]) (mm [])) ∧
                          ((List.getD xs (Int.toNat i) 0 != List.getD ys (Int.toNat i) 0) = false →
                            K AExit.normal
                              (few
                                [(0, AV.ds hd (List.map vi xs) (List.length xs)),
                                  (1, AV.ds he (List.map vi ys) (List.length ys)),
                                  (5, AV.int IntKind.i64 (IntKind.wrap IntKind.i64 (i + 1)))])
                              (mm []))) ∧
  (decide (i < (↑(List.length xs) : Int)) = false → K (AExit.exit 0) (few []) (mm []))) := by kernel_rfl
set_option maxRecDepth 100000 in
theorem inF_eq (m : Int) (K : AExit → Tr AV → Mem → Prop) : inF m K (Scr.fin [4]) = (
    K AExit.ret (few [(4, AV.bool true)]) (mm [])) := by kernel_rfl

noncomputable abbrev F12 : Code := bodyF Tryz.f12
noncomputable def cuA (m : Int) (hd : SH) (p : List (Int × Int)) (K : AExit → Tr AV → Mem → Prop) (S : Scr) : Prop := sxC prog (gl m) kx0 10 mo F12 (finK 0 K) S (argsTr [dA hd p] 0 .e) (mm [])
set_option maxRecDepth 100000 in
theorem cuA_eq (m : Int) (hd : SH) (p : List (Int × Int)) (K : AExit → Tr AV → Mem → Prop) : cuA m hd p K (Scr.op [true, false, false]
  (Scr.alt 2 (Scr.op [true, true, true, true, false, true, false, false, false] (Scr.fin [2])))) = (
    (0 ≤ if 4001 < (↑(List.length p) : Int) then 4001 else (↑(List.length p) : Int)) ∧
  (if 4001 < (↑(List.length p) : Int) then 4001 else (↑(List.length p) : Int)) ≤ (↑(List.length p) : Int) ∧
    AV.m0L
          (List.take (Int.toNat ((if 4001 < (↑(List.length p) : Int) then 4001 else (↑(List.length p) : Int)) - 0) * 2)
            (List.drop 0 (eA p))) =
        true ∧
      List.length
            (List.take
              (Int.toNat ((if 4001 < (↑(List.length p) : Int) then 4001 else (↑(List.length p) : Int)) - 0) * 2)
              (List.drop 0 (eA p))) =
          Int.toNat ((if 4001 < (↑(List.length p) : Int) then 4001 else (↑(List.length p) : Int)) - 0) * 2 ∧
        (2 *
                  (0 +
                    (↑(Int.toNat ((if 4001 < (↑(List.length p) : Int) then 4001 else (↑(List.length p) : Int)) - 0)) :
                      Int)) +
                256) *
              16 ≤
            281474976710656 ∧
          0 + (↑(Int.toNat ((if 4001 < (↑(List.length p) : Int) then 4001 else (↑(List.length p) : Int)) - 0)) : Int) ≤
              281474976710656 ∧
            K AExit.ret
              (few
                [(2,
                    AV.ds (SH.mk false true none)
                      ([] ++
                        List.take
                          (Int.toNat
                              ((if 4001 < (↑(List.length p) : Int) then 4001 else (↑(List.length p) : Int)) - 0) *
                            2)
                          (List.drop 0 (eA p)))
                      (0 +
                        Int.toNat ((if 4001 < (↑(List.length p) : Int) then 4001 else (↑(List.length p) : Int)) - 0)))])
              (mm [])) := by kernel_rfl
end Go.Proofs.YtpiincgiakkljaaGreatDoor
/-
  replay.Check, replay.Often, fluxionref18.Bad, fluxionref08.Ints, cut: their contracts.
-/
namespace Go.Proofs.YtpiincgiakkljaaGreatDoor
open Go

def sumZ : List Int → Int
  | [] => 0
  | x :: l => x + sumZ l

theorem sumZ_append (a b : List Int) : sumZ (a ++ b) = sumZ a + sumZ b := by
  induction a with
  | nil => simp [sumZ]
  | cons x a ih => simp only [List.cons_append, sumZ, ih]; omega

theorem sumZ_take {o : List Int} {i : Nat} (h : i < o.length) : sumZ (o.take (i + 1)) = sumZ (o.take i) + o.getD i 0 := by
  rw [List.take_add_one, sumZ_append, List.getElem?_eq_getElem h, List.getD_eq_getElem?_getD, List.getElem?_eq_getElem h]
  simp [sumZ]

theorem sumZ_bound {B : Int} : ∀ {o : List Int}, (∀ x ∈ o, 0 ≤ x ∧ x ≤ B) → 0 ≤ sumZ o ∧ sumZ o ≤ o.length * B
  | [], _ => by simp [sumZ]
  | x :: o, h => by
    have h1 := h x List.mem_cons_self
    have h2 := sumZ_bound (B := B) fun y hy => h y (List.mem_cons_of_mem _ hy)
    simp only [sumZ, List.length_cons]
    have : ((o.length + 1 : Nat) : Int) * B = o.length * B + B := by rw [Int.natCast_add, Int.add_mul]; simp
    omega

def ChkV (n s : Int) (p : List (Int × Int)) : Int × Int × Int := if badP n s then (0, 0, 2) else (sumZ (checkV n s p).1, (checkV n s p).2.1, (checkV n s p).2.2)
def OftV (n s : Int) (p : List (Int × Int)) : List Int × Int := if badP n s then ([], 2) else ((checkV n s p).1, (checkV n s p).2.2)

theorem checkL_bound {n s : Int} {len : Nat} (hl : len ≤ 4000) : ∀ {l : List (Int × Int)} {i : Nat} {h : Hs} {o : List Int}, i + l.length = len → ChInv n i h o → (∀ x ∈ (checkL n s len l i h o).1, 0 ≤ x ∧ x ≤ 4000) ∧ ((checkL n s len l i h o).1.length : Int) ≤ max n 0
  | [], i, h, o, hi, inv => by
    rw [checkL]
    split
    · exact ⟨by simp, by simp; omega⟩
    · refine ⟨fun x hx => ?_, ?_⟩
      · have := inv.oe x hx
        simp at hi
        omega
      · have := inv.ol
        simp only
        omega
  | a :: l, i, h, o, hi, inv => by
    rw [checkL]
    rcases hm : mayV n s h a.1 a.2 with ⟨b, h2⟩
    cases b with
    | false => exact ⟨by simp, by simp; omega⟩
    | true => exact checkL_bound hl (by simp at hi; omega) (may_inv inv hm).1

theorem checkV_bound {n s : Int} {p : List (Int × Int)} (hn : 1 ≤ n) (hn2 : n ≤ 40) : (∀ x ∈ (checkV n s p).1, 0 ≤ x ∧ x ≤ 4000) ∧ (checkV n s p).1.length ≤ 40 := by
  unfold checkV
  split
  · exact ⟨by simp, by simp⟩
  · obtain ⟨h1, h2⟩ := checkL_bound (n := n) (s := s) (len := p.length) (by omega) (l := p) (i := 0) (h := ⟨0, n, []⟩) (o := List.replicate n.toNat 0) (by simp) ⟨by simp, by simp; omega, by simp; omega, by simp, by simp, by simp, by simp; omega, fun x hx => by
      have := List.eq_of_mem_replicate hx
      omega⟩
    exact ⟨h1, by omega⟩

theorem asked_ne {n s : Int} : (askedV n s != 0) = true ↔ badP n s := by
  unfold askedV
  split <;> simp_all
theorem asked_eq {n s : Int} : (askedV n s != 0) = false ↔ ¬ badP n s := by
  unfold askedV
  split <;> simp_all
theorem asked_2 {n s : Int} (h : badP n s) : askedV n s = 2 := if_pos h

theorem F13_split : F13 = .seq (cp [0] F13) (.seq (cp [1,0] F13) (.seq (cp [1,1,0] F13) (.seq (cp [1,1,1,0] F13) (.seq (.seq (cp [1,1,1,1,0,0] F13) (.block 0 (.loop (cp [1,1,1,1,0,1,0,0] F13)))) (cp [1,1,1,1,1] F13))))) := by kernel_rfl

noncomputable def tri (r : Int × Int × Int) : AV := .tup [vi r.1, vi r.2.1, vi r.2.2]
theorem fin13 (x y z : Int) : Lf (FinL prog Tryz.f13 (tri (x, y, z))) .ret (few [(6, AV.int IntKind.i64 x), (7, AV.int IntKind.i64 y), (8, AV.int IntKind.i64 z)]) (mm []) := finL_ret [vi x, vi y, vi z] [] (by kernel_rfl) (by kernel_rfl)

set_option maxRecDepth 100000 in
theorem Check_hasL (m n s : Int) (hd : SH) (p : List (Int × Int)) : HasL prog (gl m) 13 [dA hd p, vi n, vi s] (tri (ChkV n s p)) := by
  refine hasL_sx Tryz.func13 (code := F13) (by kernel_rfl) (of_decide_eq_true (by kernel_rfl)) fun c st hel hs => ?_
  rw [F13_split]
  refine awp_seq (awp_sx kx0_ok hel ((ckA_eq m n s hd p _).mpr fun st1 h1 => ?_) hs)
  refine awp_seq (awp_sx (kAsked_ok m) hel ((ckB_eq m n s hd p _).mpr ⟨fun hb => ?_, fun hb st2 h2 => ?_⟩) h1)
  · have hb' := asked_ne.1 hb
    rw [ChkV, if_pos hb', asked_2 hb']
    exact fin13 0 0 2
  have hb' := asked_eq.1 hb
  have hR : ChkV n s p = (sumZ (checkV n s p).1, (checkV n s p).2.1, (checkV n s p).2.2) := by rw [ChkV, if_neg hb']
  have hn : 1 ≤ n ∧ n ≤ 40 := by unfold badP at hb'; omega
  have hB := checkV_bound (s := s) (p := p) hn.1 hn.2
  rcases hc : checkV n s p with ⟨o, a, e⟩
  rw [hc] at hR hB
  simp only at hR hB
  refine awp_seq (awp_sx (kCheck_ok m p o a e) hel ((ckC_eq m n s hd p o a e _).mpr ⟨rfl, rfl, hn, hc, fun st3 h3 => ?_⟩) h2)
  refine awp_seq (awp_sx kx0_ok hel ((ckD_eq m o a e _).mpr fun st4 h4 => ?_) h3)
  refine awp_seq (awp_seq (awp_sx kx0_ok hel ((ckE_eq m o a e _).mpr fun st5 h5 => ?_) h4))
  refine awp_block (awp_loop_sx (α := Nat) (fun i => i ≤ o.length) (fun i => ckT i (sumZ (o.take i)) o a e) (fun _ => mm []) (fun i => o.length - i) (fun i st hI hst => ?_) (a := 0) (by simp) h5)
  refine awp_sx kx0_ok hel ((ckL_eq m i _ o a e _).mpr ⟨fun hlt => ?_, fun hge st6 h6 => ?_⟩) hst
  · have hi : i < o.length := by have := of_decide_eq_true hlt; omega
    have hs1 := sumZ_bound (B := 4000) (o := o.take (i + 1)) fun x hx => hB.1 x (List.mem_of_mem_take hx)
    have hl1 : (o.take (i + 1)).length ≤ 40 := by simp; omega
    have hw : IntKind.wrap IntKind.i64 (sumZ (o.take i) + o.getD i 0) = sumZ (o.take (i + 1)) := by
      rw [← sumZ_take hi]
      exact wrap_ok hs1.1 (by omega)
    have hw2 : IntKind.wrap IntKind.i64 ((i : Int) + 1) = ((i + 1 : Nat) : Int) := by rw [wrap_ok (by omega) (by omega)]; omega
    simp only [Int.toNat_natCast, Nat.mul_one, List.length_map, hw, hw2]
    refine ⟨by omega, by omega, by omega, by simp; omega, getD_map_vi hi, fun st6 h6 => ⟨i + 1, by omega, by omega, h6⟩⟩
  · have hi : i = o.length := by have := of_decide_eq_false hge; omega
    rw [hi, List.take_length] at h6
    refine awp_sx kx0_ok hel ((ckF_eq m _ a e _).mpr ?_) h6
    rw [hR]
    exact fin13 _ _ _

theorem F14_split : F14 = .seq (cp [0] F14) (.seq (cp [1,0] F14) (cp [1,1] F14)) := by kernel_rfl
noncomputable def oft (r : List Int × Int) : AV := .tup [.ds {} (r.1.map vi) r.1.length, vi r.2]

set_option maxRecDepth 100000 in
theorem Often_hasL (m n s : Int) (hd : SH) (p : List (Int × Int)) : HasL prog (gl m) 14 [dA hd p, vi n, vi s] (oft (OftV n s p)) := by
  refine hasL_sx Tryz.func14 (code := F14) (by kernel_rfl) (of_decide_eq_true (by kernel_rfl)) fun c st hel hs => ?_
  rw [F14_split]
  refine awp_seq (awp_sx kx0_ok hel ((ofA_eq m n s hd p _).mpr fun st1 h1 => ?_) hs)
  refine awp_seq (awp_sx (kAsked_ok m) hel ((ofB_eq m n s hd p _).mpr ⟨fun hb => ?_, fun hb st2 h2 => ?_⟩) h1)
  · have hb' := asked_ne.1 hb
    rw [OftV, if_pos hb', asked_2 hb']
    exact finL_le (a2 := .tup [.nils, vi 2]) (AVle.tup (.cons AVle.nils (.cons (AVle.refl _) .nil))) [.nils, vi 2] [] (by kernel_rfl) (by rfl)
  have hb' := asked_eq.1 hb
  have hR : OftV n s p = ((checkV n s p).1, (checkV n s p).2.2) := by rw [OftV, if_neg hb']
  have hn : 1 ≤ n ∧ n ≤ 40 := by unfold badP at hb'; omega
  rcases hc : checkV n s p with ⟨o, a, e⟩
  rw [hc] at hR
  refine awp_sx (kCheck_ok m p o a e) hel ((ofC_eq m n s hd p o a e _).mpr ⟨rfl, rfl, hn, hc, ?_⟩) h2
  rw [hR]
  exact finL_ret (a := oft (o, e)) [.ds {} (o.map vi) o.length, vi e] [] (by kernel_rfl) (by kernel_rfl)

theorem Bad_hasL (m x y : Int) : HasL prog (gl m) 15 [vi x, vi y] (.bool (decide (badP x y))) := by
  refine hasL_sx Tryz.func15 (code := F15) (by kernel_rfl) (of_decide_eq_true (by kernel_rfl)) fun c st hel hs => awp_sx kx0_ok hel ((bdA_eq m x y _).mpr ?_) hs
  have fin : ∀ b : Bool, (b = true ↔ badP x y) → Lf (FinL prog Tryz.f15 (.bool (decide (badP x y)))) .ret (few [(4, AV.bool b)]) (mm []) := fun b hb => by
    have : decide (badP x y) = b := by
      cases b with
      | false => exact decide_eq_false (fun h => by have := hb.2 h; cases this)
      | true => exact decide_eq_true (hb.1 rfl)
    rw [this]
    exact finL_ret [.bool b] [] (by kernel_rfl) (by kernel_rfl)
  simp only [decide_eq_true_eq, decide_eq_false_iff_not]
  unfold badP at fin ⊢
  exact ⟨fun h => fin _ (by simp; omega), fun h => ⟨fun h1 => fin _ (by simp; omega), fun h1 => ⟨fun h2 => fin _ (by simp; omega), fun h2 => fin _ (by simp; omega)⟩⟩⟩

theorem F17_split : F17 = .seq (cp [0] F17) (.seq (cp [1,0] F17) (.seq (.seq (cp [1,1,0,0] F17) (.block 0 (.loop (cp [1,1,0,1,0,0] F17)))) (cp [1,1,1] F17))) := by kernel_rfl

theorem list_ext_getD : ∀ {xs ys : List Int}, xs.length = ys.length → (∀ j, j < xs.length → xs.getD j 0 = ys.getD j 0) → xs = ys := by
  intro xs ys hl h
  apply List.ext_getElem hl
  intro i h1 h2
  have := h i h1
  simpa [List.getD_eq_getElem?_getD, h1, h2] using this

set_option maxRecDepth 100000 in
theorem Ints_hasL (m : Int) (hd he : SH) (xs ys : List Int) (hx : xs.length ≤ 281474976710655) : HasL prog (gl m) 17 [.ds hd (xs.map vi) xs.length, .ds he (ys.map vi) ys.length] (.bool (decide (xs = ys))) := by
  refine hasL_sx Tryz.func17 (code := F17) (by kernel_rfl) (of_decide_eq_true (by kernel_rfl)) fun c st hel hs => ?_
  have fin : ∀ b : Bool, (b = true ↔ xs = ys) → Lf (FinL prog Tryz.f17 (.bool (decide (xs = ys)))) .ret (few [(4, AV.bool b)]) (mm []) := fun b hb => by
    have : decide (xs = ys) = b := by
      cases b with
      | false => exact decide_eq_false (fun h => by have := hb.2 h; cases this)
      | true => exact decide_eq_true (hb.1 rfl)
    rw [this]
    exact finL_ret [.bool b] [] (by kernel_rfl) (by kernel_rfl)
  rw [F17_split]
  refine awp_seq (awp_sx kx0_ok hel ((inA_eq m hd he xs ys _).mpr fun st1 h1 => ?_) hs)
  refine awp_seq (awp_sx kx0_ok hel ((inB_eq m hd he xs ys _).mpr ⟨fun hb => ?_, fun hb st2 h2 => ?_⟩) h1)
  · have : (xs.length : Int) ≠ ys.length := by simpa using hb
    exact fin false ⟨fun h => (by cases h), fun h => (by subst h; omega)⟩
  have hl : xs.length = ys.length := by
    have : (xs.length : Int) = ys.length := by simpa using hb
    omega
  refine awp_seq (awp_seq (awp_sx kx0_ok hel ((inC_eq m hd he xs ys _).mpr fun st3 h3 => ?_) h2))
  refine awp_block (awp_loop_sx (α := Nat) (fun i => i ≤ xs.length ∧ ∀ j, j < i → xs.getD j 0 = ys.getD j 0) (fun i => inLT i hd he xs ys) (fun _ => mm []) (fun i => xs.length - i) (fun i st hI hst => ?_) (a := 0) ⟨by omega, fun j h => by omega⟩ h3)
  refine awp_sx kx0_ok hel ((inL_eq m i hd he xs ys _).mpr ⟨fun hlt => ?_, fun hge st6 h6 => ?_⟩) hst
  · have hi : i < xs.length := by have := of_decide_eq_true hlt; omega
    have hw2 : IntKind.wrap IntKind.i64 ((i : Int) + 1) = ((i + 1 : Nat) : Int) := by rw [wrap_ok (by omega) (by omega)]; omega
    simp only [Int.toNat_natCast, Nat.mul_one, List.length_map, hw2]
    refine ⟨by omega, by omega, by omega, by simp; omega, getD_map_vi hi, by omega, by omega, by omega, by simp; omega, getD_map_vi (by omega), fun hne => ?_, fun heq st6 h6 => ⟨i + 1, ⟨by omega, fun j hj => ?_⟩, by omega, h6⟩⟩
    · have : xs.getD i 0 ≠ ys.getD i 0 := by simpa only [bne_iff_ne] using hne
      exact fin false ⟨fun h => (by cases h), fun h => (by subst h; exact absurd rfl this)⟩
    · have hq : xs.getD i 0 = ys.getD i 0 := by simpa only [bne_eq_false_iff_eq] using heq
      by_cases hji : j = i
      · subst hji; exact hq
      · exact hI.2 j (by omega)
  · have hi : i = xs.length := by have := of_decide_eq_false hge; omega
    refine awp_sx kx0_ok hel ((inF_eq m _).mpr ?_) h6
    exact fin true ⟨fun _ => list_ext_getD hl fun j hj => hI.2 j (by omega), fun _ => rfl⟩

theorem AVle.dsn (c : List AV) (k : Nat) : AVle (.ds {} c k) (.ds { nn := true } c k) := fun _ _ _ _ _ _ h => by
  cases h with
  | dsn h1 h2 => cases h1
  | ds h1 h2 h3 h4 => exact .ds (fun e => by cases e) (by simp) h3 h4

theorem eA_take : ∀ (p : List (Int × Int)) (i : Nat), (eA p).take (i * 2) = eA (p.take i)
  | p, 0 => by simp [eA]
  | [], i + 1 => by simp [eA]
  | a :: p, i + 1 => by
    show ([vi a.1, vi a.2] ++ eA p).take ((i + 1) * 2) = _
    rw [show (i + 1) * 2 = i * 2 + 2 by omega]
    exact congrArg (fun l => vi a.1 :: vi a.2 :: l) (eA_take p i)

theorem m0L_eA : ∀ (p : List (Int × Int)), AV.m0L (eA p) = true
  | [] => rfl
  | _ :: p => m0L_eA p

set_option maxRecDepth 100000 in
theorem cut_hasL (m : Int) (hd : SH) (p : List (Int × Int)) : HasL prog (gl m) 12 [dA hd p] (dA {} (p.take 4001)) := by
  refine hasL_sx Tryz.func12 (code := F12) (by kernel_rfl) (of_decide_eq_true (by kernel_rfl)) fun c st hel hs => awp_sx kx0_ok hel ((cuA_eq m hd p _).mpr ?_) hs
  have hq : ∃ q : Nat, (if 4001 < (p.length : Int) then (4001 : Int) else (p.length : Int)) = q ∧ q ≤ 4001 ∧ q ≤ p.length ∧ p.take 4001 = p.take q := by
    by_cases h : 4001 < p.length
    · exact ⟨4001, by rw [if_pos (by omega)]; rfl, by omega, by omega, rfl⟩
    · refine ⟨p.length, by rw [if_neg (by omega)], by omega, by omega, ?_⟩
      rw [List.take_length, List.take_of_length_le (by omega)]
  obtain ⟨q, e1, e2, e3, e4⟩ := hq
  rw [e1, e4]
  have e5 : ((q : Int) - 0).toNat = q := by omega
  simp only [e5, List.drop_zero, eA_take, m0L_eA, true_and, Nat.zero_add, List.nil_append]
  have e6 : (p.take q).length = q := by simp; omega
  refine ⟨by omega, by omega, by rw [eA_length, e6], by omega, by omega, ?_⟩
  refine finL_le (a2 := .ds { nn := true } (eA (p.take q)) q) ?_ [.ds { nn := true } (eA (p.take q)) q] [] (by kernel_rfl) (by kernel_rfl)
  unfold dA
  rw [e6]
  exact AVle.dsn _ _
end Go.Proofs.YtpiincgiakkljaaGreatDoor
