/-
  The planner's functions as known calls; (*planner).act as the code says it.
-/
import Derived.Test.YtpiincgiakkljaaGreatDoorU2
set_option linter.unusedSimpArgs false
set_option linter.unusedVariables false
namespace Go.Proofs.YtpiincgiakkljaaGreatDoor
open Go

noncomputable def plB (T : List AV) (j : Nat) (p : List (Int × Int)) : Slot := .blk ⟨[.da false T, .rs j 0 p.length (eA p).length none], 2, false, false, some 113⟩
noncomputable def acB (p : List (Int × Int)) : Slot := .blk ⟨eA p, 2, false, false, none⟩

theorem mapIL_eA (π : Nat → Nat) : ∀ (p : List (Int × Int)), AV.mapIL π (eA p) = eA p
  | [] => rfl
  | _ :: p => congrArg (fun l => _ :: _ :: l) (mapIL_eA π p)

theorem m1L_eA : ∀ (p : List (Int × Int)), AV.m1L (eA p) = true
  | [] => rfl
  | _ :: p => m1L_eA p

/-- What a function of the planner does. -/
def PlHas (m : Int) (g : Nat) (T : List AV) (p p' : List (Int × Int)) (x y z : Int) : Prop :=
  Has prog (gl m) g [.ra 0 0 2, vi x, vi y, vi z] (mm [plB T 1 p, acB p]).h.hf (.ret (.tup [])) (upsOf [plB T 2 p', .dead, acB p'] 0)

/-- A function of the planner, called from a greater heap. -/
noncomputable def kPl (g0 : Nat) (T : List AV) (p p' : List (Int × Int)) (C : Int → Int → Int → Prop) : KX := fun g as_ h nid => bi (Nat.beq g g0) (match as_ with
  | [.ra i off tot, .int .i64 x, .int .i64 y, .int .i64 z] => (match h i, h nid with
    | .blk ⟨[.da tg T2, .rs j o2 len tot2 cap], esz, ao, fx, ty⟩, .free => (match h j with
      | .blk ⟨cells, esz2, ao2, fx2, ty2⟩ => some ({ val := .tup [], ups := [(i, plB T nid p'), (j, .dead), (nid, acB p')], fp := [i, j] },
          [.d (off = 0 ∧ tot = 2 ∧ o2 = 0 ∧ cap = none ∧ i ≠ j ∧ i ≠ nid ∧ j ≠ nid ∧ esz = 2 ∧ ao = false ∧ fx = false ∧ ty = some 113 ∧ esz2 = 2 ∧ ao2 = false ∧ fx2 = false ∧ ty2 = none ∧ tg = false) inferInstance, .p (T2 = T), .p (cells = eA p), .p (len = p.length), .p (tot2 = (eA p).length), .p (C x y z)])
      | _ => none)
    | _, _ => none)
  | _ => none) none

theorem kPl_ok (m : Int) {g0 : Nat} {T : List AV} {p p' : List (Int × Int)} {C : Int → Int → Int → Prop} (H : ∀ x y z, C x y z → PlHas m g0 T p p' x y z) : KxOk prog (gl m) (kPl g0 T p p' C) := by
  intro g as_ h nid e cs he hc _ h' ha
  unfold kPl at he
  rw [bi_eq] at he
  split at he
  · rename_i hg
    have := Nat.eq_of_beq_eq_true hg
    subst this
    split at he
    · rename_i i off tot x y z
      split at he
      · rename_i tg T2 j o2 len tot2 cap esz ao fx ty hi hn
        split at he
        · rename_i cells esz2 ao2 fx2 ty2 hj
          cases he
          simp only [List.mem_cons, List.mem_nil_iff, or_false, forall_eq_or_imp, forall_eq, Cd.ok] at hc
          obtain ⟨⟨rfl, rfl, rfl, rfl, c1, c2, c3, rfl, rfl, rfl, rfl, rfl, rfl, rfl, rfl, rfl⟩, c4, c5, c6, c7, c8⟩ := hc
          have hi' : h' i = _ := (ha.1 i (by simp)).trans hi
          have hj' : h' j = _ := (ha.1 j (by simp)).trans hj
          have hn' : h' nid = .free := (ha.2 nid (by simp [Eff.wr])).trans hn
          subst c4 c5 c6 c7
          have H1 : Has prog (gl m) g _ _ _ _ := H x y z c8
          have hF := H1.frame (h := h') (by simp) (fun q hq => by
            have : q = 0 ∨ q = 1 := by simp at hq; omega
            rcases this with rfl | rfl <;> rfl) (fun q hq => by
            have : q = 0 ∨ q = 1 ∨ q = 2 := by simp at hq; omega
            rcases this with rfl | rfl | rfl
            · rfl
            · trivial
            · rfl) (fun q => if q = 0 then i else if q = 1 then j else nid) (fun p q hp hq e => by
            have h1 : p = 0 ∨ p = 1 ∨ p = 2 := by simp at hp; omega
            have h2 : q = 0 ∨ q = 1 ∨ q = 2 := by simp at hq; omega
            rcases h1 with rfl | rfl | rfl <;> rcases h2 with rfl | rfl | rfl <;> simp at e ⊢ <;> first | exact c1 e | exact c1 e.symm | exact c2 e | exact c2 e.symm | exact c3 e | exact c3 e.symm)
            ⟨by show 0 < 2; omega, trivial, trivial, trivial, trivial⟩ (fun q b hq hb => by
            have : q = 0 ∨ q = 1 := by simp at hq; omega
            rcases this with rfl | rfl
            · cases hb
              exact ⟨trivial, (by show 1 < 2; omega), trivial⟩
            · cases hb
              exact (m1L_mapI (π := id) (live := fun j => j < 2) _ (m1L_eA p)).2) trivial (fun q b hq hb => by
            have : q = 0 ∨ q = 1 ∨ q = 2 := by simp at hq; omega
            rcases this with rfl | rfl | rfl
            · cases hb
              exact ⟨trivial, (by show 2 < 3; omega), trivial⟩
            · cases hb
            · cases hb
              exact (m1L_mapI (π := id) (live := fun j => j < 3) _ (m1L_eA _)).2) (fun q hq => by
            have : q = 0 ∨ q = 1 := by simp at hq; omega
            rcases this with rfl | rfl
            · exact hi'
            · show h' j = .blk ⟨AV.mapIL _ (eA p), 2, false, false, none⟩
              rw [mapIL_eA]
              exact hj') (fun q hq1 hq2 => by
            have : q = 2 := by simp at hq1 hq2; omega
            subst this
            exact hn')
          have e1 : ∀ (π : Nat → Nat) (l : List (Int × Int)), Slot.mapI π (acB l) = acB l := fun π l => by
            show Slot.blk ⟨AV.mapIL π (eA l), 2, false, false, none⟩ = _
            rw [mapIL_eA]
            rfl
          have e2 : ∀ a b c : Slot, upsTo (fun q => if q = 0 then i else if q = 1 then j else nid) [a, b, c] = [(i, a.mapI _), (j, b.mapI _), (nid, c.mapI _)] := fun _ _ _ => rfl
          rw [e2, e1] at hF
          exact hF
        · cases he
      · cases he
    · cases he
  · cases he

noncomputable abbrev F44 : Code := bodyF Tryz.f44
noncomputable def acT (x y z i : Int) : Tr AV := few [(0, .ra 0 0 2), (2, vi y), (3, vi z), (8, vi x), (9, vi i)]
noncomputable def acA (m : Int) (T : List AV) (p : List (Int × Int)) (x y z : Int) (K : AExit → Tr AV → Mem → Prop) (S : Scr) : Prop := sxC prog (gl m) kx0 24 mo (cp [0] F44) (finK 2 K) S (argsTr [.ra 0 0 2, vi x, vi y, vi z] 0 .e) (mm [plB T 1 p, acB p])
noncomputable def acL (m : Int) (T : List AV) (p : List (Int × Int)) (x y z i : Int) (K : AExit → Tr AV → Mem → Prop) (S : Scr) : Prop := sxC prog (gl m) kx0 24 mo (cp [1,0,0] F44) (finK 2 K) S (acT x y z i) (mm [plB T 2 p, .dead, acB p])
set_option maxRecDepth 100000 in
theorem acA_eq (m : Int) (T : List AV) (p : List (Int × Int)) (x : Int) (y : Int) (z : Int) (K : AExit → Tr AV → Mem → Prop) : acA m T p x y z K (Scr.adj (Adj.move 0 1) (Scr.fin [0, 2, 3, 8, 9])) = (
    List.length (eA p) = List.length (eA p) ∧
  K AExit.normal
    (few
      [(0, AV.ra 0 0 2), (2, AV.int IntKind.i64 y), (3, AV.int IntKind.i64 z), (8, AV.int IntKind.i64 x),
        (9, AV.int IntKind.i64 0)])
    (mm
      [Slot.blk (Blk.mk [AV.da false T, AV.rs 2 0 (List.length p) (List.length (eA p)) none] 2 false false (some 113)),
        Slot.dead, Slot.blk (Blk.mk (eA p) 2 false false none)])) := by kernel_rfl
set_option maxRecDepth 100000 in
theorem acL_eq (m : Int) (T : List AV) (p : List (Int × Int)) (x : Int) (y : Int) (z : Int) (i : Int) (K : AExit → Tr AV → Mem → Prop) : acL m T p x y z i K (Scr.sp (Scr.op [] (Scr.op [true, false, true, true, true, false, true, false, false] (Scr.fin [0, 2, 3, 8, 9])))
  (Scr.fin [])) = (
    (decide (i < x) = true →
    List.length (eA p) = List.length (eA p) ∧
      List.length p * 2 = List.length (eA p) ∧
        (2 * ((↑(List.length p) : Int) + 1) + 256) * 16 ≤ 281474976710656 ∧
          (↑(List.length p) : Int) + 1 ≤ 281474976710656 ∧
            K AExit.normal
              (few
                [(0, AV.ra 0 0 2), (2, AV.int IntKind.i64 y), (3, AV.int IntKind.i64 z), (8, AV.int IntKind.i64 x),
                  (9, AV.int IntKind.i64 (IntKind.wrap IntKind.i64 (i + 1)))])
              (mm
                [Slot.blk
                    (Blk.mk
                      [AV.da false T,
                        AV.rs 2 0 (List.length p + 1)
                          (List.length (eA p ++ [AV.int IntKind.i64 y, AV.int IntKind.i64 z])) none]
                      2 false false (some 113)),
                  Slot.dead,
                  Slot.blk (Blk.mk (eA p ++ [AV.int IntKind.i64 y, AV.int IntKind.i64 z]) 2 false false none)])) ∧
  (decide (i < x) = false →
    K (AExit.exit 0) (few [])
      (mm
        [Slot.blk
            (Blk.mk [AV.da false T, AV.rs 2 0 (List.length p) (List.length (eA p)) none] 2 false false (some 113)),
          Slot.dead, Slot.blk (Blk.mk (eA p) 2 false false none)]))) := by kernel_rfl
end Go.Proofs.YtpiincgiakkljaaGreatDoor
/-
  (*planner).act: its contract.
-/
namespace Go.Proofs.YtpiincgiakkljaaGreatDoor
open Go

theorem F44_split : F44 = .seq (cp [0] F44) (.block 0 (.loop (cp [1,0,0] F44))) := by kernel_rfl

theorem finH_none {P : Program} {fn : Func} {l0 l : List Slot} {t : Tr AV} (hr : fn.results.toList = []) (hl : l0.length ≤ l.length) (e : AExit) (he : e = .ret ∨ e = .normal) : Lf (FinH P fn l0 (.tup []) l) e t (mm l) := fun st hs =>
  ⟨he, [], hl, hs.2, by rw [hr]; rfl, rfl⟩

theorem eA_snoc (p : List (Int × Int)) (a : Int × Int) : eA p ++ [vi a.1, vi a.2] = eA (p ++ [a]) := by simp [eA]

set_option maxRecDepth 100000 in
theorem act_has (m : Int) (T : List AV) (p : List (Int × Int)) (x : Nat) (y z : Int) (hx : p.length + x ≤ 1000000) : PlHas m 44 T p (p ++ List.replicate x (y, z)) x y z := by
  refine has_sx Tryz.func44 (code := F44) (by kernel_rfl) (of_decide_eq_true (by kernel_rfl)) fun c st0 hel hs => ?_
  have hel2 : ∀ i t L, c.φ0 i t = some L → i < 2 := fun i t L e => by simpa using hel i t L e
  rw [F44_split]
  refine awp_seq (awp_sx kx0_ok hel2 ((acA_eq m T p x y z _).mpr ⟨rfl, fun st1 h1 => ?_⟩) hs)
  refine awp_block (awp_loop_sx (α := Nat) (fun i => i ≤ x) (fun i => acT x y z i) (fun i => mm [plB T 2 (p ++ List.replicate i (y, z)), .dead, acB (p ++ List.replicate i (y, z))]) (fun i => x - i) (fun i st hI hst => ?_) (a := 0) (by omega) (by simp only [List.replicate_zero, List.append_nil]; exact h1))
  refine awp_sx kx0_ok hel2 ((acL_eq m T (p ++ List.replicate i (y, z)) x y z i _).mpr ⟨fun g => ?_, fun g => ?_⟩) hst
  · have g' : i < x := by have := of_decide_eq_true g; omega
    have hl : (p ++ List.replicate i (y, z)).length = p.length + i := by simp
    have e1 : eA (p ++ List.replicate i (y, z)) ++ [AV.int IntKind.i64 y, AV.int IntKind.i64 z] = eA (p ++ List.replicate (i + 1) (y, z)) := by
      have := eA_snoc (p ++ List.replicate i (y, z)) (y, z)
      rw [List.append_assoc, ← List.replicate_succ'] at this
      exact this
    have e2 : (p ++ List.replicate i (y, z)).length + 1 = (p ++ List.replicate (i + 1) (y, z)).length := by simp; omega
    have w : IntKind.wrap IntKind.i64 ((i : Int) + 1) = ((i + 1 : Nat) : Int) := by rw [wrap_ok (by omega) (by omega)]; omega
    refine ⟨rfl, (eA_length _).symm, by rw [hl]; omega, by rw [hl]; omega, ?_⟩
    rw [e1, e2, w]
    exact fun st2 h2 => ⟨i + 1, by omega, by omega, h2⟩
  · have g' : i = x := by have := of_decide_eq_false g; omega
    subst g'
    exact finH_none (by kernel_rfl) (by simp) .normal (.inr rfl)
end Go.Proofs.YtpiincgiakkljaaGreatDoor
