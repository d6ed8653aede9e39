/-
  replay.asked, fluxionref18.Bad: their contracts.
-/
import Derived.Test.YtpiincgiakkljaaGreatDoorFe
import Derived.Test.YtpiincgiakkljaaGreatDoorAl
set_option linter.unusedSimpArgs false
set_option linter.unusedVariables false
namespace Go.Proofs.YtpiincgiakkljaaGreatDoor
open Go
noncomputable abbrev mo : Bool := prog.follows .mixedOrders
noncomputable abbrev F21 : Code := bodyF Tryz.f21
noncomputable def asq (m x y : Int) (K : AExit → Tr AV → Mem → Prop) (S : Scr) : Prop := sxC prog (gl m) kx0 19 mo F21 (finK 0 K) S (argsTr [vi x, vi y] 0 .e) (mm [])
theorem asq_eq (m : Int) (x : Int) (y : Int) (K : AExit → Tr AV → Mem → Prop) : asq m x y K (Scr.sp (Scr.tt (Scr.tt (Scr.tt (Scr.tt (Scr.tt (Scr.tt (Scr.fin [4])))))))
  (Scr.ff
    (Scr.sp (Scr.tt (Scr.tt (Scr.tt (Scr.tt (Scr.fin [4])))))
      (Scr.ff (Scr.sp (Scr.tt (Scr.tt (Scr.fin [4]))) (Scr.ff (Scr.sp (Scr.fin [4]) (Scr.fin [4])))))))) = (
    (decide (x < 1) = true → K AExit.ret (few [(4, AV.int IntKind.i64 2)]) (mm [])) ∧
  (decide (x < 1) = false →
    (decide (x > 40) = true → K AExit.ret (few [(4, AV.int IntKind.i64 2)]) (mm [])) ∧
      (decide (x > 40) = false →
        (decide (y < 1) = true → K AExit.ret (few [(4, AV.int IntKind.i64 2)]) (mm [])) ∧
          (decide (y < 1) = false →
            (decide (y > 8) = true → K AExit.ret (few [(4, AV.int IntKind.i64 2)]) (mm [])) ∧
              (decide (y > 8) = false → K AExit.ret (few [(4, AV.int IntKind.i64 0)]) (mm [])))))) := by kernel_rfl

abbrev badP (x y : Int) : Prop := x < 1 ∨ x > 40 ∨ y < 1 ∨ y > 8
def askedV (x y : Int) : Int := if badP x y then 2 else 0

theorem fin21 (n : Int) : Lf (FinL prog Tryz.f21 (vi n)) .ret (few [(4, AV.int IntKind.i64 n)]) (mm []) := finL_ret [vi n] [] (by kernel_rfl) (by kernel_rfl)

theorem asked_hasL (m x y : Int) : HasL prog (gl m) 21 [vi x, vi y] (vi (askedV x y)) := by
  refine hasL_sx Tryz.func21 (code := F21) (by kernel_rfl) (of_decide_eq_true (by kernel_rfl)) fun c st hel hs => awp_sx kx0_ok hel ((asq_eq m x y _).mpr ?_) hs
  simp only [decide_eq_true_eq, decide_eq_false_iff_not]
  have e2 : badP x y → Lf (FinL prog Tryz.f21 (vi (askedV x y))) .ret (few [(4, AV.int IntKind.i64 2)]) (mm []) := fun h => by
    rw [show askedV x y = 2 from if_pos h]; exact fin21 2
  have e0 : ¬ badP x y → Lf (FinL prog Tryz.f21 (vi (askedV x y))) .ret (few [(4, AV.int IntKind.i64 0)]) (mm []) := fun h => by
    rw [show askedV x y = 0 from if_neg h]; exact fin21 0
  unfold badP at e2 e0
  exact ⟨fun h => e2 (by omega), fun h => ⟨fun h1 => e2 (by omega), fun h1 => ⟨fun h2 => e2 (by omega), fun h2 => ⟨fun h3 => e2 (by omega), fun h3 => e0 (by omega)⟩⟩⟩⟩
end Go.Proofs.YtpiincgiakkljaaGreatDoor
/-
  slices.Index and slices.Contains at whole numbers: their contracts.
-/
namespace Go.Proofs.YtpiincgiakkljaaGreatDoor
open Go
noncomputable abbrev F72 : Code := bodyF Tryz.f72
noncomputable def ix0 (m x : Int) (hd : SH) (zs : List Int) (K : AExit → Tr AV → Mem → Prop) (S : Scr) : Prop := sxC prog (gl m) kx0 19 mo (cp [0] F72) (finK 0 K) S (argsTr [.ds hd (zs.map vi) zs.length, vi x] 0 .e) (mm [])
noncomputable def ixT (x i : Int) (hd : SH) (zs : List Int) : Tr AV := few [(0, .ds hd (zs.map vi) zs.length), (1, vi x), (7, vi zs.length), (8, vi i)]
noncomputable def ix1 (m x : Int) (hd : SH) (zs : List Int) (K : AExit → Tr AV → Mem → Prop) (S : Scr) : Prop := sxC prog (gl m) kx0 19 mo (cp [1,0,0] F72) (finK 0 K) S (few [(0, .ds hd (zs.map vi) zs.length), (1, vi x)]) (mm [])
noncomputable def ix2 (m x i : Int) (hd : SH) (zs : List Int) (K : AExit → Tr AV → Mem → Prop) (S : Scr) : Prop := sxC prog (gl m) kx0 19 mo (cp [1,0,1,0,0] F72) (finK 0 K) S (ixT x i hd zs) (mm [])
noncomputable def ix3 (m : Int) (K : AExit → Tr AV → Mem → Prop) (S : Scr) : Prop := sxC prog (gl m) kx0 19 mo (cp [1,1] F72) (finK 0 K) S (few []) (mm [])
set_option maxRecDepth 100000 in
theorem ix0_eq (m : Int) (x : Int) (hd : SH) (zs : List Int) (K : AExit → Tr AV → Mem → Prop) : ix0 m x hd zs K (Scr.fin [0, 1]) = (
    K AExit.normal (few [(0, AV.ds hd (List.map vi zs) (List.length zs)), (1, AV.int IntKind.i64 x)]) (mm [])) := by kernel_rfl
set_option maxRecDepth 100000 in
theorem ix1_eq (m : Int) (x : Int) (hd : SH) (zs : List Int) (K : AExit → Tr AV → Mem → Prop) : ix1 m x hd zs K (Scr.fin [0, 1, 7, 8]) = (
    K AExit.normal
  (few
    [(0, AV.ds hd (List.map vi zs) (List.length zs)), (1, AV.int IntKind.i64 x),
      (7, AV.int IntKind.i64 (↑(List.length zs) : Int)), (8, AV.int IntKind.i64 0)])
  (mm [])) := by kernel_rfl
set_option maxRecDepth 100000 in
theorem ix2_eq (m : Int) (x : Int) (i : Int) (hd : SH) (zs : List Int) (K : AExit → Tr AV → Mem → Prop) : ix2 m x i hd zs K (Scr.sp
  (Scr.op [false, false, false]
    (Scr.ld [Ek.is (vi (List.getD zs (Int.toNat i) 0))] (Scr.op [false] (Scr.sp (Scr.fin [4]) (Scr.fin [0, 1, 7, 8])))))
  (Scr.fin [])) = (
    (decide (i < (↑(List.length zs) : Int)) = true →
    Int.toNat i * 1 ≤ List.length (List.map vi zs) ∧
      0 ≤ i ∧
        i + 1 ≤ (↑(List.length zs) : Int) ∧
          1 ≤ List.length (List.drop (Int.toNat i * 1) (List.map vi zs)) ∧
            List.getD (List.drop (Int.toNat i * 1) (List.map vi zs)) 0 AV.junk = vi (List.getD zs (Int.toNat i) 0) ∧
              (decide (x = List.getD zs (Int.toNat i) 0) = true →
                  K AExit.ret (few [(4, AV.int IntKind.i64 i)]) (mm [])) ∧
                (decide (x = List.getD zs (Int.toNat i) 0) = false →
                  K AExit.normal
                    (few
                      [(0, AV.ds hd (List.map vi zs) (List.length zs)), (1, AV.int IntKind.i64 x),
                        (7, AV.int IntKind.i64 (↑(List.length zs) : Int)),
                        (8, AV.int IntKind.i64 (IntKind.wrap IntKind.i64 (i + 1)))])
                    (mm []))) ∧
  (decide (i < (↑(List.length zs) : Int)) = false → K (AExit.exit 0) (few []) (mm []))) := by kernel_rfl
set_option maxRecDepth 100000 in
theorem ix3_eq (m : Int) (K : AExit → Tr AV → Mem → Prop) : ix3 m K (Scr.fin [4]) = (
    K AExit.ret (few [(4, AV.int IntKind.i64 (-1))]) (mm [])) := by kernel_rfl
end Go.Proofs.YtpiincgiakkljaaGreatDoor
/-
  slices.Index and slices.Contains at whole numbers: proved.
-/
namespace Go.Proofs.YtpiincgiakkljaaGreatDoor
open Go

def idxZ (zs : List Int) (x : Int) : Int := if x ∈ zs then (zs.idxOf x : Int) else -1

theorem idxZ_at {zs : List Int} {x : Int} : ∀ {k : Nat}, k < zs.length → zs.getD k 0 = x → (∀ j, j < k → zs.getD j 0 ≠ x) → idxZ zs x = k := by
  intro k hk h1 h2
  have hm : x ∈ zs := by
    rw [← h1, List.getD_eq_getElem?_getD, List.getElem?_eq_getElem hk]
    exact List.getElem_mem hk
  have hlt := List.idxOf_lt_length_of_mem hm
  have hg : zs.getD (zs.idxOf x) 0 = x := by
    rw [List.getD_eq_getElem?_getD, List.getElem?_eq_getElem hlt]
    exact List.getElem_idxOf hlt
  unfold idxZ
  rw [if_pos hm]
  have h3 : ¬ zs.idxOf x < k := fun h => h2 _ h hg
  have h4 : ¬ k < zs.idxOf x := fun h => by
    have := List.not_of_lt_findIdx (p := (· == x)) (xs := zs) (i := k) h
    rw [List.getD_eq_getElem?_getD, List.getElem?_eq_getElem hk] at h1
    simp at this h1
    exact this h1
  omega

theorem idxZ_no {zs : List Int} {x : Int} (h : ∀ j, j < zs.length → zs.getD j 0 ≠ x) : idxZ zs x = -1 := by
  unfold idxZ
  rw [if_neg]
  intro hm
  obtain ⟨j, hj, e⟩ := List.mem_iff_getElem.1 hm
  exact h j hj (by rw [List.getD_eq_getElem?_getD, List.getElem?_eq_getElem hj]; exact e)

theorem getD_map_vi {zs : List Int} {k : Nat} (h : k < zs.length) : ((zs.map vi).drop k).getD 0 .junk = vi (zs.getD k 0) := by
  simp [List.getD_eq_getElem?_getD, List.getElem?_drop, h]

theorem F72_split : F72 = .seq (cp [0] F72) (.seq (.seq (cp [1,0,0] F72) (.block 0 (.loop (cp [1,0,1,0,0] F72)))) (cp [1,1] F72)) := by kernel_rfl

theorem fin72 (n : Int) : Lf (FinL prog Tryz.f72 (vi n)) .ret (few [(4, AV.int IntKind.i64 n)]) (mm []) := finL_ret [vi n] [] (by kernel_rfl) (by kernel_rfl)

set_option maxRecDepth 100000 in
theorem index_hasL (m x : Int) (hd : SH) (zs : List Int) (hz : zs.length ≤ 281474976710655) : HasL prog (gl m) 72 [.ds hd (zs.map vi) zs.length, vi x] (vi (idxZ zs x)) := by
  refine hasL_sx Tryz.func72 (code := F72) (by kernel_rfl) (of_decide_eq_true (by kernel_rfl)) fun c st hel hs => ?_
  rw [F72_split]
  refine awp_seq (awp_sx kx0_ok hel ((ix0_eq m x hd zs _).mpr fun st1 h1 => ?_) hs)
  refine awp_seq (awp_seq (awp_sx kx0_ok hel ((ix1_eq m x hd zs _).mpr fun st2 h2 => ?_) h1))
  refine awp_block (awp_loop_sx (α := Nat) (fun k => k ≤ zs.length ∧ ∀ j, j < k → zs.getD j 0 ≠ x) (fun k => ixT x k hd zs) (fun _ => mm []) (fun k => zs.length - k) (fun k st hI hst => ?_) (a := 0) ⟨by omega, fun j h => by omega⟩ h2)
  refine awp_sx kx0_ok hel ((ix2_eq m x k hd zs _).mpr ⟨fun hlt => ?_, fun hge st3 h3 => ?_⟩) hst
  · have hk : k < zs.length := by simpa using hlt
    refine ⟨by simp; omega, by omega, by omega, by simp; omega, ?_, fun he => ?_, fun hne st3 h3 => ?_⟩
    · simpa using getD_map_vi hk
    · have he' : x = zs.getD k 0 := by simpa using he
      rw [idxZ_at hk he'.symm hI.2]
      exact fin72 k
    · have hne' : ¬ x = zs.getD k 0 := by simpa using hne
      refine ⟨k + 1, ⟨by omega, fun j hj => ?_⟩, by omega, ?_⟩
      · by_cases hjk : j = k
        · subst hjk; exact fun e => hne' e.symm
        · exact hI.2 j (by omega)
      · rw [wrap_id (by omega) (by omega)] at h3
        exact h3
  · have hk : k = zs.length := by
      have : ¬ ((k : Int) < (zs.length : Int)) := by simpa using hge
      omega
    refine awp_sx kx0_ok hel ((ix3_eq m _).mpr ?_) h3
    rw [idxZ_no (fun j hj => hI.2 j (by omega))]
    exact fin72 (-1)
end Go.Proofs.YtpiincgiakkljaaGreatDoor
