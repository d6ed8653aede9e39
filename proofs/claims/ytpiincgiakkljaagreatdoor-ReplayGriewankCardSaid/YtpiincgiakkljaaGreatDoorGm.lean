/-
  ReplayGriewank: the law's contract.
-/
import Derived.Test.YtpiincgiakkljaaGreatDoorGr0
import Derived.Test.YtpiincgiakkljaaGreatDoorGr1
import Derived.Test.YtpiincgiakkljaaGreatDoorGr2
import Derived.Test.YtpiincgiakkljaaGreatDoorGr3
import Derived.Test.YtpiincgiakkljaaGreatDoorGr4
set_option linter.unusedSimpArgs false
set_option linter.unusedVariables false
namespace Go.Proofs.YtpiincgiakkljaaGreatDoor
open Go

theorem all_num {n : Nat} {p : Int → Bool} (h : (nums n).all p = true) {x : Int} (h0 : 0 ≤ x) (h1 : x < n) : p x = true := List.all_eq_true.1 h x (mem_nums h0 h1)
theorem map_num {α : Type} {n : Nat} {f g : Int → α} (h : (nums n).map f = (nums n).map g) {x : Int} (h0 : 0 ≤ x) (h1 : x < n) : f x = g x := List.map_inj_left.1 h x (mem_nums h0 h1)

theorem gwb1_all (m z : Int) {n s : Int} (h1 : 1 ≤ n) (h2 : n ≤ 40) (h3 : 1 ≤ s) (h4 : s ≤ 8) : gwB1 m n s z = true ∧ (tOf (gw7 m n s z)).tf 2 = vb z := by
  have key : ∀ (b : Int), (nums 10).all (fun i => (nums 8).all (fun j => gwB1 m (i + b) (j + 1) z)) = true → (nums 10).map (fun i => (nums 8).map (fun j => (tOf (gw7 m (i + b) (j + 1) z)).tf 2)) = (nums 10).map (fun _ => (nums 8).map (fun _ => vb z)) →
      b ≤ n → n < b + 10 → gwB1 m n s z = true ∧ (tOf (gw7 m n s z)).tf 2 = vb z := by
    intro b hb ht g1 g2
    have a1 := all_num hb (x := n - b) (by omega) (by omega)
    have a2 := all_num a1 (x := s - 1) (by omega) (by omega)
    have b1 := map_num ht (x := n - b) (by omega) (by omega)
    have b2 := map_num b1 (x := s - 1) (by omega) (by omega)
    rw [show n - b + b = n by omega, show s - 1 + 1 = s by omega] at a2 b2
    exact ⟨a2, b2⟩
  by_cases c1 : n < 11
  · exact key 1 (gwb1_0 m z) (gwt_0 m z) (by omega) (by omega)
  by_cases c2 : n < 21
  · exact key 11 (gwb1_1 m z) (gwt_1 m z) (by omega) (by omega)
  by_cases c3 : n < 31
  · exact key 21 (gwb1_2 m z) (gwt_2 m z) (by omega) (by omega)
  · exact key 31 (gwb1_3 m z) (gwt_3 m z) (by omega) (by omega)

theorem gwb2_at (m L : Int) {s k : Int} (h1 : 1 ≤ s) (h2 : s ≤ 8) (h3 : 0 ≤ k) (h4 : k < 21) : gwB2 m s L k = true ∧ (tOf (gwA m s L k)).tf 61 = .bool (intEq L L) := by
  have a1 := all_num (gwb2_all m L) (x := s - 1) (by omega) (by omega)
  have a2 := all_num a1 (x := k) h3 (by omega)
  have b1 := map_num (gwA61 m L) (x := s - 1) (by omega) (by omega)
  have b2 := map_num b1 (x := k) h3 (by omega)
  rw [show s - 1 + 1 = s by omega] at a2 b2
  exact ⟨a2, b2⟩

theorem intEq_self (L : Int) : intEq L L = true := by
  have key : ∀ n : Nat, Nat.beq n n = true := fun n => by
    induction n with
    | zero => rfl
    | succ n ih => exact ih
  cases L with
  | ofNat n => exact key n
  | negSucc n => exact key n

theorem go1_eq (m : Int) (l : List Oper) (t : Tr AV) (mm : Mem) : opsC prog (runC prog (gl m) kn4 1000) (envC prog (gl m) kn4) (opersC prog (gl m) gwN gOps l) t mm = go1 m l t mm := rfl
theorem gwA_eq (m s L k : Int) : go1 m (gOps.toList.take 6) (tOf (gw9 m s L k)) (mOf (gw9 m s L k)) = gwA m s L k := rfl
theorem gwZ_eq (m s L k : Int) : go1 m (gOps.toList.drop 6) (Tr.set (path 61) (tOf (gwA m s L k)) (.bool true)) (mOf (gwA m s L k)) = gwZ m s L k := rfl

theorem griewank_has (m x y z : Int) (hx0 : 0 ≤ x) (hx : x < 256) (hy0 : 0 ≤ y) (hy : y < 256) (hz0 : 0 ≤ z) (hz : z < 256) : Has prog (gl m) 3 [vb x, vb y, vb z] (fun _ => .free) (.ret (.bool true)) [] := by
  refine has_of_awp (next := 0) Tryz.func3 gwbody (of_decide_eq_true (by kernel_rfl)) fun c => ?_
  rw [gwcode]
  refine awp_seq (awp_norm (kn4_ok m) (r := gw0 m x y z) m0_ok (rh_eq _ m _ _) (gwn0 m x y z) (args_tr _) m0_hf.symm fun ok1 s1 t1 h1 => ?_)
  refine awp_seq (awp_norm (kn4_ok m) (r := gw1 m x y z) ok1 (rh_eq _ m _ _) (gwn1 m x y z) t1 h1 fun ok2 s2 t2 h2 => ?_)
  have e7 := AV.eqB_sound (all_num (gw_7 m y z) hx0 hx)
  have e8 := AV.eqB_sound (all_num (gw_8 m x z) hy0 hy)
  have hm : s2.h = m0.h.hf := by rw [h2]; exact (memB_sound (gwm1 m x y z) m0_ok ok2).symm
  obtain ⟨hB, g2z⟩ := gwb1_all m z (n := 1 + x % 40) (s := 1 + y % 8) (by omega) (by omega) (by omega) (by omega)
  have hs1 : 1 ≤ 1 + y % 8 := by omega
  have hs2 : 1 + y % 8 ≤ 8 := by omega
  generalize 1 + x % 40 = n at *
  generalize 1 + y % 8 = s at *
  unfold gwB1 at hB
  simp only [Bool.and_eq_true] at hB
  obtain ⟨b1, b2, b3, b4, b5, b6, b7, b8, b9⟩ := hB
  refine AWP.le (few_st (l := [(2, vb z), (7, vi n), (8, vi s), (9, vi 0)]) t2 hm ?_) ?_
  · intro p hp
    simp only [List.mem_cons, List.mem_nil_iff, or_false] at hp
    rcases hp with rfl | rfl | rfl | rfl
    · exact gw_1 m x y z
    · exact e7
    · exact e8
    · exact gw_9 m x y z
  refine awp_seq (awp_norm (kn4_ok m) (r := gw2 m n s z) m0_ok (rh_eq _ m _ _) b1 rfl rfl fun ok3 s3 t3 h3 => ?_)
  refine awp_seq (awp_norm (kn4_ok m) (r := gw4 m n s z) ok3 (rh_eq _ m _ _) b2 t3 h3 fun ok4 s4 t4 h4 => ?_)
  refine awp_seq (awp_norm (kn4_ok m) (r := gw5 m n s z) ok4 (rh_eq _ m _ _) b3 t4 h4 fun ok5 s5 t5 h5 => ?_)
  refine awp_seq (awp_norm (kn4_ok m) (r := gw7 m n s z) ok5 (rh_eq _ m _ _) b4 t5 h5 fun ok6 s6 t6 h6 => ?_)
  obtain ⟨L, hL⟩ : ∃ L, (tOf (gw7 m n s z)).tf 11 = vi L := by
    split at b8
    · rename_i L hL; exact ⟨L, hL⟩
    · cases b8
  have hm6 : s6.h = m0.h.hf := by rw [h6]; exact (memB_sound b9 m0_ok ok6).symm
  refine AWP.le (few_st (l := [(2, vb z), (8, vi s), (10, vi L), (11, vi L), (12, gwE)]) t6 hm6 ?_) ?_
  · intro p hp
    simp only [List.mem_cons, List.mem_nil_iff, or_false] at hp
    rcases hp with rfl | rfl | rfl | rfl | rfl
    · exact g2z
    · exact AV.eqB_sound b5
    · exact (AV.eqB_sound b6).trans hL
    · exact hL
    · exact AV.eqB_sound b7
  refine awp_seq (awp_norm (kn4_ok m) (r := gw8 m s L z) m0_ok (rh_eq _ m _ _) (gwn8 m s L z) rfl rfl fun ok7 s7 t7 h7 => ?_)
  have e13 := AV.eqB_sound (all_num (gw8_13 m s L) hz0 hz)
  have hm7 : s7.h = m0.h.hf := by rw [h7]; exact (memB_sound (gwm8 m s L z) m0_ok ok7).symm
  obtain ⟨hB2, e61⟩ := gwb2_at m L hs1 hs2 (k := z % 21) (by omega) (by omega)
  refine AWP.le (few_st (l := [(8, vi s), (10, vi L), (11, vi L), (12, gwE), (13, vi (z % 21))]) t7 hm7 ?_) ?_
  · intro p hp
    simp only [List.mem_cons, List.mem_nil_iff, or_false] at hp
    rcases hp with rfl | rfl | rfl | rfl | rfl
    · exact gw8_8 m s L z
    · exact gw8_10 m s L z
    · exact gw8_11 m s L z
    · exact gw8_12 m s L z
    · exact e13
  generalize z % 21 = k at *
  unfold gwB2 at hB2
  simp only [Bool.and_eq_true] at hB2
  obtain ⟨d1, d2, d3, d4, d5⟩ := hB2
  refine awp_seq (awp_norm (kn4_ok m) (r := gw9 m s L k) m0_ok (rh_eq _ m _ _) d1 rfl rfl fun ok8 s8 t8 h8 => ?_)
  refine awp_seq (region_two (kn4_ok m) (runC_both (kn4_ok m) 1000).2 (l1 := gOps.toList.take 6) (l2 := gOps.toList.drop 6) (List.take_append_drop 6 _).symm (t1 := tOf (gwA m s L k)) (m1 := mOf (gwA m s L k)) (t2 := Tr.set (path 61) (tOf (gwA m s L k)) (.bool true))
    (t3 := tOf (gwZ m s L k)) (m3 := mOf (gwZ m s L k)) ok8 ((go1_eq m _ _ _).trans ((gwA_eq m s L k).trans (isNorm_eq d2))) ?_ ((go1_eq m _ _ _).trans ((gwZ_eq m s L k).trans (isNorm_eq d3))) t8 h8 fun ok9 s9 t9 h9 => awp_ret ?_)
  · rw [tf_set]
    funext j
    unfold upd
    split
    · rename_i e; rw [e, e61, intEq_self]
    · rfl
  · refine ⟨[.bool true], .bool true, [], ?_, .inr ⟨rfl, rfl⟩, rfl, .inl ?_⟩
    · have e0 := AV.eqB_sound d4
      rw [gwres, t9, ← e0]
      rfl
    · show s9.h = _
      rw [h9, ← memB_sound d5 m0_ok ok9]
      exact m0_hf

theorem griewank_hasL (m x y z : Int) (hx0 : 0 ≤ x) (hx : x < 256) (hy0 : 0 ≤ y) (hy : y < 256) (hz0 : 0 ≤ z) (hz : z < 256) : HasL prog (gl m) 3 [vb x, vb y, vb z] (.bool true) := hasL_of_has (u := []) (griewank_has m x y z hx0 hx hy0 hy hz0 hz) rfl
end Go.Proofs.YtpiincgiakkljaaGreatDoor
