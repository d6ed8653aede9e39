/-
  ReplayRoom: the law's contract.
-/
import Derived.Test.YtpiincgiakkljaaGreatDoorLr0
import Derived.Test.YtpiincgiakkljaaGreatDoorLr1
import Derived.Test.YtpiincgiakkljaaGreatDoorLr2
import Derived.Test.YtpiincgiakkljaaGreatDoorLr3
set_option linter.unusedSimpArgs false
set_option linter.unusedVariables false
namespace Go.Proofs.YtpiincgiakkljaaGreatDoor
open Go

theorem all_nums {n : Nat} {p : Int → Bool} (h : (nums n).all p = true) {x : Int} (h0 : 0 ≤ x) (h1 : x < n) : p x = true := List.all_eq_true.1 h x (mem_nums h0 h1)

theorem ro_all (m : Int) {n s : Int} (h1 : 1 ≤ n) (h2 : n ≤ 40) (h3 : 1 ≤ s) (h4 : s ≤ 8) : roB m n s = true := by
  have key : ∀ (b : Int), (nums 10).all (fun i => (nums 8).all (fun j => roB m (i + b) (j + 1))) = true → b ≤ n → n < b + 10 → roB m n s = true := by
    intro b hb g1 g2
    have a1 := all_nums hb (x := n - b) (by omega) (by omega)
    have a2 := all_nums a1 (x := s - 1) (by omega) (by omega)
    rwa [show n - b + b = n by omega, show s - 1 + 1 = s by omega] at a2
  by_cases c1 : n < 11
  · exact key 1 (ro_all0 m) (by omega) (by omega)
  by_cases c2 : n < 21
  · exact key 11 (ro_all1 m) (by omega) (by omega)
  by_cases c3 : n < 31
  · exact key 21 (ro_all2 m) (by omega) (by omega)
  · exact key 31 (ro_all3 m) (by omega) (by omega)

theorem args_tf (l : List AV) : (fun k => l.getD k .junk) = (argsTr l 0 .e).tf := by
  funext k
  rw [argsTr_tf]
  by_cases h : 0 ≤ k ∧ k < 0 + l.length
  · rw [if_pos h]
    rfl
  · rw [if_neg h]
    have e : (Tr.e : Tr AV).tf k = .junk := by
      show Option.rec AV.junk (fun a => a) ((Tr.e : Tr AV).get (path k)) = AV.junk
      rw [Tr.get_e]
    rw [e, List.getD_eq_getElem?_getD, List.getElem?_eq_none (by omega)]
    rfl

theorem room_has (m x y : Int) (hx0 : 0 ≤ x) (hx : x < 256) (hy0 : 0 ≤ y) (hy : y < 256) : Has prog (gl m) 4 [vb x, vb y] (fun _ => .free) (.ret (.bool true)) [] := by
  refine has_of_awp (next := 0) Tryz.func4 robody (of_decide_eq_true (by kernel_rfl)) fun c => ?_
  rw [rocode]
  refine awp_seq (awp_norm (kn3_ok m) (r := roR0 m x y) m0_ok (rg_eq _ _ m _ _) (ron0 m x y) (args_tf _) m0_hf.symm fun ok1 s1 t1 h1 => ?_)
  refine awp_seq (awp_norm (kn3_ok m) (r := roR1 m x y) ok1 (rg_eq _ _ m _ _) (ron1 m x y) t1 h1 fun ok2 s2 t2 h2 => ?_)
  have e5 := AV.eqB_sound (all_nums (ro5_all m y) hx0 hx)
  have e6 := AV.eqB_sound (all_nums (ro6_all m x) hy0 hy)
  have hm : s2.h = m0.h.hf := by rw [h2]; exact (memB_sound (rom1 m x y) m0_ok ok2).symm
  have hr := ro_all m (n := 1 + x % 40) (s := 1 + y % 8) (by omega) (by omega) (by omega) (by omega)
  unfold roB at hr
  simp only [Bool.and_eq_true] at hr
  refine AWP.le (few_st (l := [(5, vi (1 + x % 40)), (6, vi (1 + y % 8))]) t2 hm ?_) ?_
  · intro p hp
    rcases List.mem_cons.1 hp with rfl | hp
    · exact e5
    · rw [List.mem_singleton] at hp
      subst hp
      exact e6
  · refine awp_retn (kn3_ok m) (r := roR m (1 + x % 40) (1 + y % 8)) m0_ok (rg_eq _ _ m _ _) hr.1 rfl rfl fun ok3 s3 t3 h3 => ?_
    refine ⟨[.bool true], .bool true, [], ?_, .inr ⟨rfl, rfl⟩, rfl, .inl ?_⟩
    · have e0 := AV.eqB_sound hr.2.1
      rw [rores, t3, ← e0]
      rfl
    · show s3.h = _
      rw [h3, ← memB_sound hr.2.2 m0_ok ok3]
      exact m0_hf

theorem room_hasL (m x y : Int) (hx0 : 0 ≤ x) (hx : x < 256) (hy0 : 0 ≤ y) (hy : y < 256) : HasL prog (gl m) 4 [vb x, vb y] (.bool true) := hasL_of_has (u := []) (room_has m x y hx0 hx hy0 hy) rfl
end Go.Proofs.YtpiincgiakkljaaGreatDoor
