/-
  Every plan is right and has the least number of steps.
-/
import Derived.Test.YtpiincgiakkljaaGreatDoorUm1
import Derived.Test.YtpiincgiakkljaaGreatDoorUm2
import Derived.Test.YtpiincgiakkljaaGreatDoorUm3
import Derived.Test.YtpiincgiakkljaaGreatDoorUm4
import Derived.Test.YtpiincgiakkljaaGreatDoorUm5
import Derived.Test.YtpiincgiakkljaaGreatDoorUm6
set_option linter.unusedSimpArgs false
set_option linter.unusedVariables false
namespace Go.Proofs.YtpiincgiakkljaaGreatDoor
open Go

theorem planR_at {s a k n : Nat} (h : planR s a k = true) (h1 : a ≤ n) (h2 : n < a + k) : planOk n s = true := by
  have := List.all_eq_true.1 h (n - a) (List.mem_range.2 (by omega))
  rwa [show a + (n - a) = n by omega] at this

theorem planOk_all {n s : Nat} (hn0 : 1 ≤ n) (hn : n ≤ 40) (hs0 : 1 ≤ s) (hs : s ≤ 8) : planOk n s = true := by
  have key : ∀ {s : Nat}, planR s 1 20 = true → planR s 21 10 = true → planR s 31 10 = true → planOk n s = true := fun a b c => by
    rcases Nat.lt_or_ge n 21 with h | h
    · exact planR_at a hn0 (by omega)
    · rcases Nat.lt_or_ge n 31 with h' | h'
      · exact planR_at b h (by omega)
      · exact planR_at c h' (by omega)
  have : s = 1 ∨ s = 2 ∨ s = 3 ∨ s = 4 ∨ s = 5 ∨ s = 6 ∨ s = 7 ∨ s = 8 := by omega
  rcases this with rfl | rfl | rfl | rfl | rfl | rfl | rfl | rfl
  · exact key plan_1a plan_1b plan_1c
  · exact key plan_2a plan_2b plan_2c
  · exact key plan_3a plan_3b plan_3c
  · exact key plan_4a plan_4b plan_4c
  · exact key plan_5a plan_5b plan_5c
  · exact key plan_6a plan_6b plan_6c
  · exact key plan_7a plan_7b plan_7c
  · exact key plan_8a plan_8b plan_8c

theorem plan_ok {n s : Nat} (hn0 : 1 ≤ n) (hn : n ≤ 40) (hs0 : 1 ≤ s) (hs : s ≤ 8) : ∃ o, checkV n s (planL n s) = (o, 0, 0) ∧ (planL n s).length ≤ 4000 ∧ sumZ o = leastV n s ∧ leastV n s = (rowsN n s).getD n 0 := by
  have h := planOk_all hn0 hn hs0 hs
  unfold planOk at h
  rcases hv : checkV n s (planL n s) with ⟨o, a, e⟩
  rw [hv] at h
  simp only [Bool.and_eq_true, decide_eq_true_eq] at h
  obtain ⟨h1, h2, h3, h4, h5⟩ := h
  exact ⟨o, by rw [h2, h3], h1, h4, h5⟩
end Go.Proofs.YtpiincgiakkljaaGreatDoor
