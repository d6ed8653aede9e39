/-
  The gradients, as what is known.
-/
import Derived.Test.YtpiincgiakkljaaGreatDoorTa
import Derived.Test.YtpiincgiakkljaaGreatDoorTb
import Derived.Test.YtpiincgiakkljaaGreatDoorTc
set_option linter.unusedSimpArgs false
set_option linter.unusedVariables false
namespace Go.Proofs.YtpiincgiakkljaaGreatDoor
open Go
def tab163 : List (List AV × AV) := [(a163_0, r163_0), (a163_1, r163_1), (a163_2, r163_2)]
theorem tab163_ok (m : Int) : ∀ q ∈ tab163, HasL prog (gl m) 163 q.1 q.2 := by
  intro q hq
  simp only [tab163, List.mem_cons, List.not_mem_nil, or_false] at hq
  rcases hq with rfl | rfl | rfl
  · exact hl163_0 m
  · exact hl163_1 m
  · exact hl163_2 m
def grads_kl (g : FuncId) : Option (List AV → Option AV) := bif Nat.beq g 163 then some (look tab163) else ( none)
theorem grads_ok (m : Int) : ∀ g f l v, grads_kl g = some f → f l = some v → HasL prog (gl m) g l v := by
  intro g f l v h hv
  unfold grads_kl at h
  cases h163 : Nat.beq g 163 with
  | true =>
    rw [h163] at h
    cases h
    have := Nat.eq_of_beq_eq_true h163
    subst this
    exact look_sound (p := HasL prog (gl m) 163) (tab163_ok m) hv
  | false =>
    simp only [h163, cond_false] at h
    cases h
end Go.Proofs.YtpiincgiakkljaaGreatDoor
