/-
  The runs, as what is known.
-/
import Derived.Test.YtpiincgiakkljaaGreatDoorCa
import Derived.Test.YtpiincgiakkljaaGreatDoorCb
set_option linter.unusedSimpArgs false
set_option linter.unusedVariables false
namespace Go.Proofs.YtpiincgiakkljaaGreatDoor
open Go
def tab67 : List (List AV × AV) := [(a67_0, r67_0), (a67_1, r67_1), (a67_2, r67_2)]
theorem tab67_ok (m : Int) : ∀ q ∈ tab67, HasL prog (gl m) 67 q.1 q.2 := by
  intro q hq
  simp only [tab67, List.mem_cons, List.not_mem_nil, or_false] at hq
  rcases hq with rfl | rfl | rfl
  · exact hl67_0 m
  · exact hl67_1 m
  · exact hl67_2 m
def tab68 : List (List AV × AV) := [(a68_0, r68_0), (a68_1, r68_1), (a68_2, r68_2)]
theorem tab68_ok (m : Int) : ∀ q ∈ tab68, HasL prog (gl m) 68 q.1 q.2 := by
  intro q hq
  simp only [tab68, List.mem_cons, List.not_mem_nil, or_false] at hq
  rcases hq with rfl | rfl | rfl
  · exact hl68_0 m
  · exact hl68_1 m
  · exact hl68_2 m
def runs_kl (g : FuncId) : Option (List AV → Option AV) := bif Nat.beq g 67 then some (look tab67) else ( bif Nat.beq g 68 then some (look tab68) else ( none))
theorem runs_ok (m : Int) : ∀ g f l v, runs_kl g = some f → f l = some v → HasL prog (gl m) g l v := by
  intro g f l v h hv
  unfold runs_kl at h
  cases h67 : Nat.beq g 67 with
  | true =>
    rw [h67] at h
    cases h
    have := Nat.eq_of_beq_eq_true h67
    subst this
    exact look_sound (p := HasL prog (gl m) 67) (tab67_ok m) hv
  | false =>
    simp only [h67, cond_false] at h
    cases h68 : Nat.beq g 68 with
    | true =>
      rw [h68] at h
      cases h
      have := Nat.eq_of_beq_eq_true h68
      subst this
      exact look_sound (p := HasL prog (gl m) 68) (tab68_ok m) hv
    | false =>
      simp only [h68, cond_false] at h
      cases h
noncomputable def kn1 : Kn := { kn := idxKn 85, kl := runs_kl }
theorem kn1_ok (m : Int) : KnOk prog (gl m) kn1 := ⟨fun _ _ _ nid h hp _ => idxKn_ok m h nid hp, runs_ok m⟩
end Go.Proofs.YtpiincgiakkljaaGreatDoor
