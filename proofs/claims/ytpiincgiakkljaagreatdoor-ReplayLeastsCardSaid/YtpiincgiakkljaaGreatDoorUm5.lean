/-
  Every plan is right and has the least number of steps (room for 7).
-/
import Derived.Test.YtpiincgiakkljaaGreatDoorUm0
set_option linter.unusedSimpArgs false
set_option linter.unusedVariables false
namespace Go.Proofs.YtpiincgiakkljaaGreatDoor
open Go

theorem plan_7a : planR 7 1 20 = true := by kernel_rfl
theorem plan_7b : planR 7 21 10 = true := by kernel_rfl
theorem plan_7c : planR 7 31 10 = true := by kernel_rfl
end Go.Proofs.YtpiincgiakkljaaGreatDoor
