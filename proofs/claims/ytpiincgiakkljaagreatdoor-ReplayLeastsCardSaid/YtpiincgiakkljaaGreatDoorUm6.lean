/-
  Every plan is right and has the least number of steps (room for 8).
-/
import Derived.Test.YtpiincgiakkljaaGreatDoorUm0
set_option linter.unusedSimpArgs false
set_option linter.unusedVariables false
namespace Go.Proofs.YtpiincgiakkljaaGreatDoor
open Go

theorem plan_8a : planR 8 1 20 = true := by kernel_rfl
theorem plan_8b : planR 8 21 10 = true := by kernel_rfl
theorem plan_8c : planR 8 31 10 = true := by kernel_rfl
end Go.Proofs.YtpiincgiakkljaaGreatDoor
