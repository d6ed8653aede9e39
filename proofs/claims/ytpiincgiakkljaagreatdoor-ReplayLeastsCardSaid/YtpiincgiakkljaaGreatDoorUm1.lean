/-
  Every plan is right and has the least number of steps (room for 1 and 2).
-/
import Derived.Test.YtpiincgiakkljaaGreatDoorUm0
set_option linter.unusedSimpArgs false
set_option linter.unusedVariables false
namespace Go.Proofs.YtpiincgiakkljaaGreatDoor
open Go

theorem plan_1a : planR 1 1 20 = true := by kernel_rfl
theorem plan_1b : planR 1 21 10 = true := by kernel_rfl
theorem plan_1c : planR 1 31 10 = true := by kernel_rfl
theorem plan_2a : planR 2 1 20 = true := by kernel_rfl
theorem plan_2b : planR 2 21 10 = true := by kernel_rfl
theorem plan_2c : planR 2 31 10 = true := by kernel_rfl
end Go.Proofs.YtpiincgiakkljaaGreatDoor
