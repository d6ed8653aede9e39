/-
  Every plan is right and has the least number of steps (room for 3 and 4).
-/
import Derived.Test.YtpiincgiakkljaaGreatDoorUm0
set_option linter.unusedSimpArgs false
set_option linter.unusedVariables false
namespace Go.Proofs.YtpiincgiakkljaaGreatDoor
open Go

theorem plan_3a : planR 3 1 20 = true := by kernel_rfl
theorem plan_3b : planR 3 21 10 = true := by kernel_rfl
theorem plan_3c : planR 3 31 10 = true := by kernel_rfl
theorem plan_4a : planR 4 1 20 = true := by kernel_rfl
theorem plan_4b : planR 4 21 10 = true := by kernel_rfl
theorem plan_4c : planR 4 31 10 = true := by kernel_rfl
end Go.Proofs.YtpiincgiakkljaaGreatDoor
