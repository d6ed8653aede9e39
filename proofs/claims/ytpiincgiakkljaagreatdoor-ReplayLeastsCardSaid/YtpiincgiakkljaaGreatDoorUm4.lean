/-
  Every plan is right and has the least number of steps (room for 6).
-/
import Derived.Test.YtpiincgiakkljaaGreatDoorUm0
set_option linter.unusedSimpArgs false
set_option linter.unusedVariables false
namespace Go.Proofs.YtpiincgiakkljaaGreatDoor
open Go

theorem plan_6a : planR 6 1 20 = true := by kernel_rfl
theorem plan_6b : planR 6 21 10 = true := by kernel_rfl
theorem plan_6c : planR 6 31 10 = true := by kernel_rfl
end Go.Proofs.YtpiincgiakkljaaGreatDoor
