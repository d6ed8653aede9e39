/-
  Every plan is right and has the least number of steps (room for 5).
-/
import Derived.Test.YtpiincgiakkljaaGreatDoorUm0
set_option linter.unusedSimpArgs false
set_option linter.unusedVariables false
namespace Go.Proofs.YtpiincgiakkljaaGreatDoor
open Go

theorem plan_5a : planR 5 1 20 = true := by kernel_rfl
theorem plan_5b : planR 5 21 10 = true := by kernel_rfl
theorem plan_5c : planR 5 31 10 = true := by kernel_rfl
end Go.Proofs.YtpiincgiakkljaaGreatDoor
