/-
  ReplayRoom: the law answers true, runs from 21 on.
-/
import Derived.Test.YtpiincgiakkljaaGreatDoorLr
set_option linter.unusedSimpArgs false
set_option linter.unusedVariables false
namespace Go.Proofs.YtpiincgiakkljaaGreatDoor
open Go
set_option maxRecDepth 1000000
theorem ro_all2 (m : Int) : (nums 10).all (fun i => (nums 8).all (fun j => roB m (i + 21) (j + 1))) = true := by kernel_rfl
end Go.Proofs.YtpiincgiakkljaaGreatDoor
