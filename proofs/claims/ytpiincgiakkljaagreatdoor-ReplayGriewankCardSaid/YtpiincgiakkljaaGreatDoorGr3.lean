/-
  ReplayGriewank: the law's first part, runs from 31 on.
-/
import Derived.Test.YtpiincgiakkljaaGreatDoorGr
set_option linter.unusedSimpArgs false
set_option linter.unusedVariables false
namespace Go.Proofs.YtpiincgiakkljaaGreatDoor
open Go
set_option maxRecDepth 1000000
theorem gwb1_3 (m z : Int) : (nums 10).all (fun i => (nums 8).all (fun j => gwB1 m (i + 31) (j + 1) z)) = true := by kernel_rfl
theorem gwt_3 (m z : Int) : (nums 10).map (fun i => (nums 8).map (fun j => (tOf (gw7 m (i + 31) (j + 1) z)).tf 2)) = (nums 10).map (fun _ => (nums 8).map (fun _ => vb z)) := by kernel_rfl
end Go.Proofs.YtpiincgiakkljaaGreatDoor
