/-
  The table of least steps, rows 35 and 36.
-/
import Derived.Test.YtpiincgiakkljaaGreatDoorFi
set_option linter.unusedSimpArgs false
set_option linter.unusedVariables false
namespace Go.Proofs.YtpiincgiakkljaaGreatDoor
open Go
set_option maxRecDepth 1000000 in
theorem fch6 (m : Int) : chunkB (fRun m fA) 2 (ft 35) (oneMem (fblk ftab35)) (ft 37) (oneMem (fblk ftab37)) = true := by kernel_rfl
end Go.Proofs.YtpiincgiakkljaaGreatDoor
