/-
  The table of least steps, rows 2 to 14.
-/
import Derived.Test.YtpiincgiakkljaaGreatDoorFi
set_option linter.unusedSimpArgs false
set_option linter.unusedVariables false
namespace Go.Proofs.YtpiincgiakkljaaGreatDoor
open Go
set_option maxRecDepth 1000000 in
theorem fch0 (m : Int) : chunkB (fRun m fA) 13 (ft 2) (oneMem (fblk ftab2)) (ft 15) (oneMem (fblk ftab15)) = true := by kernel_rfl
end Go.Proofs.YtpiincgiakkljaaGreatDoor
