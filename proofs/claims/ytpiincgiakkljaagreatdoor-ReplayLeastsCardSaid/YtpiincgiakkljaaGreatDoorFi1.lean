/-
  The table of least steps, rows 15 to 20.
-/
import Derived.Test.YtpiincgiakkljaaGreatDoorFi
set_option linter.unusedSimpArgs false
set_option linter.unusedVariables false
namespace Go.Proofs.YtpiincgiakkljaaGreatDoor
open Go
set_option maxRecDepth 1000000 in
theorem fch1 (m : Int) : chunkB (fRun m fA) 6 (ft 15) (oneMem (fblk ftab15)) (ft 21) (oneMem (fblk ftab21)) = true := by kernel_rfl
end Go.Proofs.YtpiincgiakkljaaGreatDoor
