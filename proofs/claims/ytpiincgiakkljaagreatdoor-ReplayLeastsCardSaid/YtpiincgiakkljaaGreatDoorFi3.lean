/-
  The table of least steps, rows 25 to 28.
-/
import Derived.Test.YtpiincgiakkljaaGreatDoorFi
set_option linter.unusedSimpArgs false
set_option linter.unusedVariables false
namespace Go.Proofs.YtpiincgiakkljaaGreatDoor
open Go
set_option maxRecDepth 1000000 in
theorem fch3 (m : Int) : chunkB (fRun m fA) 4 (ft 25) (oneMem (fblk ftab25)) (ft 29) (oneMem (fblk ftab29)) = true := by kernel_rfl
end Go.Proofs.YtpiincgiakkljaaGreatDoor
