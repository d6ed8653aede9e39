/-
  The table of least steps, rows 40 to 40.
-/
import Derived.Test.YtpiincgiakkljaaGreatDoorFi
set_option linter.unusedSimpArgs false
set_option linter.unusedVariables false
namespace Go.Proofs.YtpiincgiakkljaaGreatDoor
open Go
set_option maxRecDepth 1000000 in
theorem fch8 (m : Int) : chunkB (fRun m fA) 1 (ft 40) (oneMem (fblk ftab40)) (ft 41) (oneMem (fblk ftab41)) = true := by kernel_rfl
end Go.Proofs.YtpiincgiakkljaaGreatDoor
