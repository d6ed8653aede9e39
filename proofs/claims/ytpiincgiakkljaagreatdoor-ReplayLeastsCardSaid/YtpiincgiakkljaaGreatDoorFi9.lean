/-
  The table of least steps, rows 37.
-/
import Derived.Test.YtpiincgiakkljaaGreatDoorFi
set_option linter.unusedSimpArgs false
set_option linter.unusedVariables false
namespace Go.Proofs.YtpiincgiakkljaaGreatDoor
open Go
set_option maxRecDepth 1000000 in
theorem fch9 (m : Int) : chunkB (fRun m fA) 1 (ft 37) (oneMem (fblk ftab37)) (ft 38) (oneMem (fblk ftab38)) = true := by kernel_rfl
end Go.Proofs.YtpiincgiakkljaaGreatDoor
