/-
  The table of least steps, rows 38 to 39.
-/
import Derived.Test.YtpiincgiakkljaaGreatDoorFi
set_option linter.unusedSimpArgs false
set_option linter.unusedVariables false
namespace Go.Proofs.YtpiincgiakkljaaGreatDoor
open Go
set_option maxRecDepth 1000000 in
theorem fch7 (m : Int) : chunkB (fRun m fA) 2 (ft 38) (oneMem (fblk ftab38)) (ft 40) (oneMem (fblk ftab40)) = true := by kernel_rfl
end Go.Proofs.YtpiincgiakkljaaGreatDoor
