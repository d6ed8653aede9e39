/-
  The table of least steps, rows 32 to 34.
-/
import Derived.Test.YtpiincgiakkljaaGreatDoorFi
set_option linter.unusedSimpArgs false
set_option linter.unusedVariables false
namespace Go.Proofs.YtpiincgiakkljaaGreatDoor
open Go
set_option maxRecDepth 1000000 in
theorem fch5 (m : Int) : chunkB (fRun m fA) 3 (ft 32) (oneMem (fblk ftab32)) (ft 35) (oneMem (fblk ftab35)) = true := by kernel_rfl
end Go.Proofs.YtpiincgiakkljaaGreatDoor
