/-
  The table of least steps, rows 29 to 31.
-/
import Derived.Test.YtpiincgiakkljaaGreatDoorFi
set_option linter.unusedSimpArgs false
set_option linter.unusedVariables false
namespace Go.Proofs.YtpiincgiakkljaaGreatDoor
open Go
set_option maxRecDepth 1000000 in
theorem fch4 (m : Int) : chunkB (fRun m fA) 3 (ft 29) (oneMem (fblk ftab29)) (ft 32) (oneMem (fblk ftab32)) = true := by kernel_rfl
end Go.Proofs.YtpiincgiakkljaaGreatDoor
