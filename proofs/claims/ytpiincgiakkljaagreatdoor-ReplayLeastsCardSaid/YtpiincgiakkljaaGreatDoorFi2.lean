/-
  The table of least steps, rows 21 to 24.
-/
import Derived.Test.YtpiincgiakkljaaGreatDoorFi
set_option linter.unusedSimpArgs false
set_option linter.unusedVariables false
namespace Go.Proofs.YtpiincgiakkljaaGreatDoor
open Go
set_option maxRecDepth 1000000 in
theorem fch2 (m : Int) : chunkB (fRun m fA) 4 (ft 21) (oneMem (fblk ftab21)) (ft 25) (oneMem (fblk ftab25)) = true := by kernel_rfl
end Go.Proofs.YtpiincgiakkljaaGreatDoor
