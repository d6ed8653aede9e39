/-
  ReplayGriewank: the law's second part.
-/
import Derived.Test.YtpiincgiakkljaaGreatDoorGr
set_option linter.unusedSimpArgs false
set_option linter.unusedVariables false
namespace Go.Proofs.YtpiincgiakkljaaGreatDoor
open Go
set_option maxRecDepth 1000000
theorem gwb2_all (m L : Int) : (nums 8).all (fun i => (nums 21).all (fun k => gwB2 m (i + 1) L k)) = true := by kernel_rfl
theorem gwA61 (m L : Int) : (nums 8).map (fun i => (nums 21).map (fun k => (tOf (gwA m (i + 1) L k)).tf 61)) = (nums 8).map (fun _ => (nums 21).map (fun _ => .bool (intEq L L))) := by kernel_rfl
theorem gw8_8 (m s L z : Int) : (tOf (gw8 m s L z)).tf 8 = vi s := by kernel_rfl
theorem gw8_10 (m s L z : Int) : (tOf (gw8 m s L z)).tf 10 = vi L := by kernel_rfl
theorem gw8_11 (m s L z : Int) : (tOf (gw8 m s L z)).tf 11 = vi L := by kernel_rfl
theorem gw8_12 (m s L z : Int) : (tOf (gw8 m s L z)).tf 12 = gwE := by kernel_rfl
end Go.Proofs.YtpiincgiakkljaaGreatDoor
