/-
  The reading of the text, evaluated.
-/
import Derived.Test.YtpiincgiakkljaaGreatDoorGa
set_option linter.unusedSimpArgs false
set_option linter.unusedVariables false
namespace Go.Proofs.YtpiincgiakkljaaGreatDoor
open Go
def a24_0 : List AV := [vS [100, 101, 102, 32, 102, 40, 118, 48, 58, 32, 114, 101, 97, 108, 41, 10, 32, 32, 118, 49, 32, 61, 32, 109, 117, 108, 32, 118, 48, 32, 118, 48, 10, 32, 32, 114, 101, 116, 32, 118, 49, 10]]
def r24_0 : AV := .tup [vD 0 0 0 [vS [102], vD 0 0 0 [vi 1, vZ] 1, vD 0 0 0 [vi 7, vD 0 0 0 [vi 0, vi 0] 2, vi 0, vF, vZ, vZ, vi 0, vS [], vi 0, vZ, vZ] 1, vD 0 0 0 [vi 1] 1] 1, vi 0]
set_option maxRecDepth 1000000 in
theorem hl24_0 (m : Int) : HasL prog (gl m) 24 a24_0 r24_0 := hasL_run (kn0_ok m) 100000 Tryz.func24 (by kernel_rfl) (by kernel_rfl) (by kernel_rfl)
end Go.Proofs.YtpiincgiakkljaaGreatDoor
