/-
  A gradient, evaluated.
-/
import Derived.Test.YtpiincgiakkljaaGreatDoorCk
set_option linter.unusedSimpArgs false
set_option linter.unusedVariables false
namespace Go.Proofs.YtpiincgiakkljaaGreatDoor
open Go
def a163_0 : List AV := [vD 0 0 0 [vS [102], vD 0 0 0 [vi 1, vZ] 1, vD 0 0 0 [vi 7, vD 0 0 0 [vi 0, vi 0] 2, vi 0, vF, vZ, vZ, vi 0, vS [], vi 0, vZ, vZ] 1, vD 0 0 0 [vi 1] 1] 1, vS [102], vD 0 0 0 [vi 1, vZ, vD 0 0 0 [vi 0, vF, vD 0 0 0 [vu 16] 1, vD 0 0 0 [vu 1] 1] 1, vZ] 1, vD 1 0 0 [vi 1, vZ, vD 1 0 0 [vi 0, vF, vD 1 0 0 [vu 1] 1, vD 1 0 0 [vu 1] 1] 1, vZ] 1]
def r163_0 : AV := .tup [vD 0 0 0 [vi 1, vZ, vD 0 0 0 [vi 0, vF, vD 0 0 0 [vu 256] 1, vD 0 0 0 [vu 1] 1] 1, vZ] 1, vD 0 0 0 [vi 1, vZ, vD 0 0 0 [vi 0, vF, vD 0 0 0 [vu 32] 1, vD 0 0 0 [vu 1] 1] 1, vZ] 1, vi 0]
set_option maxRecDepth 1000000 in
theorem hl163_0 (m : Int) : HasL prog (gl m) 163 a163_0 r163_0 := hasL_run (kn1_ok m) 100000 Tryz.func163 (by kernel_rfl) (by kernel_rfl) (by kernel_rfl)
end Go.Proofs.YtpiincgiakkljaaGreatDoor
