/-
  Runs of the function, evaluated.
-/
import Derived.Test.YtpiincgiakkljaaGreatDoorGa
set_option linter.unusedSimpArgs false
set_option linter.unusedVariables false
namespace Go.Proofs.YtpiincgiakkljaaGreatDoor
open Go
def a68_0 : List AV := [vD 0 0 0 [vS [102], vD 0 0 0 [vi 1, vZ] 1, vD 0 0 0 [vi 7, vD 0 0 0 [vi 0, vi 0] 2, vi 0, vF, vZ, vZ, vi 0, vS [], vi 0, vZ, vZ] 1, vD 0 0 0 [vi 1] 1] 1, vS [102], vD 1 0 0 [vi 1, vZ, vD 1 0 0 [vi 0, vF, vD 1 0 0 [vu 2] 1, vD 1 0 0 [vu 1] 1] 1, vZ] 1]
def r68_0 : AV := .tup [vD 0 0 0 [vi 1, vZ, vD 0 0 0 [vi 0, vF, vD 0 0 0 [vu 4] 1, vD 0 0 0 [vu 1] 1] 1, vZ] 1, vi 2, vi 0]
set_option maxRecDepth 1000000 in
theorem hl68_0 (m : Int) : HasL prog (gl m) 68 a68_0 r68_0 := hasL_run (kn0_ok m) 100000 Tryz.func68 (by kernel_rfl) (by kernel_rfl) (by kernel_rfl)
def a68_1 : List AV := [vD 0 0 0 [vS [102], vD 0 0 0 [vi 1, vZ] 1, vD 0 0 0 [vi 7, vD 0 0 0 [vi 0, vi 0] 2, vi 0, vF, vZ, vZ, vi 0, vS [], vi 0, vZ, vZ] 1, vD 0 0 0 [vi 1] 1] 1, vS [102], vD 0 0 0 [vi 1, vZ, vD 0 0 0 [vi 0, vF, vD 0 0 0 [vu 4] 1, vD 0 0 0 [vu 1] 1] 1, vZ] 1]
def r68_1 : AV := .tup [vD 0 0 0 [vi 1, vZ, vD 0 0 0 [vi 0, vF, vD 0 0 0 [vu 16] 1, vD 0 0 0 [vu 1] 1] 1, vZ] 1, vi 2, vi 0]
set_option maxRecDepth 1000000 in
theorem hl68_1 (m : Int) : HasL prog (gl m) 68 a68_1 r68_1 := hasL_run (kn0_ok m) 100000 Tryz.func68 (by kernel_rfl) (by kernel_rfl) (by kernel_rfl)
def a68_2 : List AV := [vD 0 0 0 [vS [102], vD 0 0 0 [vi 1, vZ] 1, vD 0 0 0 [vi 7, vD 0 0 0 [vi 0, vi 0] 2, vi 0, vF, vZ, vZ, vi 0, vS [], vi 0, vZ, vZ] 1, vD 0 0 0 [vi 1] 1] 1, vS [102], vD 0 0 0 [vi 1, vZ, vD 0 0 0 [vi 0, vF, vD 0 0 0 [vu 16] 1, vD 0 0 0 [vu 1] 1] 1, vZ] 1]
def r68_2 : AV := .tup [vD 0 0 0 [vi 1, vZ, vD 0 0 0 [vi 0, vF, vD 0 0 0 [vu 256] 1, vD 0 0 0 [vu 1] 1] 1, vZ] 1, vi 2, vi 0]
set_option maxRecDepth 1000000 in
theorem hl68_2 (m : Int) : HasL prog (gl m) 68 a68_2 r68_2 := hasL_run (kn0_ok m) 100000 Tryz.func68 (by kernel_rfl) (by kernel_rfl) (by kernel_rfl)
end Go.Proofs.YtpiincgiakkljaaGreatDoor
