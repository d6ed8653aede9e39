/-
  ReplayRoom: the law answers true, in parts.
-/
import Derived.Test.YtpiincgiakkljaaGreatDoorAl
set_option linter.unusedSimpArgs false
set_option linter.unusedVariables false
namespace Go.Proofs.YtpiincgiakkljaaGreatDoor
open Go

noncomputable def roC : Code := bodyOf Tryz.f4
noncomputable abbrev roN : Nat := Tryz.f4.ntmps
noncomputable def roR0 (m x y : Int) : Res := rg (sq1 roC) roN m (argsTr [vb x, vb y] 0 .e) m0
noncomputable def roR1 (m x y : Int) : Res := rg (sq1 (sq2 roC)) roN m (tOf (roR0 m x y)) (mOf (roR0 m x y))
noncomputable def roT (n s : Int) : Tr AV := few [(5, vi n), (6, vi s)]
noncomputable def roR (m n s : Int) : Res := rg (sq2 (sq2 roC)) roN m (roT n s) m0
noncomputable def roB (m n s : Int) : Bool := isRet (roR m n s) && (AV.eqB ((tOf (roR m n s)).tf 4) (.bool true) && memB m0 (mOf (roR m n s)))
noncomputable def ro5 (m x y : Int) : Bool := AV.eqB ((tOf (roR1 m x y)).tf 5) (vi (1 + x % 40))
noncomputable def ro6 (m x y : Int) : Bool := AV.eqB ((tOf (roR1 m x y)).tf 6) (vi (1 + y % 8))

set_option maxRecDepth 1000000
theorem rocode : roC = .seq (sq1 roC) (.seq (sq1 (sq2 roC)) (sq2 (sq2 roC))) := by kernel_rfl
theorem robody : Tryz.f4.body = some roC := by kernel_rfl
theorem rores : Tryz.f4.results.toList = [.tmp 4] := by kernel_rfl
theorem ron0 (m x y : Int) : isNorm (roR0 m x y) = true := by kernel_rfl
theorem ron1 (m x y : Int) : isNorm (roR1 m x y) = true := by kernel_rfl
theorem rom1 (m x y : Int) : memB m0 (mOf (roR1 m x y)) = true := by kernel_rfl
theorem ro5_all (m y : Int) : (nums 256).all (fun x => ro5 m x y) = true := by kernel_rfl
theorem ro6_all (m x : Int) : (nums 256).all (fun y => ro6 m x y) = true := by kernel_rfl
theorem ro_one (m : Int) : roB m 7 3 = true := by kernel_rfl
end Go.Proofs.YtpiincgiakkljaaGreatDoor
