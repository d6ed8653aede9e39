/-
  Every plan is right and has the least number of steps: what is checked.
-/
import Derived.Test.YtpiincgiakkljaaGreatDoorU5
set_option linter.unusedSimpArgs false
set_option linter.unusedVariables false
namespace Go.Proofs.YtpiincgiakkljaaGreatDoor
open Go

def planOk (n s : Nat) : Bool := match checkV n s (planL n s) with
  | (o, a, e) => decide ((planL n s).length ≤ 4000) && (decide (e = 0) && (decide (a = 0) && (decide (sumZ o = leastV n s) && decide (leastV n s = (rowsN n s).getD n 0))))
def planR (s a k : Nat) : Bool := (List.range k).all fun i => planOk (a + i) s
end Go.Proofs.YtpiincgiakkljaaGreatDoor
