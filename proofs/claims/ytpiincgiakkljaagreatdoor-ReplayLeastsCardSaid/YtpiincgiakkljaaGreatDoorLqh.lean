/-
  replayLeasts: the row's closed facts, each by itself (the card).
-/
import Derived.Test.YtpiincgiakkljaaGreatDoorLqf
import Derived.SevenTiedAt
set_option linter.unusedSimpArgs false
set_option linter.unusedVariables false
namespace Go.Proofs.YtpiincgiakkljaaGreatDoor
open Go Go.Proofs.YtpiincgiakkljaaGreatDoor
namespace Lq
theorem c1 : c.wfByText (OpenSpec.ofChange s) = true := by kernel_rfl
theorem c2 : Tryz.pinned.checked.prog.mainIs = some (true, ("8fb5b28016e84a67a0e1f14cd2339e1d1eeab6d3e91a6fffedca04390ffe7e5d" : String).toList) := by kernel_rfl
theorem c3 : true = Tryz.pinned.checked.prog.looks [] := by kernel_rfl
theorem c4 : ([3, 3, 3].all fun u => !Tryz.pinned.checked.prog.wantsStandIn u) = true := by kernel_rfl
theorem c5 : false = c.goesBy Tryz.pinned.checked.prog := by kernel_rfl
theorem c6 : Tryz.pinned.checked.prog.funcNamed "fluxion/fluxionlaw18.ReplayLeasts" = some 6 := by kernel_rfl
end Lq
end Go.Proofs.YtpiincgiakkljaaGreatDoor
