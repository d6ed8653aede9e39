/-
  replayLeasts: the row's closed facts, each by itself.
-/
import Derived.Test.YtpiincgiakkljaaGreatDoorRows
import Derived.JoinedOf
set_option linter.unusedSimpArgs false
set_option linter.unusedVariables false
namespace Go.Proofs.YtpiincgiakkljaaGreatDoor
open Go Go.Proofs.YtpiincgiakkljaaGreatDoor
namespace Lq
noncomputable abbrev P : Program := Tryz.pinned.checked.prog
noncomputable abbrev c : OpenClaim := Rows.replayLeastsRow
noncomputable abbrev s : ChangeSpec := Rows.replayLeastsSpec
theorem k1 : (c.wf (OpenSpec.ofChange s)) = true := by kernel_rfl
theorem k2 : (laidOutB P) = true := by kernel_rfl
theorem k3 : (mapsRowed P) = true := by kernel_rfl
theorem k4 : (Tryz.f6.params.all (P.readableRec ·)) = true := by kernel_rfl
theorem k5 : (namedTie P c.named s.vars) = true := by kernel_rfl
theorem k6 : (c.stops == []) = true := by kernel_rfl
theorem k7 : (P.stops == []) = true := by kernel_rfl
theorem k8 : (c.knobs == []) = true := by kernel_rfl
theorem k9 : (P.stopKnobs == []) = true := by kernel_rfl
theorem k10 : (c.inPlace == P.inPlace 6) = true := by kernel_rfl
end Lq
end Go.Proofs.YtpiincgiakkljaaGreatDoor
