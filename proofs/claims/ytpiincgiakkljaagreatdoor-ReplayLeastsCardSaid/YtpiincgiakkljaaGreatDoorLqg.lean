/-
  replayLeasts: the row's closed facts, each by itself (more).
-/
import Derived.Test.YtpiincgiakkljaaGreatDoorLqf
set_option linter.unusedSimpArgs false
set_option linter.unusedVariables false
namespace Go.Proofs.YtpiincgiakkljaaGreatDoor
open Go Go.Proofs.YtpiincgiakkljaaGreatDoor
namespace Lq
theorem k11 : (c.unfollowed == P.unfollowed 6) = true := by kernel_rfl
theorem k12 : (c.recurses == P.recurses 6) = true := by kernel_rfl
theorem k13 : (c.named == P.varsNamed 6) = true := by kernel_rfl
theorem k14 : (c.maps == (Tryz.f6.params.toList ++ s.plain.varTypes P).any (P.mapsRec ·)) = true := by kernel_rfl
theorem k15 : (c.ifaces == (Tryz.f6.params.toList ++ s.plain.varTypes P).any (P.ifacesRec ·)) = true := by kernel_rfl
theorem k16 : (c.mapsOut == P.mapsAmong Tryz.f6.resultTypes.toList) = true := by kernel_rfl
theorem k17 : (c.loops == (Tryz.f6.params.toList ++ s.plain.varTypes P).any (P.loopsFrom ·)) = true := by kernel_rfl
theorem k18 : (c.wideKeys == (Tryz.f6.params.toList ++ s.plain.varTypes P ++ Tryz.f6.resultTypes.toList).any (P.wideKeysFrom ·)) = true := by kernel_rfl
theorem k19 : (s.vars.all (P.varReadable ·)) = true := by kernel_rfl
theorem k20 : (Tryz.f6.resultTypes.all (fun t => P.readableRec t && decide (t < P.types.size))) = true := by kernel_rfl
theorem k21 : (c.ifacesOut == Tryz.f6.resultTypes.toList.any (P.ifacesRec ·)) = true := by kernel_rfl
theorem k22 : (c.loopsOut == Tryz.f6.resultTypes.toList.any (P.loopsFrom ·)) = true := by kernel_rfl
theorem k23 : (c.plainKeys == P.plainKeys) = true := by kernel_rfl
theorem k24 : (c.shortTexts.isNone) = true := by kernel_rfl
theorem k25 : (P.stopsHeard) = true := by kernel_rfl
theorem k26 : (P.mayEnter) = true := by kernel_rfl
theorem k27 : (c.lifted == P.liftsFinal) = true := by kernel_rfl
theorem k28 : (P.make == some c.make) = true := by kernel_rfl
theorem k30 : (c.pinned == c.pinnedBy) = true := by kernel_rfl
theorem k31 : (c.veiled == (Tryz.f6.params.toList ++ s.plain.varTypes P ++ Tryz.f6.resultTypes.toList).any (P.veiledRec ·)) = true := by kernel_rfl
theorem k32 : (c.veiledFits P Tryz.f6.params.toList (Tryz.f6.params.toList ++ s.plain.varTypes P ++ Tryz.f6.resultTypes.toList)) = true := by kernel_rfl
set_option maxRecDepth 100000 in
theorem closed : joinedFacts P 6 Tryz.f6 s c = true := by
  unfold joinedFacts
  simp only [Bool.and_eq_true]
  exact ⟨⟨⟨⟨⟨⟨⟨⟨⟨⟨⟨⟨⟨⟨⟨⟨⟨⟨⟨⟨⟨⟨⟨⟨⟨⟨⟨⟨⟨⟨⟨k1, k2⟩, k3⟩, k4⟩, k5⟩, k6⟩, k7⟩, k8⟩, k9⟩, k10⟩, k11⟩, k12⟩, k13⟩, k14⟩, k15⟩, k16⟩, k17⟩, k18⟩, k19⟩, k20⟩, k21⟩, k22⟩, k23⟩, k24⟩, k25⟩, k26⟩, k27⟩, k28⟩, by kernel_rfl⟩, k30⟩, k31⟩, k32⟩
end Lq
end Go.Proofs.YtpiincgiakkljaaGreatDoor
