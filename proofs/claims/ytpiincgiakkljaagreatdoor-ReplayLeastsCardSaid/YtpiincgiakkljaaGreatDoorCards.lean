/-
  DERIVED. GIVEN WITH THE SEED: THE CARDS: each row of YtpiincgiakkljaaGreatDoorRows.lean that lists a variable, with what it lists TIED to the program's text (the seventh form; the later family's looks); each row that meets fmt, with fmt's text TOLD by the authors' own Lean function (tested against real Go, not proved from fmt's source: count such statements apart). THE CARD IS WHAT COUNTS. Prove the row's statement (the work); the ties are given (YtpiincgiakkljaaGreatDoorTie.lean); close each card by the builder's one call (the guide's Derived/Test/ToyasCard.lean, 'card_holds'). Laid BY PROGRAM, IN A SANDBOX (cutbox-door.mjs). By AI agents, Wed Nov 11 2026. No macro, syntax, notation, axiom, sorry.
-/
import Derived.Test.YtpiincgiakkljaaGreatDoorRows
import GoSem.ClaimSeven
namespace Go.Proofs.YtpiincgiakkljaaGreatDoor
namespace Rows

/-- THE TIED CARD OF 'fluxionlaw18.ReplayGriewank'. -/
def replayGriewankCard : Claim7 := { stood := { row := replayGriewankRow, standIns := [], harness := (true, "8fb5b28016e84a67a0e1f14cd2339e1d1eeab6d3e91a6fffedca04390ffe7e5d"), looks := true }, kinds := [], alts := [], laidByText := true, laidKinds := [.data, .data, .data, .data, .sentinel, .sentinel, .data, .data, .data, .data, .data, .pinned], laidTests := true, laidLooks := .later }
def ReplayGriewankCardSaid : Prop := Claim7.holds Tryz.pinned (.plain (OpenSpec.ofChange replayGriewankSpec)) replayGriewankCard

/-- THE TIED CARD OF 'fluxionlaw18.ReplayRoom'. -/
def replayRoomCard : Claim7 := { stood := { row := replayRoomRow, standIns := [], harness := (true, "8fb5b28016e84a67a0e1f14cd2339e1d1eeab6d3e91a6fffedca04390ffe7e5d"), looks := true }, kinds := [], alts := [], laidByText := true, laidKinds := [.data, .data, .data, .data, .sentinel, .sentinel, .data, .data, .data, .data, .data, .pinned], laidTests := true, laidLooks := .later }
def ReplayRoomCardSaid : Prop := Claim7.holds Tryz.pinned (.plain (OpenSpec.ofChange replayRoomSpec)) replayRoomCard

/-- THE TIED CARD OF 'fluxionlaw18.ReplayChecks'. -/
def replayChecksCard : Claim7 := { stood := { row := replayChecksRow, standIns := [], harness := (true, "8fb5b28016e84a67a0e1f14cd2339e1d1eeab6d3e91a6fffedca04390ffe7e5d"), looks := true }, kinds := [], alts := [], laidByText := true, laidKinds := [.data, .data, .data, .data, .sentinel, .sentinel, .data, .data, .data, .data, .data, .pinned], laidTests := true, laidLooks := .later }
def ReplayChecksCardSaid : Prop := Claim7.holds Tryz.pinned (.plain (OpenSpec.ofChange replayChecksSpec)) replayChecksCard

/-- THE TIED CARD OF 'fluxionlaw18.ReplayLeasts'. -/
def replayLeastsCard : Claim7 := { stood := { row := replayLeastsRow, standIns := [], harness := (true, "8fb5b28016e84a67a0e1f14cd2339e1d1eeab6d3e91a6fffedca04390ffe7e5d"), looks := true }, kinds := [], alts := [], laidByText := true, laidKinds := [.data, .data, .data, .data, .sentinel, .sentinel, .data, .data, .data, .data, .data, .pinned], laidTests := true, laidLooks := .later }
def ReplayLeastsCardSaid : Prop := Claim7.holds Tryz.pinned (.plain (OpenSpec.ofChange replayLeastsSpec)) replayLeastsCard

/-- THE SECOND FORM's CARD OF 'fluxionlaw18.ReplayGriewank'. -/
def replayGriewankUptoCard : Claim7 := { stood := { row := replayGriewankUptoRow, standIns := [], harness := (true, "8fb5b28016e84a67a0e1f14cd2339e1d1eeab6d3e91a6fffedca04390ffe7e5d"), looks := true }, kinds := [], alts := [], laidByText := true, laidKinds := [.data, .data, .data, .data, .sentinel, .sentinel, .data, .data, .data, .data, .data, .pinned], laidTests := true, laidLooks := .later }
def ReplayGriewankUptoCardSaid : Prop := Claim7.holds Tryz.pinned (.plain (OpenSpec.upto replayGriewankSpec)) replayGriewankUptoCard

/-- THE SECOND FORM's CARD OF 'fluxionlaw18.ReplayRoom'. -/
def replayRoomUptoCard : Claim7 := { stood := { row := replayRoomUptoRow, standIns := [], harness := (true, "8fb5b28016e84a67a0e1f14cd2339e1d1eeab6d3e91a6fffedca04390ffe7e5d"), looks := true }, kinds := [], alts := [], laidByText := true, laidKinds := [.data, .data, .data, .data, .sentinel, .sentinel, .data, .data, .data, .data, .data, .pinned], laidTests := true, laidLooks := .later }
def ReplayRoomUptoCardSaid : Prop := Claim7.holds Tryz.pinned (.plain (OpenSpec.upto replayRoomSpec)) replayRoomUptoCard

/-- THE SECOND FORM's CARD OF 'fluxionlaw18.ReplayChecks'. -/
def replayChecksUptoCard : Claim7 := { stood := { row := replayChecksUptoRow, standIns := [], harness := (true, "8fb5b28016e84a67a0e1f14cd2339e1d1eeab6d3e91a6fffedca04390ffe7e5d"), looks := true }, kinds := [], alts := [], laidByText := true, laidKinds := [.data, .data, .data, .data, .sentinel, .sentinel, .data, .data, .data, .data, .data, .pinned], laidTests := true, laidLooks := .later }
def ReplayChecksUptoCardSaid : Prop := Claim7.holds Tryz.pinned (.plain (OpenSpec.upto replayChecksSpec)) replayChecksUptoCard

/-- THE SECOND FORM's CARD OF 'fluxionlaw18.ReplayLeasts'. -/
def replayLeastsUptoCard : Claim7 := { stood := { row := replayLeastsUptoRow, standIns := [], harness := (true, "8fb5b28016e84a67a0e1f14cd2339e1d1eeab6d3e91a6fffedca04390ffe7e5d"), looks := true }, kinds := [], alts := [], laidByText := true, laidKinds := [.data, .data, .data, .data, .sentinel, .sentinel, .data, .data, .data, .data, .data, .pinned], laidTests := true, laidLooks := .later }
def ReplayLeastsUptoCardSaid : Prop := Claim7.holds Tryz.pinned (.plain (OpenSpec.upto replayLeastsSpec)) replayLeastsUptoCard
end Rows
end Go.Proofs.YtpiincgiakkljaaGreatDoor
