/-
  DERIVED. GIVEN WITH THE SEED: THE CARDS: each row of YtnjkaahbhebaeaaGreatDoorRows.lean that lists a variable, with what it lists TIED to the program's text (the seventh form; the later family's looks); each row that meets fmt, with fmt's text TOLD by the authors' own Lean function (tested against real Go, not proved from fmt's source: count such statements apart). THE CARD IS WHAT COUNTS. Prove the row's statement (the work); the ties are given (YtnjkaahbhebaeaaGreatDoorTie.lean); close each card by the builder's one call (the guide's Derived/Test/ToyasCard.lean, 'card_holds'). Laid BY PROGRAM, IN A SANDBOX (cutbox-door.mjs). By AI agents, Wed Nov 11 2026. No macro, syntax, notation, axiom, sorry.
-/
import Derived.Test.YtnjkaahbhebaeaaGreatDoorRows
import GoSem.ClaimSeven
namespace Go.Proofs.YtnjkaahbhebaeaaGreatDoor
namespace Rows

/-- THE TIED CARD OF 'timetablelaw11.LinkMade'. -/
def linkMadeCard : Claim7 := { stood := { row := linkMadeRow, standIns := [], harness := (true, "a2ee8ca2ff0692cb9d9c9e74d36470ddb9de0f9759f0cc331b3d5163bf5e61d1"), looks := false }, kinds := [], alts := [], laidByText := true, laidKinds := [.listed, .data], laidTests := true, laidLooks := .later }
def LinkMadeCardSaid : Prop := Claim7.holds Tryz.pinned (.plain (OpenSpec.ofChange linkMadeSpec)) linkMadeCard

/-- THE TIED CARD OF 'timetablelaw11.LinkCalls'. -/
def linkCallsCard : Claim7 := { stood := { row := linkCallsRow, standIns := [], harness := (true, "a2ee8ca2ff0692cb9d9c9e74d36470ddb9de0f9759f0cc331b3d5163bf5e61d1"), looks := false }, kinds := [], alts := [], laidByText := true, laidKinds := [.listed, .data], laidTests := true, laidLooks := .later }
def LinkCallsCardSaid : Prop := Claim7.holds Tryz.pinned (.plain (OpenSpec.ofChange linkCallsSpec)) linkCallsCard

/-- THE TIED CARD OF 'timetablelaw16.StateLess'. -/
def stateLessCard : Claim7 := { stood := { row := stateLessRow, standIns := [], harness := (true, "a2ee8ca2ff0692cb9d9c9e74d36470ddb9de0f9759f0cc331b3d5163bf5e61d1"), looks := false }, kinds := [], alts := [], laidByText := true, laidKinds := [.listed, .data], laidTests := true, laidLooks := .later }
def StateLessCardSaid : Prop := Claim7.holds Tryz.pinned (.plain (OpenSpec.ofChange stateLessSpec)) stateLessCard

/-- THE TIED CARD OF 'timetablelaw16.StateGone'. -/
def stateGoneCard : Claim7 := { stood := { row := stateGoneRow, standIns := [], harness := (true, "a2ee8ca2ff0692cb9d9c9e74d36470ddb9de0f9759f0cc331b3d5163bf5e61d1"), looks := false }, kinds := [], alts := [], laidByText := true, laidKinds := [.listed, .data], laidTests := true, laidLooks := .later }
def StateGoneCardSaid : Prop := Claim7.holds Tryz.pinned (.plain (OpenSpec.ofChange stateGoneSpec)) stateGoneCard

/-- THE TIED CARD OF 'timetablelaw16.StateRuns'. -/
def stateRunsCard : Claim7 := { stood := { row := stateRunsRow, standIns := [], harness := (true, "a2ee8ca2ff0692cb9d9c9e74d36470ddb9de0f9759f0cc331b3d5163bf5e61d1"), looks := false }, kinds := [], alts := [], laidByText := true, laidKinds := [.listed, .data], laidTests := true, laidLooks := .later }
def StateRunsCardSaid : Prop := Claim7.holds Tryz.pinned (.plain (OpenSpec.ofChange stateRunsSpec)) stateRunsCard

/-- THE TIED CARD OF 'timetablelaw16.StatePlain'. -/
def statePlainCard : Claim7 := { stood := { row := statePlainRow, standIns := [], harness := (true, "a2ee8ca2ff0692cb9d9c9e74d36470ddb9de0f9759f0cc331b3d5163bf5e61d1"), looks := false }, kinds := [], alts := [], laidByText := true, laidKinds := [.listed, .data], laidTests := true, laidLooks := .later }
def StatePlainCardSaid : Prop := Claim7.holds Tryz.pinned (.plain (OpenSpec.ofChange statePlainSpec)) statePlainCard

/-- THE TIED CARD OF 'timetablelaw23.JourneyWaits'. -/
def journeyWaitsCard : Claim7 := { stood := { row := journeyWaitsRow, standIns := [], harness := (true, "a2ee8ca2ff0692cb9d9c9e74d36470ddb9de0f9759f0cc331b3d5163bf5e61d1"), looks := false }, kinds := [], alts := [], laidByText := true, laidKinds := [.listed, .data], laidTests := true, laidLooks := .later }
def JourneyWaitsCardSaid : Prop := Claim7.holds Tryz.pinned (.plain (OpenSpec.ofChange journeyWaitsSpec)) journeyWaitsCard

/-- THE TIED CARD OF 'timetablelaw23.JourneyJoins'. -/
def journeyJoinsCard : Claim7 := { stood := { row := journeyJoinsRow, standIns := [], harness := (true, "a2ee8ca2ff0692cb9d9c9e74d36470ddb9de0f9759f0cc331b3d5163bf5e61d1"), looks := false }, kinds := [], alts := [], laidByText := true, laidKinds := [.listed, .data], laidTests := true, laidLooks := .later }
def JourneyJoinsCardSaid : Prop := Claim7.holds Tryz.pinned (.plain (OpenSpec.ofChange journeyJoinsSpec)) journeyJoinsCard

/-- THE SECOND FORM's CARD OF 'timetablelaw11.LinkMade'. -/
def linkMadeUptoCard : Claim7 := { stood := { row := linkMadeUptoRow, standIns := [], harness := (true, "a2ee8ca2ff0692cb9d9c9e74d36470ddb9de0f9759f0cc331b3d5163bf5e61d1"), looks := false }, kinds := [], alts := [], laidByText := true, laidKinds := [.listed, .data], laidTests := true, laidLooks := .later }
def LinkMadeUptoCardSaid : Prop := Claim7.holds Tryz.pinned (.plain (OpenSpec.upto linkMadeSpec)) linkMadeUptoCard

/-- THE SECOND FORM's CARD OF 'timetablelaw11.LinkCalls'. -/
def linkCallsUptoCard : Claim7 := { stood := { row := linkCallsUptoRow, standIns := [], harness := (true, "a2ee8ca2ff0692cb9d9c9e74d36470ddb9de0f9759f0cc331b3d5163bf5e61d1"), looks := false }, kinds := [], alts := [], laidByText := true, laidKinds := [.listed, .data], laidTests := true, laidLooks := .later }
def LinkCallsUptoCardSaid : Prop := Claim7.holds Tryz.pinned (.plain (OpenSpec.upto linkCallsSpec)) linkCallsUptoCard

/-- THE SECOND FORM's CARD OF 'timetablelaw16.StateLess'. -/
def stateLessUptoCard : Claim7 := { stood := { row := stateLessUptoRow, standIns := [], harness := (true, "a2ee8ca2ff0692cb9d9c9e74d36470ddb9de0f9759f0cc331b3d5163bf5e61d1"), looks := false }, kinds := [], alts := [], laidByText := true, laidKinds := [.listed, .data], laidTests := true, laidLooks := .later }
def StateLessUptoCardSaid : Prop := Claim7.holds Tryz.pinned (.plain (OpenSpec.upto stateLessSpec)) stateLessUptoCard

/-- THE SECOND FORM's CARD OF 'timetablelaw16.StateGone'. -/
def stateGoneUptoCard : Claim7 := { stood := { row := stateGoneUptoRow, standIns := [], harness := (true, "a2ee8ca2ff0692cb9d9c9e74d36470ddb9de0f9759f0cc331b3d5163bf5e61d1"), looks := false }, kinds := [], alts := [], laidByText := true, laidKinds := [.listed, .data], laidTests := true, laidLooks := .later }
def StateGoneUptoCardSaid : Prop := Claim7.holds Tryz.pinned (.plain (OpenSpec.upto stateGoneSpec)) stateGoneUptoCard

/-- THE SECOND FORM's CARD OF 'timetablelaw16.StateRuns'. -/
def stateRunsUptoCard : Claim7 := { stood := { row := stateRunsUptoRow, standIns := [], harness := (true, "a2ee8ca2ff0692cb9d9c9e74d36470ddb9de0f9759f0cc331b3d5163bf5e61d1"), looks := false }, kinds := [], alts := [], laidByText := true, laidKinds := [.listed, .data], laidTests := true, laidLooks := .later }
def StateRunsUptoCardSaid : Prop := Claim7.holds Tryz.pinned (.plain (OpenSpec.upto stateRunsSpec)) stateRunsUptoCard

/-- THE SECOND FORM's CARD OF 'timetablelaw16.StatePlain'. -/
def statePlainUptoCard : Claim7 := { stood := { row := statePlainUptoRow, standIns := [], harness := (true, "a2ee8ca2ff0692cb9d9c9e74d36470ddb9de0f9759f0cc331b3d5163bf5e61d1"), looks := false }, kinds := [], alts := [], laidByText := true, laidKinds := [.listed, .data], laidTests := true, laidLooks := .later }
def StatePlainUptoCardSaid : Prop := Claim7.holds Tryz.pinned (.plain (OpenSpec.upto statePlainSpec)) statePlainUptoCard

/-- THE SECOND FORM's CARD OF 'timetablelaw23.JourneyWaits'. -/
def journeyWaitsUptoCard : Claim7 := { stood := { row := journeyWaitsUptoRow, standIns := [], harness := (true, "a2ee8ca2ff0692cb9d9c9e74d36470ddb9de0f9759f0cc331b3d5163bf5e61d1"), looks := false }, kinds := [], alts := [], laidByText := true, laidKinds := [.listed, .data], laidTests := true, laidLooks := .later }
def JourneyWaitsUptoCardSaid : Prop := Claim7.holds Tryz.pinned (.plain (OpenSpec.upto journeyWaitsSpec)) journeyWaitsUptoCard

/-- THE SECOND FORM's CARD OF 'timetablelaw23.JourneyJoins'. -/
def journeyJoinsUptoCard : Claim7 := { stood := { row := journeyJoinsUptoRow, standIns := [], harness := (true, "a2ee8ca2ff0692cb9d9c9e74d36470ddb9de0f9759f0cc331b3d5163bf5e61d1"), looks := false }, kinds := [], alts := [], laidByText := true, laidKinds := [.listed, .data], laidTests := true, laidLooks := .later }
def JourneyJoinsUptoCardSaid : Prop := Claim7.holds Tryz.pinned (.plain (OpenSpec.upto journeyJoinsSpec)) journeyJoinsUptoCard
end Rows
end Go.Proofs.YtnjkaahbhebaeaaGreatDoor
