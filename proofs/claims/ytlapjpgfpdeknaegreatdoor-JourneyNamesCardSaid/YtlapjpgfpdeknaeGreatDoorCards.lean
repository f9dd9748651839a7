/-
  DERIVED. GIVEN WITH THE SEED: THE CARDS: each row of YtlapjpgfpdeknaeGreatDoorRows.lean that lists a variable, with what it lists TIED to the program's text (the seventh form; the later family's looks); each row that meets fmt, with fmt's text TOLD by the authors' own Lean function (tested against real Go, not proved from fmt's source: count such statements apart). THE CARD IS WHAT COUNTS. Prove the row's statement (the work); the ties are given (YtlapjpgfpdeknaeGreatDoorTie.lean); close each card by the builder's one call (the guide's Derived/Test/ToyasCard.lean, 'card_holds'). Laid BY PROGRAM, IN A SANDBOX (cutbox-door.mjs). By AI agents, Wed Nov 11 2026. No macro, syntax, notation, axiom, sorry.
-/
import Derived.Test.YtlapjpgfpdeknaeGreatDoorRows
import GoSem.ClaimSeven
namespace Go.Proofs.YtlapjpgfpdeknaeGreatDoor
namespace Rows

/-- THE TIED CARD OF 'timetablelaw23.JourneyNames'. -/
def journeyNamesCard : Claim7 := { stood := { row := journeyNamesRow, standIns := [], harness := (true, "63ca13e2319deac11ccf72443c22611d1ed43d49ad21089a44351e133d2bbdbc"), looks := true }, kinds := [], alts := [], laidByText := true, laidKinds := [.data, .data, .data, .listed, .data], laidTests := true, laidLooks := .later }
def JourneyNamesCardSaid : Prop := Claim7.holds Tryz.pinned (.plain (OpenSpec.ofChange journeyNamesSpec)) journeyNamesCard

/-- THE SECOND FORM's CARD OF 'timetablelaw23.JourneyNames'. -/
def journeyNamesUptoCard : Claim7 := { stood := { row := journeyNamesUptoRow, standIns := [], harness := (true, "63ca13e2319deac11ccf72443c22611d1ed43d49ad21089a44351e133d2bbdbc"), looks := true }, kinds := [], alts := [], laidByText := true, laidKinds := [.data, .data, .data, .listed, .data], laidTests := true, laidLooks := .later }
def JourneyNamesUptoCardSaid : Prop := Claim7.holds Tryz.pinned (.plain (OpenSpec.upto journeyNamesSpec)) journeyNamesUptoCard
end Rows
end Go.Proofs.YtlapjpgfpdeknaeGreatDoor
