/-
  DERIVED. GIVEN WITH THE SEED: THE CARDS: each row of YtlapjpgfpdeknabGreatDoorRows.lean that lists a variable, with what it lists TIED to the program's text (the seventh form; the later family's looks); each row that meets fmt, with fmt's text TOLD by the authors' own Lean function (tested against real Go, not proved from fmt's source: count such statements apart). THE CARD IS WHAT COUNTS. Prove the row's statement (the work); the ties are given (YtlapjpgfpdeknabGreatDoorTie.lean); close each card by the builder's one call (the guide's Derived/Test/ToyasCard.lean, 'card_holds'). Laid BY PROGRAM, IN A SANDBOX (cutbox-door.mjs). By AI agents, Wed Nov 11 2026. No macro, syntax, notation, axiom, sorry.
-/
import Derived.Test.YtlapjpgfpdeknabGreatDoorRows
import GoSem.ClaimSeven
namespace Go.Proofs.YtlapjpgfpdeknabGreatDoor
namespace Rows

/-- THE TIED CARD OF 'timetablelaw11.LinkNames'. -/
def linkNamesCard : Claim7 := { stood := { row := linkNamesRow, standIns := [], harness := (true, "1fe57c892588c1d27ef24aa1a0236adc026297ff78b31ad21fe177aedca01df3"), looks := false }, kinds := [], alts := [], laidByText := true, laidKinds := [.listed, .data], laidTests := true, laidLooks := .later }
def LinkNamesCardSaid : Prop := Claim7.holds Tryz.pinned (.plain (OpenSpec.ofChange linkNamesSpec)) linkNamesCard

/-- THE SECOND FORM's CARD OF 'timetablelaw11.LinkNames'. -/
def linkNamesUptoCard : Claim7 := { stood := { row := linkNamesUptoRow, standIns := [], harness := (true, "1fe57c892588c1d27ef24aa1a0236adc026297ff78b31ad21fe177aedca01df3"), looks := false }, kinds := [], alts := [], laidByText := true, laidKinds := [.listed, .data], laidTests := true, laidLooks := .later }
def LinkNamesUptoCardSaid : Prop := Claim7.holds Tryz.pinned (.plain (OpenSpec.upto linkNamesSpec)) linkNamesUptoCard
end Rows
end Go.Proofs.YtlapjpgfpdeknabGreatDoor
