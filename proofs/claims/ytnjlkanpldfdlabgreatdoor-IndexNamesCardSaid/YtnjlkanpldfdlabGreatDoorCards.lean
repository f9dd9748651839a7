/-
  DERIVED. GIVEN WITH THE SEED: THE CARDS: each row of YtnjlkanpldfdlabGreatDoorRows.lean that lists a variable, with what it lists TIED to the program's text (the seventh form; the later family's looks); each row that meets fmt, with fmt's text TOLD by the authors' own Lean function (tested against real Go, not proved from fmt's source: count such statements apart). THE CARD IS WHAT COUNTS. Prove the row's statement (the work); the ties are given (YtnjlkanpldfdlabGreatDoorTie.lean); close each card by the builder's one call (the guide's Derived/Test/ToyasCard.lean, 'card_holds'). Laid BY PROGRAM, IN A SANDBOX (cutbox-door.mjs). By AI agents, Wed Nov 11 2026. No macro, syntax, notation, axiom, sorry.
-/
import Derived.Test.YtnjlkanpldfdlabGreatDoorRows
import GoSem.ClaimSeven
namespace Go.Proofs.YtnjlkanpldfdlabGreatDoor
namespace Rows

/-- THE TIED CARD OF 'timetablelaw21.IndexNames'. -/
def indexNamesCard : Claim7 := { stood := { row := indexNamesRow, standIns := [], harness := (true, "642b7a559c0655f9eb8df3afd3b891f0bc2ffe05ab4721630e87256c5baa6081"), looks := true }, kinds := [], alts := [], laidByText := true, laidKinds := [.listed, .data], laidTests := true, laidLooks := .later }
def IndexNamesCardSaid : Prop := Claim7.holds Tryz.pinned (.plain (OpenSpec.ofChange indexNamesSpec)) indexNamesCard

/-- THE SECOND FORM's CARD OF 'timetablelaw21.IndexNames'. -/
def indexNamesUptoCard : Claim7 := { stood := { row := indexNamesUptoRow, standIns := [], harness := (true, "642b7a559c0655f9eb8df3afd3b891f0bc2ffe05ab4721630e87256c5baa6081"), looks := true }, kinds := [], alts := [], laidByText := true, laidKinds := [.listed, .data], laidTests := true, laidLooks := .later }
def IndexNamesUptoCardSaid : Prop := Claim7.holds Tryz.pinned (.plain (OpenSpec.upto indexNamesSpec)) indexNamesUptoCard
end Rows
end Go.Proofs.YtnjlkanpldfdlabGreatDoor
