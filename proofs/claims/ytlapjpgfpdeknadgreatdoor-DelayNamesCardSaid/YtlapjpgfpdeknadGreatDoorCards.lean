/-
  DERIVED. GIVEN WITH THE SEED: THE CARDS: each row of YtlapjpgfpdeknadGreatDoorRows.lean that lists a variable, with what it lists TIED to the program's text (the seventh form; the later family's looks); each row that meets fmt, with fmt's text TOLD by the authors' own Lean function (tested against real Go, not proved from fmt's source: count such statements apart). THE CARD IS WHAT COUNTS. Prove the row's statement (the work); the ties are given (YtlapjpgfpdeknadGreatDoorTie.lean); close each card by the builder's one call (the guide's Derived/Test/ToyasCard.lean, 'card_holds'). Laid BY PROGRAM, IN A SANDBOX (cutbox-door.mjs). By AI agents, Wed Nov 11 2026. No macro, syntax, notation, axiom, sorry.
-/
import Derived.Test.YtlapjpgfpdeknadGreatDoorRows
import GoSem.ClaimSeven
namespace Go.Proofs.YtlapjpgfpdeknadGreatDoor
namespace Rows

/-- THE TIED CARD OF 'timetablelaw18.DelayNames'. -/
def delayNamesCard : Claim7 := { stood := { row := delayNamesRow, standIns := [], harness := (true, "a1215f41c6134f8009edbd41ce0890deac74c0f93976aaea5c2fa08725b966fb"), looks := false }, kinds := [], alts := [], laidByText := true, laidKinds := [.listed, .data], laidTests := true, laidLooks := .later }
def DelayNamesCardSaid : Prop := Claim7.holds Tryz.pinned (.plain (OpenSpec.ofChange delayNamesSpec)) delayNamesCard

/-- THE SECOND FORM's CARD OF 'timetablelaw18.DelayNames'. -/
def delayNamesUptoCard : Claim7 := { stood := { row := delayNamesUptoRow, standIns := [], harness := (true, "a1215f41c6134f8009edbd41ce0890deac74c0f93976aaea5c2fa08725b966fb"), looks := false }, kinds := [], alts := [], laidByText := true, laidKinds := [.listed, .data], laidTests := true, laidLooks := .later }
def DelayNamesUptoCardSaid : Prop := Claim7.holds Tryz.pinned (.plain (OpenSpec.upto delayNamesSpec)) delayNamesUptoCard
end Rows
end Go.Proofs.YtlapjpgfpdeknadGreatDoor
