/-
  DERIVED. GIVEN WITH THE SEED: THE CARDS: each row of YthjpljnhfbgniaaGreatDoorRows.lean that lists a variable, with what it lists TIED to the program's text (the seventh form; the later family's looks); each row that meets fmt, with fmt's text TOLD by the authors' own Lean function (tested against real Go, not proved from fmt's source: count such statements apart). THE CARD IS WHAT COUNTS. Prove the row's statement (the work); the ties are given (YthjpljnhfbgniaaGreatDoorTie.lean); close each card by the builder's one call (the guide's Derived/Test/ToyasCard.lean, 'card_holds'). Laid BY PROGRAM, IN A SANDBOX (cutbox-door.mjs). By AI agents, Wed Nov 11 2026. No macro, syntax, notation, axiom, sorry.
-/
import Derived.Test.YthjpljnhfbgniaaGreatDoorRows
import GoSem.ClaimSeven
namespace Go.Proofs.YthjpljnhfbgniaaGreatDoor
namespace Rows

/-- THE TIED CARD OF 'timetablelaw24.BruteNames'. -/
def bruteNamesCard : Claim7 := { stood := { row := bruteNamesRow, standIns := [], harness := (true, "77b98bd217890be0a263d84455be66eff322c6cbb69a534d90b60f5721818963"), looks := true }, kinds := [], alts := [], laidByText := true, laidKinds := [.listed, .data], laidTests := true, laidLooks := .later }
def BruteNamesCardSaid : Prop := Claim7.holds Tryz.pinned (.plain (OpenSpec.ofChange bruteNamesSpec)) bruteNamesCard

/-- THE SECOND FORM's CARD OF 'timetablelaw24.BruteNames'. -/
def bruteNamesUptoCard : Claim7 := { stood := { row := bruteNamesUptoRow, standIns := [], harness := (true, "77b98bd217890be0a263d84455be66eff322c6cbb69a534d90b60f5721818963"), looks := true }, kinds := [], alts := [], laidByText := true, laidKinds := [.listed, .data], laidTests := true, laidLooks := .later }
def BruteNamesUptoCardSaid : Prop := Claim7.holds Tryz.pinned (.plain (OpenSpec.upto bruteNamesSpec)) bruteNamesUptoCard
end Rows
end Go.Proofs.YthjpljnhfbgniaaGreatDoor
