/-
  DERIVED. GIVEN WITH THE SEED: THE CARDS: each row of YtddfnojkafkchaaGreatDoorRows.lean that lists a variable, with what it lists TIED to the program's text (the seventh form; the later family's looks); each row that meets fmt, with fmt's text TOLD by the authors' own Lean function (tested against real Go, not proved from fmt's source: count such statements apart). THE CARD IS WHAT COUNTS. Prove the row's statement (the work); the ties are given (YtddfnojkafkchaaGreatDoorTie.lean); close each card by the builder's one call (the guide's Derived/Test/ToyasCard.lean, 'card_holds'). Laid BY PROGRAM, IN A SANDBOX (cutbox-door.mjs). By AI agents, Wed Nov 11 2026. No macro, syntax, notation, axiom, sorry.
-/
import Derived.Test.YtddfnojkafkchaaGreatDoorRows
import GoSem.ClaimSeven
namespace Go.Proofs.YtddfnojkafkchaaGreatDoor
namespace Rows

/-- THE TIED CARD OF 'timetablelaw28.TrailNames'. -/
def trailNamesCard : Claim7 := { stood := { row := trailNamesRow, standIns := [], harness := (true, "d1d9b228b6471e7f28ca4dbdc7814efbd6a47cb152f7f4d8268337887bd21276"), looks := true }, kinds := [], alts := [], laidByText := true, laidKinds := [.data, .listed, .data], laidTests := true, laidLooks := .later }
def TrailNamesCardSaid : Prop := Claim7.holds Tryz.pinned (.plain (OpenSpec.ofChange trailNamesSpec)) trailNamesCard

/-- THE SECOND FORM's CARD OF 'timetablelaw28.TrailNames'. -/
def trailNamesUptoCard : Claim7 := { stood := { row := trailNamesUptoRow, standIns := [], harness := (true, "d1d9b228b6471e7f28ca4dbdc7814efbd6a47cb152f7f4d8268337887bd21276"), looks := true }, kinds := [], alts := [], laidByText := true, laidKinds := [.data, .listed, .data], laidTests := true, laidLooks := .later }
def TrailNamesUptoCardSaid : Prop := Claim7.holds Tryz.pinned (.plain (OpenSpec.upto trailNamesSpec)) trailNamesUptoCard
end Rows
end Go.Proofs.YtddfnojkafkchaaGreatDoor
