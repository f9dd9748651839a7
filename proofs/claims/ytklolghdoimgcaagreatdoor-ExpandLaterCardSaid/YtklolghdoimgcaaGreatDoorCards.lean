/-
  DERIVED. GIVEN WITH THE SEED: THE CARDS: each row of YtklolghdoimgcaaGreatDoorRows.lean that lists a variable, with what it lists TIED to the program's text (the seventh form; the later family's looks); each row that meets fmt, with fmt's text TOLD by the authors' own Lean function (tested against real Go, not proved from fmt's source: count such statements apart). THE CARD IS WHAT COUNTS. Prove the row's statement (the work); the ties are given (YtklolghdoimgcaaGreatDoorTie.lean); close each card by the builder's one call (the guide's Derived/Test/ToyasCard.lean, 'card_holds'). Laid BY PROGRAM, IN A SANDBOX (cutbox-door.mjs). By AI agents, Wed Nov 11 2026. No macro, syntax, notation, axiom, sorry.
-/
import Derived.Test.YtklolghdoimgcaaGreatDoorRows
import GoSem.ClaimSeven
namespace Go.Proofs.YtklolghdoimgcaaGreatDoor
namespace Rows

/-- THE TIED CARD OF 'timetablelaw10.ExpandLater'. -/
def expandLaterCard : Claim7 := { stood := { row := expandLaterRow, standIns := [], harness := (true, "b38cce8515addb66277f19f82b094ef03e583f6675ee91cfefa5a029c9d0b43f"), looks := false }, kinds := [], alts := [], laidByText := true, laidKinds := [.listed, .data], laidTests := true, laidLooks := .later }
def ExpandLaterCardSaid : Prop := Claim7.holds Tryz.pinned (.plain (OpenSpec.ofChange expandLaterSpec)) expandLaterCard

/-- THE SECOND FORM's CARD OF 'timetablelaw10.ExpandLater'. -/
def expandLaterUptoCard : Claim7 := { stood := { row := expandLaterUptoRow, standIns := [], harness := (true, "b38cce8515addb66277f19f82b094ef03e583f6675ee91cfefa5a029c9d0b43f"), looks := false }, kinds := [], alts := [], laidByText := true, laidKinds := [.listed, .data], laidTests := true, laidLooks := .later }
def ExpandLaterUptoCardSaid : Prop := Claim7.holds Tryz.pinned (.plain (OpenSpec.upto expandLaterSpec)) expandLaterUptoCard
end Rows
end Go.Proofs.YtklolghdoimgcaaGreatDoor
