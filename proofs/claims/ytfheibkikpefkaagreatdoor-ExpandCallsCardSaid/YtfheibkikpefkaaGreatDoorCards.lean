/-
  DERIVED. GIVEN WITH THE SEED: THE CARDS: each row of YtfheibkikpefkaaGreatDoorRows.lean that lists a variable, with what it lists TIED to the program's text (the seventh form; the later family's looks); each row that meets fmt, with fmt's text TOLD by the authors' own Lean function (tested against real Go, not proved from fmt's source: count such statements apart). THE CARD IS WHAT COUNTS. Prove the row's statement (the work); the ties are given (YtfheibkikpefkaaGreatDoorTie.lean); close each card by the builder's one call (the guide's Derived/Test/ToyasCard.lean, 'card_holds'). Laid BY PROGRAM, IN A SANDBOX (cutbox-door.mjs). By AI agents, Wed Nov 11 2026. No macro, syntax, notation, axiom, sorry.
-/
import Derived.Test.YtfheibkikpefkaaGreatDoorRows
import GoSem.ClaimSeven
namespace Go.Proofs.YtfheibkikpefkaaGreatDoor
namespace Rows

/-- THE TIED CARD OF 'timetablelaw10.ExpandHalves'. -/
def expandHalvesCard : Claim7 := { stood := { row := expandHalvesRow, standIns := [], harness := (true, "c8f94666a5f3d2b3fde7e08b283b1d587a63280c17a705c9cb1419d8e1d10d8d"), looks := false }, kinds := [], alts := [], laidByText := true, laidKinds := [.listed, .data], laidTests := true, laidLooks := .later }
def ExpandHalvesCardSaid : Prop := Claim7.holds Tryz.pinned (.plain (OpenSpec.ofChange expandHalvesSpec)) expandHalvesCard

/-- THE TIED CARD OF 'timetablelaw10.ExpandMoves'. -/
def expandMovesCard : Claim7 := { stood := { row := expandMovesRow, standIns := [], harness := (true, "c8f94666a5f3d2b3fde7e08b283b1d587a63280c17a705c9cb1419d8e1d10d8d"), looks := false }, kinds := [], alts := [], laidByText := true, laidKinds := [.listed, .data], laidTests := true, laidLooks := .later }
def ExpandMovesCardSaid : Prop := Claim7.holds Tryz.pinned (.plain (OpenSpec.ofChange expandMovesSpec)) expandMovesCard

/-- THE TIED CARD OF 'timetablelaw10.ExpandFarther'. -/
def expandFartherCard : Claim7 := { stood := { row := expandFartherRow, standIns := [], harness := (true, "c8f94666a5f3d2b3fde7e08b283b1d587a63280c17a705c9cb1419d8e1d10d8d"), looks := false }, kinds := [], alts := [], laidByText := true, laidKinds := [.listed, .data], laidTests := true, laidLooks := .later }
def ExpandFartherCardSaid : Prop := Claim7.holds Tryz.pinned (.plain (OpenSpec.ofChange expandFartherSpec)) expandFartherCard

/-- THE TIED CARD OF 'timetablelaw10.ExpandCalls'. -/
def expandCallsCard : Claim7 := { stood := { row := expandCallsRow, standIns := [], harness := (true, "c8f94666a5f3d2b3fde7e08b283b1d587a63280c17a705c9cb1419d8e1d10d8d"), looks := false }, kinds := [], alts := [], laidByText := true, laidKinds := [.listed, .data], laidTests := true, laidLooks := .later }
def ExpandCallsCardSaid : Prop := Claim7.holds Tryz.pinned (.plain (OpenSpec.ofChange expandCallsSpec)) expandCallsCard

/-- THE TIED CARD OF 'timetablelaw11.LinkMade'. -/
def linkMadeCard : Claim7 := { stood := { row := linkMadeRow, standIns := [], harness := (true, "c8f94666a5f3d2b3fde7e08b283b1d587a63280c17a705c9cb1419d8e1d10d8d"), looks := false }, kinds := [], alts := [], laidByText := true, laidKinds := [.listed, .data], laidTests := true, laidLooks := .later }
def LinkMadeCardSaid : Prop := Claim7.holds Tryz.pinned (.plain (OpenSpec.ofChange linkMadeSpec)) linkMadeCard

/-- THE TIED CARD OF 'timetablelaw11.LinkCalls'. -/
def linkCallsCard : Claim7 := { stood := { row := linkCallsRow, standIns := [], harness := (true, "c8f94666a5f3d2b3fde7e08b283b1d587a63280c17a705c9cb1419d8e1d10d8d"), looks := false }, kinds := [], alts := [], laidByText := true, laidKinds := [.listed, .data], laidTests := true, laidLooks := .later }
def LinkCallsCardSaid : Prop := Claim7.holds Tryz.pinned (.plain (OpenSpec.ofChange linkCallsSpec)) linkCallsCard

/-- THE SECOND FORM's CARD OF 'timetablelaw10.ExpandHalves'. -/
def expandHalvesUptoCard : Claim7 := { stood := { row := expandHalvesUptoRow, standIns := [], harness := (true, "c8f94666a5f3d2b3fde7e08b283b1d587a63280c17a705c9cb1419d8e1d10d8d"), looks := false }, kinds := [], alts := [], laidByText := true, laidKinds := [.listed, .data], laidTests := true, laidLooks := .later }
def ExpandHalvesUptoCardSaid : Prop := Claim7.holds Tryz.pinned (.plain (OpenSpec.upto expandHalvesSpec)) expandHalvesUptoCard

/-- THE SECOND FORM's CARD OF 'timetablelaw10.ExpandMoves'. -/
def expandMovesUptoCard : Claim7 := { stood := { row := expandMovesUptoRow, standIns := [], harness := (true, "c8f94666a5f3d2b3fde7e08b283b1d587a63280c17a705c9cb1419d8e1d10d8d"), looks := false }, kinds := [], alts := [], laidByText := true, laidKinds := [.listed, .data], laidTests := true, laidLooks := .later }
def ExpandMovesUptoCardSaid : Prop := Claim7.holds Tryz.pinned (.plain (OpenSpec.upto expandMovesSpec)) expandMovesUptoCard

/-- THE SECOND FORM's CARD OF 'timetablelaw10.ExpandFarther'. -/
def expandFartherUptoCard : Claim7 := { stood := { row := expandFartherUptoRow, standIns := [], harness := (true, "c8f94666a5f3d2b3fde7e08b283b1d587a63280c17a705c9cb1419d8e1d10d8d"), looks := false }, kinds := [], alts := [], laidByText := true, laidKinds := [.listed, .data], laidTests := true, laidLooks := .later }
def ExpandFartherUptoCardSaid : Prop := Claim7.holds Tryz.pinned (.plain (OpenSpec.upto expandFartherSpec)) expandFartherUptoCard

/-- THE SECOND FORM's CARD OF 'timetablelaw10.ExpandCalls'. -/
def expandCallsUptoCard : Claim7 := { stood := { row := expandCallsUptoRow, standIns := [], harness := (true, "c8f94666a5f3d2b3fde7e08b283b1d587a63280c17a705c9cb1419d8e1d10d8d"), looks := false }, kinds := [], alts := [], laidByText := true, laidKinds := [.listed, .data], laidTests := true, laidLooks := .later }
def ExpandCallsUptoCardSaid : Prop := Claim7.holds Tryz.pinned (.plain (OpenSpec.upto expandCallsSpec)) expandCallsUptoCard

/-- THE SECOND FORM's CARD OF 'timetablelaw11.LinkMade'. -/
def linkMadeUptoCard : Claim7 := { stood := { row := linkMadeUptoRow, standIns := [], harness := (true, "c8f94666a5f3d2b3fde7e08b283b1d587a63280c17a705c9cb1419d8e1d10d8d"), looks := false }, kinds := [], alts := [], laidByText := true, laidKinds := [.listed, .data], laidTests := true, laidLooks := .later }
def LinkMadeUptoCardSaid : Prop := Claim7.holds Tryz.pinned (.plain (OpenSpec.upto linkMadeSpec)) linkMadeUptoCard

/-- THE SECOND FORM's CARD OF 'timetablelaw11.LinkCalls'. -/
def linkCallsUptoCard : Claim7 := { stood := { row := linkCallsUptoRow, standIns := [], harness := (true, "c8f94666a5f3d2b3fde7e08b283b1d587a63280c17a705c9cb1419d8e1d10d8d"), looks := false }, kinds := [], alts := [], laidByText := true, laidKinds := [.listed, .data], laidTests := true, laidLooks := .later }
def LinkCallsUptoCardSaid : Prop := Claim7.holds Tryz.pinned (.plain (OpenSpec.upto linkCallsSpec)) linkCallsUptoCard
end Rows
end Go.Proofs.YtfheibkikpefkaaGreatDoor
