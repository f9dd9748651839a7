/-
  DERIVED. GIVEN WITH THE SEED: THE CARDS: each row of YtmgpjfnlciapkaaGreatDoorRows.lean that lists a variable, with what it lists TIED to the program's text (the seventh form; the later family's looks); each row that meets fmt, with fmt's text TOLD by the authors' own Lean function (tested against real Go, not proved from fmt's source: count such statements apart). THE CARD IS WHAT COUNTS. Prove the row's statement (the work); the ties are given (YtmgpjfnlciapkaaGreatDoorTie.lean); close each card by the builder's one call (the guide's Derived/Test/ToyasCard.lean, 'card_holds'). Laid BY PROGRAM, IN A SANDBOX (cutbox-door.mjs). By AI agents, Wed Nov 11 2026. No macro, syntax, notation, axiom, sorry.
-/
import Derived.Test.YtmgpjfnlciapkaaGreatDoorRows
import GoSem.ClaimSeven
namespace Go.Proofs.YtmgpjfnlciapkaaGreatDoor
namespace Rows

/-- THE TIED CARD OF 'timetablelaw09.WorldMore'. -/
def worldMoreCard : Claim7 := { stood := { row := worldMoreRow, standIns := [], harness := (true, "76ef152e07a61d870f2846da3d4e9287b9d28869ab1e3c8a9228dc6d4120dbb3"), looks := false }, kinds := [], alts := [], laidByText := true, laidKinds := [.listed, .data], laidTests := true, laidLooks := .later }
def WorldMoreCardSaid : Prop := Claim7.holds Tryz.pinned (.plain (OpenSpec.ofChange worldMoreSpec)) worldMoreCard

/-- THE TIED CARD OF 'timetablelaw09.WorldCalls'. -/
def worldCallsCard : Claim7 := { stood := { row := worldCallsRow, standIns := [], harness := (true, "76ef152e07a61d870f2846da3d4e9287b9d28869ab1e3c8a9228dc6d4120dbb3"), looks := false }, kinds := [], alts := [], laidByText := true, laidKinds := [.listed, .data], laidTests := true, laidLooks := .later }
def WorldCallsCardSaid : Prop := Claim7.holds Tryz.pinned (.plain (OpenSpec.ofChange worldCallsSpec)) worldCallsCard

/-- THE TIED CARD OF 'timetablelaw09.WorldBack'. -/
def worldBackCard : Claim7 := { stood := { row := worldBackRow, standIns := [], harness := (true, "76ef152e07a61d870f2846da3d4e9287b9d28869ab1e3c8a9228dc6d4120dbb3"), looks := false }, kinds := [], alts := [], laidByText := true, laidKinds := [.listed, .data], laidTests := true, laidLooks := .later }
def WorldBackCardSaid : Prop := Claim7.holds Tryz.pinned (.plain (OpenSpec.ofChange worldBackSpec)) worldBackCard

/-- THE SECOND FORM's CARD OF 'timetablelaw09.WorldMore'. -/
def worldMoreUptoCard : Claim7 := { stood := { row := worldMoreUptoRow, standIns := [], harness := (true, "76ef152e07a61d870f2846da3d4e9287b9d28869ab1e3c8a9228dc6d4120dbb3"), looks := false }, kinds := [], alts := [], laidByText := true, laidKinds := [.listed, .data], laidTests := true, laidLooks := .later }
def WorldMoreUptoCardSaid : Prop := Claim7.holds Tryz.pinned (.plain (OpenSpec.upto worldMoreSpec)) worldMoreUptoCard

/-- THE SECOND FORM's CARD OF 'timetablelaw09.WorldCalls'. -/
def worldCallsUptoCard : Claim7 := { stood := { row := worldCallsUptoRow, standIns := [], harness := (true, "76ef152e07a61d870f2846da3d4e9287b9d28869ab1e3c8a9228dc6d4120dbb3"), looks := false }, kinds := [], alts := [], laidByText := true, laidKinds := [.listed, .data], laidTests := true, laidLooks := .later }
def WorldCallsUptoCardSaid : Prop := Claim7.holds Tryz.pinned (.plain (OpenSpec.upto worldCallsSpec)) worldCallsUptoCard

/-- THE SECOND FORM's CARD OF 'timetablelaw09.WorldBack'. -/
def worldBackUptoCard : Claim7 := { stood := { row := worldBackUptoRow, standIns := [], harness := (true, "76ef152e07a61d870f2846da3d4e9287b9d28869ab1e3c8a9228dc6d4120dbb3"), looks := false }, kinds := [], alts := [], laidByText := true, laidKinds := [.listed, .data], laidTests := true, laidLooks := .later }
def WorldBackUptoCardSaid : Prop := Claim7.holds Tryz.pinned (.plain (OpenSpec.upto worldBackSpec)) worldBackUptoCard
end Rows
end Go.Proofs.YtmgpjfnlciapkaaGreatDoor
