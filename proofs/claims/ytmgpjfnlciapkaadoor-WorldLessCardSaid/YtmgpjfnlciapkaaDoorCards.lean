/-
  DERIVED. GIVEN WITH THE SEED: THE CARDS: each row of YtmgpjfnlciapkaaDoorRows.lean that lists a variable, with what it lists TIED to the program's text (the seventh form; the later family's looks); each row that meets fmt, with fmt's text TOLD by the authors' own Lean function (tested against real Go, not proved from fmt's source: count such statements apart). THE CARD IS WHAT COUNTS. Prove the row's statement (the work); the ties are given (YtmgpjfnlciapkaaDoorTie.lean); close each card by the builder's one call (the guide's Derived/Test/ToyasCard.lean, 'card_holds'). Laid BY PROGRAM, IN A SANDBOX (cutbox-door.mjs). By AI agents, Wed Nov 11 2026. No macro, syntax, notation, axiom, sorry.
-/
import Derived.Test.YtmgpjfnlciapkaaDoorRows
import GoSem.ClaimSeven
namespace Go.Proofs.YtmgpjfnlciapkaaDoor
namespace Rows

/-- THE TIED CARD OF 'timetablelaw09.WorldLess'. -/
def worldLessCard : Claim7 := { stood := { row := worldLessRow, standIns := [], harness := (true, "446a602c9868472d156aa92637730a8c2357f218dcda3f73e1f644a4f1183699"), looks := false }, kinds := [], alts := [], laidByText := true, laidKinds := [.listed, .data], laidTests := true, laidLooks := .later }
def WorldLessCardSaid : Prop := Claim7.holds Tryd.pinned (.plain (OpenSpec.ofChange worldLessSpec)) worldLessCard

/-- THE TIED CARD OF 'timetablelaw09.WorldRenames'. -/
def worldRenamesCard : Claim7 := { stood := { row := worldRenamesRow, standIns := [], harness := (true, "446a602c9868472d156aa92637730a8c2357f218dcda3f73e1f644a4f1183699"), looks := false }, kinds := [], alts := [], laidByText := true, laidKinds := [.listed, .data], laidTests := true, laidLooks := .later }
def WorldRenamesCardSaid : Prop := Claim7.holds Tryd.pinned (.plain (OpenSpec.ofChange worldRenamesSpec)) worldRenamesCard

/-- THE SECOND FORM's CARD OF 'timetablelaw09.WorldLess'. -/
def worldLessUptoCard : Claim7 := { stood := { row := worldLessUptoRow, standIns := [], harness := (true, "446a602c9868472d156aa92637730a8c2357f218dcda3f73e1f644a4f1183699"), looks := false }, kinds := [], alts := [], laidByText := true, laidKinds := [.listed, .data], laidTests := true, laidLooks := .later }
def WorldLessUptoCardSaid : Prop := Claim7.holds Tryd.pinned (.plain (OpenSpec.upto worldLessSpec)) worldLessUptoCard

/-- THE SECOND FORM's CARD OF 'timetablelaw09.WorldRenames'. -/
def worldRenamesUptoCard : Claim7 := { stood := { row := worldRenamesUptoRow, standIns := [], harness := (true, "446a602c9868472d156aa92637730a8c2357f218dcda3f73e1f644a4f1183699"), looks := false }, kinds := [], alts := [], laidByText := true, laidKinds := [.listed, .data], laidTests := true, laidLooks := .later }
def WorldRenamesUptoCardSaid : Prop := Claim7.holds Tryd.pinned (.plain (OpenSpec.upto worldRenamesSpec)) worldRenamesUptoCard
end Rows
end Go.Proofs.YtmgpjfnlciapkaaDoor
