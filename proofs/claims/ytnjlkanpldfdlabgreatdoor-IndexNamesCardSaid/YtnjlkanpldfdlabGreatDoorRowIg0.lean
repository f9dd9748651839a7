/- Closed facts of the card, told one by one. No condition. -/
import Derived.Test.YtnjlkanpldfdlabGreatDoorRows
import Derived.KernelRfl
import Derived.SevenTiedAt
namespace Go.Proofs.YtnjlkanpldfdlabGreatDoor
set_option linter.unusedVariables false
set_option linter.unusedSimpArgs false
open Go
set_option maxRecDepth 100000
theorem cf0 : Rows.indexNamesRow.wfByText (OpenSpec.ofChange Rows.indexNamesSpec) = true := by kernel_rfl
theorem cf1 : Tryz.prog.mainIs = some (true, "642b7a559c0655f9eb8df3afd3b891f0bc2ffe05ab4721630e87256c5baa6081".toList) := by kernel_rfl
theorem cf2 : Tryz.prog.funcNamed "timetable/timetablelaw21.IndexNames" = some 3 := by kernel_rfl
end Go.Proofs.YtnjlkanpldfdlabGreatDoor
