/- Closed facts of the row, told one by one. No condition. -/
import Derived.Test.YtnjlkanpldfdlabGreatDoorRows
import Derived.KernelRfl
import Derived.JoinedOf
namespace Go.Proofs.YtnjlkanpldfdlabGreatDoor
set_option linter.unusedVariables false
set_option linter.unusedSimpArgs false
open Go
set_option maxRecDepth 100000
theorem jf12 : ((Rows.indexNamesRow.named == Tryz.prog.varsNamed 3)) = true := by kernel_rfl
end Go.Proofs.YtnjlkanpldfdlabGreatDoor
