/- Closed facts of the card, told one by one. No condition. -/
import Derived.Test.YtnjlkanpldfdlabGreatDoorRows
import Derived.KernelRfl
import Derived.SevenTiedAt
namespace Go.Proofs.YtnjlkanpldfdlabGreatDoor
set_option linter.unusedVariables false
set_option linter.unusedSimpArgs false
open Go
set_option maxRecDepth 100000
theorem cf4 : false = Rows.indexNamesRow.goesBy Tryz.prog := by kernel_rfl
end Go.Proofs.YtnjlkanpldfdlabGreatDoor
