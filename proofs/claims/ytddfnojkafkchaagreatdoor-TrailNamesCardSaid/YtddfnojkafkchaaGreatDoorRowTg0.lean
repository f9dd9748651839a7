/- Closed facts of the card, told one by one. No condition. -/
import Derived.Test.YtddfnojkafkchaaGreatDoorRows
import Derived.KernelRfl
import Derived.SevenTiedAt
namespace Go.Proofs.YtddfnojkafkchaaGreatDoor
set_option linter.unusedVariables false
set_option linter.unusedSimpArgs false
open Go
set_option maxRecDepth 100000
theorem cf0 : Rows.trailNamesRow.wfByText (OpenSpec.ofChange Rows.trailNamesSpec) = true := by kernel_rfl
theorem cf1 : Tryz.prog.mainIs = some (true, "d1d9b228b6471e7f28ca4dbdc7814efbd6a47cb152f7f4d8268337887bd21276".toList) := by kernel_rfl
theorem cf2 : Tryz.prog.funcNamed "timetable/timetablelaw28.TrailNames" = some 3 := by kernel_rfl
end Go.Proofs.YtddfnojkafkchaaGreatDoor
