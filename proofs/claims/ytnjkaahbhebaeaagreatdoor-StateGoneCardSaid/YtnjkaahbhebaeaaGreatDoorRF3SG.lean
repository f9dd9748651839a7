/- Closed facts of the row, told one by one. No condition. -/
import Derived.Test.YtnjkaahbhebaeaaGreatDoorRows
import Derived.KernelRfl
import Derived.JoinedOf
import Derived.SevenTiedAt
set_option linter.unusedVariables false
set_option linter.unusedSimpArgs false
namespace Go.Proofs.YtnjkaahbhebaeaaGreatDoor
open Go
set_option maxRecDepth 100000
theorem jf26:((Rows.stateGoneRow.lifted==Tryz.prog.liftsFinal))=true:=by kernel_rfl
theorem jf9:((Rows.stateGoneRow.inPlace==Tryz.prog.inPlace 6))=true:=by kernel_rfl
theorem cf0:Rows.stateGoneRow.wfByText (OpenSpec.ofChange Rows.stateGoneSpec)=true:=by kernel_rfl
theorem cf1:Tryz.prog.mainIs=some (true,"a2ee8ca2ff0692cb9d9c9e74d36470ddb9de0f9759f0cc331b3d5163bf5e61d1".toList):=by kernel_rfl
theorem cf2:Tryz.prog.funcNamed "timetable/timetablelaw16.StateGone" =some 6:=by kernel_rfl
end Go.Proofs.YtnjkaahbhebaeaaGreatDoor
