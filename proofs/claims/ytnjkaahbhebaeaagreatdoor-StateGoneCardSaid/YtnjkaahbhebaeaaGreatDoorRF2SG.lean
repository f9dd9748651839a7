/- Closed facts of the row, told one by one. No condition. -/
import Derived.Test.YtnjkaahbhebaeaaGreatDoorRows
import Derived.KernelRfl
import Derived.JoinedOf
import Derived.SevenTiedAt
set_option linter.unusedVariables false
set_option linter.unusedSimpArgs false
namespace Go.Proofs.YtnjkaahbhebaeaaGreatDoor
open Go
set_option maxRecDepth 100000
theorem jf10:((Rows.stateGoneRow.unfollowed==Tryz.prog.unfollowed 6))=true:=by kernel_rfl
theorem jf11:((Rows.stateGoneRow.recurses==Tryz.prog.recurses 6))=true:=by kernel_rfl
theorem jf12:((Rows.stateGoneRow.named==Tryz.prog.varsNamed 6))=true:=by kernel_rfl
theorem jf22:((Rows.stateGoneRow.plainKeys==Tryz.prog.plainKeys))=true:=by kernel_rfl
end Go.Proofs.YtnjkaahbhebaeaaGreatDoor
