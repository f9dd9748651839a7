/- Closed facts of the row, told one by one. No condition. -/
import Derived.Test.YtnjkaahbhebaeaaGreatDoorRows
import Derived.KernelRfl
import Derived.JoinedOf
import Derived.SevenTiedAt
set_option linter.unusedVariables false
set_option linter.unusedSimpArgs false
namespace Go.Proofs.YtnjkaahbhebaeaaGreatDoor
open Go
set_option maxRecDepth 100000
theorem jf10:((Rows.stateLessRow.unfollowed==Tryz.prog.unfollowed 5))=true:=by kernel_rfl
theorem jf11:((Rows.stateLessRow.recurses==Tryz.prog.recurses 5))=true:=by kernel_rfl
theorem jf12:((Rows.stateLessRow.named==Tryz.prog.varsNamed 5))=true:=by kernel_rfl
theorem jf22:((Rows.stateLessRow.plainKeys==Tryz.prog.plainKeys))=true:=by kernel_rfl
end Go.Proofs.YtnjkaahbhebaeaaGreatDoor
