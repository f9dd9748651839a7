/- Closed facts of the row, told one by one. No condition. -/
import Derived.Test.YtnjkaahbhebaeaaGreatDoorRows
import Derived.KernelRfl
import Derived.JoinedOf
import Derived.SevenTiedAt
set_option linter.unusedVariables false
set_option linter.unusedSimpArgs false
namespace Go.Proofs.YtnjkaahbhebaeaaGreatDoor
open Go
set_option maxRecDepth 100000
theorem cf3:false=Tryz.prog.looks []:=by kernel_rfl
theorem cf4:false=Rows.stateGoneRow.goesBy Tryz.prog:=by kernel_rfl
end Go.Proofs.YtnjkaahbhebaeaaGreatDoor
