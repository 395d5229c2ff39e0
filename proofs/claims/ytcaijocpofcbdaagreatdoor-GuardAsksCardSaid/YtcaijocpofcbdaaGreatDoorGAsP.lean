/- GuardAsks: closed facts of the row, part 3. Conditions: none. -/
import Derived.Test.YtcaijocpofcbdaaGreatDoorGAsO
import Derived.Test.YtcaijocpofcbdaaGreatDoorCards
set_option linter.unusedSectionVars false
set_option linter.unusedSimpArgs false
set_option linter.unusedVariables false
set_option maxRecDepth 100000
namespace Go.Proofs.YtcaijocpofcbdaaGreatDoor
open Go Go.ChangeShapes Go.WideShapes
set_option maxHeartbeats 40000000 in
theorem guardAsks_j27:(Rows.guardAsksRow.lifted==Tryz.pinned.checked.prog.liftsFinal)=true:=by kernel_rfl
set_option maxHeartbeats 40000000 in
theorem guardAsks_j28:(Tryz.pinned.checked.prog.make==some Rows.guardAsksRow.make)=true:=by kernel_rfl
end Go.Proofs.YtcaijocpofcbdaaGreatDoor
