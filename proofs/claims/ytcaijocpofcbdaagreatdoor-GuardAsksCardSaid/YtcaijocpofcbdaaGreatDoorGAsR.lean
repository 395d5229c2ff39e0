/- GuardAsks: closed facts of the row, part 5. Conditions: none. -/
import Derived.Test.YtcaijocpofcbdaaGreatDoorGAsQ
import Derived.Test.YtcaijocpofcbdaaGreatDoorCards
set_option linter.unusedSectionVars false
set_option linter.unusedSimpArgs false
set_option linter.unusedVariables false
set_option maxRecDepth 100000
namespace Go.Proofs.YtcaijocpofcbdaaGreatDoor
open Go Go.ChangeShapes Go.WideShapes
set_option maxHeartbeats 40000000 in
theorem guardAsks_j12:(Rows.guardAsksRow.recurses==Tryz.pinned.checked.prog.recurses 8)=true:=by kernel_rfl
set_option maxHeartbeats 40000000 in
theorem guardAsks_j13:(Rows.guardAsksRow.named==Tryz.pinned.checked.prog.varsNamed 8)=true:=by kernel_rfl
end Go.Proofs.YtcaijocpofcbdaaGreatDoor
