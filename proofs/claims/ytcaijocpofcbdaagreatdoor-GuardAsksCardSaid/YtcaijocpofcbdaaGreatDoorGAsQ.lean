/- GuardAsks: closed facts of the row, part 4. Conditions: none. -/
import Derived.Test.YtcaijocpofcbdaaGreatDoorGAsP
import Derived.Test.YtcaijocpofcbdaaGreatDoorCards
set_option linter.unusedSectionVars false
set_option linter.unusedSimpArgs false
set_option linter.unusedVariables false
set_option maxRecDepth 100000
namespace Go.Proofs.YtcaijocpofcbdaaGreatDoor
open Go Go.ChangeShapes Go.WideShapes
set_option maxHeartbeats 40000000 in
theorem guardAsks_j10:(Rows.guardAsksRow.inPlace==Tryz.pinned.checked.prog.inPlace 8)=true:=by kernel_rfl
set_option maxHeartbeats 40000000 in
theorem guardAsks_j11:(Rows.guardAsksRow.unfollowed==Tryz.pinned.checked.prog.unfollowed 8)=true:=by kernel_rfl
end Go.Proofs.YtcaijocpofcbdaaGreatDoor
