/- GuardGreatest: closed facts of the row, part 4. Conditions: none. -/
import Derived.Test.YtcaijocpofcbdaaGreatDoorGGrN
import Derived.Test.YtcaijocpofcbdaaGreatDoorCards
set_option linter.unusedSectionVars false
set_option linter.unusedSimpArgs false
set_option linter.unusedVariables false
set_option maxRecDepth 100000
namespace Go.Proofs.YtcaijocpofcbdaaGreatDoor
open Go Go.ChangeShapes Go.WideShapes
set_option maxHeartbeats 40000000 in
theorem guardGreatest_j10:(Rows.guardGreatestRow.inPlace==Tryz.pinned.checked.prog.inPlace 9)=true:=by kernel_rfl
set_option maxHeartbeats 40000000 in
theorem guardGreatest_j11:(Rows.guardGreatestRow.unfollowed==Tryz.pinned.checked.prog.unfollowed 9)=true:=by kernel_rfl
end Go.Proofs.YtcaijocpofcbdaaGreatDoor
