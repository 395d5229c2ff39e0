/- GuardBack: closed facts of the row, part 3. Conditions: none. -/
import Derived.Test.YtcaijocpofcbdaaGreatDoorGBaN
import Derived.Test.YtcaijocpofcbdaaGreatDoorCards
set_option linter.unusedSectionVars false
set_option linter.unusedSimpArgs false
set_option linter.unusedVariables false
set_option maxRecDepth 100000
namespace Go.Proofs.YtcaijocpofcbdaaGreatDoor
open Go Go.ChangeShapes Go.WideShapes
set_option maxHeartbeats 40000000 in
theorem guardBack_j27:(Rows.guardBackRow.lifted==Tryz.pinned.checked.prog.liftsFinal)=true:=by kernel_rfl
set_option maxHeartbeats 40000000 in
theorem guardBack_j28:(Tryz.pinned.checked.prog.make==some Rows.guardBackRow.make)=true:=by kernel_rfl
end Go.Proofs.YtcaijocpofcbdaaGreatDoor
