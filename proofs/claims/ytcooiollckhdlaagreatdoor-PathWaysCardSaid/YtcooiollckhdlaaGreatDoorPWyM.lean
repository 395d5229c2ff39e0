/- PathWays: closed facts of the row, part 4. Conditions: none. -/
import Derived.Test.YtcooiollckhdlaaGreatDoorPWyL
import Derived.Test.YtcooiollckhdlaaGreatDoorCards
set_option linter.unusedSectionVars false
set_option linter.unusedSimpArgs false
set_option linter.unusedVariables false
set_option maxRecDepth 100000
namespace Go.Proofs.YtcooiollckhdlaaGreatDoor
open Go Go.ChangeShapes Go.WideShapes
set_option maxHeartbeats 40000000 in
theorem pathWays_j10 : (Rows.pathWaysRow.inPlace == Tryz.pinned.checked.prog.inPlace 3) = true := by kernel_rfl
set_option maxHeartbeats 40000000 in
theorem pathWays_j11 : (Rows.pathWaysRow.unfollowed == Tryz.pinned.checked.prog.unfollowed 3) = true := by kernel_rfl
end Go.Proofs.YtcooiollckhdlaaGreatDoor
