/- PathWays: closed facts of the row, part 3. Conditions: none. -/
import Derived.Test.YtcooiollckhdlaaGreatDoorPWyK
import Derived.Test.YtcooiollckhdlaaGreatDoorCards
set_option linter.unusedSectionVars false
set_option linter.unusedSimpArgs false
set_option linter.unusedVariables false
set_option maxRecDepth 100000
namespace Go.Proofs.YtcooiollckhdlaaGreatDoor
open Go Go.ChangeShapes Go.WideShapes
set_option maxHeartbeats 40000000 in
theorem pathWays_j27 : (Rows.pathWaysRow.lifted == Tryz.pinned.checked.prog.liftsFinal) = true := by kernel_rfl
set_option maxHeartbeats 40000000 in
theorem pathWays_j28 : (Tryz.pinned.checked.prog.make == some Rows.pathWaysRow.make) = true := by kernel_rfl
end Go.Proofs.YtcooiollckhdlaaGreatDoor
