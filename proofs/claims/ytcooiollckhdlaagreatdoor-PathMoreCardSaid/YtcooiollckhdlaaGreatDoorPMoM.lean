/- PathMore: closed facts of the row, part 4. Conditions: none. -/
import Derived.Test.YtcooiollckhdlaaGreatDoorPMoL
import Derived.Test.YtcooiollckhdlaaGreatDoorCards
set_option linter.unusedSectionVars false
set_option linter.unusedSimpArgs false
set_option linter.unusedVariables false
set_option maxRecDepth 100000
namespace Go.Proofs.YtcooiollckhdlaaGreatDoor
open Go Go.ChangeShapes Go.WideShapes
set_option maxHeartbeats 40000000 in
theorem pathMore_j10 : (Rows.pathMoreRow.inPlace == Tryz.pinned.checked.prog.inPlace 8) = true := by kernel_rfl
set_option maxHeartbeats 40000000 in
theorem pathMore_j11 : (Rows.pathMoreRow.unfollowed == Tryz.pinned.checked.prog.unfollowed 8) = true := by kernel_rfl
end Go.Proofs.YtcooiollckhdlaaGreatDoor
