/- PathMore: closed facts of the row, part 5. Conditions: none. -/
import Derived.Test.YtcooiollckhdlaaGreatDoorPMoM
import Derived.Test.YtcooiollckhdlaaGreatDoorCards
set_option linter.unusedSectionVars false
set_option linter.unusedSimpArgs false
set_option linter.unusedVariables false
set_option maxRecDepth 100000
namespace Go.Proofs.YtcooiollckhdlaaGreatDoor
open Go Go.ChangeShapes Go.WideShapes
set_option maxHeartbeats 40000000 in
theorem pathMore_j12 : (Rows.pathMoreRow.recurses == Tryz.pinned.checked.prog.recurses 8) = true := by kernel_rfl
set_option maxHeartbeats 40000000 in
theorem pathMore_j13 : (Rows.pathMoreRow.named == Tryz.pinned.checked.prog.varsNamed 8) = true := by kernel_rfl
end Go.Proofs.YtcooiollckhdlaaGreatDoor
