/- PathRounds: closed facts of the row, part 5. Conditions: none. -/
import Derived.Test.YtcooiollckhdlaaGreatDoorPRsM
import Derived.Test.YtcooiollckhdlaaGreatDoorCards
set_option linter.unusedSectionVars false
set_option linter.unusedSimpArgs false
set_option linter.unusedVariables false
set_option maxRecDepth 100000
namespace Go.Proofs.YtcooiollckhdlaaGreatDoor
open Go Go.ChangeShapes Go.WideShapes
set_option maxHeartbeats 40000000 in
theorem pathRounds_j12 : (Rows.pathRoundsRow.recurses == Tryz.pinned.checked.prog.recurses 4) = true := by kernel_rfl
set_option maxHeartbeats 40000000 in
theorem pathRounds_j13 : (Rows.pathRoundsRow.named == Tryz.pinned.checked.prog.varsNamed 4) = true := by kernel_rfl
end Go.Proofs.YtcooiollckhdlaaGreatDoor
