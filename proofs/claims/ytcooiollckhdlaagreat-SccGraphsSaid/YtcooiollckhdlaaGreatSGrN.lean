/- SccGraphs: closed facts of the row, part 4. Conditions: none. -/
import Derived.Test.YtcooiollckhdlaaGreatSGrM
import Derived.Test.YtcooiollckhdlaaGreatRows
set_option linter.unusedSectionVars false
set_option linter.unusedSimpArgs false
set_option linter.unusedVariables false
set_option maxRecDepth 100000
namespace Go.Proofs.YtcooiollckhdlaaGreat
open Go Go.ChangeShapes Go.WideShapes
set_option maxHeartbeats 40000000 in
theorem sccGraphs_j10 : (Rows.sccGraphsRow.inPlace == Tryz.pinned.checked.prog.inPlace 4) = true := by kernel_rfl
set_option maxHeartbeats 40000000 in
theorem sccGraphs_j11 : (Rows.sccGraphsRow.unfollowed == Tryz.pinned.checked.prog.unfollowed 4) = true := by kernel_rfl
end Go.Proofs.YtcooiollckhdlaaGreat
