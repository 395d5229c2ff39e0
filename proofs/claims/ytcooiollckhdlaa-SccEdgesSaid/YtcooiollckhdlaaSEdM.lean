/- SccEdges: closed facts of the row, part 4. Conditions: none. -/
import Derived.Test.YtcooiollckhdlaaSEdL
import Derived.Test.YtcooiollckhdlaaRows
set_option linter.unusedSectionVars false
set_option linter.unusedSimpArgs false
set_option linter.unusedVariables false
set_option maxRecDepth 100000
namespace Go.Proofs.Ytcooiollckhdlaa
open Go Go.ChangeShapes Go.WideShapes
set_option maxHeartbeats 40000000 in
theorem sccEdges_j10 : (Rows.sccEdgesRow.inPlace == Try.pinned.checked.prog.inPlace 3) = true := by kernel_rfl
set_option maxHeartbeats 40000000 in
theorem sccEdges_j11 : (Rows.sccEdgesRow.unfollowed == Try.pinned.checked.prog.unfollowed 3) = true := by kernel_rfl
end Go.Proofs.Ytcooiollckhdlaa
