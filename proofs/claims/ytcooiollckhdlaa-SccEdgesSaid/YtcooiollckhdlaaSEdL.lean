/- SccEdges: closed facts of the row, part 3. Conditions: none. -/
import Derived.Test.YtcooiollckhdlaaSEdK
import Derived.Test.YtcooiollckhdlaaRows
set_option linter.unusedSectionVars false
set_option linter.unusedSimpArgs false
set_option linter.unusedVariables false
set_option maxRecDepth 100000
namespace Go.Proofs.Ytcooiollckhdlaa
open Go Go.ChangeShapes Go.WideShapes
set_option maxHeartbeats 40000000 in
theorem sccEdges_j27 : (Rows.sccEdgesRow.lifted == Try.pinned.checked.prog.liftsFinal) = true := by kernel_rfl
set_option maxHeartbeats 40000000 in
theorem sccEdges_j28 : (Try.pinned.checked.prog.make == some Rows.sccEdgesRow.make) = true := by kernel_rfl
end Go.Proofs.Ytcooiollckhdlaa
