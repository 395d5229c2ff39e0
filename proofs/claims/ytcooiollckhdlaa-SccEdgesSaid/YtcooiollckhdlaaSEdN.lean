/- SccEdges: closed facts of the row, part 5. Conditions: none. -/
import Derived.Test.YtcooiollckhdlaaSEdM
import Derived.Test.YtcooiollckhdlaaRows
set_option linter.unusedSectionVars false
set_option linter.unusedSimpArgs false
set_option linter.unusedVariables false
set_option maxRecDepth 100000
namespace Go.Proofs.Ytcooiollckhdlaa
open Go Go.ChangeShapes Go.WideShapes
set_option maxHeartbeats 40000000 in
theorem sccEdges_j12 : (Rows.sccEdgesRow.recurses == Try.pinned.checked.prog.recurses 3) = true := by kernel_rfl
set_option maxHeartbeats 40000000 in
theorem sccEdges_j13 : (Rows.sccEdgesRow.named == Try.pinned.checked.prog.varsNamed 3) = true := by kernel_rfl
end Go.Proofs.Ytcooiollckhdlaa
