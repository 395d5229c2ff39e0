/- SccGraphs: closed facts of the row, part 3. Conditions: none. -/
import Derived.Test.YtcooiollckhdlaaGreatSGrL
import Derived.Test.YtcooiollckhdlaaGreatRows
set_option linter.unusedSectionVars false
set_option linter.unusedSimpArgs false
set_option linter.unusedVariables false
set_option maxRecDepth 100000
namespace Go.Proofs.YtcooiollckhdlaaGreat
open Go Go.ChangeShapes Go.WideShapes
set_option maxHeartbeats 40000000 in
theorem sccGraphs_j27 : (Rows.sccGraphsRow.lifted == Tryz.pinned.checked.prog.liftsFinal) = true := by kernel_rfl
set_option maxHeartbeats 40000000 in
theorem sccGraphs_j28 : (Tryz.pinned.checked.prog.make == some Rows.sccGraphsRow.make) = true := by kernel_rfl
end Go.Proofs.YtcooiollckhdlaaGreat
