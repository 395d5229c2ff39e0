/- SccGraphs: closed facts of the row, part 5. Conditions: none. -/
import Derived.Test.YtcooiollckhdlaaGreatSGrN
import Derived.Test.YtcooiollckhdlaaGreatRows
set_option linter.unusedSectionVars false
set_option linter.unusedSimpArgs false
set_option linter.unusedVariables false
set_option maxRecDepth 100000
namespace Go.Proofs.YtcooiollckhdlaaGreat
open Go Go.ChangeShapes Go.WideShapes
set_option maxHeartbeats 40000000 in
theorem sccGraphs_j12 : (Rows.sccGraphsRow.recurses == Tryz.pinned.checked.prog.recurses 4) = true := by kernel_rfl
set_option maxHeartbeats 40000000 in
theorem sccGraphs_j13 : (Rows.sccGraphsRow.named == Tryz.pinned.checked.prog.varsNamed 4) = true := by kernel_rfl
end Go.Proofs.YtcooiollckhdlaaGreat
