/- SccFolds: closed facts of the row, part 5. Conditions: none. -/
import Derived.Test.YtcooiollckhdlaaSFoM
import Derived.Test.YtcooiollckhdlaaRows
set_option linter.unusedSectionVars false
set_option linter.unusedSimpArgs false
set_option linter.unusedVariables false
set_option maxRecDepth 100000
namespace Go.Proofs.Ytcooiollckhdlaa
open Go Go.ChangeShapes Go.WideShapes
set_option maxHeartbeats 40000000 in
theorem sccFolds_j12 : (Rows.sccFoldsRow.recurses == Try.pinned.checked.prog.recurses 5) = true := by kernel_rfl
set_option maxHeartbeats 40000000 in
theorem sccFolds_j13 : (Rows.sccFoldsRow.named == Try.pinned.checked.prog.varsNamed 5) = true := by kernel_rfl
end Go.Proofs.Ytcooiollckhdlaa
