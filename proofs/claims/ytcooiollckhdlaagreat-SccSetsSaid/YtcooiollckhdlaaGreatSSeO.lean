/- SccSets: closed facts of the row, part 5. Conditions: none. -/
import Derived.Test.YtcooiollckhdlaaGreatSSeN
import Derived.Test.YtcooiollckhdlaaGreatRows
set_option linter.unusedSectionVars false
set_option linter.unusedSimpArgs false
set_option linter.unusedVariables false
set_option maxRecDepth 100000
namespace Go.Proofs.YtcooiollckhdlaaGreat
open Go Go.ChangeShapes Go.WideShapes
set_option maxHeartbeats 40000000 in
theorem sccSets_j12 : (Rows.sccSetsRow.recurses == Tryz.pinned.checked.prog.recurses 3) = true := by kernel_rfl
set_option maxHeartbeats 40000000 in
theorem sccSets_j13 : (Rows.sccSetsRow.named == Tryz.pinned.checked.prog.varsNamed 3) = true := by kernel_rfl
end Go.Proofs.YtcooiollckhdlaaGreat
