/- SccParts: closed facts of the row, part 4. Conditions: none. -/
import Derived.Test.YtcooiollckhdlaaSPaL
import Derived.Test.YtcooiollckhdlaaRows
set_option linter.unusedSectionVars false
set_option linter.unusedSimpArgs false
set_option linter.unusedVariables false
set_option maxRecDepth 100000
namespace Go.Proofs.Ytcooiollckhdlaa
open Go Go.ChangeShapes Go.WideShapes
set_option maxHeartbeats 40000000 in
theorem sccParts_j10 : (Rows.sccPartsRow.inPlace == Try.pinned.checked.prog.inPlace 4) = true := by kernel_rfl
set_option maxHeartbeats 40000000 in
theorem sccParts_j11 : (Rows.sccPartsRow.unfollowed == Try.pinned.checked.prog.unfollowed 4) = true := by kernel_rfl
end Go.Proofs.Ytcooiollckhdlaa
