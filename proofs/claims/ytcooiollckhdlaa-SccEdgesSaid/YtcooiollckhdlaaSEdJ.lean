/- SccEdges: closed facts of the row, part 1. Conditions: none. -/
import Derived.Test.YtcooiollckhdlaaSEdI
import Derived.Test.YtcooiollckhdlaaRows
set_option linter.unusedSectionVars false
set_option linter.unusedSimpArgs false
set_option linter.unusedVariables false
set_option maxRecDepth 100000
namespace Go.Proofs.Ytcooiollckhdlaa
open Go Go.ChangeShapes Go.WideShapes
set_option maxHeartbeats 40000000 in
theorem sccEdges_j2 : laidOutB Try.pinned.checked.prog = true := by kernel_rfl
set_option maxHeartbeats 40000000 in
theorem sccEdges_j3 : mapsRowed Try.pinned.checked.prog = true := by kernel_rfl
set_option maxHeartbeats 40000000 in
theorem sccEdges_j25 : Try.pinned.checked.prog.stopsHeard = true := by kernel_rfl
end Go.Proofs.Ytcooiollckhdlaa
