/- WrEvents: closed facts of the row, part 5. Conditions: none. -/
import Derived.Test.YtfmcbdjnmlcacaaGreatDoorWEvN
import Derived.Test.YtfmcbdjnmlcacaaGreatDoorCards
set_option linter.unusedSectionVars false
set_option linter.unusedSimpArgs false
set_option linter.unusedVariables false
set_option maxRecDepth 100000
namespace Go.Proofs.YtfmcbdjnmlcacaaGreatDoor
open Go Go.ChangeShapes Go.WideShapes
set_option maxHeartbeats 40000000 in
theorem wrEvents_j12:(Rows.wrEventsRow.recurses==Tryz.pinned.checked.prog.recurses 11)=true:=by kernel_rfl
set_option maxHeartbeats 40000000 in
theorem wrEvents_j13:(Rows.wrEventsRow.named==Tryz.pinned.checked.prog.varsNamed 11)=true:=by kernel_rfl
end Go.Proofs.YtfmcbdjnmlcacaaGreatDoor
