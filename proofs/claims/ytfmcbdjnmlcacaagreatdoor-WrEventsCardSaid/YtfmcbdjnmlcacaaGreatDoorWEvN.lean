/- WrEvents: closed facts of the row, part 4. Conditions: none. -/
import Derived.Test.YtfmcbdjnmlcacaaGreatDoorWEvM
import Derived.Test.YtfmcbdjnmlcacaaGreatDoorCards
set_option linter.unusedSectionVars false
set_option linter.unusedSimpArgs false
set_option linter.unusedVariables false
set_option maxRecDepth 100000
namespace Go.Proofs.YtfmcbdjnmlcacaaGreatDoor
open Go Go.ChangeShapes Go.WideShapes
set_option maxHeartbeats 40000000 in
theorem wrEvents_j10:(Rows.wrEventsRow.inPlace==Tryz.pinned.checked.prog.inPlace 11)=true:=by kernel_rfl
set_option maxHeartbeats 40000000 in
theorem wrEvents_j11:(Rows.wrEventsRow.unfollowed==Tryz.pinned.checked.prog.unfollowed 11)=true:=by kernel_rfl
end Go.Proofs.YtfmcbdjnmlcacaaGreatDoor
