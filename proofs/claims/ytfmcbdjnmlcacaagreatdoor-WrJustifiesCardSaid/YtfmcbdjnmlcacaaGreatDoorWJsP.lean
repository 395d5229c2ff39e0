/- WrJustifies: closed facts of the row, part 4. Conditions: none. -/
import Derived.Test.YtfmcbdjnmlcacaaGreatDoorWJsO
import Derived.Test.YtfmcbdjnmlcacaaGreatDoorCards
set_option linter.unusedSectionVars false
set_option linter.unusedSimpArgs false
set_option linter.unusedVariables false
set_option maxRecDepth 100000
namespace Go.Proofs.YtfmcbdjnmlcacaaGreatDoor
open Go Go.ChangeShapes Go.WideShapes
set_option maxHeartbeats 40000000 in
theorem wrJustifies_j10:(Rows.wrJustifiesRow.inPlace==Tryz.pinned.checked.prog.inPlace 13)=true:=by kernel_rfl
set_option maxHeartbeats 40000000 in
theorem wrJustifies_j11:(Rows.wrJustifiesRow.unfollowed==Tryz.pinned.checked.prog.unfollowed 13)=true:=by kernel_rfl
end Go.Proofs.YtfmcbdjnmlcacaaGreatDoor
