/- WrJustifies: closed facts of the row, part 3. Conditions: none. -/
import Derived.Test.YtfmcbdjnmlcacaaGreatDoorWJsN
import Derived.Test.YtfmcbdjnmlcacaaGreatDoorCards
set_option linter.unusedSectionVars false
set_option linter.unusedSimpArgs false
set_option linter.unusedVariables false
set_option maxRecDepth 100000
namespace Go.Proofs.YtfmcbdjnmlcacaaGreatDoor
open Go Go.ChangeShapes Go.WideShapes
set_option maxHeartbeats 40000000 in
theorem wrJustifies_j27:(Rows.wrJustifiesRow.lifted==Tryz.pinned.checked.prog.liftsFinal)=true:=by kernel_rfl
set_option maxHeartbeats 40000000 in
theorem wrJustifies_j28:(Tryz.pinned.checked.prog.make==some Rows.wrJustifiesRow.make)=true:=by kernel_rfl
end Go.Proofs.YtfmcbdjnmlcacaaGreatDoor
