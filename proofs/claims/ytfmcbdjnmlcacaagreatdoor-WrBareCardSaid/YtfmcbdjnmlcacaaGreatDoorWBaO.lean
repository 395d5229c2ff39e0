/- WrBare: closed facts of the row, part 5. Conditions: none. -/
import Derived.Test.YtfmcbdjnmlcacaaGreatDoorWBaN
import Derived.Test.YtfmcbdjnmlcacaaGreatDoorCards
set_option linter.unusedSectionVars false
set_option linter.unusedSimpArgs false
set_option linter.unusedVariables false
set_option maxRecDepth 100000
namespace Go.Proofs.YtfmcbdjnmlcacaaGreatDoor
open Go Go.ChangeShapes Go.WideShapes
set_option maxHeartbeats 40000000 in
theorem wrBare_j12:(Rows.wrBareRow.recurses==Tryz.pinned.checked.prog.recurses 12)=true:=by kernel_rfl
set_option maxHeartbeats 40000000 in
theorem wrBare_j13:(Rows.wrBareRow.named==Tryz.pinned.checked.prog.varsNamed 12)=true:=by kernel_rfl
end Go.Proofs.YtfmcbdjnmlcacaaGreatDoor
