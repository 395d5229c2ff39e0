/- RwItems: closed facts of the row, part 5. Conditions: none. -/
import Derived.Test.YtfmcbdjnmlcacaaGreatDoorRItN
import Derived.Test.YtfmcbdjnmlcacaaGreatDoorCards
set_option linter.unusedSectionVars false
set_option linter.unusedSimpArgs false
set_option linter.unusedVariables false
set_option maxRecDepth 100000
namespace Go.Proofs.YtfmcbdjnmlcacaaGreatDoor
open Go Go.ChangeShapes Go.WideShapes
set_option maxHeartbeats 40000000 in
theorem rwItems_j12:(Rows.rwItemsRow.recurses==Tryz.pinned.checked.prog.recurses 9)=true:=by kernel_rfl
set_option maxHeartbeats 40000000 in
theorem rwItems_j13:(Rows.rwItemsRow.named==Tryz.pinned.checked.prog.varsNamed 9)=true:=by kernel_rfl
end Go.Proofs.YtfmcbdjnmlcacaaGreatDoor
