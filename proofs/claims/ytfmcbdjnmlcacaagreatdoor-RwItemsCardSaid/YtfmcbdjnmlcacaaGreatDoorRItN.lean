/- RwItems: closed facts of the row, part 4. Conditions: none. -/
import Derived.Test.YtfmcbdjnmlcacaaGreatDoorRItM
import Derived.Test.YtfmcbdjnmlcacaaGreatDoorCards
set_option linter.unusedSectionVars false
set_option linter.unusedSimpArgs false
set_option linter.unusedVariables false
set_option maxRecDepth 100000
namespace Go.Proofs.YtfmcbdjnmlcacaaGreatDoor
open Go Go.ChangeShapes Go.WideShapes
set_option maxHeartbeats 40000000 in
theorem rwItems_j10:(Rows.rwItemsRow.inPlace==Tryz.pinned.checked.prog.inPlace 9)=true:=by kernel_rfl
set_option maxHeartbeats 40000000 in
theorem rwItems_j11:(Rows.rwItemsRow.unfollowed==Tryz.pinned.checked.prog.unfollowed 9)=true:=by kernel_rfl
end Go.Proofs.YtfmcbdjnmlcacaaGreatDoor
