/- WrTells: closed facts of the row, part 5. Conditions: none. -/
import Derived.Test.YtfmcbdjnmlcacaaGreatDoorWTeQ
import Derived.Test.YtfmcbdjnmlcacaaGreatDoorCards
set_option linter.unusedSectionVars false
set_option linter.unusedSimpArgs false
set_option linter.unusedVariables false
set_option maxRecDepth 100000
namespace Go.Proofs.YtfmcbdjnmlcacaaGreatDoor
open Go Go.ChangeShapes Go.WideShapes
set_option maxHeartbeats 40000000 in
theorem wrTells_j12:(Rows.wrTellsRow.recurses==Tryz.pinned.checked.prog.recurses 10)=true:=by kernel_rfl
set_option maxHeartbeats 40000000 in
theorem wrTells_j13:(Rows.wrTellsRow.named==Tryz.pinned.checked.prog.varsNamed 10)=true:=by kernel_rfl
end Go.Proofs.YtfmcbdjnmlcacaaGreatDoor
