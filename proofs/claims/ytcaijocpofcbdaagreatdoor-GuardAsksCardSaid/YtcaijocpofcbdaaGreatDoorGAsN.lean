/- GuardAsks: closed facts of the row, part 1. Conditions: none. -/
import Derived.Test.YtcaijocpofcbdaaGreatDoorGAsM
import Derived.Test.YtcaijocpofcbdaaGreatDoorCards
set_option linter.unusedSectionVars false
set_option linter.unusedSimpArgs false
set_option linter.unusedVariables false
set_option maxRecDepth 100000
namespace Go.Proofs.YtcaijocpofcbdaaGreatDoor
open Go Go.ChangeShapes Go.WideShapes
set_option maxHeartbeats 40000000 in
theorem guardAsks_j2:laidOutB Tryz.pinned.checked.prog=true:=by kernel_rfl
set_option maxHeartbeats 40000000 in
theorem guardAsks_j3:mapsRowed Tryz.pinned.checked.prog=true:=by kernel_rfl
set_option maxHeartbeats 40000000 in
theorem guardAsks_j25:Tryz.pinned.checked.prog.stopsHeard=true:=by kernel_rfl
end Go.Proofs.YtcaijocpofcbdaaGreatDoor
