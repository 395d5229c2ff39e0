/- GuardGreatest: the tied card. Conditions: none. -/
import Derived.Test.YtcaijocpofcbdaaGreatDoorGGrQ
import Derived.Test.YtcaijocpofcbdaaGreatDoorCards
set_option linter.unusedSectionVars false
set_option linter.unusedSimpArgs false
set_option linter.unusedVariables false
set_option maxRecDepth 100000
namespace Go.Proofs.YtcaijocpofcbdaaGreatDoor
open Go Go.Ab Go.H Go.ChangeShapes Go.WideShapes Go.ChangeAt Go.RowKit
theorem guardGreatest_card : Rows.GuardGreatestCardSaid :=
 Claim7.holds_tied_plain_at .later [] [.data, .data, .data, .funcs, .funcs, .pinned] true (true, "aa5e802f5c4de50cf7e13028c1fa2353de24301df03f5f278f1cf2d1448f27b1") false guardGreatest_holds (fun _ h => by cases h) (by as_aux_lemma => kernel_rfl) (fun _ h => by cases h) guardGreatest_row_tie rfl ⟨rfl, rfl⟩ (by as_aux_lemma => kernel_rfl) rfl
  (fun f fn hf hfn => by
   obtain rfl : f = 9 := Option.some.inj ((show Tryz.prog.funcNamed "yardarm/yardarmlaw27.GuardGreatest" = some 9 by as_aux_lemma => kernel_rfl).symm.trans hf) |>.symm
   obtain rfl : fn = Tryz.f9 := (Option.some.inj (Tryz.func9.symm.trans hfn)).symm
   exact ⟨by as_aux_lemma => kernel_rfl, fun j t ht => by
    rw [Tryz.params9] at ht
    have hm : t ∈ [28, 3] := by simpa using Array.mem_of_getElem? ht
    have hall : ([28, 3].all fun u => !Tryz.prog.wantsStandIn u) = true := by as_aux_lemma => kernel_rfl
    exact (show Tryz.prog.wantsStandIn t = false by simpa using List.all_eq_true.1 hall t hm)⟩)
  (by as_aux_lemma => kernel_rfl)
#print axioms guardGreatest_card
end Go.Proofs.YtcaijocpofcbdaaGreatDoor
