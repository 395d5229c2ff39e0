/- GuardAsks: the tied card. Conditions: none. -/
import Derived.Test.YtcaijocpofcbdaaGreatDoorGAsS
import Derived.Test.YtcaijocpofcbdaaGreatDoorCards
set_option linter.unusedSectionVars false
set_option linter.unusedSimpArgs false
set_option linter.unusedVariables false
set_option maxRecDepth 100000
namespace Go.Proofs.YtcaijocpofcbdaaGreatDoor
open Go Go.Ab Go.H Go.ChangeShapes Go.WideShapes Go.ChangeAt Go.RowKit
theorem guardAsks_card : Rows.GuardAsksCardSaid :=
 Claim7.holds_tied_plain_at .later [] [.data, .data, .data, .funcs, .funcs, .pinned] true (true, "aa5e802f5c4de50cf7e13028c1fa2353de24301df03f5f278f1cf2d1448f27b1") false guardAsks_holds (fun _ h => by cases h) (by as_aux_lemma => kernel_rfl) (fun _ h => by cases h) guardAsks_row_tie rfl ⟨rfl, rfl⟩ (by as_aux_lemma => kernel_rfl) rfl
  (fun f fn hf hfn => by
   obtain rfl : f = 8 := Option.some.inj ((show Tryz.prog.funcNamed "yardarm/yardarmlaw27.GuardAsks" = some 8 by as_aux_lemma => kernel_rfl).symm.trans hf) |>.symm
   obtain rfl : fn = Tryz.f8 := (Option.some.inj (Tryz.func8.symm.trans hfn)).symm
   exact ⟨by as_aux_lemma => kernel_rfl, fun j t ht => by
    rw [Tryz.params8] at ht
    have hm : t ∈ [28, 3, 3] := by simpa using Array.mem_of_getElem? ht
    have hall : ([28, 3, 3].all fun u => !Tryz.prog.wantsStandIn u) = true := by as_aux_lemma => kernel_rfl
    exact (show Tryz.prog.wantsStandIn t = false by simpa using List.all_eq_true.1 hall t hm)⟩)
  (by as_aux_lemma => kernel_rfl)
#print axioms guardAsks_card
end Go.Proofs.YtcaijocpofcbdaaGreatDoor
