/- PathRounds: the tied card. Conditions: none. -/
import Derived.Test.YtcooiollckhdlaaGreatDoorPRsO
import Derived.Test.YtcooiollckhdlaaGreatDoorCards
import Derived.Test.YtcooiollckhdlaaGreatDoorTie
set_option linter.unusedSectionVars false
set_option linter.unusedSimpArgs false
set_option linter.unusedVariables false
set_option linter.unusedVariables false
set_option maxRecDepth 100000
namespace Go.Proofs.YtcooiollckhdlaaGreatDoor
open Go Go.Ab Go.H Go.ChangeShapes Go.WideShapes Go.ChangeAt Go.RowKit
theorem pathRounds_card : Rows.PathRoundsCardSaid :=
  Claim7.holds_tied_plain_at .later [] [.data] true (true, "01cf7de74656965628ccb547aec7b0a0fa921e9c23ddd5df2b15cc0dea2d739a") false pathRounds_holds (fun _ h => by cases h) (by as_aux_lemma => kernel_rfl) (fun _ h => by cases h) pathRounds_row_tie rfl ⟨rfl, rfl⟩ (by as_aux_lemma => kernel_rfl) rfl
    (fun f fn hf hfn => by
      obtain rfl : f = 4 := Option.some.inj ((show Tryz.prog.funcNamed "yardarm/yardarmlaw08.PathRounds" = some 4 by as_aux_lemma => kernel_rfl).symm.trans hf) |>.symm
      obtain rfl : fn = Tryz.f4 := (Option.some.inj (Tryz.func4.symm.trans hfn)).symm
      exact ⟨by as_aux_lemma => kernel_rfl, fun j t ht => by
        rw [Tryz.params4] at ht
        have hm : t ∈ [24, 30] := by simpa using Array.mem_of_getElem? ht
        have hall : ([24, 30].all fun u => !Tryz.prog.wantsStandIn u) = true := by as_aux_lemma => kernel_rfl
        exact (show Tryz.prog.wantsStandIn t = false by simpa using List.all_eq_true.1 hall t hm)⟩)
    (by as_aux_lemma => kernel_rfl)
#print axioms pathRounds_card
end Go.Proofs.YtcooiollckhdlaaGreatDoor
