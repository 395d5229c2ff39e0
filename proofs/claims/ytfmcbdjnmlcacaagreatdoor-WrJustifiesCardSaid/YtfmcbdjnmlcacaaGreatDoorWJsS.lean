/- WrJustifies: the tied card. Conditions: none. -/
import Derived.Test.YtfmcbdjnmlcacaaGreatDoorWJsR
import Derived.Test.YtfmcbdjnmlcacaaGreatDoorCards
set_option linter.unusedSectionVars false
set_option linter.unusedSimpArgs false
set_option linter.unusedVariables false
set_option maxRecDepth 100000
namespace Go.Proofs.YtfmcbdjnmlcacaaGreatDoor
open Go Go.Ab Go.H Go.ChangeShapes Go.WideShapes Go.ChangeAt Go.RowKit
theorem wrJustifies_card : Rows.WrJustifiesCardSaid :=
 Claim7.holds_tied_plain_at .later [] [.data, .data, .funcs, .pinned] true (true, "e75decfa0afc068ae3bb9165b38fd3c9fcb0737252637e1168dc27f523ea6426") false wrJustifies_holds (fun _ h => by cases h) (by as_aux_lemma => kernel_rfl) (fun _ h => by cases h) wrJustifies_row_tie rfl ⟨rfl, rfl⟩ (by as_aux_lemma => kernel_rfl) rfl
  (fun f fn hf hfn => by
   obtain rfl : f = 13 := Option.some.inj ((show Tryz.prog.funcNamed "yardarm/yardarmlaw19.WrJustifies" = some 13 by as_aux_lemma => kernel_rfl).symm.trans hf) |>.symm
   obtain rfl : fn = Tryz.f13 := (Option.some.inj (Tryz.func13.symm.trans hfn)).symm
   exact ⟨by as_aux_lemma => kernel_rfl, fun j t ht => by
    rw [Tryz.params13] at ht
    have hm : t ∈ [28, 35] := by simpa using Array.mem_of_getElem? ht
    have hall : ([28, 35].all fun u => !Tryz.prog.wantsStandIn u) = true := by as_aux_lemma => kernel_rfl
    exact (show Tryz.prog.wantsStandIn t = false by simpa using List.all_eq_true.1 hall t hm)⟩)
  (by as_aux_lemma => kernel_rfl)
#print axioms wrJustifies_card
end Go.Proofs.YtfmcbdjnmlcacaaGreatDoor
