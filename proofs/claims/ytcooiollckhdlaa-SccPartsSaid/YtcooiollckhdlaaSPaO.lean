/- SccParts: the row. Conditions: none. -/
import Derived.Test.YtcooiollckhdlaaSPaN
import Derived.Test.YtcooiollckhdlaaRows
set_option linter.unusedSectionVars false
set_option linter.unusedSimpArgs false
set_option linter.unusedVariables false
set_option linter.unusedVariables false
set_option maxRecDepth 100000
namespace Go.Proofs.Ytcooiollckhdlaa
open Go Go.Ab Go.H Go.ChangeShapes Go.WideShapes Go.ChangeAt Go.RowKit
theorem sccParts_lifted (os : Os) (started : os.Started) (K : Type) (enc : TypeId × Value → K) :
    ReturnsInHanded {} Try.checked os 4 .any (Rows.sccPartsSpec.pre6 enc Try.prog Try.f4 Rows.sccPartsRow.domain false) (Rows.sccPartsSpec.post enc Try.prog Try.f4 false true false false) := by
  refine handed_sized (C := Try.checked) own started (by kernel_rfl) Try.func4
    (ChangeSpec.witness6 (enc := enc) (C := Try.checked) false ⟨#[], #[.agg #[.int .i64 0, .slice none 0 0]], []⟩ 8 (by kernel_rfl) (by kernel_rfl) (by kernel_rfl) (by kernel_rfl)) ?_
  intro W base args ds gs before hval0 hW hsz
  have hval : ∀ (j : Nat) t v, Try.f4.params[j]? = some t → args[j]? = some v → Value.okWide Try.prog W .any base t v := hval0
  have hlt := hW.lt
  have hW' := hW
  obtain ⟨p, q, hA0, hV, rfl, hfz, hnd⟩ := hW
  have hA : DataW.TrodAll enc Try.prog W 0 (fun _ => true) true Try.f4.params.toList args.toList ds p := hA0
  rw [Try.params4] at hA hval
  obtain ⟨v0, d0, rfl, rfl, h0⟩ := trodAll_one hA
  have hlt0 : ∀ x ∈ p, x.block < W.heap.size := fun x hx => hlt x (by simp [hx])
  obtain ⟨rfl, rfl⟩ := trodVars_none hV
  have hw0 : ∀ n ∈ d0.weights Try.prog 24, n ≤ reachBytes := fun n hn => by
    have := List.all_eq_true.1 hsz n (DataW.weights_mem_each (j := 0) (t := 24) (d := d0) (by kernel_rfl) rfl n hn)
    simpa using this
  have hv0 := hval 0 24 v0 rfl rfl
  unfold Value.okWide at hv0
  rw [Try.underlying24] at hv0
  obtain ⟨cs0, rfl, _, _⟩ := hv0
  obtain ⟨x0, hlim0, hrel0⟩ := gr_of h0 hw0
  refine (((sccParts x0 hlim0) noX W [.agg cs0] (hrel_none W) ⟨by rw [OO_none]; exact hrel0, trivial⟩).calls (fun k => room_FW none k)).mono fun e W' hp => ?_
  obtain ⟨v, av, h', rfl, ⟨rfl, rfl⟩, hr, hh', hk⟩ := hp
  obtain rfl := hr.v_eq
  simp only [List.append_nil] at hW'
  refine ⟨_, rfl, _, _, _, [], _, [], hW', trodAll_mk1 (shut_bool Try.underlying4 _), trodAll_mk1 (trod_keep_gr hk h0 hlt0), rfl, keep_but hk _, fun h => by cases h⟩
theorem and_b {a b : Bool} (h : a = true) (k : b = true) : (a && b) = true := by rw [h, k]; rfl
set_option maxHeartbeats 40000000 in
theorem sccParts_holds : Rows.SccPartsSaid :=
  OpenClaim.holds_of_wide 4 Try.f4 rfl rfl rfl rfl rfl rfl rfl ⟨rfl, rfl, rfl, rfl, rfl⟩ rfl rfl rfl rfl rfl (by as_aux_lemma => kernel_rfl) Try.func4 (by unfold joinedFacts; exact (and_b (and_b (and_b (and_b (and_b (and_b (and_b (and_b (and_b (and_b (and_b (and_b (and_b (and_b (and_b (and_b (and_b (and_b (and_b (and_b (and_b (and_b (and_b (and_b (and_b (and_b (and_b (and_b (and_b (and_b (and_b (by as_aux_lemma => kernel_rfl) sccParts_j2) sccParts_j3) (by as_aux_lemma => kernel_rfl)) (by as_aux_lemma => kernel_rfl)) (by as_aux_lemma => kernel_rfl)) (by as_aux_lemma => kernel_rfl)) (by as_aux_lemma => kernel_rfl)) (by as_aux_lemma => kernel_rfl)) sccParts_j10) sccParts_j11) sccParts_j12) sccParts_j13) (by as_aux_lemma => kernel_rfl)) (by as_aux_lemma => kernel_rfl)) (by as_aux_lemma => kernel_rfl)) (by as_aux_lemma => kernel_rfl)) (by as_aux_lemma => kernel_rfl)) (by as_aux_lemma => kernel_rfl)) (by as_aux_lemma => kernel_rfl)) (by as_aux_lemma => kernel_rfl)) (by as_aux_lemma => kernel_rfl)) (by as_aux_lemma => kernel_rfl)) (by as_aux_lemma => kernel_rfl)) sccParts_j25) sccParts_j26) sccParts_j27) sccParts_j28) (by as_aux_lemma => kernel_rfl)) (by as_aux_lemma => kernel_rfl)) (by as_aux_lemma => kernel_rfl)) (by as_aux_lemma => kernel_rfl)))
    (of_decide_eq_true (by as_aux_lemma => kernel_rfl)) (by unfold Func.isWrapper; first | (rw [if_pos (by as_aux_lemma => decide +kernel)]; as_aux_lemma => kernel_rfl) | (rw [if_neg (by as_aux_lemma => decide +kernel)]; exact ⟨rfl, rfl⟩))
    (fun os started H enc _ => sccParts_lifted os started H enc)
#print axioms sccParts_holds
end Go.Proofs.Ytcooiollckhdlaa
