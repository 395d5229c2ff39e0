/- WwOne: the row and the tied card. Conditions: none. -/
import Derived.Test.YtkoaoaogmlpocaaGreatDoorWOneI
import Derived.Test.YtkoaoaogmlpocaaGreatDoorCards
set_option linter.unusedSectionVars false
set_option linter.unusedSimpArgs false
set_option linter.unusedVariables false
set_option linter.unusedVariables false
set_option maxRecDepth 100000
namespace Go.Proofs.YtkoaoaogmlpocaaGreatDoor
open Go Go.Ab Go.H Go.ChangeShapes Go.WideShapes Go.ChangeAt Go.RowKit
theorem wwOne_lifted (os : Os) (started : os.Started) (K : Type) (enc : TypeId × Value → K) :
    ReturnsInHanded {} Tryz.checked os 8 .any (fun w args => (Rows.wwOneSpec.pre enc Tryz.prog Tryz.f8 [] false w args ∧ laidMetH Tryz.prog laid4 w) ∧ sizedMet enc Tryz.prog Tryz.f8 (OpenSpec.ofChange Rows.wwOneSpec) false w args)
      (Rows.wwOneSpec.post enc Tryz.prog Tryz.f8 false true false false) := by
  refine returnsInHanded_of_change_and (C := Tryz.checked) (X := fun w _ => laidMetH Tryz.prog laid4 w) (fun _ _ _ hh h => h.of_heap hh) own started (by kernel_rfl) Tryz.func8
    (ChangeSpec.witness_shaped (enc := enc) (C := Tryz.checked) (os := os) (X := fun w _ => laidMetH Tryz.prog laid4 w) false (wit os)
      #[.agg #[.int .i64 0, .int .i64 0, .int .i64 0, .int .i64 0, .int .i64 0, .int .i64 0, .int .i64 0], .agg #[.int .i64 0, .int .i64 0, .int .i64 0, .int .i64 0, .int .i64 0, .int .i64 0, .int .i64 0], .agg #[.int .i64 0, .int .i64 0, .int .i64 0, .int .i64 0, .int .i64 0, .int .i64 0, .int .i64 0]] 8 (wit_os _)
      (World.shaped_of_ZipB (by kernel_rfl) (by kernel_rfl)) (by kernel_rfl) (by kernel_rfl) (by kernel_rfl)
      (wit_met _ _)) ?_
  intro W base args ds gs before hval0 hW _ hsz hL _
  have hval : ∀ (j : Nat) t v, Tryz.f8.params[j]? = some t → args[j]? = some v → Value.okWide Tryz.prog W .any base t v := hval0
  have hlt := hW.lt
  have hW' := hW
  obtain ⟨p, q, hA0, hV, rfl, hfz, hnd⟩ := hW
  have hA : DataW.TrodAll enc Tryz.prog W 0 (fun _ => true) true Tryz.f8.params.toList args.toList ds p := hA0
  rw [Tryz.params8] at hA hval
  obtain ⟨v0, v1, v2, d0, d1, d2, p0, p1, p2, rfl, rfl, rfl, h0, h1, h2⟩ := trodAll_three hA
  have hlt0 : ∀ x ∈ p0, x.block < W.heap.size := fun x hx => hlt x (by simp [hx])
  have hlt1 : ∀ x ∈ p1, x.block < W.heap.size := fun x hx => hlt x (by simp [hx])
  have hlt2 : ∀ x ∈ p2, x.block < W.heap.size := fun x hx => hlt x (by simp [hx])
  obtain ⟨rfl, rfl⟩ := trodVars_none hV
  have hw0 : ∀ n ∈ d0.weights Tryz.prog 70, n ≤ reachBytes := fun n hn => by
    have := List.all_eq_true.1 hsz n (DataW.weights_mem_each (j := 0) (t := 70) (d := d0) (by kernel_rfl) rfl n hn)
    simpa using this
  have hv0 := hval 0 70 v0 rfl rfl
  unfold Value.okWide at hv0
  rw [Tryz.underlying70] at hv0
  obtain ⟨cs0, rfl, _, _⟩ := hv0
  obtain ⟨x0, hrel0⟩ := conf_of h0 hw0
  have hw1 : ∀ n ∈ d1.weights Tryz.prog 70, n ≤ reachBytes := fun n hn => by
    have := List.all_eq_true.1 hsz n (DataW.weights_mem_each (j := 1) (t := 70) (d := d1) (by kernel_rfl) rfl n hn)
    simpa using this
  have hv1 := hval 1 70 v1 rfl rfl
  unfold Value.okWide at hv1
  rw [Tryz.underlying70] at hv1
  obtain ⟨cs1, rfl, _, _⟩ := hv1
  obtain ⟨x1, hrel1⟩ := conf_of h1 hw1
  have hw2 : ∀ n ∈ d2.weights Tryz.prog 70, n ≤ reachBytes := fun n hn => by
    have := List.all_eq_true.1 hsz n (DataW.weights_mem_each (j := 2) (t := 70) (d := d2) (by kernel_rfl) rfl n hn)
    simpa using this
  have hv2 := hval 2 70 v2 rfl rfl
  unfold Value.okWide at hv2
  rw [Tryz.underlying70] at hv2
  obtain ⟨cs2, rfl, _, _⟩ := hv2
  obtain ⟨x2, hrel2⟩ := conf_of h2 hw2
  refine (((wwOne x0 x1 x2 ) noX W [.agg cs0, .agg cs1, .agg cs2] (laid_hrel4 hL) ⟨by rw [OO_G4]; exact hrel0, by rw [OO_G4]; exact hrel1, by rw [OO_G4]; exact hrel2, trivial⟩).calls (fun k => room_FW none k)).mono fun e W' hp => ?_
  obtain ⟨v, av, h', rfl, ⟨rfl, rfl⟩, hr, _, hk⟩ := hp
  obtain rfl := hr.v_eq
  simp only [List.append_nil] at hW'
  refine ⟨_, rfl, _, _, _, [], _, [], hW', trodAll_mk1 (shut_bool Tryz.underlying4 _), trodAll_mk3 (trod_keep_conf hk h0 hlt0) (trod_keep_conf hk h1 hlt1) (trod_keep_conf hk h2 hlt2), rfl, keep_but hk _, fun h => by cases h⟩
set_option maxHeartbeats 40000000 in
theorem wwOne_holds : Rows.WwOneSaid :=
  OpenClaim.holds_of_wide 8 Tryz.f8 rfl rfl rfl rfl rfl rfl rfl ⟨rfl, rfl, rfl, rfl, rfl⟩ rfl rfl rfl rfl rfl (by as_aux_lemma => kernel_rfl) Tryz.func8 (by as_aux_lemma => kernel_rfl)
    (of_decide_eq_true (by as_aux_lemma => kernel_rfl)) (by unfold Func.isWrapper; first | (rw [if_pos (by as_aux_lemma => decide +kernel)]; as_aux_lemma => kernel_rfl) | (rw [if_neg (by as_aux_lemma => decide +kernel)]; exact ⟨rfl, rfl⟩))
    (fun os started H enc _ => wwOne_lifted os started H enc)
theorem wwOne_card : Rows.WwOneCardSaid :=
  Claim7.holds_tied_plain_at .later [] [.data, .data, .funcs, .pinned] true (true, "78f2189d6259d88addc4bbdea27a93c2760e1419ba7dd73552ad1e9889450292") false wwOne_holds (fun _ h => by cases h) (by kernel_rfl) (fun _ h => by cases h) wwOne_row_tie rfl ⟨rfl, rfl⟩ (by kernel_rfl) rfl
    (fun f fn hf hfn => by
      obtain rfl : f = 8 := Option.some.inj ((show Tryz.prog.funcNamed "yardarm/yardarmlaw18.WwOne" = some 8 by kernel_rfl).symm.trans hf) |>.symm
      obtain rfl : fn = Tryz.f8 := (Option.some.inj (Tryz.func8.symm.trans hfn)).symm
      exact ⟨by kernel_rfl, fun j t ht => by
        rw [Tryz.params8] at ht
        have hm : t ∈ [70, 70, 70] := by simpa using Array.mem_of_getElem? ht
        have hall : ([70, 70, 70].all fun u => !Tryz.prog.wantsStandIn u) = true := by kernel_rfl
        exact (show Tryz.prog.wantsStandIn t = false by simpa using List.all_eq_true.1 hall t hm)⟩)
    (by kernel_rfl)
#print axioms wwOne_card
end Go.Proofs.YtkoaoaogmlpocaaGreatDoor
