/- What laws PathWays and PathRounds compare. Conditions: as each lemma states. -/
import Derived.Test.YtcooiollckhdlaaGreatDoorPRsH
set_option linter.unusedSectionVars false
set_option linter.unusedSimpArgs false
set_option linter.unusedVariables false
set_option linter.unusedVariables false
set_option linter.unusedSimpArgs false
namespace Go.Proofs
open Go Go.Ab Go.H
theorem same_refl (a : Gr) : sameG a a = true := by simp [sameG]
theorem chkP_x {g : Gr} {l : List Int} (h : chkB g = false) : chkP g l = 150 := by rw [chkP_e (by rw [chkE_f h]; decide), chkE_f h]
theorem node_nat {g : Gr} {s : Int} (h : nodeB g s = true) : ∃ u : Nat, s = (u : Int) ∧ u < nG g := by
  unfold nodeB at h
  rw [Bool.and_eq_true, decide_eq_true_iff, decide_eq_true_iff] at h
  exact ⟨s.toNat, by omega, by unfold nG; omega⟩
/-! Rounds. -/
theorem cycO_y {g : Gr} (h : GOk g) : cycO g = cycK (rowO g) (nG g) := by rw [cycO, if_pos (chkE_0.2 h)]
theorem cycO_x {g : Gr} (h : chkB g = false) : cycO g = none ∧ cycE g = 150 := by
  have := chkE_f h
  rw [cycO, cycE, if_neg (by omega), if_neg (by omega), this]; exact ⟨rfl, rfl⟩
theorem cycE_s {g : Gr} (h : GOk g) (q : (cycO g).isSome = true) : cycE g = 0 := by
  rw [cycO_y h] at q
  rw [cycE, if_pos (chkE_0.2 h), if_neg]
  cases e : cycK (rowO g) (nG g) with
  | none => rw [e] at q; cases q
  | some l => exact fun w => by cases w
theorem cycE_n {g : Gr} (h : GOk g) (q : (cycO g).isSome = false) : cycE g = 4 := by
  rw [cycO_y h] at q
  rw [cycE, if_pos (chkE_0.2 h), if_pos]
  cases e : cycK (rowO g) (nG g) with
  | none => rfl
  | some l => rw [e] at q; cases q
theorem cycO_len {g : Gr} : ((cycO g).getD []).length ≤ 301 := by
  cases h : cycO g with
  | none => simp
  | some l =>
    unfold cycO at h
    split at h
    · rename_i he
      exact (cyc_R (chkE_0.1 he) (nG g) (Nat.le_refl _) l h).2
    · cases h
theorem thrO_y {g : Gr} (h : GOk g) {u : Nat} (hu : u < nG g) : thrO g (u : Int) = rndN (rowO g) 0 u := (thr_all h hu).1
theorem thrO_x {g : Gr} {s : Int} (h : chkB g = false) : thrO g s = none ∧ thrE g s = 150 := by
  have := chkP_x (l := [s]) h
  rw [thrO, thrE, if_neg (by omega), if_neg (by omega), this]; exact ⟨rfl, rfl⟩
theorem thrO_n {g : Gr} (hok : GOk g) {s : Int} (h : nodeB g s = false) : thrO g s = none ∧ thrE g s = 2 := by
  have := chkP_n (l := [s]) (chkE_0.2 hok) (by simp [h])
  rw [thrO, thrE, if_neg (by omega), if_neg (by omega), this]; exact ⟨rfl, rfl⟩
theorem thrE_s {g : Gr} (h : GOk g) {u : Nat} (hu : u < nG g) (q : (thrO g (u : Int)).isSome = true) : thrE g (u : Int) = 0 := by
  rw [thrO_y h hu] at q
  rw [(thr_all h hu).2, if_neg]
  cases e : rndN (rowO g) 0 u with
  | none => rw [e] at q; cases q
  | some l => exact fun w => by cases w
theorem thrE_n {g : Gr} (h : GOk g) {u : Nat} (hu : u < nG g) (q : (thrO g (u : Int)).isSome = false) : thrE g (u : Int) = 4 := by
  rw [thrO_y h hu] at q
  rw [(thr_all h hu).2, if_pos]
  cases e : rndN (rowO g) 0 u with
  | none => rfl
  | some l => rw [e] at q; cases q
theorem thrO_len {g : Gr} {s : Int} : ((thrO g s).getD []).length ≤ 301 := by
  cases h : thrO g s with
  | none => simp
  | some l =>
    unfold thrO at h
    split at h
    · rename_i he
      obtain ⟨hok, hv⟩ := chkP_ok he
      obtain ⟨u, rfl, hu⟩ := hv s (by simp)
      exact (rnd_R hok (m := 0) (by simpa using hu) l h).2
    · cases h
/-! Ways. -/
end Go.Proofs
/- The walk of PathRounds. Conditions: none. -/
set_option linter.unusedVariables false
set_option linter.unusedSimpArgs false
set_option maxRecDepth 10000
namespace Go.Proofs
open Go Go.Ab
attribute [local irreducible] QR QV OE aops aw dsoup dsoupM dalloc dallocM thn inBlk jsoup jch lsoup
open Go.H
theorem eqNilV : FCall Tryz.prog (.fn (.func 17) [] []) [.list false 1 [], .v (.slice none 0 0)] [] (fun r h' => h' = [] ∧ r = bv true) :=
  pcall (eqInt (f := false) (g := false) [] (by simp)) (show Sbs [AV.list false 1 [], .v (.slice none 0 0)] [AV.list false 1 (([] : List Int).map intR), AV.list false 1 (([] : List Int).map intR)] from ⟨.refl _, .nil _ _, trivial⟩)
theorem eqNatL (l : List Nat) (hl : l.length ≤ 4611686018427387904) : FCall Tryz.prog (.fn (.func 17) [] []) [.list false 1 (l.map natR), .list false 1 (l.map natR)] [] (fun r h' => h' = [] ∧ r = bv true) := by
  rw [natR_J]; exact FCall.of_fun (eqInt (f := false) (g := false) (rowI l) (by rw [rowI_ln]; exact hl))
theorem eqOptL (o : Option (List Nat)) (hl : (o.getD []).length ≤ 4611686018427387904) : FCall Tryz.prog (.fn (.func 17) [] []) [.list false 1 ((o.getD []).map natR), optA o] [] (fun r h' => h' = [] ∧ r = bv true) := by
  cases o with
  | none => exact eqNilV
  | some l => exact eqNatL l hl
set_option maxHeartbeats 8000000 in
theorem pathRounds (x : Gr) (nn : List Int) (hb : x.es.length ≤ 4611686018427387904) (hlim : nn.length ≤ 4611686018427387904) : ACall Tryz.prog 4 [.agg (grR x), .list false 1 (nn.map intR)] (.glob 0 147 tabC :: []) (fun r h' => h' = .glob 0 147 tabC :: [] ∧ r = bv true) := by
  refine acall_of_aw Tryz.func4 rfl rfl rfl ?_
  have hg : (ownG 300 x).es.length ≤ 4611686018427387904 := Nat.le_trans (ownG_len 300 x) (by decide)
  refine rn ?_
  refine aops_e rfl (oe_box rfl rfl rfl fun b2 => ?_)
  refine rn ?_
  refine qv rfl rfl (qv_call rfl rfl (FCall.qt (FCall.of_fun lawWakes) (pt1 _ _ _))) ?_
  refine rn ?_
  refine aw_cond rfl (fun hc20 => ?_) (fun hc20 => ?_)
  · exact absurd hc20 (by decide)
  · refine rn ?_
    refine qv rfl rfl (qv_call rfl rfl (FCall.pure (R := fun z => z = .agg (grR (ownG 300 x))) (FCall.of_fun (lawOwn x hb)))) ?_
    refine aops_e rfl (oe_alloc rfl fun b5 => ?_)
    refine rn ?_
    refine qv rfl rfl (qv_call rfl rfl (FCall.pure (R := fun z => z = bv (chkB (ownG 300 x))) (FCall.of_fun (refRight (ownG 300 x) hg)))) ?_
    refine rn0 ?_
    refine aw_seq ?_
    refine aw_seq ?_
    refine spl2 (A := chkB (ownG 300 x)) (fun hX => ?_) (fun hX => ?_)
    · refine aw_region ?_
      refine qq rfl rfl (qr_as (qr_move rfl) (congrArg bv (hX))) ?_
      refine rn ?_
      refine aw_cond rfl (fun hc30 => ?_) (fun hc30 => ?_)
      · refine rn ?_
        exact retq (.cons _ _ _ _ (.tmp _ _ rfl) .nil) (.drop [_, _] _ _) ⟨rfl, rfl⟩
      · refine rn ?_
        refine qv rfl rfl (qv_call rfl rfl (FCall.qt (FCall.of_fun (pCycle (ownG 300 x) hg)) (pt2 _ _ _ _))) ?_
        refine q1 ?_
        refine q1 ?_
        refine q1 ?_
        refine q1 ?_
        refine q1 ?_
        refine aops_nil (thn_n ?_)
        refine aw_seq (aw_region ?_)
        refine q1 ?_
        refine aops_nil (thn_n ?_)
        refine aw_seq (aw_region ?_)
        refine q1 ?_
        refine aops_nil (thn_n ?_)
        refine aw_seq ?_
        refine aw_seq (aw_region ?_)
        refine qq rfl rfl (qr_as (qr_move rfl) (congrArg bv (hX))) ?_
        refine rn ?_
        refine aw_cond rfl (fun hc36 => ?_) (fun hc36 => ?_)
        · have hok := chkB_iff.1 hX
          refine rn ?_
          refine qv rfl rfl (qv_call rfl rfl (FCall.pure (R := fun z => z = .tup [optA (cycO (ownG 300 x)), bv (cycO (ownG 300 x)).isSome]) ((FCall.of_fun (rCyc (ownG 300 x) hok)).mono fun _ _ q => ⟨q.1, by rw [q.2, cycO_y hok]⟩))) ?_
          refine rn ?_
          refine aw_cond rfl (fun hc42 => ?_) (fun hc42 => ?_)
          · have hE := cycE_s hok hc42
            have hQ1 := eqOptL (cycO (ownG 300 x)) (Nat.le_trans cycO_len (by decide))
            refine aw_region ?_
            refine q1 ?_
            refine aops_nil (thn_n ?_)
            refine aw_seq ?_
            refine aw_seq (aw_region ?_)
            refine q1 ?_
            refine q1 ?_
            refine qq rfl rfl (qr_as (qr_cmp rfl rfl rfl) (congrArg bv ((bne_eq_false_iff_eq.2 hE)))) ?_
            refine rn ?_
            refine qv rfl rfl (qv_call rfl rfl (FCall.pure hQ1)) ?_
            refine rn ?_
            refine aw_cond rfl (fun hc51 => ?_) (fun hc51 => ?_)
            · first | cases hc51 | exact absurd hc51 (by decide) | (exfalso; simp_all; done)
            · refine aw_skip ?_
              refine thn_n ?_
              refine aw_seq ?_
              refine aw_seq (aw_region ?_)
              refine q1 ?_
              refine qq rfl rfl (qr_as (qr_len_list rfl) (show iv _ = iv ((nn.length : Nat) : Int) from congrArg iv (by rw [List.length_map]))) ?_
              refine rn ?_
              refine aw_range nn.length (fun _ => True) (fun k => ⟨[(54, iv k), (2, .v (.pointer (some ⟨b2, 0, none⟩))), (5, .v (.pointer (some ⟨b5, 0, none⟩))), (6, bv (chkB (ownG 300 x))), (52, .list false 1 (nn.map intR)), (53, iv (nn.length : Nat))], .box b5 24 (grR (ownG 300 x)) :: .box b2 24 (grR x) :: .glob 0 147 tabC :: [], []⟩) trivial es ?_
              intro k lk _
              refine rn ?_
              refine aw_cond rfl (fun hc55 => ?_) (fun hc55 => ?_)
              · have hkk : k < nn.length := by have q := of_decide_eq_true hc55; omega
                obtain ⟨s, hs⟩ : ∃ s, s = nn[k] := ⟨_, rfl⟩
                refine aw_skip ?_
                refine thn_n ?_
                refine aw_seq ?_
                refine aw_block ?_
                refine aw_seq (aw_region ?_)
                refine q1 ?_
                refine qq rfl rfl (qr_index_list (i := k) rfl rfl (atRow (f := intR) hkk)) ?_
                refine qq rfl rfl (qr_as (qr_load_pp_one rfl rfl) (show iv _ = iv s from congrArg iv hs.symm)) ?_
                refine rn ?_
                refine aw_cond rfl (fun hc60 => ?_) (fun hc60 => ?_)
                · refine rn ?_
                  refine aw_draw 3 rfl ?_
                  refine rn ?_
                  refine dv rfl rfl (by exact qv_call rfl rfl (FCall.pure (R := fun z => z = .agg (grR (ownG 300 x))) (FCall.of_fun (lawOwn x hb)))) ?_
                  refine rn ?_
                  refine qv rfl rfl (qv_call rfl rfl (FCall.pure (R := fun z => z = bv true) ((FCall.of_fun (refSameG (ownG 300 x) (ownG 300 x) hg hg)).mono fun _ _ q => ⟨q.1, by rw [q.2, same_refl]⟩))) ?_
                  refine rn ?_
                  exact retq (.cons _ _ _ _ (.tmp _ _ rfl) .nil) (.drop [_, _] _ _) ⟨rfl, rfl⟩
                · refine rn ?_
                  refine qv rfl rfl (qv_call rfl rfl (FCall.pure (R := fun z => z = .tup [.list false 1 (((thrO (ownG 300 x) s).getD []).map natR), iv (thrE (ownG 300 x) s)]) (FCall.of_fun (pThrough (ownG 300 x) hg s)))) ?_
                  refine q1 ?_
                  refine q1 ?_
                  refine q1 ?_
                  refine q1 ?_
                  refine q1 ?_
                  refine aops_nil (thn_n ?_)
                  refine aw_seq (aw_region ?_)
                  refine q1 ?_
                  refine aops_nil (thn_n ?_)
                  refine aw_seq (aw_region ?_)
                  refine q1 ?_
                  refine aops_nil (thn_n ?_)
                  refine aw_seq ?_
                  refine aw_seq (aw_region ?_)
                  refine qq rfl rfl (qr_as (qr_move rfl) (congrArg bv (hX))) ?_
                  refine rn ?_
                  refine aw_cond rfl (fun hc67 => ?_) (fun hc67 => ?_)
                  · refine rn ?_
                    refine qv rfl rfl (qv_call rfl rfl (FCall.pure (R := fun z => z = bv (nodeB (ownG 300 x) s)) (FCall.of_fun (lawNode (ownG 300 x) s)))) ?_
                    refine rn ?_
                    refine aw_cond rfl (fun hc70 => ?_) (fun hc70 => ?_)
                    · obtain ⟨u, rfl, hu⟩ := node_nat hc70
                      refine rn ?_
                      refine qv rfl rfl (qv_call rfl rfl (FCall.pure (R := fun z => z = .tup [optA (thrO (ownG 300 x) (u : Int)), bv (thrO (ownG 300 x) (u : Int)).isSome]) ((FCall.of_fun (rThr (ownG 300 x) hok u hu)).mono fun _ _ q => ⟨q.1, by rw [q.2, thrO_y hok hu]⟩))) ?_
                      refine rn ?_
                      refine aw_cond rfl (fun hc77 => ?_) (fun hc77 => ?_)
                      · have hT := thrE_s hok hu hc77
                        have hQ2 := eqOptL (thrO (ownG 300 x) (u : Int)) (Nat.le_trans thrO_len (by decide))
                        refine aw_region ?_
                        refine q1 ?_
                        refine aops_nil (thn_n ?_)
                        refine aw_seq (aw_region ?_)
                        refine q1 ?_
                        refine q1 ?_
                        refine qq rfl rfl (qr_as (qr_cmp rfl rfl rfl) (congrArg bv ((bne_eq_false_iff_eq.2 hT)))) ?_
                        refine rn ?_
                        refine qv rfl rfl (qv_call rfl rfl (FCall.pure hQ2)) ?_
                        refine rn ?_
                        refine aw_cond rfl (fun hc86 => ?_) (fun hc86 => ?_)
                        · first | cases hc86 | exact absurd hc86 (by decide) | (exfalso; simp_all; done)
                        · refine rn ?_
                          exact ⟨hkk, trivial, eA⟩
                      · have hT := thrE_n hok hu hc77
                        have hQ2 := eqOptL (thrO (ownG 300 x) (u : Int)) (Nat.le_trans thrO_len (by decide))
                        refine aw_region ?_
                        refine q1 ?_
                        refine aops_nil (thn_n ?_)
                        refine aw_seq (aw_region ?_)
                        refine q1 ?_
                        refine q1 ?_
                        refine qq rfl rfl (qr_as (qr_cmp rfl rfl rfl) (congrArg bv ((bne_eq_false_iff_eq.2 hT)))) ?_
                        refine rn ?_
                        refine qv rfl rfl (qv_call rfl rfl (FCall.pure hQ2)) ?_
                        refine rn ?_
                        refine aw_cond rfl (fun hc86 => ?_) (fun hc86 => ?_)
                        · first | cases hc86 | exact absurd hc86 (by decide) | (exfalso; simp_all; done)
                        · refine rn ?_
                          exact ⟨hkk, trivial, eA⟩
                    · obtain ⟨hO2, hT⟩ := thrO_n hok hc70
                      rw [hO2]
                      have hQ2 := eqNilV
                      refine aw_skip ?_
                      refine thn_n ?_
                      refine aw_seq (aw_region ?_)
                      refine q1 ?_
                      refine q1 ?_
                      refine qq rfl rfl (qr_as (qr_cmp rfl rfl rfl) (congrArg bv ((bne_eq_false_iff_eq.2 hT)))) ?_
                      refine rn ?_
                      refine qv rfl rfl (qv_call rfl rfl (FCall.pure hQ2)) ?_
                      refine rn ?_
                      refine aw_cond rfl (fun hc86 => ?_) (fun hc86 => ?_)
                      · first | cases hc86 | exact absurd hc86 (by decide) | (exfalso; simp_all; done)
                      · refine rn ?_
                        exact ⟨hkk, trivial, eA⟩
                  · first | cases hc67 | exact absurd hc67 (by decide) | (exfalso; simp_all; done)
              · have qk : k = nn.length := by have q := of_decide_eq_false hc55; omega
                refine rn ?_
                refine aw_draw 3 rfl ?_
                refine rn ?_
                refine dv rfl rfl (by exact qv_call rfl rfl (FCall.pure (R := fun z => z = .agg (grR (ownG 300 x))) (FCall.of_fun (lawOwn x hb)))) ?_
                refine rn ?_
                refine qv rfl rfl (qv_call rfl rfl (FCall.pure (R := fun z => z = bv true) ((FCall.of_fun (refSameG (ownG 300 x) (ownG 300 x) hg hg)).mono fun _ _ q => ⟨q.1, by rw [q.2, same_refl]⟩))) ?_
                refine rn ?_
                exact retq (.cons _ _ _ _ (.tmp _ _ rfl) .nil) (.drop [_, _] _ _) ⟨rfl, rfl⟩
          · have hE := cycE_n hok hc42
            have hQ1 := eqOptL (cycO (ownG 300 x)) (Nat.le_trans cycO_len (by decide))
            refine aw_region ?_
            refine q1 ?_
            refine aops_nil (thn_n ?_)
            refine aw_seq ?_
            refine aw_seq (aw_region ?_)
            refine q1 ?_
            refine q1 ?_
            refine qq rfl rfl (qr_as (qr_cmp rfl rfl rfl) (congrArg bv ((bne_eq_false_iff_eq.2 hE)))) ?_
            refine rn ?_
            refine qv rfl rfl (qv_call rfl rfl (FCall.pure hQ1)) ?_
            refine rn ?_
            refine aw_cond rfl (fun hc51 => ?_) (fun hc51 => ?_)
            · first | cases hc51 | exact absurd hc51 (by decide) | (exfalso; simp_all; done)
            · refine aw_skip ?_
              refine thn_n ?_
              refine aw_seq ?_
              refine aw_seq (aw_region ?_)
              refine q1 ?_
              refine qq rfl rfl (qr_as (qr_len_list rfl) (show iv _ = iv ((nn.length : Nat) : Int) from congrArg iv (by rw [List.length_map]))) ?_
              refine rn ?_
              refine aw_range nn.length (fun _ => True) (fun k => ⟨[(54, iv k), (2, .v (.pointer (some ⟨b2, 0, none⟩))), (5, .v (.pointer (some ⟨b5, 0, none⟩))), (6, bv (chkB (ownG 300 x))), (52, .list false 1 (nn.map intR)), (53, iv (nn.length : Nat))], .box b5 24 (grR (ownG 300 x)) :: .box b2 24 (grR x) :: .glob 0 147 tabC :: [], []⟩) trivial es ?_
              intro k lk _
              refine rn ?_
              refine aw_cond rfl (fun hc55 => ?_) (fun hc55 => ?_)
              · have hkk : k < nn.length := by have q := of_decide_eq_true hc55; omega
                obtain ⟨s, hs⟩ : ∃ s, s = nn[k] := ⟨_, rfl⟩
                refine aw_skip ?_
                refine thn_n ?_
                refine aw_seq ?_
                refine aw_block ?_
                refine aw_seq (aw_region ?_)
                refine q1 ?_
                refine qq rfl rfl (qr_index_list (i := k) rfl rfl (atRow (f := intR) hkk)) ?_
                refine qq rfl rfl (qr_as (qr_load_pp_one rfl rfl) (show iv _ = iv s from congrArg iv hs.symm)) ?_
                refine rn ?_
                refine aw_cond rfl (fun hc60 => ?_) (fun hc60 => ?_)
                · refine rn ?_
                  refine aw_draw 3 rfl ?_
                  refine rn ?_
                  refine dv rfl rfl (by exact qv_call rfl rfl (FCall.pure (R := fun z => z = .agg (grR (ownG 300 x))) (FCall.of_fun (lawOwn x hb)))) ?_
                  refine rn ?_
                  refine qv rfl rfl (qv_call rfl rfl (FCall.pure (R := fun z => z = bv true) ((FCall.of_fun (refSameG (ownG 300 x) (ownG 300 x) hg hg)).mono fun _ _ q => ⟨q.1, by rw [q.2, same_refl]⟩))) ?_
                  refine rn ?_
                  exact retq (.cons _ _ _ _ (.tmp _ _ rfl) .nil) (.drop [_, _] _ _) ⟨rfl, rfl⟩
                · refine rn ?_
                  refine qv rfl rfl (qv_call rfl rfl (FCall.pure (R := fun z => z = .tup [.list false 1 (((thrO (ownG 300 x) s).getD []).map natR), iv (thrE (ownG 300 x) s)]) (FCall.of_fun (pThrough (ownG 300 x) hg s)))) ?_
                  refine q1 ?_
                  refine q1 ?_
                  refine q1 ?_
                  refine q1 ?_
                  refine q1 ?_
                  refine aops_nil (thn_n ?_)
                  refine aw_seq (aw_region ?_)
                  refine q1 ?_
                  refine aops_nil (thn_n ?_)
                  refine aw_seq (aw_region ?_)
                  refine q1 ?_
                  refine aops_nil (thn_n ?_)
                  refine aw_seq ?_
                  refine aw_seq (aw_region ?_)
                  refine qq rfl rfl (qr_as (qr_move rfl) (congrArg bv (hX))) ?_
                  refine rn ?_
                  refine aw_cond rfl (fun hc67 => ?_) (fun hc67 => ?_)
                  · refine rn ?_
                    refine qv rfl rfl (qv_call rfl rfl (FCall.pure (R := fun z => z = bv (nodeB (ownG 300 x) s)) (FCall.of_fun (lawNode (ownG 300 x) s)))) ?_
                    refine rn ?_
                    refine aw_cond rfl (fun hc70 => ?_) (fun hc70 => ?_)
                    · obtain ⟨u, rfl, hu⟩ := node_nat hc70
                      refine rn ?_
                      refine qv rfl rfl (qv_call rfl rfl (FCall.pure (R := fun z => z = .tup [optA (thrO (ownG 300 x) (u : Int)), bv (thrO (ownG 300 x) (u : Int)).isSome]) ((FCall.of_fun (rThr (ownG 300 x) hok u hu)).mono fun _ _ q => ⟨q.1, by rw [q.2, thrO_y hok hu]⟩))) ?_
                      refine rn ?_
                      refine aw_cond rfl (fun hc77 => ?_) (fun hc77 => ?_)
                      · have hT := thrE_s hok hu hc77
                        have hQ2 := eqOptL (thrO (ownG 300 x) (u : Int)) (Nat.le_trans thrO_len (by decide))
                        refine aw_region ?_
                        refine q1 ?_
                        refine aops_nil (thn_n ?_)
                        refine aw_seq (aw_region ?_)
                        refine q1 ?_
                        refine q1 ?_
                        refine qq rfl rfl (qr_as (qr_cmp rfl rfl rfl) (congrArg bv ((bne_eq_false_iff_eq.2 hT)))) ?_
                        refine rn ?_
                        refine qv rfl rfl (qv_call rfl rfl (FCall.pure hQ2)) ?_
                        refine rn ?_
                        refine aw_cond rfl (fun hc86 => ?_) (fun hc86 => ?_)
                        · first | cases hc86 | exact absurd hc86 (by decide) | (exfalso; simp_all; done)
                        · refine rn ?_
                          exact ⟨hkk, trivial, eA⟩
                      · have hT := thrE_n hok hu hc77
                        have hQ2 := eqOptL (thrO (ownG 300 x) (u : Int)) (Nat.le_trans thrO_len (by decide))
                        refine aw_region ?_
                        refine q1 ?_
                        refine aops_nil (thn_n ?_)
                        refine aw_seq (aw_region ?_)
                        refine q1 ?_
                        refine q1 ?_
                        refine qq rfl rfl (qr_as (qr_cmp rfl rfl rfl) (congrArg bv ((bne_eq_false_iff_eq.2 hT)))) ?_
                        refine rn ?_
                        refine qv rfl rfl (qv_call rfl rfl (FCall.pure hQ2)) ?_
                        refine rn ?_
                        refine aw_cond rfl (fun hc86 => ?_) (fun hc86 => ?_)
                        · first | cases hc86 | exact absurd hc86 (by decide) | (exfalso; simp_all; done)
                        · refine rn ?_
                          exact ⟨hkk, trivial, eA⟩
                    · obtain ⟨hO2, hT⟩ := thrO_n hok hc70
                      rw [hO2]
                      have hQ2 := eqNilV
                      refine aw_skip ?_
                      refine thn_n ?_
                      refine aw_seq (aw_region ?_)
                      refine q1 ?_
                      refine q1 ?_
                      refine qq rfl rfl (qr_as (qr_cmp rfl rfl rfl) (congrArg bv ((bne_eq_false_iff_eq.2 hT)))) ?_
                      refine rn ?_
                      refine qv rfl rfl (qv_call rfl rfl (FCall.pure hQ2)) ?_
                      refine rn ?_
                      refine aw_cond rfl (fun hc86 => ?_) (fun hc86 => ?_)
                      · first | cases hc86 | exact absurd hc86 (by decide) | (exfalso; simp_all; done)
                      · refine rn ?_
                        exact ⟨hkk, trivial, eA⟩
                  · first | cases hc67 | exact absurd hc67 (by decide) | (exfalso; simp_all; done)
              · have qk : k = nn.length := by have q := of_decide_eq_false hc55; omega
                refine rn ?_
                refine aw_draw 3 rfl ?_
                refine rn ?_
                refine dv rfl rfl (by exact qv_call rfl rfl (FCall.pure (R := fun z => z = .agg (grR (ownG 300 x))) (FCall.of_fun (lawOwn x hb)))) ?_
                refine rn ?_
                refine qv rfl rfl (qv_call rfl rfl (FCall.pure (R := fun z => z = bv true) ((FCall.of_fun (refSameG (ownG 300 x) (ownG 300 x) hg hg)).mono fun _ _ q => ⟨q.1, by rw [q.2, same_refl]⟩))) ?_
                refine rn ?_
                exact retq (.cons _ _ _ _ (.tmp _ _ rfl) .nil) (.drop [_, _] _ _) ⟨rfl, rfl⟩
        · first | cases hc36 | exact absurd hc36 (by decide) | (exfalso; simp_all; done)
    · refine aw_region ?_
      refine qq rfl rfl (qr_as (qr_move rfl) (congrArg bv (hX))) ?_
      refine rn ?_
      refine aw_cond rfl (fun hc30 => ?_) (fun hc30 => ?_)
      · first | cases hc30 | exact absurd hc30 (by decide) | (exfalso; simp_all; done)
      · refine rn ?_
        refine qv rfl rfl (qv_call rfl rfl (FCall.qt (FCall.of_fun (pCycle (ownG 300 x) hg)) (pt2 _ _ _ _))) ?_
        refine q1 ?_
        refine q1 ?_
        refine q1 ?_
        refine q1 ?_
        refine q1 ?_
        refine aops_nil (thn_n ?_)
        refine aw_seq (aw_region ?_)
        refine q1 ?_
        refine aops_nil (thn_n ?_)
        refine aw_seq (aw_region ?_)
        refine q1 ?_
        refine aops_nil (thn_n ?_)
        refine aw_seq ?_
        refine aw_seq (aw_region ?_)
        refine qq rfl rfl (qr_as (qr_move rfl) (congrArg bv (hX))) ?_
        refine rn ?_
        refine aw_cond rfl (fun hc36 => ?_) (fun hc36 => ?_)
        · first | cases hc36 | exact absurd hc36 (by decide) | (exfalso; simp_all; done)
        · obtain ⟨hO, hE⟩ := cycO_x hX
          rw [hO]
          have hQ1 := eqNilV
          refine aw_skip ?_
          refine thn_n ?_
          refine aw_seq ?_
          refine aw_seq (aw_region ?_)
          refine q1 ?_
          refine q1 ?_
          refine qq rfl rfl (qr_as (qr_cmp rfl rfl rfl) (congrArg bv ((bne_eq_false_iff_eq.2 hE)))) ?_
          refine rn ?_
          refine qv rfl rfl (qv_call rfl rfl (FCall.pure hQ1)) ?_
          refine rn ?_
          refine aw_cond rfl (fun hc51 => ?_) (fun hc51 => ?_)
          · first | cases hc51 | exact absurd hc51 (by decide) | (exfalso; simp_all; done)
          · refine aw_skip ?_
            refine thn_n ?_
            refine aw_seq ?_
            refine aw_seq (aw_region ?_)
            refine q1 ?_
            refine qq rfl rfl (qr_as (qr_len_list rfl) (show iv _ = iv ((nn.length : Nat) : Int) from congrArg iv (by rw [List.length_map]))) ?_
            refine rn ?_
            refine aw_range nn.length (fun _ => True) (fun k => ⟨[(54, iv k), (2, .v (.pointer (some ⟨b2, 0, none⟩))), (5, .v (.pointer (some ⟨b5, 0, none⟩))), (6, bv (chkB (ownG 300 x))), (52, .list false 1 (nn.map intR)), (53, iv (nn.length : Nat))], .box b5 24 (grR (ownG 300 x)) :: .box b2 24 (grR x) :: .glob 0 147 tabC :: [], []⟩) trivial es ?_
            intro k lk _
            refine rn ?_
            refine aw_cond rfl (fun hc55 => ?_) (fun hc55 => ?_)
            · have hkk : k < nn.length := by have q := of_decide_eq_true hc55; omega
              obtain ⟨s, hs⟩ : ∃ s, s = nn[k] := ⟨_, rfl⟩
              refine aw_skip ?_
              refine thn_n ?_
              refine aw_seq ?_
              refine aw_block ?_
              refine aw_seq (aw_region ?_)
              refine q1 ?_
              refine qq rfl rfl (qr_index_list (i := k) rfl rfl (atRow (f := intR) hkk)) ?_
              refine qq rfl rfl (qr_as (qr_load_pp_one rfl rfl) (show iv _ = iv s from congrArg iv hs.symm)) ?_
              refine rn ?_
              refine aw_cond rfl (fun hc60 => ?_) (fun hc60 => ?_)
              · refine rn ?_
                refine aw_draw 3 rfl ?_
                refine rn ?_
                refine dv rfl rfl (by exact qv_call rfl rfl (FCall.pure (R := fun z => z = .agg (grR (ownG 300 x))) (FCall.of_fun (lawOwn x hb)))) ?_
                refine rn ?_
                refine qv rfl rfl (qv_call rfl rfl (FCall.pure (R := fun z => z = bv true) ((FCall.of_fun (refSameG (ownG 300 x) (ownG 300 x) hg hg)).mono fun _ _ q => ⟨q.1, by rw [q.2, same_refl]⟩))) ?_
                refine rn ?_
                exact retq (.cons _ _ _ _ (.tmp _ _ rfl) .nil) (.drop [_, _] _ _) ⟨rfl, rfl⟩
              · refine rn ?_
                refine qv rfl rfl (qv_call rfl rfl (FCall.pure (R := fun z => z = .tup [.list false 1 (((thrO (ownG 300 x) s).getD []).map natR), iv (thrE (ownG 300 x) s)]) (FCall.of_fun (pThrough (ownG 300 x) hg s)))) ?_
                refine q1 ?_
                refine q1 ?_
                refine q1 ?_
                refine q1 ?_
                refine q1 ?_
                refine aops_nil (thn_n ?_)
                refine aw_seq (aw_region ?_)
                refine q1 ?_
                refine aops_nil (thn_n ?_)
                refine aw_seq (aw_region ?_)
                refine q1 ?_
                refine aops_nil (thn_n ?_)
                refine aw_seq ?_
                refine aw_seq (aw_region ?_)
                refine qq rfl rfl (qr_as (qr_move rfl) (congrArg bv (hX))) ?_
                refine rn ?_
                refine aw_cond rfl (fun hc67 => ?_) (fun hc67 => ?_)
                · first | cases hc67 | exact absurd hc67 (by decide) | (exfalso; simp_all; done)
                · obtain ⟨hO2, hT⟩ := thrO_x (s := s) hX
                  rw [hO2]
                  have hQ2 := eqNilV
                  refine aw_skip ?_
                  refine thn_n ?_
                  refine aw_seq (aw_region ?_)
                  refine q1 ?_
                  refine q1 ?_
                  refine qq rfl rfl (qr_as (qr_cmp rfl rfl rfl) (congrArg bv ((bne_eq_false_iff_eq.2 hT)))) ?_
                  refine rn ?_
                  refine qv rfl rfl (qv_call rfl rfl (FCall.pure hQ2)) ?_
                  refine rn ?_
                  refine aw_cond rfl (fun hc86 => ?_) (fun hc86 => ?_)
                  · first | cases hc86 | exact absurd hc86 (by decide) | (exfalso; simp_all; done)
                  · refine rn ?_
                    exact ⟨hkk, trivial, eA⟩
            · have qk : k = nn.length := by have q := of_decide_eq_false hc55; omega
              refine rn ?_
              refine aw_draw 3 rfl ?_
              refine rn ?_
              refine dv rfl rfl (by exact qv_call rfl rfl (FCall.pure (R := fun z => z = .agg (grR (ownG 300 x))) (FCall.of_fun (lawOwn x hb)))) ?_
              refine rn ?_
              refine qv rfl rfl (qv_call rfl rfl (FCall.pure (R := fun z => z = bv true) ((FCall.of_fun (refSameG (ownG 300 x) (ownG 300 x) hg hg)).mono fun _ _ q => ⟨q.1, by rw [q.2, same_refl]⟩))) ?_
              refine rn ?_
              exact retq (.cons _ _ _ _ (.tmp _ _ rfl) .nil) (.drop [_, _] _ _) ⟨rfl, rfl⟩
end Go.Proofs
