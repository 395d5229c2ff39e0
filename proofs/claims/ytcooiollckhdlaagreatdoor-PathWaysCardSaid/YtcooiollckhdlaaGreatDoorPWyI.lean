/- The walk of PathWays. Conditions: none. -/
import Derived.Test.YtcooiollckhdlaaGreatDoorPWyH
set_option linter.unusedSectionVars false
set_option linter.unusedSimpArgs false
set_option linter.unusedVariables false
set_option linter.unusedVariables false
set_option linter.unusedSimpArgs false
set_option maxRecDepth 10000
namespace Go.Proofs
open Go Go.Ab
attribute [local irreducible] QR QV OE aops aw dsoup dsoupM dalloc dallocM thn inBlk jsoup jch lsoup
open Go.H
theorem eqNilV : FCall Tryz.prog (.fn (.func 17) [] []) [.list false 1 [], .v (.slice none 0 0)] [] (fun r h' => h' = [] ∧ r = bv true) :=
  pcall (eqInt (f := false) (g := false) [] (by simp)) (show Sbs [AV.list false 1 [], .v (.slice none 0 0)] [AV.list false 1 (([] : List Int).map intR), AV.list false 1 (([] : List Int).map intR)] from ⟨.refl _, .nil _ _, trivial⟩)
theorem eqNatL (l : List Nat) (hl : l.length ≤ 4611686018427387904) : FCall Tryz.prog (.fn (.func 17) [] []) [.list false 1 (l.map natR), .list false 1 (l.map natR)] [] (fun r h' => h' = [] ∧ r = bv true) := by
  rw [natR_J]; exact FCall.of_fun (eqInt (f := false) (g := false) (rowI l) (by rw [rowI_ln]; exact hl))
theorem eqFarL (n : Nat) (f : Nat → Int) (hl : n ≤ 4611686018427387904) : FCall Tryz.prog (.fn (.func 17) [] []) [.list false 1 (farA n f), .list false 1 (farA n f)] [] (fun r h' => h' = [] ∧ r = bv true) := by
  rw [farA_I]; exact FCall.of_fun (eqInt (f := false) (g := false) _ (by rw [List.length_map, List.length_range]; exact hl))
set_option maxHeartbeats 8000000 in
theorem pathWays (x : Gr) (pp : List (Int × Int)) (hb : x.es.length ≤ 4611686018427387904) (hlim : pp.length ≤ 4611686018427387904) : ACall Tryz.prog 3 [.agg (grR x), .list false 2 (pp.map parR)] (.glob 0 147 tabC :: []) (fun r h' => h' = .glob 0 147 tabC :: [] ∧ r = bv true) := by
  refine acall_of_aw Tryz.func3 rfl rfl rfl ?_
  have hg : (ownG 300 x).es.length ≤ 4611686018427387904 := Nat.le_trans (ownG_len 300 x) (by decide)
  refine rn ?_
  refine aops_e rfl (oe_box rfl rfl rfl fun b2 => ?_)
  refine rn ?_
  refine qv rfl rfl (qv_call rfl rfl (FCall.qt (FCall.of_fun lawWakes) (pt1 _ _ _))) ?_
  refine rn ?_
  refine aw_cond rfl (fun hc19 => ?_) (fun hc19 => ?_)
  · exact absurd hc19 (by decide)
  · refine rn ?_
    refine qv rfl rfl (qv_call rfl rfl (FCall.pure (R := fun z => z = .agg (grR (ownG 300 x))) (FCall.of_fun (lawOwn x hb)))) ?_
    refine aops_e rfl (oe_alloc rfl fun b5 => ?_)
    refine rn ?_
    refine qv rfl rfl (qv_call rfl rfl (FCall.pure (R := fun z => z = bv (chkB (ownG 300 x))) (FCall.of_fun (refRight (ownG 300 x) hg)))) ?_
    refine q1 ?_
    refine aops_nil (thn_n ?_)
    refine aw_seq ?_
    refine aw_seq (aw_region ?_)
    refine q1 ?_
    refine qq rfl rfl (qr_as (qr_len_list rfl) (show iv _ = iv ((pp.length : Nat) : Int) from congrArg iv (by rw [List.length_map]))) ?_
    refine rn ?_
    refine aw_range pp.length (fun _ => True) (fun k => ⟨[(26, iv k), (2, .v (.pointer (some ⟨b2, 0, none⟩))), (5, .v (.pointer (some ⟨b5, 0, none⟩))), (6, bv (chkB (ownG 300 x))), (24, .list false 2 (pp.map parR)), (25, iv (pp.length : Nat))], .box b5 24 (grR (ownG 300 x)) :: .box b2 24 (grR x) :: .glob 0 147 tabC :: [], []⟩) trivial es ?_
    intro k lk _
    refine rn ?_
    refine aw_cond rfl (fun hc27 => ?_) (fun hc27 => ?_)
    · have hkk : k < pp.length := by have q := of_decide_eq_true hc27; omega
      obtain ⟨s, t, hp⟩ : ∃ s t : Int, pp[k] = (s, t) := ⟨_, _, rfl⟩
      refine aw_skip ?_
      refine thn_n ?_
      refine aw_seq ?_
      refine aw_block ?_
      refine aw_seq (aw_region ?_)
      refine q1 ?_
      refine qq rfl rfl (qr_index_list (i := k) rfl rfl (atRow (f := parR) hkk)) ?_
      first | refine qq rfl rfl (qr_as (qr_load_all rfl rfl) (show AV.agg _ = AV.agg [iv s, iv t] from congrArg AV.agg (by rw [hp]; rfl))) ?_ | refine qq rfl rfl (qr_as (qr_load_pp_all rfl rfl) (show AV.agg _ = AV.agg [iv s, iv t] from congrArg AV.agg (by rw [hp]; rfl))) ?_ | refine qq rfl rfl (qr_as (qr_load_agg rfl (Nat.le_of_ble_eq_true rfl)) (show AV.agg _ = AV.agg [iv s, iv t] from congrArg AV.agg (by rw [hp]; rfl))) ?_ | refine qq rfl rfl (qr_as (qr_load_pp_agg rfl (Nat.le_of_ble_eq_true rfl)) (show AV.agg _ = AV.agg [iv s, iv t] from congrArg AV.agg (by rw [hp]; rfl))) ?_
      refine aops_e rfl (oe_alloc rfl fun b8 => ?_)
      refine rn ?_
      refine aw_cond rfl (fun hc32 => ?_) (fun hc32 => ?_)
      · refine rn ?_
        refine aw_draw 3 rfl ?_
        refine rn ?_
        refine dv rfl rfl (by exact qv_call rfl rfl (FCall.pure (R := fun z => z = .agg (grR (ownG 300 x))) (FCall.of_fun (lawOwn x hb)))) ?_
        refine rn ?_
        refine qv rfl rfl (qv_call rfl rfl (FCall.pure (R := fun z => z = bv true) ((FCall.of_fun (refSameG (ownG 300 x) (ownG 300 x) hg hg)).mono fun _ _ q => ⟨q.1, by rw [q.2, same_refl]⟩))) ?_
        refine rn ?_
        first | exact retq (.cons _ _ _ _ (.tmp _ _ rfl) .nil) (.drop [_, _] _ _) ⟨rfl, rfl⟩ | exact retq (.cons _ _ _ _ (.tmp _ _ rfl) .nil) (.drop [_, _, _] _ _) ⟨rfl, rfl⟩
      · refine aw_skip ?_
        refine thn_n ?_
        refine aw_seq (aw_region ?_)
        refine q1 ?_
        refine qq rfl rfl (qr_indexAddr_arr (n := 2) (i := 0) rfl rfl (by omega)) ?_
        refine rn ?_
        refine qv rfl rfl (qv_call rfl rfl (FCall.pure (R := fun z => z = .tup [.list false 1 (farO (ownG 300 x) s), iv (chkP (ownG 300 x) [s])]) (FCall.of_fun (pFarX (ownG 300 x) hg s)))) ?_
        refine q1 ?_
        refine q1 ?_
        refine q1 ?_
        refine q1 ?_
        refine q1 ?_
        refine aops_nil (thn_n ?_)
        refine aw_seq (aw_region ?_)
        refine q1 ?_
        refine qq rfl rfl (qr_indexAddr_arr (n := 2) (i := 0) rfl rfl (by omega)) ?_
        refine q1 ?_
        refine qq rfl rfl (qr_indexAddr_arr (n := 2) (i := 1) rfl rfl (by omega)) ?_
        refine rn ?_
        refine qv rfl rfl (qv_call rfl rfl (FCall.pure (R := fun z => z = .tup [.list false 1 ((shoL (ownG 300 x) s t).map natR), iv (shoE (ownG 300 x) s t)]) (FCall.of_fun (pShort (ownG 300 x) hg s t)))) ?_
        refine rn0 ?_
        refine aw_seq (aw_region ?_)
        refine rn0 ?_
        refine aw_seq (aw_region ?_)
        refine rn0 ?_
        refine aw_seq ?_
        refine aw_seq ?_
        refine spl2 (A := chkB (ownG 300 x)) (fun hX => ?_) (fun hX => ?_)
        · refine aw_region ?_
          refine qq rfl rfl (qr_as (qr_move rfl) (congrArg bv (hX))) ?_
          refine rn ?_
          refine aw_cond rfl (fun hc49 => ?_) (fun hc49 => ?_)
          · have hok := chkB_iff.1 hX
            have hn0 := hok.n0
            have hn1 := hok.n1
            have hmany := hok.many
            have hng : nG (ownG 300 x) ≤ 300 := by unfold nG; omega
            have hnn : ((nG (ownG 300 x) : Nat) : Int) = ((ownG 300 x)).n := by unfold nG; omega
            refine aw_seq (aw_region ?_)
            refine rn0 ?_
            refine aw_seq ?_
            refine aw_seq ?_
            refine spl2 (A := nodeB (ownG 300 x) s) (fun hA => ?_) (fun hA => ?_)
            · refine aw_region ?_
              refine q1 ?_
              refine qq rfl rfl (qr_indexAddr_arr (n := 2) (i := 0) rfl rfl (by omega)) ?_
              refine rn ?_
              first | refine qv rfl rfl (qv_call rfl rfl (FCall.pure (R := fun z => z = bv (nodeB (ownG 300 x) s)) (FCall.of_fun (lawNode (ownG 300 x) s)))) ?_ | refine qv rfl rfl (qv_call rfl rfl (FCall.pure (R := fun z => z = bv (nodeB (ownG 300 x) (u : Int))) (FCall.of_fun (lawNode (ownG 300 x) (u : Int))))) ?_
              refine rn ?_
              refine aw_cond rfl (fun hc53 => ?_) (fun hc53 => ?_)
              · obtain ⟨u, rfl, hu⟩ := node_nat hA
                obtain ⟨hO, hE⟩ := far_y hok hu
                rw [hO]
                have hQ1 := eqFarL (nG (ownG 300 x)) (farF (ownG 300 x) u) (by omega)
                refine aw_region ?_
                refine q1 ?_
                refine qq rfl rfl (qr_indexAddr_arr (n := 2) (i := 0) rfl rfl (by omega)) ?_
                refine rn ?_
                refine qv rfl rfl (qv_call rfl rfl (FCall.pure (R := fun z => z = .list false 1 (farA (nG (ownG 300 x)) (farF (ownG 300 x) u))) ((FCall.of_fun (rFar (ownG 300 x) hok u 0 hu)).mono fun _ _ q => ⟨q.1, by rw [q.2, far_erl]⟩))) ?_
                refine q1 ?_
                refine q1 ?_
                refine aops_nil (thn_n ?_)
                refine aw_seq (aw_region ?_)
                refine q1 ?_
                refine qq rfl rfl (qr_indexAddr_arr (n := 2) (i := 0) rfl rfl (by omega)) ?_
                refine rn ?_
                first | refine qv rfl rfl (qv_call rfl rfl (FCall.pure (R := fun z => z = bv (nodeB (ownG 300 x) s)) (FCall.of_fun (lawNode (ownG 300 x) s)))) ?_ | refine qv rfl rfl (qv_call rfl rfl (FCall.pure (R := fun z => z = bv (nodeB (ownG 300 x) (u : Int))) (FCall.of_fun (lawNode (ownG 300 x) (u : Int))))) ?_
                refine qq rfl rfl (qr_as (qr_move rfl) (congrArg bv (hA))) ?_
                refine q1 ?_
                refine qq rfl rfl (qr_indexAddr_arr (n := 2) (i := 1) rfl rfl (by omega)) ?_
                refine rn ?_
                first | refine qv rfl rfl (qv_call rfl rfl (FCall.pure (R := fun z => z = bv (nodeB (ownG 300 x) t)) (FCall.of_fun (lawNode (ownG 300 x) t)))) ?_ | refine qv rfl rfl (qv_call rfl rfl (FCall.pure (R := fun z => z = bv (nodeB (ownG 300 x) t)) (FCall.of_fun (lawNode (ownG 300 x) t)))) ?_
                refine rn ?_
                refine aw_cond rfl (fun hc67 => ?_) (fun hc67 => ?_)
                · obtain ⟨v, rfl, hv⟩ := node_nat hc67
                  obtain ⟨hL, hF1, hF2⟩ := shY hok hu hv
                  rw [hL]
                  have hQ2 := eqNatL (shR (ownG 300 x) u v) (Nat.le_trans (shR_len hok hv) (by decide))
                  refine aw_seq (aw_region ?_)
                  refine q1 ?_
                  refine aops_nil (thn_n ?_)
                  refine aw_seq (aw_region ?_)
                  refine q1 ?_
                  refine qq rfl rfl (qr_indexAddr_arr (n := 2) (i := 0) rfl rfl (by omega)) ?_
                  refine q1 ?_
                  refine qq rfl rfl (qr_indexAddr_arr (n := 2) (i := 1) rfl rfl (by omega)) ?_
                  refine rn ?_
                  refine qv rfl rfl (qv_call rfl rfl (FCall.pure (R := fun z => z = .tup [.list false 1 ((shR (ownG 300 x) u v).map natR), bv (decide (0 ≤ (lefB (rowO (ownG 300 x)) 0 v u)))]) (FCall.of_fun (rSho (ownG 300 x) hok u v hu hv)))) ?_
                  refine rn ?_
                  refine aw_cond rfl (fun hc77 => ?_) (fun hc77 => ?_)
                  · have hF := hF1 hc77
                    refine aw_region ?_
                    refine q1 ?_
                    refine aops_nil (thn_n ?_)
                    refine aw_seq (aw_region ?_)
                    refine q1 ?_
                    refine q1 ?_
                    refine qq rfl rfl (qr_as (qr_cmp rfl rfl rfl) (congrArg bv ((bne_eq_false_iff_eq.2 hE)))) ?_
                    refine q1 ?_
                    refine q1 ?_
                    refine q1 ?_
                    refine qq rfl rfl (qr_as (qr_cmp rfl rfl rfl) (congrArg bv ((bne_eq_false_iff_eq.2 hF)))) ?_
                    refine rn ?_
                    refine qv rfl rfl (qv_call rfl rfl (FCall.pure hQ1)) ?_
                    refine rn ?_
                    refine qv rfl rfl (qv_call rfl rfl (FCall.pure hQ2)) ?_
                    refine rn ?_
                    refine aw_cond rfl (fun hc97 => ?_) (fun hc97 => ?_)
                    · first | cases hc97 | exact absurd hc97 (by decide) | (exfalso; simp_all; done)
                    · refine rn ?_
                      exact ⟨hkk, trivial, eA⟩
                  · have hF := hF2 hc77
                    refine aw_region ?_
                    refine q1 ?_
                    refine aops_nil (thn_n ?_)
                    refine aw_seq (aw_region ?_)
                    refine q1 ?_
                    refine q1 ?_
                    refine qq rfl rfl (qr_as (qr_cmp rfl rfl rfl) (congrArg bv ((bne_eq_false_iff_eq.2 hE)))) ?_
                    refine q1 ?_
                    refine q1 ?_
                    refine q1 ?_
                    refine qq rfl rfl (qr_as (qr_cmp rfl rfl rfl) (congrArg bv ((bne_eq_false_iff_eq.2 hF)))) ?_
                    refine rn ?_
                    refine qv rfl rfl (qv_call rfl rfl (FCall.pure hQ1)) ?_
                    refine rn ?_
                    refine qv rfl rfl (qv_call rfl rfl (FCall.pure hQ2)) ?_
                    refine rn ?_
                    refine aw_cond rfl (fun hc97 => ?_) (fun hc97 => ?_)
                    · first | cases hc97 | exact absurd hc97 (by decide) | (exfalso; simp_all; done)
                    · refine rn ?_
                      exact ⟨hkk, trivial, eA⟩
                · obtain ⟨hF, hL⟩ := shN hok (by first | exact .inl hA | exact .inr hc67)
                  rw [hL]
                  have hQ2 := eqNilV
                  refine aw_skip ?_
                  refine thn_n ?_
                  refine aw_seq (aw_region ?_)
                  refine q1 ?_
                  refine q1 ?_
                  refine qq rfl rfl (qr_as (qr_cmp rfl rfl rfl) (congrArg bv ((bne_eq_false_iff_eq.2 hE)))) ?_
                  refine q1 ?_
                  refine q1 ?_
                  refine q1 ?_
                  refine qq rfl rfl (qr_as (qr_cmp rfl rfl rfl) (congrArg bv ((bne_eq_false_iff_eq.2 hF)))) ?_
                  refine rn ?_
                  refine qv rfl rfl (qv_call rfl rfl (FCall.pure hQ1)) ?_
                  refine rn ?_
                  refine qv rfl rfl (qv_call rfl rfl (FCall.pure hQ2)) ?_
                  refine rn ?_
                  refine aw_cond rfl (fun hc97 => ?_) (fun hc97 => ?_)
                  · first | cases hc97 | exact absurd hc97 (by decide) | (exfalso; simp_all; done)
                  · refine rn ?_
                    exact ⟨hkk, trivial, eA⟩
              · first | cases hc53 | exact absurd hc53 (by decide) | (exfalso; simp_all; done)
            · refine aw_region ?_
              refine q1 ?_
              refine qq rfl rfl (qr_indexAddr_arr (n := 2) (i := 0) rfl rfl (by omega)) ?_
              refine rn ?_
              first | refine qv rfl rfl (qv_call rfl rfl (FCall.pure (R := fun z => z = bv (nodeB (ownG 300 x) s)) (FCall.of_fun (lawNode (ownG 300 x) s)))) ?_ | refine qv rfl rfl (qv_call rfl rfl (FCall.pure (R := fun z => z = bv (nodeB (ownG 300 x) (u : Int))) (FCall.of_fun (lawNode (ownG 300 x) (u : Int))))) ?_
              refine rn ?_
              refine aw_cond rfl (fun hc53 => ?_) (fun hc53 => ?_)
              · first | cases hc53 | exact absurd hc53 (by decide) | (exfalso; simp_all; done)
              · have hE := chkP_n (l := [s]) (chkE_0.2 hok) (by simp [hA])
                rw [far_x (by rw [hE]; decide)]
                have hQ1 := eqNilV
                refine aw_skip ?_
                refine thn_n ?_
                refine aw_seq (aw_region ?_)
                refine q1 ?_
                refine qq rfl rfl (qr_indexAddr_arr (n := 2) (i := 0) rfl rfl (by omega)) ?_
                refine rn ?_
                first | refine qv rfl rfl (qv_call rfl rfl (FCall.pure (R := fun z => z = bv (nodeB (ownG 300 x) s)) (FCall.of_fun (lawNode (ownG 300 x) s)))) ?_ | refine qv rfl rfl (qv_call rfl rfl (FCall.pure (R := fun z => z = bv (nodeB (ownG 300 x) (u : Int))) (FCall.of_fun (lawNode (ownG 300 x) (u : Int))))) ?_
                refine qq rfl rfl (qr_as (qr_move rfl) (congrArg bv (hA))) ?_
                refine rn ?_
                refine aw_cond rfl (fun hc67 => ?_) (fun hc67 => ?_)
                · first | cases hc67 | exact absurd hc67 (by decide) | (exfalso; simp_all; done)
                · obtain ⟨hF, hL⟩ := shN hok (by first | exact .inl hA | exact .inr hc67)
                  rw [hL]
                  have hQ2 := eqNilV
                  refine aw_skip ?_
                  refine thn_n ?_
                  refine aw_seq (aw_region ?_)
                  refine q1 ?_
                  refine q1 ?_
                  refine qq rfl rfl (qr_as (qr_cmp rfl rfl rfl) (congrArg bv ((bne_eq_false_iff_eq.2 hE)))) ?_
                  refine q1 ?_
                  refine q1 ?_
                  refine q1 ?_
                  refine qq rfl rfl (qr_as (qr_cmp rfl rfl rfl) (congrArg bv ((bne_eq_false_iff_eq.2 hF)))) ?_
                  refine rn ?_
                  refine qv rfl rfl (qv_call rfl rfl (FCall.pure hQ1)) ?_
                  refine rn ?_
                  refine qv rfl rfl (qv_call rfl rfl (FCall.pure hQ2)) ?_
                  refine rn ?_
                  refine aw_cond rfl (fun hc97 => ?_) (fun hc97 => ?_)
                  · first | cases hc97 | exact absurd hc97 (by decide) | (exfalso; simp_all; done)
                  · refine rn ?_
                    exact ⟨hkk, trivial, eA⟩
          · first | cases hc49 | exact absurd hc49 (by decide) | (exfalso; simp_all; done)
        · refine aw_region ?_
          refine qq rfl rfl (qr_as (qr_move rfl) (congrArg bv (hX))) ?_
          refine rn ?_
          refine aw_cond rfl (fun hc49 => ?_) (fun hc49 => ?_)
          · first | cases hc49 | exact absurd hc49 (by decide) | (exfalso; simp_all; done)
          · have hE := chkP_x (l := [s]) hX
            obtain ⟨hF, hL⟩ := shX (s := s) (t := t) hX
            rw [hL, far_x (by rw [hE]; decide)]
            have hQ1 := eqNilV
            have hQ2 := eqNilV
            refine aw_skip ?_
            refine thn_n ?_
            refine aw_seq (aw_region ?_)
            refine q1 ?_
            refine q1 ?_
            refine qq rfl rfl (qr_as (qr_cmp rfl rfl rfl) (congrArg bv ((bne_eq_false_iff_eq.2 hE)))) ?_
            refine q1 ?_
            refine q1 ?_
            refine q1 ?_
            refine qq rfl rfl (qr_as (qr_cmp rfl rfl rfl) (congrArg bv ((bne_eq_false_iff_eq.2 hF)))) ?_
            refine rn ?_
            refine qv rfl rfl (qv_call rfl rfl (FCall.pure hQ1)) ?_
            refine rn ?_
            refine qv rfl rfl (qv_call rfl rfl (FCall.pure hQ2)) ?_
            refine rn ?_
            refine aw_cond rfl (fun hc97 => ?_) (fun hc97 => ?_)
            · first | cases hc97 | exact absurd hc97 (by decide) | (exfalso; simp_all; done)
            · refine rn ?_
              exact ⟨hkk, trivial, eA⟩
    · have qk : k = pp.length := by have q := of_decide_eq_false hc27; omega
      refine rn ?_
      refine aw_draw 3 rfl ?_
      refine rn ?_
      refine dv rfl rfl (by exact qv_call rfl rfl (FCall.pure (R := fun z => z = .agg (grR (ownG 300 x))) (FCall.of_fun (lawOwn x hb)))) ?_
      refine rn ?_
      refine qv rfl rfl (qv_call rfl rfl (FCall.pure (R := fun z => z = bv true) ((FCall.of_fun (refSameG (ownG 300 x) (ownG 300 x) hg hg)).mono fun _ _ q => ⟨q.1, by rw [q.2, same_refl]⟩))) ?_
      refine rn ?_
      first | exact retq (.cons _ _ _ _ (.tmp _ _ rfl) .nil) (.drop [_, _] _ _) ⟨rfl, rfl⟩ | exact retq (.cons _ _ _ _ (.tmp _ _ rfl) .nil) (.drop [_, _, _] _ _) ⟨rfl, rfl⟩
end Go.Proofs
