/- The walk of MatchRuns. Conditions: none. -/
import Derived.Test.YtdbfjfphfbcgiaaGreatDoorMRunsH
set_option linter.unusedSectionVars false
set_option linter.unusedSimpArgs false
set_option linter.unusedVariables false
set_option linter.unusedVariables false
set_option linter.unusedSimpArgs false
set_option maxRecDepth 10000
namespace Go.Proofs
open Go Go.Ab
attribute [local irreducible] QR QV OE aops aw dsoup dsoupM dalloc dallocM thn inBlk jsoup jch lsoup
open Go.H
theorem mt_0 {h : Hist} {p x : Int} (he : tabE h p x = 0) : mtE h p x 0 = 0 ∧ mtB h p x 0 = (matD h p x).first := by
  have := mt_y (k := 0) he (by rw [tab_len]; omega)
  exact ⟨this.1, this.2⟩
theorem mrA0 (h : Hist) (la : Lim 4611686018427387904 h) (p x : Int) (he : tabE h p x = 0) : ACall Tryz.prog 54 [.agg (histC h), iv p, iv x, iv 0] (.glob 1 112 limitsC :: .glob 2 234 firstC :: .glob 3 237 acceptC :: .glob 0 102 asksC :: []) (fun r h' => h' = .glob 1 112 limitsC :: .glob 2 234 firstC :: .glob 3 237 acceptC :: .glob 0 102 asksC :: [] ∧ r = .tup [bv (matD h p x).first, iv 0]) := (matMatches h la p x 0).mono fun _ _ q => ⟨q.1, by rw [q.2, (mt_0 he).1, (mt_0 he).2]⟩
theorem mrAy (h : Hist) (la : Lim 4611686018427387904 h) (p x : Int) (he : tabE h p x = 0) (k : Nat) (hk : k + 1 < (tabP h p x).length) : ACall Tryz.prog 54 [.agg (histC h), iv p, iv x, iv ((k : Int) + 1)] (.glob 1 112 limitsC :: .glob 2 234 firstC :: .glob 3 237 acceptC :: .glob 0 102 asksC :: []) (fun r h' => h' = .glob 1 112 limitsC :: .glob 2 234 firstC :: .glob 3 237 acceptC :: .glob 0 102 asksC :: [] ∧ r = .tup [bv (((tabP h p x)[k + 1]?).getD false), iv 0]) := (matMatches h la p x ((k : Int) + 1)).mono fun _ _ q => ⟨q.1, by
  have := mt_y (k := k + 1) he hk
  rw [show ((k + 1 : Nat) : Int) = (k : Int) + 1 by omega] at this
  rw [q.2, this.1, this.2, List.getElem?_eq_getElem hk]; rfl⟩
theorem mrAn (h : Hist) (la : Lim 4611686018427387904 h) (p x : Int) (he : tabE h p x = 0) (k : Nat) (hk : ¬ k + 1 < (tabP h p x).length) : ACall Tryz.prog 54 [.agg (histC h), iv p, iv x, iv ((k : Int) + 1)] (.glob 1 112 limitsC :: .glob 2 234 firstC :: .glob 3 237 acceptC :: .glob 0 102 asksC :: []) (fun r h' => h' = .glob 1 112 limitsC :: .glob 2 234 firstC :: .glob 3 237 acceptC :: .glob 0 102 asksC :: [] ∧ r = .tup [bv false, iv 2]) := (matMatches h la p x ((k : Int) + 1)).mono fun _ _ q => ⟨q.1, by
  have := mt_r (r := (k : Int) + 1) he (by omega)
  rw [q.2, this.1, this.2]⟩
theorem tri2m {p : Prop} (c : Prop) [Decidable c] (a : c → p) (b : ¬ c → p) : p := if h : c then a h else b h
theorem mat2 {p : Prop} {h : Hist} {a b : Int} (x : ∀ k, (hk : k < h.mats.length) → fidx (matQ a b) 0 h.mats = (k : Int) → matF h a b = some h.mats[k] → p) (y : fidx (matQ a b) 0 h.mats = -1 → matF h a b = none → p) : p := by
  rcases mat_at (h := h) (p := a) (x := b) with ⟨k, hk, e, hf⟩ | ⟨e, hf⟩
  · exact x k hk e hf
  · exact y e hf
theorem few_ord {x : Hist} {o : H.Ord} (ho : o ∈ (fewA x).ords) : o.ts.length ≤ 14 := by
  simp only [fewA, List.mem_map] at ho
  obtain ⟨e', _, rfl⟩ := ho
  simp only [cutO2, List.length_take]; omega
theorem few_tab {x : Hist} {p q : Int} (he : tabE (fewA x) p q = 0) : (tabP (fewA x) p q).length ≤ 15 := by
  have : (insR (fewA x) q).length ≤ 14 := by
    unfold insR
    split
    · rename_i o ho; exact few_ord (List.mem_of_find?_eq_some ho)
    · refine Nat.le_trans (writersR_le _ _) ?_
      simp only [fewA, cutL, List.length_map, List.length_take]; omega
  rw [tab_len, tab_ins he]; omega
theorem ctT (h : Hist) (la : Lim 4611686018427387904 h) (p x : Int) (he : tabE h p x = 0) (k : Nat) (hk : k + 1 < (tabP h p x).length) (hl : (tabP h p x).length ≤ 1000) : ACall Tryz.prog 48 [intsA (chgP (tabP h p x)), iv ((k : Int) + 1)] [] (fun r h' => h' = [] ∧ r = bv ((((tabP h p x)[k + 1]?).getD false) != (((tabP h p x)[k]?).getD false))) := (containsI (chgP (tabP h p x)) ((k : Int) + 1) (Nat.le_trans (chgK_len _ _) (Nat.le_trans hl (by decide)))).mono fun _ _ q => ⟨q.1, by
  have := chg_contains (l := tabP h p x) (k := k + 1) (by omega) hk
  rw [show ((k + 1 : Nat) : Int) = (k : Int) + 1 by omega] at this
  rw [q.2, this, List.getElem?_eq_getElem hk, List.getElem?_eq_getElem (show k < (tabP h p x).length by omega)]; rfl⟩
theorem row_pos {h : Hist} {p x : Int} {k : Nat} (hk : k < (tabP h p x).length) (ht : (((tabP h p x)[k]?).getD false) = true) : decide (fidx (matQ p x) 0 h.mats < 0) = false := by
  rcases mat_at (h := h) (p := p) (x := x) with ⟨j, hj, e, hf⟩ | ⟨e, hf⟩
  · rw [e]; exact decide_eq_false (by omega)
  · rw [List.getElem?_eq_getElem hk, tab_none hf hk] at ht; cases ht
theorem chl_y {l : List Bool} {k : Nat} (hk : k + 1 < l.length) (hb : ((l[k + 1]?).getD false != (l[k]?).getD false) = true) : ((chgK l (k + 1 + 1)).length : Int) = ((chgK l (k + 1)).length : Int) + 1 := by
  rw [List.getElem?_eq_getElem hk, List.getElem?_eq_getElem (show k < l.length by omega)] at hb
  rw [chgK_y (by omega) hk (by exact hb), List.length_append]; rfl
theorem chl_n {l : List Bool} {k : Nat} (hk : k + 1 < l.length) (hb : ((l[k + 1]?).getD false != (l[k]?).getD false) = false) : chgK l (k + 1 + 1) = chgK l (k + 1) := by
  rw [List.getElem?_eq_getElem hk, List.getElem?_eq_getElem (show k < l.length by omega)] at hb
  exact chgK_n (by omega) hk (by exact hb)
theorem tab_f0 (h : Hist) (p x : Int) : (((tabP h p x)[0]?).getD false) = (matD h p x).first := rfl
theorem chg_le (l : List Bool) : (chgP l).Pairwise (· ≤ ·) := (chgK_lt l _).imp fun h => Int.le_of_lt h
theorem mrR1 (m : Mat) (p x : Int) (b2 b3 : Nat) (G : List Res) : ACall Tryz.prog 60 [.agg (matR m), .v (.pointer (some ⟨b2, 0, none⟩)), .v (.pointer (some ⟨b3, 0, none⟩))] (.box b2 3 [iv p] :: .box b3 3 [iv x] :: G) (fun r h' => h' = (.box b2 3 [iv p] :: .box b3 3 [iv x] :: G) ∧ r = bv (matQ p x m)) := by
  refine acall_of_aw Tryz.func60 rfl rfl rfl ?_
  refine rn ?_
  refine aops_e rfl (oe_box rfl rfl rfl fun b3 => ?_)
  refine rn ?_
  refine asplit (fun hg1_4 => ?_) (fun hg1_4 => ?_)
  · refine rn ?_
    refine rq 1 ?_
    exact ⟨rfl, congrArg bv (by unfold matQ; first | rfl | (simp_all; done))⟩
  · refine rn ?_
    refine rq 1 ?_
    exact ⟨rfl, congrArg bv (by unfold matQ; first | rfl | (simp_all; done))⟩
set_option maxHeartbeats 4000000 in
theorem matchRuns (x : Hist) (p q : Int) (lb : Lim 4611686018427387904 x)  : ACall Tryz.prog 11 [.agg (histC x), iv p, iv q] (.glob 1 112 limitsC :: .glob 2 234 firstC :: .glob 3 237 acceptC :: .glob 0 102 asksC :: []) (fun r h' => h' = .glob 1 112 limitsC :: .glob 2 234 firstC :: .glob 3 237 acceptC :: .glob 0 102 asksC :: [] ∧ r = bv true) := by
  refine acall_of_aw Tryz.func11 rfl rfl rfl ?_
  refine rn ?_
  refine aops_e rfl (oe_box rfl rfl rfl fun b3 => ?_)
  refine aops_e rfl (oe_box rfl rfl rfl fun b4 => ?_)
  refine aops_e rfl (oe_box rfl rfl rfl fun b5 => ?_)
  refine rn ?_
  refine qv rfl rfl (qv_call rfl rfl (FCall.qt (FCall.of_fun wakes17) ((pt3 _ _ _ _ _).trans (.cons _ ((pt3 _ _ _ _ _).trans (.cons _ ((pt3 _ _ _ _ _).trans (.cons _ (pt3 _ _ _ _ _))))))))) ?_
  refine rn ?_
  refine aw_cond rfl (fun hc17 => ?_) (fun hc17 => ?_)
  · exact absurd hc17 (by decide)
  · refine rn ?_
    refine qv rfl rfl (qv_call rfl rfl (pcall (few17 x lb) (Sbs.refl _))) ?_
    refine aops_e rfl (oe_alloc rfl fun b7 => ?_)
    refine rn ?_
    refine qv rfl rfl (qv_call rfl rfl (FCall.qt (FCall.of_fun (matChg (fewA x) ((fewA_lim x).mono (by decide)) p q)) ((pt4 _ _ _ _ _ _).trans (.cons _ ((pt4 _ _ _ _ _ _).trans (.cons _ ((pt4 _ _ _ _ _ _).trans (.cons _ (pt4 _ _ _ _ _ _))))))))) ?_
    refine rn ?_
    refine aw_cond rfl (fun hc28 => ?_) (fun hc28 => ?_)
    · have he := nz_t hc28
      obtain ⟨_, _, u⟩ := mt_e (r := 0) he
      rw [u]
      refine rn ?_
      first | (refine rq 4 ?_; exact ⟨rfl, rfl⟩) | (refine rq 3 ?_; exact ⟨rfl, rfl⟩)
    · have he := nz_f hc28
      have hch : chL (fewA x) p q = chgP (tabP (fewA x) p q) := by rw [chL, if_pos he]
      rw [hch]
      have hT := few_tab he
      have hT0 := tab_len (fewA x) p q
      refine rn ?_
      refine qv rfl rfl (qv_call rfl rfl (FCall.of_fun (indexFuncMat (fewA x).mats _ (matQ p q) _ (fun a _ => FCall.qt (FCall.of_acall (fs := []) (cs := [.v (.pointer (some ⟨b4, 0, none⟩)), .v (.pointer (some ⟨b5, 0, none⟩))]) (mrR1 a p q b4 b5 (.box b7 28 (histC (fewA x)) :: .box b3 28 (histC x) :: .glob 1 112 limitsC :: .glob 2 234 firstC :: .glob 3 237 acceptC :: .glob 0 102 asksC :: []))) ((pt2 _ _ _ _).trans (.cons _ (pt1 _ _ _)))) ((fewA_lim x).mono (by decide)).mats))) ?_
      refine rn ?_
      refine qv rfl rfl (qv_call rfl rfl (FCall.qt (FCall.of_fun (mrA0 (fewA x) ((fewA_lim x).mono (by decide)) p q he)) ((pt4 _ _ _ _ _ _).trans (.cons _ ((pt4 _ _ _ _ _ _).trans (.cons _ ((pt4 _ _ _ _ _ _).trans (.cons _ (pt4 _ _ _ _ _ _))))))))) ?_
      refine q1 ?_
      refine q1 ?_
      refine q1 ?_
      refine q1 ?_
      refine q1 ?_
      refine aops_nil (thn_n ?_)
      refine aw_seq ?_
      refine aw_seq (aw_region ?_)
      refine mat2 (h := (fewA x)) (a := p) (b := q) (fun k hk e hf => qq rfl rfl (qr_move rfl) ?_) (fun e hf => qq rfl rfl (qr_move rfl) ?_)
      · refine q1 ?_
        refine q1 ?_
        refine q1 ?_
        refine q1 ?_
        refine qq rfl rfl (by first | exact qr_cmp (c := true) rfl rfl (congrArg some (by rw [e]; exact decide_eq_true (by omega))) | exact qr_cmp (c := false) rfl rfl (congrArg some (by rw [e]; rfl))) ?_
        refine q1 ?_
        refine q1 ?_
        refine q1 ?_
        refine q1 ?_
        refine qq rfl rfl (qr_index_int rfl rfl (by rw [e]; omega) (by rw [e, Int.toNat_natCast]; exact atRow (f := matR) hk)) ?_
        refine q1 ?_
        refine q1 ?_
        refine q1 ?_
        refine qq rfl rfl (qr_isB (c := false) (qr_nebool rfl rfl) (by rw [matD, hf]; simp [mat0])) ?_
        refine rn ?_
        refine aw_cond rfl (fun hc58 => ?_) (fun hc58 => ?_)
        · first | cases hc58 | exact absurd hc58 (by decide) | (exfalso; simp_all; done)
        · refine rn ?_
          refine aw_while (fun k : Nat => k < (tabP (fewA x) p q).length) (fun k => ⟨[(13, iv ((k : Int) + 1)), (11, bv (((tabP (fewA x) p q)[k]?).getD false)), (12, iv ((chgK (tabP (fewA x) p q) (k + 1)).length : Nat)), (3, .v (.pointer (some ⟨b3, 0, none⟩))), (4, .v (.pointer (some ⟨b4, 0, none⟩))), (5, .v (.pointer (some ⟨b5, 0, none⟩))), (7, .v (.pointer (some ⟨b7, 0, none⟩))), (8, intsA (chgP (tabP (fewA x) p q))), (10, iv (fidx (matQ p q) 0 (fewA x).mats))], .box b7 28 (histC (fewA x)) :: .box b5 3 [iv q] :: .box b4 3 [iv p] :: .box b3 28 (histC x) :: .glob 1 112 limitsC :: .glob 2 234 firstC :: .glob 3 237 acceptC :: .glob 0 102 asksC :: [], []⟩) (fun k => (tabP (fewA x) p q).length - k) 0 (by rw [hT0]; omega) (by rw [tab_f0]; exact eA) ?_
          intro k lk
          refine rn ?_
          refine aw_cond rfl (fun hc60 => ?_) (fun hc60 => ?_)
          · refine aw_skip ?_
            refine thn_n ?_
            refine aw_seq ?_
            refine aw_block ?_
            refine aw_seq (aw_region ?_)
            refine q1 ?_
            refine q1 ?_
            refine q1 ?_
            refine q1 ?_
            refine tri2m (k + 1 < (tabP (fewA x) p q).length) (fun h1 => qv rfl rfl (qv_call rfl rfl (FCall.qt (FCall.of_fun (mrAy (fewA x) ((fewA_lim x).mono (by decide)) p q he k h1)) ((pt4 _ _ _ _ _ _).trans (.cons _ ((pt4 _ _ _ _ _ _).trans (.cons _ ((pt4 _ _ _ _ _ _).trans (.cons _ (pt4 _ _ _ _ _ _))))))))) ?_) (fun h1 => qv rfl rfl (qv_call rfl rfl (FCall.qt (FCall.of_fun (mrAn (fewA x) ((fewA_lim x).mono (by decide)) p q he k h1)) ((pt4 _ _ _ _ _ _).trans (.cons _ ((pt4 _ _ _ _ _ _).trans (.cons _ ((pt4 _ _ _ _ _ _).trans (.cons _ (pt4 _ _ _ _ _ _))))))))) ?_)
            · refine rn ?_
              refine aw_cond rfl (fun hc72 => ?_) (fun hc72 => ?_)
              · first | cases hc72 | exact absurd hc72 (by decide) | (exfalso; simp_all; done)
              · refine rn ?_
                refine qv rfl rfl (qv_call rfl rfl (pcall (ctT (fewA x) ((fewA_lim x).mono (by decide)) p q he k h1 (by omega)) (Sbs.refl _))) ?_
                refine qq rfl rfl (qr_isB (c := false) (qr_nebool rfl rfl) (by simp [bne])) ?_
                refine rn ?_
                refine asplit (fun hg17_9 => ?_) (fun hg17_9 => ?_)
                · refine q1 ?_
                  refine qq rfl rfl (qr_cmp (c := false) rfl rfl (congrArg some (row_pos h1 (by exact hg17_9)))) ?_
                  refine rn ?_
                  refine aw_cond rfl (fun hc86 => ?_) (fun hc86 => ?_)
                  · first | cases hc86 | exact absurd hc86 (by decide) | (exfalso; simp_all; done)
                  · refine rn ?_
                    refine aw_cond rfl (fun hc89 => ?_) (fun hc89 => ?_)
                    · refine aw_region ?_
                      refine q1 ?_
                      refine qq rfl rfl (qr_ari rfl rfl rfl (by have := chgK_len (tabP (fewA x) p q) (k + 1); omega)) ?_
                      refine q1 ?_
                      refine aops_nil (thn_n ?_)
                      refine aw_region ?_
                      refine q1 ?_
                      refine q1 ?_
                      refine aops_nil ?_
                      refine inBlk_n ?_
                      refine thn_n ?_
                      refine aw_region ?_
                      refine q1 ?_
                      refine qq rfl rfl (qr_ari rfl rfl rfl (by omega)) ?_
                      refine rn ?_
                      first | exact ⟨k + 1, h1, by rw [show ((k + 1 : Nat) : Int) = (k : Int) + 1 by omega, chl_y h1 hc89]; exact eA, by omega⟩ | exact ⟨k + 1, h1, by rw [show ((k + 1 : Nat) : Int) = (k : Int) + 1 by omega, chl_n h1 hc89]; exact eA, by omega⟩
                    · refine aw_skip ?_
                      refine thn_n ?_
                      refine aw_region ?_
                      refine q1 ?_
                      refine q1 ?_
                      refine aops_nil ?_
                      refine inBlk_n ?_
                      refine thn_n ?_
                      refine aw_region ?_
                      refine q1 ?_
                      refine qq rfl rfl (qr_ari rfl rfl rfl (by omega)) ?_
                      refine rn ?_
                      first | exact ⟨k + 1, h1, by rw [show ((k + 1 : Nat) : Int) = (k : Int) + 1 by omega, chl_y h1 hc89]; exact eA, by omega⟩ | exact ⟨k + 1, h1, by rw [show ((k + 1 : Nat) : Int) = (k : Int) + 1 by omega, chl_n h1 hc89]; exact eA, by omega⟩
                · refine rn ?_
                  refine aw_cond rfl (fun hc86 => ?_) (fun hc86 => ?_)
                  · first | cases hc86 | exact absurd hc86 (by decide) | (exfalso; simp_all; done)
                  · refine rn ?_
                    refine aw_cond rfl (fun hc89 => ?_) (fun hc89 => ?_)
                    · refine aw_region ?_
                      refine q1 ?_
                      refine qq rfl rfl (qr_ari rfl rfl rfl (by have := chgK_len (tabP (fewA x) p q) (k + 1); omega)) ?_
                      refine q1 ?_
                      refine aops_nil (thn_n ?_)
                      refine aw_region ?_
                      refine q1 ?_
                      refine q1 ?_
                      refine aops_nil ?_
                      refine inBlk_n ?_
                      refine thn_n ?_
                      refine aw_region ?_
                      refine q1 ?_
                      refine qq rfl rfl (qr_ari rfl rfl rfl (by omega)) ?_
                      refine rn ?_
                      first | exact ⟨k + 1, h1, by rw [show ((k + 1 : Nat) : Int) = (k : Int) + 1 by omega, chl_y h1 hc89]; exact eA, by omega⟩ | exact ⟨k + 1, h1, by rw [show ((k + 1 : Nat) : Int) = (k : Int) + 1 by omega, chl_n h1 hc89]; exact eA, by omega⟩
                    · refine aw_skip ?_
                      refine thn_n ?_
                      refine aw_region ?_
                      refine q1 ?_
                      refine q1 ?_
                      refine aops_nil ?_
                      refine inBlk_n ?_
                      refine thn_n ?_
                      refine aw_region ?_
                      refine q1 ?_
                      refine qq rfl rfl (qr_ari rfl rfl rfl (by omega)) ?_
                      refine rn ?_
                      first | exact ⟨k + 1, h1, by rw [show ((k + 1 : Nat) : Int) = (k : Int) + 1 by omega, chl_y h1 hc89]; exact eA, by omega⟩ | exact ⟨k + 1, h1, by rw [show ((k + 1 : Nat) : Int) = (k : Int) + 1 by omega, chl_n h1 hc89]; exact eA, by omega⟩
            · refine rn ?_
              refine aw_cond rfl (fun hc72 => ?_) (fun hc72 => ?_)
              · refine aw_exit ?_
                refine thn_e ?_
                refine inBlk_miss rfl ?_
                refine thn_e ?_
                refine thn_e ?_
                refine inBlk_hit ?_
                refine thn_n ?_
                refine aw_seq (aw_region ?_)
                refine q1 ?_
                refine q1 ?_
                refine q1 ?_
                refine qq rfl rfl (qr_cmp (c := true) rfl rfl (congrArg some (by rw [List.length_map, chgP, show (tabP (fewA x) p q).length = k + 1 by omega]; exact beq_self_eq_true _))) ?_
                refine rn ?_
                refine qv rfl rfl (qv_call rfl rfl (pcall (isSorted (chgP (tabP (fewA x) p q)) (chg_le _) (Nat.le_trans (chgK_len _ _) (by omega))) (Sbs.refl _))) ?_
                refine rn ?_
                first | (refine rq 4 ?_; exact ⟨rfl, rfl⟩) | (refine rq 3 ?_; exact ⟨rfl, rfl⟩)
              · first | cases hc72 | exact absurd hc72 (by decide) | (exfalso; simp_all; done)
          · exfalso; have := of_decide_eq_false hc60; omega
      · refine q1 ?_
        refine q1 ?_
        refine q1 ?_
        refine q1 ?_
        refine qq rfl rfl (by first | exact qr_cmp (c := true) rfl rfl (congrArg some (by rw [e]; exact decide_eq_true (by omega))) | exact qr_cmp (c := false) rfl rfl (congrArg some (by rw [e]; rfl))) ?_
        refine q1 ?_
        refine qs rfl rfl ?_
        refine qs rfl rfl ?_
        refine qs rfl rfl ?_
        refine qs rfl rfl ?_
        refine qs rfl rfl ?_
        refine qs rfl rfl ?_
        refine q1 ?_
        refine qq rfl rfl (qr_isB (c := false) (qr_nebool rfl rfl) (by rw [matD, hf]; simp [mat0])) ?_
        refine rn ?_
        refine aw_cond rfl (fun hc58 => ?_) (fun hc58 => ?_)
        · first | cases hc58 | exact absurd hc58 (by decide) | (exfalso; simp_all; done)
        · refine rn ?_
          refine aw_while (fun k : Nat => k < (tabP (fewA x) p q).length) (fun k => ⟨[(13, iv ((k : Int) + 1)), (11, bv (((tabP (fewA x) p q)[k]?).getD false)), (12, iv ((chgK (tabP (fewA x) p q) (k + 1)).length : Nat)), (3, .v (.pointer (some ⟨b3, 0, none⟩))), (4, .v (.pointer (some ⟨b4, 0, none⟩))), (5, .v (.pointer (some ⟨b5, 0, none⟩))), (7, .v (.pointer (some ⟨b7, 0, none⟩))), (8, intsA (chgP (tabP (fewA x) p q))), (10, iv (fidx (matQ p q) 0 (fewA x).mats))], .box b7 28 (histC (fewA x)) :: .box b5 3 [iv q] :: .box b4 3 [iv p] :: .box b3 28 (histC x) :: .glob 1 112 limitsC :: .glob 2 234 firstC :: .glob 3 237 acceptC :: .glob 0 102 asksC :: [], []⟩) (fun k => (tabP (fewA x) p q).length - k) 0 (by rw [hT0]; omega) (by rw [tab_f0]; exact eA) ?_
          intro k lk
          refine rn ?_
          refine aw_cond rfl (fun hc60 => ?_) (fun hc60 => ?_)
          · refine aw_skip ?_
            refine thn_n ?_
            refine aw_seq ?_
            refine aw_block ?_
            refine aw_seq (aw_region ?_)
            refine q1 ?_
            refine q1 ?_
            refine q1 ?_
            refine q1 ?_
            refine tri2m (k + 1 < (tabP (fewA x) p q).length) (fun h1 => qv rfl rfl (qv_call rfl rfl (FCall.qt (FCall.of_fun (mrAy (fewA x) ((fewA_lim x).mono (by decide)) p q he k h1)) ((pt4 _ _ _ _ _ _).trans (.cons _ ((pt4 _ _ _ _ _ _).trans (.cons _ ((pt4 _ _ _ _ _ _).trans (.cons _ (pt4 _ _ _ _ _ _))))))))) ?_) (fun h1 => qv rfl rfl (qv_call rfl rfl (FCall.qt (FCall.of_fun (mrAn (fewA x) ((fewA_lim x).mono (by decide)) p q he k h1)) ((pt4 _ _ _ _ _ _).trans (.cons _ ((pt4 _ _ _ _ _ _).trans (.cons _ ((pt4 _ _ _ _ _ _).trans (.cons _ (pt4 _ _ _ _ _ _))))))))) ?_)
            · refine rn ?_
              refine aw_cond rfl (fun hc72 => ?_) (fun hc72 => ?_)
              · first | cases hc72 | exact absurd hc72 (by decide) | (exfalso; simp_all; done)
              · refine rn ?_
                refine qv rfl rfl (qv_call rfl rfl (pcall (ctT (fewA x) ((fewA_lim x).mono (by decide)) p q he k h1 (by omega)) (Sbs.refl _))) ?_
                refine qq rfl rfl (qr_isB (c := false) (qr_nebool rfl rfl) (by simp [bne])) ?_
                refine rn ?_
                refine asplit (fun hg17_9 => ?_) (fun hg17_9 => ?_)
                · refine q1 ?_
                  refine qq rfl rfl (qr_cmp (c := false) rfl rfl (congrArg some (row_pos h1 (by exact hg17_9)))) ?_
                  refine rn ?_
                  refine aw_cond rfl (fun hc86 => ?_) (fun hc86 => ?_)
                  · first | cases hc86 | exact absurd hc86 (by decide) | (exfalso; simp_all; done)
                  · refine rn ?_
                    refine aw_cond rfl (fun hc89 => ?_) (fun hc89 => ?_)
                    · refine aw_region ?_
                      refine q1 ?_
                      refine qq rfl rfl (qr_ari rfl rfl rfl (by have := chgK_len (tabP (fewA x) p q) (k + 1); omega)) ?_
                      refine q1 ?_
                      refine aops_nil (thn_n ?_)
                      refine aw_region ?_
                      refine q1 ?_
                      refine q1 ?_
                      refine aops_nil ?_
                      refine inBlk_n ?_
                      refine thn_n ?_
                      refine aw_region ?_
                      refine q1 ?_
                      refine qq rfl rfl (qr_ari rfl rfl rfl (by omega)) ?_
                      refine rn ?_
                      first | exact ⟨k + 1, h1, by rw [show ((k + 1 : Nat) : Int) = (k : Int) + 1 by omega, chl_y h1 hc89]; exact eA, by omega⟩ | exact ⟨k + 1, h1, by rw [show ((k + 1 : Nat) : Int) = (k : Int) + 1 by omega, chl_n h1 hc89]; exact eA, by omega⟩
                    · refine aw_skip ?_
                      refine thn_n ?_
                      refine aw_region ?_
                      refine q1 ?_
                      refine q1 ?_
                      refine aops_nil ?_
                      refine inBlk_n ?_
                      refine thn_n ?_
                      refine aw_region ?_
                      refine q1 ?_
                      refine qq rfl rfl (qr_ari rfl rfl rfl (by omega)) ?_
                      refine rn ?_
                      first | exact ⟨k + 1, h1, by rw [show ((k + 1 : Nat) : Int) = (k : Int) + 1 by omega, chl_y h1 hc89]; exact eA, by omega⟩ | exact ⟨k + 1, h1, by rw [show ((k + 1 : Nat) : Int) = (k : Int) + 1 by omega, chl_n h1 hc89]; exact eA, by omega⟩
                · refine rn ?_
                  refine aw_cond rfl (fun hc86 => ?_) (fun hc86 => ?_)
                  · first | cases hc86 | exact absurd hc86 (by decide) | (exfalso; simp_all; done)
                  · refine rn ?_
                    refine aw_cond rfl (fun hc89 => ?_) (fun hc89 => ?_)
                    · refine aw_region ?_
                      refine q1 ?_
                      refine qq rfl rfl (qr_ari rfl rfl rfl (by have := chgK_len (tabP (fewA x) p q) (k + 1); omega)) ?_
                      refine q1 ?_
                      refine aops_nil (thn_n ?_)
                      refine aw_region ?_
                      refine q1 ?_
                      refine q1 ?_
                      refine aops_nil ?_
                      refine inBlk_n ?_
                      refine thn_n ?_
                      refine aw_region ?_
                      refine q1 ?_
                      refine qq rfl rfl (qr_ari rfl rfl rfl (by omega)) ?_
                      refine rn ?_
                      first | exact ⟨k + 1, h1, by rw [show ((k + 1 : Nat) : Int) = (k : Int) + 1 by omega, chl_y h1 hc89]; exact eA, by omega⟩ | exact ⟨k + 1, h1, by rw [show ((k + 1 : Nat) : Int) = (k : Int) + 1 by omega, chl_n h1 hc89]; exact eA, by omega⟩
                    · refine aw_skip ?_
                      refine thn_n ?_
                      refine aw_region ?_
                      refine q1 ?_
                      refine q1 ?_
                      refine aops_nil ?_
                      refine inBlk_n ?_
                      refine thn_n ?_
                      refine aw_region ?_
                      refine q1 ?_
                      refine qq rfl rfl (qr_ari rfl rfl rfl (by omega)) ?_
                      refine rn ?_
                      first | exact ⟨k + 1, h1, by rw [show ((k + 1 : Nat) : Int) = (k : Int) + 1 by omega, chl_y h1 hc89]; exact eA, by omega⟩ | exact ⟨k + 1, h1, by rw [show ((k + 1 : Nat) : Int) = (k : Int) + 1 by omega, chl_n h1 hc89]; exact eA, by omega⟩
            · refine rn ?_
              refine aw_cond rfl (fun hc72 => ?_) (fun hc72 => ?_)
              · refine aw_exit ?_
                refine thn_e ?_
                refine inBlk_miss rfl ?_
                refine thn_e ?_
                refine thn_e ?_
                refine inBlk_hit ?_
                refine thn_n ?_
                refine aw_seq (aw_region ?_)
                refine q1 ?_
                refine q1 ?_
                refine q1 ?_
                refine qq rfl rfl (qr_cmp (c := true) rfl rfl (congrArg some (by rw [List.length_map, chgP, show (tabP (fewA x) p q).length = k + 1 by omega]; exact beq_self_eq_true _))) ?_
                refine rn ?_
                refine qv rfl rfl (qv_call rfl rfl (pcall (isSorted (chgP (tabP (fewA x) p q)) (chg_le _) (Nat.le_trans (chgK_len _ _) (by omega))) (Sbs.refl _))) ?_
                refine rn ?_
                first | (refine rq 4 ?_; exact ⟨rfl, rfl⟩) | (refine rq 3 ?_; exact ⟨rfl, rfl⟩)
              · first | cases hc72 | exact absurd hc72 (by decide) | (exfalso; simp_all; done)
          · exfalso; have := of_decide_eq_false hc60; omega
end Go.Proofs
