/- The walk of history.shaped. Conditions: none. -/
import Derived.Test.YtcickpoefijkmaaDoorAnewG
set_option linter.unusedVariables false
set_option linter.unusedSimpArgs false
set_option maxRecDepth 10000
namespace Go.Proofs
open Go Go.Ab
open Go.H
theorem shaped (h : Hist) (la : Lim 4611686018427387904 h) : ACall Tryd.prog 19 [.agg (histC h)] [.glob 0 71 limitsC, .glob 1 129 firstC, .glob 2 133 acceptC] (fun r h' => h' = [.glob 0 71 limitsC, .glob 1 129 firstC, .glob 2 133 acceptC] ∧ r = bv (shapedB h)) := by
  refine acall_of_aw Tryd.func19 rfl rfl rfl ?_
  refine aw_seq (aw_region ?_)
  refine aops_e rfl (oe_box rfl rfl rfl fun b1 => ?_)
  refine qq rfl rfl (qr_assign rfl) ?_
  refine aops_nil (thn_n ?_)
  refine aw_scope ?_
  refine aw_cut (⟨[(1, .v (.pointer (some ⟨b1, 0, none⟩))), (3, bv (okK h 0))], .box b1 28 (histC h) :: [.glob 0 71 limitsC, .glob 1 129 firstC, .glob 2 133 acceptC], []⟩) ?_ ?_
  · refine aw_region ?_
    first | refine qq rfl rfl (qr_fieldAddr rfl (Nat.succ_ne_zero _)) ?_ | refine qq rfl rfl (qr_fieldAddr_pp rfl (Nat.succ_ne_zero _)) ?_ | refine qq rfl rfl (qr_fieldAddr_rp rfl (Nat.succ_ne_zero _)) ?_
    first | refine qq rfl rfl (qr_load_one rfl rfl) ?_ | refine qq rfl rfl (qr_load_pp_one rfl rfl) ?_
    refine qq rfl rfl (qr_len_list rfl) ?_
    refine qq rfl rfl (qr_cmp rfl rfl rfl) ?_
    refine qq rfl rfl (qr_move rfl) ?_
    refine asplit (fun hg1_4 => ?_) (fun hg1_4 => ?_)
    · first | refine qq rfl rfl (qr_fieldAddr rfl (Nat.succ_ne_zero _)) ?_ | refine qq rfl rfl (qr_fieldAddr_pp rfl (Nat.succ_ne_zero _)) ?_ | refine qq rfl rfl (qr_fieldAddr_rp rfl (Nat.succ_ne_zero _)) ?_
      first | refine qq rfl rfl (qr_load_one rfl rfl) ?_ | refine qq rfl rfl (qr_load_pp_one rfl rfl) ?_
      refine qq rfl rfl (qr_len_list rfl) ?_
      first | refine qq rfl rfl (qr_fieldAddr rfl (Nat.succ_ne_zero _)) ?_ | refine qq rfl rfl (qr_fieldAddr_pp rfl (Nat.succ_ne_zero _)) ?_ | refine qq rfl rfl (qr_fieldAddr_rp rfl (Nat.succ_ne_zero _)) ?_
      first | refine qq rfl rfl (qr_load_one rfl rfl) ?_ | refine qq rfl rfl (qr_load_pp_one rfl rfl) ?_
      refine qq rfl rfl (qr_len_list rfl) ?_
      first | refine qq rfl rfl (qr_fieldAddr rfl (Nat.succ_ne_zero _)) ?_ | refine qq rfl rfl (qr_fieldAddr_pp rfl (Nat.succ_ne_zero _)) ?_ | refine qq rfl rfl (qr_fieldAddr_rp rfl (Nat.succ_ne_zero _)) ?_
      first | refine qq rfl rfl (qr_load_one rfl rfl) ?_ | refine qq rfl rfl (qr_load_pp_one rfl rfl) ?_
      refine qq rfl rfl (qr_len_list rfl) ?_
      refine qq rfl rfl (qr_max3 rfl rfl rfl) ?_
      refine qq rfl rfl (qr_cmp rfl rfl rfl) ?_
      first | refine qq rfl rfl (qr_pick_t rfl rfl) ?_ | refine qq rfl rfl (qr_pick_f rfl rfl) ?_ | refine qq rfl rfl (qr_pick_b rfl rfl rfl) ?_
      refine qq rfl rfl (qr_assign rfl) ?_
      refine aops_nil (thn_n ?_)
      rw [show okK h 0 = _ from sizes_eq h, hg1_4]
      exact (ent_sub (.cons _ _ _ rfl (.cons _ _ _ rfl (.nil))))
    · refine qs rfl rfl ?_
      refine qs rfl rfl ?_
      refine qs rfl rfl ?_
      refine qs rfl rfl ?_
      refine qs rfl rfl ?_
      refine qs rfl rfl ?_
      refine qs rfl rfl ?_
      refine qs rfl rfl ?_
      refine qs rfl rfl ?_
      refine qs rfl rfl ?_
      refine qs rfl rfl ?_
      first | refine qq rfl rfl (qr_pick_t rfl rfl) ?_ | refine qq rfl rfl (qr_pick_f rfl rfl) ?_ | refine qq rfl rfl (qr_pick_b rfl rfl rfl) ?_
      refine qq rfl rfl (qr_assign rfl) ?_
      refine aops_nil (thn_n ?_)
      rw [show okK h 0 = _ from sizes_eq h, hg1_4]
      exact (ent_sub (.cons _ _ _ rfl (.cons _ _ _ rfl (.nil))))
  · refine aw_seq ?_
    refine aw_label ?_
    refine thn_n ?_
    refine aw_cut (⟨[(3, bv (okK h 4)), (1, .v (.pointer (some ⟨b1, 0, none⟩)))], .box b1 28 (histC h) :: [.glob 0 71 limitsC, .glob 1 129 firstC, .glob 2 133 acceptC], []⟩) ?_ ?_
    · refine aw_seq (aw_region ?_)
      first | refine qq rfl rfl (qr_load_all rfl rfl) ?_ | refine qq rfl rfl (qr_load_pp_all rfl rfl) ?_ | refine qq rfl rfl (qr_load_agg rfl (Nat.le_of_ble_eq_true rfl)) ?_ | refine qq rfl rfl (qr_load_pp_agg rfl (Nat.le_of_ble_eq_true rfl)) ?_
      refine qv rfl rfl (qv_call rfl rfl (pcall (names _) (Sbs.refl _))) ?_
      refine qq rfl rfl (qr_move rfl) ?_
      refine aops_nil (thn_n ?_)
      refine aw_block ?_
      refine aw_loop' (fun k : Nat => k ≤ 4) (fun k => ⟨[(29, iv k), (28, .agg (namesC h)), (1, .v (.pointer (some ⟨b1, 0, none⟩))), (3, bv (okK h k))], .box b1 28 (histC h) :: [.glob 0 71 limitsC, .glob 1 129 firstC, .glob 2 133 acceptC], []⟩) (fun k => 4 - k) 0 (by omega)
        (ent_sub (.cons _ _ _ rfl (.cons _ _ _ rfl (.cons _ _ _ rfl (.cons _ _ _ rfl (.nil)))))) ?_
      rintro k hk
      refine aw_seq (aw_region ?_)
      refine qq rfl rfl (qr_cmp rfl rfl rfl) ?_
      refine aops_nil (thn_n ?_)
      refine aw_seq ?_
      refine aw_cond rfl (fun hc30 => ?_) (fun hc30 => ?_)
      · have hk4 : k < 4 := by simp at hc30; omega
        refine aw_skip ?_
        refine thn_n ?_
        refine aw_seq ?_
        refine aw_block ?_
        refine aw_seq (aw_region ?_)
        refine qq rfl rfl (qr_move rfl) ?_
        refine qq rfl rfl (qr_index_arr_one rfl rfl (by omega) (by have := nmK_get h hk4; simpa using this)) ?_
        refine qq rfl rfl (qr_assign rfl) ?_
        refine qq rfl rfl (qr_assign rfl) ?_
        refine aops_nil (thn_n ?_)
        refine aw_seq (aw_region ?_)
        refine aops_e rfl (oe_makeMap (enc := strK) rfl fun b33 => ?_)
        refine qq rfl rfl (qr_assign rfl) ?_
        refine aops_nil (thn_n ?_)
        refine aw_cut (⟨[(5, strsA (nmK h k)), (3, bv (okj h k 0)), (6, .v (.map (some b33))), (29, iv k), (28, .agg (namesC h)), (1, .v (.pointer (some ⟨b1, 0, none⟩)))], .map b33 (encM strK []) :: .box b1 28 (histC h) :: [.glob 0 71 limitsC, .glob 1 129 firstC, .glob 2 133 acceptC], []⟩) ?_ ?_
        · refine aw_region ?_
          refine qq rfl rfl (qr_move rfl) ?_
          refine qq rfl rfl (qr_move rfl) ?_
          refine asplit (fun hg6_1 => ?_) (fun hg6_1 => ?_)
          · refine qq rfl rfl (qr_move rfl) ?_
            refine qq rfl rfl (qr_len_list rfl) ?_
            refine qq rfl rfl (qr_move rfl) ?_
            refine qq rfl rfl (qr_indexAddr_arr rfl rfl (by omega)) ?_
            refine qq rfl rfl (qr_load_one rfl (limitsC_get hk4)) ?_
            refine qq rfl rfl (qr_cmp rfl rfl rfl) ?_
            first | refine qq rfl rfl (qr_pick_t rfl rfl) ?_ | refine qq rfl rfl (qr_pick_f rfl rfl) ?_ | refine qq rfl rfl (qr_pick_b rfl rfl rfl) ?_
            refine qq rfl rfl (qr_assign rfl) ?_
            refine aops_nil (thn_n ?_)
            rw [okj_eq h k, hg6_1]
            first | exact (ent_sub (.cons _ _ _ rfl (.cons _ _ _ rfl (.cons _ _ _ rfl (.cons _ _ _ rfl (.cons _ _ _ rfl (.cons _ _ _ rfl (.nil)))))))) | (rw [Bool.true_and]; exact (ent_sub (.cons _ _ _ rfl (.cons _ _ _ rfl (.cons _ _ _ rfl (.cons _ _ _ rfl (.cons _ _ _ rfl (.cons _ _ _ rfl (.nil)))))))))
          · refine qs rfl rfl ?_
            refine qs rfl rfl ?_
            refine qs rfl rfl ?_
            refine qs rfl rfl ?_
            refine qs rfl rfl ?_
            refine qs rfl rfl ?_
            first | refine qq rfl rfl (qr_pick_t rfl rfl) ?_ | refine qq rfl rfl (qr_pick_f rfl rfl) ?_ | refine qq rfl rfl (qr_pick_b rfl rfl rfl) ?_
            refine qq rfl rfl (qr_assign rfl) ?_
            refine aops_nil (thn_n ?_)
            rw [okj_eq h k, hg6_1]
            first | exact (ent_sub (.cons _ _ _ rfl (.cons _ _ _ rfl (.cons _ _ _ rfl (.cons _ _ _ rfl (.cons _ _ _ rfl (.cons _ _ _ rfl (.nil)))))))) | (rw [Bool.true_and]; exact (ent_sub (.cons _ _ _ rfl (.cons _ _ _ rfl (.cons _ _ _ rfl (.cons _ _ _ rfl (.cons _ _ _ rfl (.cons _ _ _ rfl (.nil)))))))))
        · refine aw_seq (aw_region ?_)
          refine qq rfl rfl (qr_move rfl) ?_
          refine qq rfl rfl (qr_len_list rfl) ?_
          refine qq rfl rfl (qr_move rfl) ?_
          refine aops_nil (thn_n ?_)
          refine aw_block ?_
          refine aw_loop' (fun j : Nat => j ≤ (nmK h k).length ∧ (0 < j → okj h k 0 = true) ∧ freshB [] (nmK h k) = freshB ((nmK h k).take j) ((nmK h k).drop j)) (fun j => ⟨[(45, iv j), (43, strsA (nmK h k)), (44, iv ((nmK h k).map strR).length), (3, bv (okj h k 0)), (6, .v (.map (some b33))), (29, iv k), (28, .agg (namesC h)), (1, .v (.pointer (some ⟨b1, 0, none⟩)))], .map b33 (encM strK (metM ((nmK h k).take j))) :: .box b1 28 (histC h) :: [.glob 0 71 limitsC, .glob 1 129 firstC, .glob 2 133 acceptC], []⟩) (fun j => (nmK h k).length - j) 0 ⟨by omega, by omega, by simp⟩
            (ent_sub (.cons _ _ _ rfl (.cons _ _ _ rfl (.cons _ _ _ rfl (.cons _ _ _ rfl (.cons _ _ _ rfl (.cons _ _ _ rfl (.cons _ _ _ rfl (.cons _ _ _ rfl (.nil)))))))))) ?_
          rintro j ⟨hj, hok, hf⟩
          have hlk := la.nm k
          refine aw_seq (aw_region ?_)
          refine qq rfl rfl (qr_cmp rfl rfl rfl) ?_
          refine aops_nil (thn_n ?_)
          refine aw_seq ?_
          refine aw_cond rfl (fun hc46 => ?_) (fun hc46 => ?_)
          · have hj2 : j < (nmK h k).length := by simpa using hc46
            have hrow : (strsA (nmK h k)) = .list false 1 ((nmK h k).map strR) := rfl
            have hrow2 : ((nmK h k).map strR)[j]? = some (strR (nmK h k)[j]) := by simp [hj2]
            have hd := List.drop_eq_getElem_cons hj2
            refine aw_skip ?_
            refine thn_n ?_
            refine aw_seq ?_
            refine aw_block ?_
            refine aw_seq (aw_region ?_)
            refine qq rfl rfl (qr_index_list rfl rfl (by assumption)) ?_
            first | refine qq rfl rfl (qr_load_one rfl rfl) ?_ | refine qq rfl rfl (qr_load_pp_one rfl rfl) ?_
            refine qq rfl rfl (qr_assign rfl) ?_
            refine aops_nil (thn_n ?_)
            refine aw_seq ?_
            refine aw_cut (⟨[(3, bv (okj h k 0 && wordB (nmK h k)[j] && !memB (nmK h k)[j] ((nmK h k).take j))), (8, sv (nmK h k)[j]), (45, iv j), (43, strsA (nmK h k)), (44, iv ((nmK h k).map strR).length), (6, .v (.map (some b33))), (29, iv k), (28, .agg (namesC h)), (1, .v (.pointer (some ⟨b1, 0, none⟩)))], .map b33 (encM strK (metM ((nmK h k).take j))) :: .box b1 28 (histC h) :: [.glob 0 71 limitsC, .glob 1 129 firstC, .glob 2 133 acceptC], []⟩) ?_ ?_
            · refine aw_region ?_
              refine qq rfl rfl (qr_move rfl) ?_
              refine qq rfl rfl (qr_move rfl) ?_
              refine asplit (fun hg10_1 => ?_) (fun hg10_1 => ?_)
              · refine qq rfl rfl (qr_move rfl) ?_
                refine qv rfl rfl (qv_call rfl rfl (FCall.qt (FCall.of_fun (word ((nmK h k)[j]))) ((pt3 _ _ _ _ _).trans (.cons _ (pt3 _ _ _ _ _))))) ?_
                first | refine qq rfl rfl (qr_pick_t rfl rfl) ?_ | refine qq rfl rfl (qr_pick_f rfl rfl) ?_ | refine qq rfl rfl (qr_pick_b rfl rfl rfl) ?_
                refine qq rfl rfl (qr_move rfl) ?_
                refine asplit (fun hg10_5 => ?_) (fun hg10_5 => ?_)
                · refine qq rfl rfl (qr_move rfl) ?_
                  refine qq rfl rfl (qr_move rfl) ?_
                  refine qq rfl rfl (qr_lookup (enc := strK) (k := (nmK h k)[j]) rfl rfl (lookM_metD _ _)) ?_
                  refine qq rfl rfl (qr_not rfl) ?_
                  first | refine qq rfl rfl (qr_pick_t rfl rfl) ?_ | refine qq rfl rfl (qr_pick_f rfl rfl) ?_ | refine qq rfl rfl (qr_pick_b rfl rfl rfl) ?_
                  refine qq rfl rfl (qr_assign rfl) ?_
                  refine aops_nil (thn_n ?_)
                  first | (rw [hg10_1, hg10_5]; exact (ent_sub (.cons _ _ _ rfl (.cons _ _ _ rfl (.cons _ _ _ rfl (.cons _ _ _ rfl (.cons _ _ _ rfl (.cons _ _ _ rfl (.cons _ _ _ rfl (.cons _ _ _ rfl (.cons _ _ _ rfl (.nil)))))))))))) | (rw [hg10_1]; exact (ent_sub (.cons _ _ _ rfl (.cons _ _ _ rfl (.cons _ _ _ rfl (.cons _ _ _ rfl (.cons _ _ _ rfl (.cons _ _ _ rfl (.cons _ _ _ rfl (.cons _ _ _ rfl (.cons _ _ _ rfl (.nil))))))))))))
                · refine qs rfl rfl ?_
                  refine qs rfl rfl ?_
                  refine qs rfl rfl ?_
                  refine qs rfl rfl ?_
                  first | refine qq rfl rfl (qr_pick_t rfl rfl) ?_ | refine qq rfl rfl (qr_pick_f rfl rfl) ?_ | refine qq rfl rfl (qr_pick_b rfl rfl rfl) ?_
                  refine qq rfl rfl (qr_assign rfl) ?_
                  refine aops_nil (thn_n ?_)
                  first | (rw [hg10_1, hg10_5]; exact (ent_sub (.cons _ _ _ rfl (.cons _ _ _ rfl (.cons _ _ _ rfl (.cons _ _ _ rfl (.cons _ _ _ rfl (.cons _ _ _ rfl (.cons _ _ _ rfl (.cons _ _ _ rfl (.cons _ _ _ rfl (.nil)))))))))))) | (rw [hg10_1]; exact (ent_sub (.cons _ _ _ rfl (.cons _ _ _ rfl (.cons _ _ _ rfl (.cons _ _ _ rfl (.cons _ _ _ rfl (.cons _ _ _ rfl (.cons _ _ _ rfl (.cons _ _ _ rfl (.cons _ _ _ rfl (.nil))))))))))))
              · refine qs rfl rfl ?_
                refine qs rfl rfl ?_
                first | refine qq rfl rfl (qr_pick_t rfl rfl) ?_ | refine qq rfl rfl (qr_pick_f rfl rfl) ?_ | refine qq rfl rfl (qr_pick_b rfl rfl rfl) ?_
                refine qq rfl rfl (qr_move rfl) ?_
                refine qs rfl rfl ?_
                refine qs rfl rfl ?_
                refine qs rfl rfl ?_
                refine qs rfl rfl ?_
                first | refine qq rfl rfl (qr_pick_t rfl rfl) ?_ | refine qq rfl rfl (qr_pick_f rfl rfl) ?_ | refine qq rfl rfl (qr_pick_b rfl rfl rfl) ?_
                refine qq rfl rfl (qr_assign rfl) ?_
                refine aops_nil (thn_n ?_)
                first | (rw [hg10_1, hg10_5]; exact (ent_sub (.cons _ _ _ rfl (.cons _ _ _ rfl (.cons _ _ _ rfl (.cons _ _ _ rfl (.cons _ _ _ rfl (.cons _ _ _ rfl (.cons _ _ _ rfl (.cons _ _ _ rfl (.cons _ _ _ rfl (.nil)))))))))))) | (rw [hg10_1]; exact (ent_sub (.cons _ _ _ rfl (.cons _ _ _ rfl (.cons _ _ _ rfl (.cons _ _ _ rfl (.cons _ _ _ rfl (.cons _ _ _ rfl (.cons _ _ _ rfl (.cons _ _ _ rfl (.cons _ _ _ rfl (.nil))))))))))))
            · refine aw_seq (aw_region ?_)
              refine qq rfl rfl (qr_move rfl) ?_
              refine qq rfl rfl (qr_not rfl) ?_
              refine aops_nil (thn_n ?_)
              refine aw_cond rfl (fun hc61 => ?_) (fun hc61 => ?_)
              · have hfl : (okj h k 0 && wordB (nmK h k)[j] && !memB (nmK h k)[j] ((nmK h k).take j)) = false := not_t hc61
                have hbad : okK h 4 = false := ok_bad hk4 (ok_or (hf.trans (by rw [hd])) hfl)
                refine aw_exit ?_
                refine thn_e ?_
                refine inBlk_miss rfl ?_
                refine thn_e ?_
                refine thn_e ?_
                refine inBlk_miss rfl ?_
                refine inBlk_miss rfl ?_
                refine thn_e ?_
                refine thn_e ?_
                refine inBlk_hit ?_
                refine thn_n ?_
                first
                  | exact (ent_sub (.cons _ _ _ rfl (.cons _ _ _ rfl (.nil))))
                  | (rw [hbad, ← hfl]; exact (ent_trans (ent_drop (h1 := [_])) (ent_sub (.cons _ _ _ rfl (.cons _ _ _ rfl (.nil))))))
              · obtain ⟨hok2, hw, hfresh⟩ := ok_and (not_f hc61)
                refine aw_skip ?_
                refine thn_n ?_
                refine aw_region ?_
                refine qq rfl rfl (qr_move rfl) ?_
                refine qq rfl rfl (qr_move rfl) ?_
                refine aops_e rfl (oe_mapUpdate (enc := strK) (k := (nmK h k)[j]) rfl rfl rfl ?_)
                refine aops_nil ?_
                refine inBlk_n ?_
                refine thn_n ?_
                refine aw_region ?_
                refine qq rfl rfl (qr_ari rfl rfl rfl (by omega)) ?_
                refine qq rfl rfl (qr_move rfl) ?_
                refine aops_nil (thn_n ?_)
                have hu := updM_met ((nmK h k)[j]) ((nmK h k).take j) (memB_f.1 hfresh)
                rw [← List.take_succ_eq_append_getElem hj2] at hu
                exact ⟨j + 1, ⟨by omega, fun _ => hok2, by rw [hf, hd, freshB, hw, List.take_succ_eq_append_getElem hj2]; simp [hfresh]⟩, by simp only [hu, hok2, hw, hfresh, Bool.true_and, Bool.not_false]; exact (ent_sub (.cons _ _ _ rfl (.cons _ _ _ rfl (.cons _ _ _ rfl (.cons _ _ _ rfl (.cons _ _ _ rfl (.cons _ _ _ rfl (.cons _ _ _ rfl (.cons _ _ _ rfl (.nil)))))))))), by omega⟩
          · have hj3 : j = (nmK h k).length := by
              have : (nmK h k).length ≤ j := by simpa using hc46
              omega
            refine aw_exit ?_
            refine thn_e ?_
            refine thn_e ?_
            refine inBlk_hit ?_
            refine inBlk_n ?_
            refine thn_n ?_
            refine aw_region ?_
            refine qq rfl rfl (qr_ari rfl rfl rfl (by omega)) ?_
            refine qq rfl rfl (qr_move rfl) ?_
            refine aops_nil (thn_n ?_)
            have hend := ok_end (h := h) (k := k) (by rw [hf, hj3, List.drop_length]; rfl)
            exact ⟨k + 1, by omega, by rw [← hend]; exact (ent_trans (ent_drop (h1 := [_])) (ent_sub (.cons _ _ _ rfl (.cons _ _ _ rfl (.cons _ _ _ rfl (.cons _ _ _ rfl (.nil))))))), by omega⟩
      · have hk4 : k = 4 := by simp at hc30; omega
        subst hk4
        refine aw_exit ?_
        refine thn_e ?_
        refine thn_e ?_
        refine inBlk_hit ?_
        refine thn_n ?_
        first
          | exact (ent_sub (.cons _ _ _ rfl (.cons _ _ _ rfl (.nil))))
          | (rw [hbad, ← hfl]; exact (ent_trans (ent_drop (h1 := [_])) (ent_sub (.cons _ _ _ rfl (.cons _ _ _ rfl (.nil))))))
    · refine aw_seq (aw_region ?_)
      refine qq rfl rfl (qr_makeFunc rfl rfl) ?_
      refine aops_e rfl (oe_alloc rfl fun b9 => ?_)
      first | refine aops_e rfl (oe_store_all rfl rfl rfl ?_) | refine aops_e rfl (oe_store rfl rfl rfl rfl (Nat.le_of_ble_eq_true rfl) ?_)
      refine aops_nil (thn_n ?_)
      refine aw_seq (aw_region ?_)
      refine qq rfl rfl (qr_move rfl) ?_
      refine qq rfl rfl (qr_move rfl) ?_
      refine asplit (fun hg16_1 => ?_) (fun hg16_1 => ?_)
      · first | refine qq rfl rfl (qr_fieldAddr rfl (Nat.succ_ne_zero _)) ?_ | refine qq rfl rfl (qr_fieldAddr_pp rfl (Nat.succ_ne_zero _)) ?_ | refine qq rfl rfl (qr_fieldAddr_rp rfl (Nat.succ_ne_zero _)) ?_
        first | refine qq rfl rfl (qr_load_one rfl rfl) ?_ | refine qq rfl rfl (qr_load_pp_one rfl rfl) ?_
        refine qq rfl rfl (qr_makeFunc rfl rfl) ?_
        refine qv rfl rfl (qv_call rfl rfl (FCall.of_fun (allEv h.evs (.fn (.func 38) [] [.v (.pointer (some ⟨b1, 0, none⟩))]) (eventB h) (.box b9 87 [.fn (.func 33) [] [.v (.pointer (some ⟨b1, 0, none⟩))]] :: .box b1 28 (histC h) :: [.glob 0 71 limitsC, .glob 1 129 firstC, .glob 2 133 acceptC]) rfl (fun e he => FCall.qt (FCall.of_acall (fs := []) (cs := [.v (.pointer (some ⟨b1, 0, none⟩))]) (shaped2 h b1 e (la.scans e he))) (pt1 _ _ _)) la.evs))) ?_
        first | refine qq rfl rfl (qr_pick_t rfl rfl) ?_ | refine qq rfl rfl (qr_pick_f rfl rfl) ?_ | refine qq rfl rfl (qr_pick_b rfl rfl rfl) ?_
        refine qq rfl rfl (qr_move rfl) ?_
        refine asplit (fun hg16_7 => ?_) (fun hg16_7 => ?_)
        · first | refine qq rfl rfl (qr_fieldAddr rfl (Nat.succ_ne_zero _)) ?_ | refine qq rfl rfl (qr_fieldAddr_pp rfl (Nat.succ_ne_zero _)) ?_ | refine qq rfl rfl (qr_fieldAddr_rp rfl (Nat.succ_ne_zero _)) ?_
          first | refine qq rfl rfl (qr_load_one rfl rfl) ?_ | refine qq rfl rfl (qr_load_pp_one rfl rfl) ?_
          refine qq rfl rfl (qr_makeFunc rfl rfl) ?_
          refine qv rfl rfl (qv_call rfl rfl (FCall.of_fun (allOrd h.ords (.fn (.func 41) [] [.v (.pointer (some ⟨b1, 0, none⟩)), .v (.pointer (some ⟨b9, 0, none⟩))]) (ordB h) (.box b9 87 [.fn (.func 33) [] [.v (.pointer (some ⟨b1, 0, none⟩))]] :: .box b1 28 (histC h) :: [.glob 0 71 limitsC, .glob 1 129 firstC, .glob 2 133 acceptC]) rfl (fun e he => FCall.qt (FCall.of_acall (fs := []) (cs := [.v (.pointer (some ⟨b1, 0, none⟩)), .v (.pointer (some ⟨b9, 0, none⟩))]) (shaped3 h b1 b9 e (la.ordts e he))) (pt1 _ _ _)) la.ords))) ?_
          first | refine qq rfl rfl (qr_pick_t rfl rfl) ?_ | refine qq rfl rfl (qr_pick_f rfl rfl) ?_ | refine qq rfl rfl (qr_pick_b rfl rfl rfl) ?_
          refine qq rfl rfl (qr_move rfl) ?_
          refine asplit (fun hg16_13 => ?_) (fun hg16_13 => ?_)
          · first | refine qq rfl rfl (qr_fieldAddr rfl (Nat.succ_ne_zero _)) ?_ | refine qq rfl rfl (qr_fieldAddr_pp rfl (Nat.succ_ne_zero _)) ?_ | refine qq rfl rfl (qr_fieldAddr_rp rfl (Nat.succ_ne_zero _)) ?_
            first | refine qq rfl rfl (qr_load_one rfl rfl) ?_ | refine qq rfl rfl (qr_load_pp_one rfl rfl) ?_
            refine qq rfl rfl (qr_makeFunc rfl rfl) ?_
            refine qv rfl rfl (qv_call rfl rfl (FCall.of_fun (allMat h.mats (.fn (.func 43) [] [.v (.pointer (some ⟨b1, 0, none⟩)), .v (.pointer (some ⟨b9, 0, none⟩))]) (matB h) (.box b9 87 [.fn (.func 33) [] [.v (.pointer (some ⟨b1, 0, none⟩))]] :: .box b1 28 (histC h) :: [.glob 0 71 limitsC, .glob 1 129 firstC, .glob 2 133 acceptC]) rfl (fun e he => FCall.qt (FCall.of_acall (fs := []) (cs := [.v (.pointer (some ⟨b1, 0, none⟩)), .v (.pointer (some ⟨b9, 0, none⟩))]) (shaped4 h b1 b9 e (la.matts e he))) (pt1 _ _ _)) la.mats))) ?_
            first | refine qq rfl rfl (qr_pick_t rfl rfl) ?_ | refine qq rfl rfl (qr_pick_f rfl rfl) ?_ | refine qq rfl rfl (qr_pick_b rfl rfl rfl) ?_
            refine qq rfl rfl (qr_move rfl) ?_
            refine asplit (fun hg16_19 => ?_) (fun hg16_19 => ?_)
            · first | refine qq rfl rfl (qr_fieldAddr rfl (Nat.succ_ne_zero _)) ?_ | refine qq rfl rfl (qr_fieldAddr_pp rfl (Nat.succ_ne_zero _)) ?_ | refine qq rfl rfl (qr_fieldAddr_rp rfl (Nat.succ_ne_zero _)) ?_
              first | refine qq rfl rfl (qr_load_one rfl rfl) ?_ | refine qq rfl rfl (qr_load_pp_one rfl rfl) ?_
              refine qq rfl rfl (qr_makeFunc rfl rfl) ?_
              refine qv rfl rfl (qv_call rfl rfl (FCall.of_fun (allWan h.wants (.fn (.func 45) [] [.v (.pointer (some ⟨b1, 0, none⟩))]) (wanB h) (.box b9 87 [.fn (.func 33) [] [.v (.pointer (some ⟨b1, 0, none⟩))]] :: .box b1 28 (histC h) :: [.glob 0 71 limitsC, .glob 1 129 firstC, .glob 2 133 acceptC]) rfl (fun e he => FCall.qt (FCall.of_acall (fs := []) (cs := [.v (.pointer (some ⟨b1, 0, none⟩))]) (shaped5 h b1 e)) (pt1 _ _ _)) la.wants))) ?_
              first | refine qq rfl rfl (qr_pick_t rfl rfl) ?_ | refine qq rfl rfl (qr_pick_f rfl rfl) ?_ | refine qq rfl rfl (qr_pick_b rfl rfl rfl) ?_
              refine qq rfl rfl (qr_assign rfl) ?_
              refine aops_nil (thn_n ?_)
              refine aw_ret ?_
              refine ⟨fun l h => (by cases h), ?_⟩
              exact retq (.cons _ _ _ _ (.tmp _ _ rfl) .nil) (.drop [_, _] _ _) ⟨rfl, congrArg bv (by first | (simp only [shapedB, *, Bool.true_and, Bool.false_and, Bool.and_false, Bool.and_true, Bool.true_or, Bool.or_false, Bool.false_or, Bool.or_true, if_true, if_false, Bool.false_eq_true, Bool.not_true, Bool.not_false]; done) | (simp_all [shapedB]; done))⟩
            · refine qs rfl rfl ?_
              refine qs rfl rfl ?_
              refine qs rfl rfl ?_
              refine qs rfl rfl ?_
              first | refine qq rfl rfl (qr_pick_t rfl rfl) ?_ | refine qq rfl rfl (qr_pick_f rfl rfl) ?_ | refine qq rfl rfl (qr_pick_b rfl rfl rfl) ?_
              refine qq rfl rfl (qr_assign rfl) ?_
              refine aops_nil (thn_n ?_)
              refine aw_ret ?_
              refine ⟨fun l h => (by cases h), ?_⟩
              exact retq (.cons _ _ _ _ (.tmp _ _ rfl) .nil) (.drop [_, _] _ _) ⟨rfl, congrArg bv (by first | (simp only [shapedB, *, Bool.true_and, Bool.false_and, Bool.and_false, Bool.and_true, Bool.true_or, Bool.or_false, Bool.false_or, Bool.or_true, if_true, if_false, Bool.false_eq_true, Bool.not_true, Bool.not_false]; done) | (simp_all [shapedB]; done))⟩
          · refine qs rfl rfl ?_
            refine qs rfl rfl ?_
            refine qs rfl rfl ?_
            refine qs rfl rfl ?_
            first | refine qq rfl rfl (qr_pick_t rfl rfl) ?_ | refine qq rfl rfl (qr_pick_f rfl rfl) ?_ | refine qq rfl rfl (qr_pick_b rfl rfl rfl) ?_
            refine qq rfl rfl (qr_move rfl) ?_
            refine qs rfl rfl ?_
            refine qs rfl rfl ?_
            refine qs rfl rfl ?_
            refine qs rfl rfl ?_
            first | refine qq rfl rfl (qr_pick_t rfl rfl) ?_ | refine qq rfl rfl (qr_pick_f rfl rfl) ?_ | refine qq rfl rfl (qr_pick_b rfl rfl rfl) ?_
            refine qq rfl rfl (qr_assign rfl) ?_
            refine aops_nil (thn_n ?_)
            refine aw_ret ?_
            refine ⟨fun l h => (by cases h), ?_⟩
            exact retq (.cons _ _ _ _ (.tmp _ _ rfl) .nil) (.drop [_, _] _ _) ⟨rfl, congrArg bv (by first | (simp only [shapedB, *, Bool.true_and, Bool.false_and, Bool.and_false, Bool.and_true, Bool.true_or, Bool.or_false, Bool.false_or, Bool.or_true, if_true, if_false, Bool.false_eq_true, Bool.not_true, Bool.not_false]; done) | (simp_all [shapedB]; done))⟩
        · refine qs rfl rfl ?_
          refine qs rfl rfl ?_
          refine qs rfl rfl ?_
          refine qs rfl rfl ?_
          first | refine qq rfl rfl (qr_pick_t rfl rfl) ?_ | refine qq rfl rfl (qr_pick_f rfl rfl) ?_ | refine qq rfl rfl (qr_pick_b rfl rfl rfl) ?_
          refine qq rfl rfl (qr_move rfl) ?_
          refine qs rfl rfl ?_
          refine qs rfl rfl ?_
          refine qs rfl rfl ?_
          refine qs rfl rfl ?_
          first | refine qq rfl rfl (qr_pick_t rfl rfl) ?_ | refine qq rfl rfl (qr_pick_f rfl rfl) ?_ | refine qq rfl rfl (qr_pick_b rfl rfl rfl) ?_
          refine qq rfl rfl (qr_move rfl) ?_
          refine qs rfl rfl ?_
          refine qs rfl rfl ?_
          refine qs rfl rfl ?_
          refine qs rfl rfl ?_
          first | refine qq rfl rfl (qr_pick_t rfl rfl) ?_ | refine qq rfl rfl (qr_pick_f rfl rfl) ?_ | refine qq rfl rfl (qr_pick_b rfl rfl rfl) ?_
          refine qq rfl rfl (qr_assign rfl) ?_
          refine aops_nil (thn_n ?_)
          refine aw_ret ?_
          refine ⟨fun l h => (by cases h), ?_⟩
          exact retq (.cons _ _ _ _ (.tmp _ _ rfl) .nil) (.drop [_, _] _ _) ⟨rfl, congrArg bv (by first | (simp only [shapedB, *, Bool.true_and, Bool.false_and, Bool.and_false, Bool.and_true, Bool.true_or, Bool.or_false, Bool.false_or, Bool.or_true, if_true, if_false, Bool.false_eq_true, Bool.not_true, Bool.not_false]; done) | (simp_all [shapedB]; done))⟩
      · refine qs rfl rfl ?_
        refine qs rfl rfl ?_
        refine qs rfl rfl ?_
        refine qs rfl rfl ?_
        first | refine qq rfl rfl (qr_pick_t rfl rfl) ?_ | refine qq rfl rfl (qr_pick_f rfl rfl) ?_ | refine qq rfl rfl (qr_pick_b rfl rfl rfl) ?_
        refine qq rfl rfl (qr_move rfl) ?_
        refine qs rfl rfl ?_
        refine qs rfl rfl ?_
        refine qs rfl rfl ?_
        refine qs rfl rfl ?_
        first | refine qq rfl rfl (qr_pick_t rfl rfl) ?_ | refine qq rfl rfl (qr_pick_f rfl rfl) ?_ | refine qq rfl rfl (qr_pick_b rfl rfl rfl) ?_
        refine qq rfl rfl (qr_move rfl) ?_
        refine qs rfl rfl ?_
        refine qs rfl rfl ?_
        refine qs rfl rfl ?_
        refine qs rfl rfl ?_
        first | refine qq rfl rfl (qr_pick_t rfl rfl) ?_ | refine qq rfl rfl (qr_pick_f rfl rfl) ?_ | refine qq rfl rfl (qr_pick_b rfl rfl rfl) ?_
        refine qq rfl rfl (qr_move rfl) ?_
        refine qs rfl rfl ?_
        refine qs rfl rfl ?_
        refine qs rfl rfl ?_
        refine qs rfl rfl ?_
        first | refine qq rfl rfl (qr_pick_t rfl rfl) ?_ | refine qq rfl rfl (qr_pick_f rfl rfl) ?_ | refine qq rfl rfl (qr_pick_b rfl rfl rfl) ?_
        refine qq rfl rfl (qr_assign rfl) ?_
        refine aops_nil (thn_n ?_)
        refine aw_ret ?_
        refine ⟨fun l h => (by cases h), ?_⟩
        exact retq (.cons _ _ _ _ (.tmp _ _ rfl) .nil) (.drop [_, _] _ _) ⟨rfl, congrArg bv (by first | (simp only [shapedB, *, Bool.true_and, Bool.false_and, Bool.and_false, Bool.and_true, Bool.true_or, Bool.or_false, Bool.false_or, Bool.or_true, if_true, if_false, Bool.false_eq_true, Bool.not_true, Bool.not_false]; done) | (simp_all [shapedB]; done))⟩
end Go.Proofs
/- The walk of history.spoken, reading. Conditions: none. -/
set_option linter.unusedVariables false
set_option linter.unusedSimpArgs false
set_option maxRecDepth 10000
namespace Go.Proofs
open Go Go.Ab
open Go.H
theorem sayR {σ : Type} (step : σ → Nat × Int → Option σ) (ok : Nat × Int → Prop) (IJ : Option σ → List Res → Prop) (y : AV) (hy : ∀ (s : σ) (L : List Res) (sort : Nat) (n : Int) (cells : List AV), ok (sort, n) → IJ (some s) L → FCall Tryd.prog y [iv sort, .pp (iv n :: cells)] L (fun r h' => r = bv (step s (sort, n)).isSome ∧ IJ (step s (sort, n)) h')) (sort : Nat) (n : Int) (hs : ok (sort, n)) (cells : List AV) (bm by_ : Nat) (st : Option σ) (L : List Res) (hI : IJ st L) : ACall Tryd.prog 50 [iv sort, .pp (iv n :: cells), .v (.pointer (some ⟨bm, 0, none⟩)), .v (.pointer (some ⟨by_, 0, none⟩))] (.box bm 4 [bv (st).isSome] :: .box by_ 100 [y] :: L) (fun r h' => ∃ L', IJ (goes step st [(sort, n)]) L' ∧ h' = .box bm 4 [bv (goes step st [(sort, n)]).isSome] :: .box by_ 100 [y] :: L') := by
  refine acall_of_aw Tryd.func50 rfl rfl rfl ?_
  refine aw_region ?_
  first | refine qq rfl rfl (qr_load_one rfl rfl) ?_ | refine qq rfl rfl (qr_load_pp_one rfl rfl) ?_
  refine qq rfl rfl (qr_move rfl) ?_
  refine asplit (fun hg0_1 => ?_) (fun hg0_1 => ?_)
  · first | refine qq rfl rfl (qr_load_one rfl rfl) ?_ | refine qq rfl rfl (qr_load_pp_one rfl rfl) ?_
    refine qq rfl rfl (qr_move rfl) ?_
    refine qq rfl rfl (qr_move rfl) ?_
    obtain ⟨s, rfl⟩ := Option.isSome_iff_exists.1 hg0_1
    refine aops_e rfl (oe_call rfl rfl (FCall.fr2 (hy s L sort n cells hs hI)) rfl ?_)
    rintro _ _ ⟨L2, rfl, rfl, hI2⟩
    first | refine qq rfl rfl (qr_pick_t rfl rfl) ?_ | refine qq rfl rfl (qr_pick_f rfl rfl) ?_ | refine qq rfl rfl (qr_pick_b rfl rfl rfl) ?_
    first | refine aops_e rfl (oe_store_all rfl rfl rfl ?_) | refine aops_e rfl (oe_store rfl rfl rfl rfl (Nat.le_of_ble_eq_true rfl) ?_)
    refine aops_nil ?_
    first
      | exact retq_n .nil (.refl _ _) ⟨L2, hI2, rfl⟩
      | (obtain rfl := Option.not_isSome_iff_eq_none.1 (show ¬ st.isSome = true by simp [hg0_1])
         exact retq_n .nil (.refl _ _) ⟨L, hI, rfl⟩)
  · refine qs rfl rfl ?_
    refine qs rfl rfl ?_
    refine qs rfl rfl ?_
    refine qs rfl rfl ?_
    first | refine qq rfl rfl (qr_pick_t rfl rfl) ?_ | refine qq rfl rfl (qr_pick_f rfl rfl) ?_ | refine qq rfl rfl (qr_pick_b rfl rfl rfl) ?_
    first | refine aops_e rfl (oe_store_all rfl rfl rfl ?_) | refine aops_e rfl (oe_store rfl rfl rfl rfl (Nat.le_of_ble_eq_true rfl) ?_)
    refine aops_nil ?_
    first
      | exact retq_n .nil (.refl _ _) ⟨L2, hI2, rfl⟩
      | (obtain rfl := Option.not_isSome_iff_eq_none.1 (show ¬ st.isSome = true by simp [hg0_1])
         exact retq_n .nil (.refl _ _) ⟨L, hI, rfl⟩)
theorem madeR {σ : Type} (step : σ → Nat × Int → Option σ) (ok : Nat × Int → Prop) (IJ : Option σ → List Res → Prop) (y : AV) (hy : ∀ (s : σ) (L : List Res) (sort : Nat) (n : Int) (cells : List AV), ok (sort, n) → IJ (some s) L → FCall Tryd.prog y [iv sort, .pp (iv n :: cells)] L (fun r h' => r = bv (step s (sort, n)).isSome ∧ IJ (step s (sort, n)) h')) (v : Ver) (hv : ∀ x ∈ madeL v, ok x) (cells : List AV) (bs bm by_ : Nat) (st : Option σ) (L : List Res) (hI : IJ st L) : ACall Tryd.prog 51 [.pp (iv v.t :: iv v.k :: cells), .v (.pointer (some ⟨bs, 0, none⟩))] (.box bs 101 [.fn (.func 50) [] [.v (.pointer (some ⟨bm, 0, none⟩)), .v (.pointer (some ⟨by_, 0, none⟩))]] :: .box bm 4 [bv (st).isSome] :: .box by_ 100 [y] :: L) (fun r h' => ∃ L', IJ (goes step st (madeL v)) L' ∧ h' = .box bs 101 [.fn (.func 50) [] [.v (.pointer (some ⟨bm, 0, none⟩)), .v (.pointer (some ⟨by_, 0, none⟩))]] :: .box bm 4 [bv (goes step st (madeL v)).isSome] :: .box by_ 100 [y] :: L') := by
  refine acall_of_aw Tryd.func51 rfl rfl rfl ?_
  refine aw_seq (aw_region ?_)
  refine qq rfl rfl (qr_move rfl) ?_
  first | refine qq rfl rfl (qr_nilCheck rfl) ?_ | refine qq rfl rfl (qr_nilCheck_pp rfl) ?_ | refine qq rfl rfl (qr_nilCheck_rp rfl) ?_
  first | refine qq rfl rfl (qr_fieldAddr rfl (Nat.succ_ne_zero _)) ?_ | refine qq rfl rfl (qr_fieldAddr_pp rfl (Nat.succ_ne_zero _)) ?_ | refine qq rfl rfl (qr_fieldAddr_rp rfl (Nat.succ_ne_zero _)) ?_
  first | refine qq rfl rfl (qr_load_one rfl rfl) ?_ | refine qq rfl rfl (qr_load_pp_one rfl rfl) ?_
  refine qq rfl rfl (qr_cmp rfl rfl rfl) ?_
  refine aops_nil (thn_n ?_)
  refine aw_cond rfl (fun hc7 => ?_) (fun hc7 => ?_)
  · refine aw_draw 4 rfl ?_
    first | refine dq rfl rfl (qr_load_one rfl rfl) ?_ | refine dq rfl rfl (qr_load_pp_one rfl rfl) ?_
    refine dq rfl rfl (qr_move rfl) ?_
    first | refine dq rfl rfl (qr_nilCheck rfl) ?_ | refine dq rfl rfl (qr_nilCheck_pp rfl) ?_ | refine dq rfl rfl (qr_nilCheck_rp rfl) ?_
    first | refine dq rfl rfl (qr_fieldAddr rfl (Nat.succ_ne_zero _)) ?_ | refine dq rfl rfl (qr_fieldAddr_pp rfl (Nat.succ_ne_zero _)) ?_ | refine dq rfl rfl (qr_fieldAddr_rp rfl (Nat.succ_ne_zero _)) ?_
    refine dnil ⟨rfl, ?_⟩
    refine dalloc_s rfl ?_
    refine dalloc_s rfl ?_
    refine dalloc_s rfl ?_
    refine dalloc_s rfl ?_
    refine dalloc_nil ?_
    refine aops_e rfl (oe_call rfl rfl (FCall.fr1 (FCall.of_acall (fs := []) (cs := [.v (.pointer (some ⟨bm, 0, none⟩)), .v (.pointer (some ⟨by_, 0, none⟩))]) (sayR step ok IJ y hy 0 v.t (hv _ (by rw [madeL, if_pos hc7]; simp)) (iv v.k :: cells) bm by_ _ _ hI))) rfl ?_)
    rintro _ _ ⟨_, rfl, L2, hI2, rfl⟩
    refine aops_nil ?_
    first
      | (have hm : madeL v = [(0, v.t)] := by rw [madeL, if_pos hc7]
         rw [hm]; exact retq_n .nil (.refl _ _) ⟨L2, hI2, rfl⟩)
      | (have hm : madeL v = [] := by rw [madeL, if_neg (by rw [hc7]; decide)]
         rw [hm]; exact retq_n .nil (.refl _ _) ⟨L, hI, rfl⟩)
  · refine aw_skip ?_
    first
      | (have hm : madeL v = [(0, v.t)] := by rw [madeL, if_pos hc7]
         rw [hm]; exact retq_n .nil (.refl _ _) ⟨L2, hI2, rfl⟩)
      | (have hm : madeL v = [] := by rw [madeL, if_neg (by rw [hc7]; decide)]
         rw [hm]; exact retq_n .nil (.refl _ _) ⟨L, hI, rfl⟩)
theorem spokenR {σ : Type} (step : σ → Nat × Int → Option σ) (ok : Nat × Int → Prop) (IJ : Option σ → List Res → Prop) (y : AV) (hone : y.cellsOf = some [y]) (hy : ∀ (s : σ) (L : List Res) (sort : Nat) (n : Int) (cells : List AV), ok (sort, n) → IJ (some s) L → FCall Tryd.prog y [iv sort, .pp (iv n :: cells)] L (fun r h' => r = bv (step s (sort, n)).isSome ∧ IJ (step s (sort, n)) h')) (h : Hist) (la : Lim 4611686018427387904 h) (b1 bh : Nat) (hok : ∀ x ∈ spokenL h, ok x) (s0 : σ) (L0 : List Res) (h0 : IJ (some s0) L0) : ACall Tryd.prog 49 [y, .v (.pointer (some ⟨b1, 0, none⟩))] (.box b1 67 [.v (.pointer (some ⟨bh, 0, none⟩))] :: .box bh 28 (histC h) :: L0) (fun r h' => ∃ L', IJ (goes step (some s0) (spokenL h)) L' ∧ h' = .box b1 67 [.v (.pointer (some ⟨bh, 0, none⟩))] :: .box bh 28 (histC h) :: L') := by
  refine acall_of_aw Tryd.func49 rfl rfl rfl ?_
  refine aw_seq (aw_region ?_)
  refine aops_e rfl (oe_box rfl hone rfl fun by_ => ?_)
  refine aops_nil (thn_n ?_)
  refine aw_seq (aw_region ?_)
  refine aops_e rfl (oe_alloc rfl fun bm => ?_)
  first | refine aops_e rfl (oe_store_all rfl rfl rfl ?_) | refine aops_e rfl (oe_store rfl rfl rfl rfl (Nat.le_of_ble_eq_true rfl) ?_)
  refine aops_nil (thn_n ?_)
  refine aw_seq (aw_region ?_)
  refine qq rfl rfl (qr_makeFunc rfl rfl) ?_
  refine aops_e rfl (oe_alloc rfl fun bs => ?_)
  first | refine aops_e rfl (oe_store_all rfl rfl rfl ?_) | refine aops_e rfl (oe_store rfl rfl rfl rfl (Nat.le_of_ble_eq_true rfl) ?_)
  refine aops_nil (thn_n ?_)
  refine aw_seq (aw_region ?_)
  refine qq rfl rfl (qr_makeFunc rfl rfl) ?_
  refine qq rfl rfl (qr_assign rfl) ?_
  refine aops_nil (thn_n ?_)
  refine aw_seq ?_
  refine aw_seq (aw_region ?_)
  first | refine qq rfl rfl (qr_load_one rfl rfl) ?_ | refine qq rfl rfl (qr_load_pp_one rfl rfl) ?_
  first | refine qq rfl rfl (qr_nilCheck rfl) ?_ | refine qq rfl rfl (qr_nilCheck_pp rfl) ?_ | refine qq rfl rfl (qr_nilCheck_rp rfl) ?_
  first | refine qq rfl rfl (qr_fieldAddr rfl (Nat.succ_ne_zero _)) ?_ | refine qq rfl rfl (qr_fieldAddr_pp rfl (Nat.succ_ne_zero _)) ?_ | refine qq rfl rfl (qr_fieldAddr_rp rfl (Nat.succ_ne_zero _)) ?_
  first | refine qq rfl rfl (qr_load_one rfl rfl) ?_ | refine qq rfl rfl (qr_load_pp_one rfl rfl) ?_
  refine qq rfl rfl (qr_len_list rfl) ?_
  refine qq rfl rfl (qr_move rfl) ?_
  refine aops_nil (thn_n ?_)
  refine aw_block ?_
  refine aw_loop' (fun x : Nat × Option σ × List Res => x.1 ≤ h.evs.length ∧ IJ x.2.1 x.2.2 ∧ Rem step ok x.2.1 (((h.evs.drop x.1).flatMap evL) ++ (h.ords.flatMap ordL ++ (h.mats.flatMap matL ++ h.wants.flatMap wanL))) (goes step (some s0) (spokenL h))) (fun x => ⟨[(22, iv x.1), (21, iv (h.evs.map evR).length), (1, .v (.pointer (some ⟨b1, 0, none⟩))), (4, .v (.pointer (some ⟨bs, 0, none⟩))), (5, .fn (.func 51) [] [.v (.pointer (some ⟨bs, 0, none⟩))])], .box b1 67 [.v (.pointer (some ⟨bh, 0, none⟩))] :: .box bh 28 (histC h) :: .box bs 101 [.fn (.func 50) [] [.v (.pointer (some ⟨bm, 0, none⟩)), .v (.pointer (some ⟨by_, 0, none⟩))]] :: .box bm 4 [bv (x.2.1).isSome] :: .box by_ 100 [y] :: x.2.2, []⟩) (fun x => h.evs.length - x.1) (0, some s0, L0) ⟨by omega, h0, rfl, hok⟩
    (ent_trans (ent_perm ((pt3 _ _ _ _ _).trans (.cons _ (pt3 _ _ _ _ _)))) (ent_sub (.cons _ _ _ rfl (.cons _ _ _ rfl (.cons _ _ _ rfl (.cons _ _ _ rfl (.cons _ _ _ rfl (.nil)))))))) ?_
  rintro ⟨k, st, L⟩ ⟨hk, hI, hF⟩
  simp only at hk hI hF
  refine aw_seq (aw_region ?_)
  refine qq rfl rfl (qr_cmp rfl rfl rfl) ?_
  refine aops_nil (thn_n ?_)
  refine aw_seq ?_
  refine aw_cond rfl (fun hc23 => ?_) (fun hc23 => ?_)
  · have k2 : k < h.evs.length := by simpa using hc23
    obtain ⟨e, he⟩ : ∃ e, e = h.evs[k] := ⟨_, rfl⟩
    have hrowe : (h.evs.map evR)[k]? = some (evR e) := by rw [he]; simp [k2]
    have hde := List.drop_eq_getElem_cons k2
    rw [hde, ← he] at hF
    simp only [List.flatMap_cons, evL, List.cons_append, List.append_assoc] at hF
    obtain ⟨hx, hF⟩ := hF.cons
    obtain ⟨hkx, hF⟩ := hF.app
    have hle := la.evs
    have hls := la.scans e (by rw [he]; simp)
    refine aw_skip ?_
    refine thn_n ?_
    refine aw_seq ?_
    refine aw_block ?_
    refine aw_seq (aw_region ?_)
    refine qq rfl rfl (qr_move rfl) ?_
    refine qq rfl rfl (qr_assign rfl) ?_
    refine aops_nil (thn_n ?_)
    refine aw_seq (aw_region ?_)
    first | refine qq rfl rfl (qr_load_one rfl rfl) ?_ | refine qq rfl rfl (qr_load_pp_one rfl rfl) ?_
    first | refine qq rfl rfl (qr_nilCheck rfl) ?_ | refine qq rfl rfl (qr_nilCheck_pp rfl) ?_ | refine qq rfl rfl (qr_nilCheck_rp rfl) ?_
    first | refine qq rfl rfl (qr_fieldAddr rfl (Nat.succ_ne_zero _)) ?_ | refine qq rfl rfl (qr_fieldAddr_pp rfl (Nat.succ_ne_zero _)) ?_ | refine qq rfl rfl (qr_fieldAddr_rp rfl (Nat.succ_ne_zero _)) ?_
    first | refine qq rfl rfl (qr_load_one rfl rfl) ?_ | refine qq rfl rfl (qr_load_pp_one rfl rfl) ?_
    refine qq rfl rfl (qr_move rfl) ?_
    refine qq rfl rfl (qr_index_list rfl rfl (by assumption)) ?_
    refine qq rfl rfl (qr_assign rfl) ?_
    refine aops_nil (thn_n ?_)
    refine aw_seq ?_
    refine aw_draw 4 rfl ?_
    first | refine dq rfl rfl (qr_load_one rfl rfl) ?_ | refine dq rfl rfl (qr_load_pp_one rfl rfl) ?_
    refine dq rfl rfl (qr_move rfl) ?_
    first | refine dq rfl rfl (qr_nilCheck rfl) ?_ | refine dq rfl rfl (qr_nilCheck_pp rfl) ?_ | refine dq rfl rfl (qr_nilCheck_rp rfl) ?_
    first | refine dq rfl rfl (qr_fieldAddr rfl (Nat.succ_ne_zero _)) ?_ | refine dq rfl rfl (qr_fieldAddr_pp rfl (Nat.succ_ne_zero _)) ?_ | refine dq rfl rfl (qr_fieldAddr_rp rfl (Nat.succ_ne_zero _)) ?_
    refine dnil ⟨rfl, ?_⟩
    refine dalloc_s rfl ?_
    refine dalloc_s rfl ?_
    refine dalloc_s rfl ?_
    refine dalloc_s rfl ?_
    refine dalloc_nil ?_
    refine aops_e rfl (oe_call rfl rfl (FCall.fr3 (FCall.of_acall (fs := []) (cs := [.v (.pointer (some ⟨bm, 0, none⟩)), .v (.pointer (some ⟨by_, 0, none⟩))]) (sayR step ok IJ y hy 0 e.t hx _ bm by_ _ _ hI))) rfl ?_)
    rintro _ _ ⟨_, rfl, L, hI, rfl⟩
    refine aops_nil (thn_n ?_)
    refine aw_cutE (fun L => IJ (goes step (goes step st [(0, e.t)]) (kindL e)) L) (fun L => ⟨[(7, .pp (evR e)), (22, iv k), (21, iv (h.evs.map evR).length), (1, .v (.pointer (some ⟨b1, 0, none⟩))), (4, .v (.pointer (some ⟨bs, 0, none⟩))), (5, .fn (.func 51) [] [.v (.pointer (some ⟨bs, 0, none⟩))])], .box b1 67 [.v (.pointer (some ⟨bh, 0, none⟩))] :: .box bh 28 (histC h) :: .box bs 101 [.fn (.func 50) [] [.v (.pointer (some ⟨bm, 0, none⟩)), .v (.pointer (some ⟨by_, 0, none⟩))]] :: .box bm 4 [bv (goes step (goes step st [(0, e.t)]) (kindL e)).isSome] :: .box by_ 100 [y] :: L, []⟩) ?_ ?_
    · refine aw_seq (aw_region ?_)
      refine qq rfl rfl (qr_move rfl) ?_
      first | refine qq rfl rfl (qr_nilCheck rfl) ?_ | refine qq rfl rfl (qr_nilCheck_pp rfl) ?_ | refine qq rfl rfl (qr_nilCheck_rp rfl) ?_
      first | refine qq rfl rfl (qr_fieldAddr rfl (Nat.succ_ne_zero _)) ?_ | refine qq rfl rfl (qr_fieldAddr_pp rfl (Nat.succ_ne_zero _)) ?_ | refine qq rfl rfl (qr_fieldAddr_rp rfl (Nat.succ_ne_zero _)) ?_
      first | refine qq rfl rfl (qr_load_one rfl rfl) ?_ | refine qq rfl rfl (qr_load_pp_one rfl rfl) ?_
      refine aops_nil (thn_n ?_)
      refine aw_block ?_
      refine aw_seq (aw_region ?_)
      refine qq rfl rfl (qr_cmp rfl rfl rfl) ?_
      refine qq rfl rfl (qr_assign rfl) ?_
      refine aops_nil (thn_n ?_)
      refine aw_cond rfl (fun hc40 => ?_) (fun hc40 => ?_)
      · have hkl := kindL_1 (e := e) (by simpa using hc40)
        refine aw_draw 4 rfl ?_
        first | refine dq rfl rfl (qr_load_one rfl rfl) ?_ | refine dq rfl rfl (qr_load_pp_one rfl rfl) ?_
        refine dq rfl rfl (qr_move rfl) ?_
        first | refine dq rfl rfl (qr_nilCheck rfl) ?_ | refine dq rfl rfl (qr_nilCheck_pp rfl) ?_ | refine dq rfl rfl (qr_nilCheck_rp rfl) ?_
        first | refine dq rfl rfl (qr_fieldAddr rfl (Nat.succ_ne_zero _)) ?_ | refine dq rfl rfl (qr_fieldAddr_pp rfl (Nat.succ_ne_zero _)) ?_ | refine dq rfl rfl (qr_fieldAddr_rp rfl (Nat.succ_ne_zero _)) ?_
        refine dnil ⟨rfl, ?_⟩
        refine dalloc_s rfl ?_
        refine dalloc_s rfl ?_
        refine dalloc_s rfl ?_
        refine dalloc_s rfl ?_
        refine dalloc_nil ?_
        refine aops_e rfl (oe_call rfl rfl (FCall.fr3 (FCall.of_acall (fs := []) (cs := [.v (.pointer (some ⟨bm, 0, none⟩)), .v (.pointer (some ⟨by_, 0, none⟩))]) (sayR step ok IJ y hy 1 e.s (hkx _ (by rw [hkl]; simp)) _ bm by_ _ _ hI))) rfl ?_)
        rintro _ _ ⟨_, rfl, L, hI, rfl⟩
        refine aops_nil ?_
        refine inBlk_n ?_
        refine thn_n ?_
        refine ⟨L, ?_, ?_⟩
        · show IJ (goes step _ (kindL e)) L
          rw [hkl]; exact hI
        · rw [hkl]; exact (ent_sub (.cons _ _ _ rfl (.cons _ _ _ rfl (.cons _ _ _ rfl (.cons _ _ _ rfl (.cons _ _ _ rfl (.cons _ _ _ rfl (.nil))))))))
      · have hn1 : e.kind ≠ 1 := by simpa using hc40
        refine aw_seq ?_
        refine aw_seq (aw_region ?_)
        refine qq rfl rfl (qr_cmp rfl rfl rfl) ?_
        refine qq rfl rfl (qr_assign rfl) ?_
        refine aops_nil (thn_n ?_)
        refine aw_cond rfl (fun hc47 => ?_) (fun hc47 => ?_)
        · have hk23 : e.kind = 2 ∨ e.kind = 3 := by simp at hc47; omega
          have hkl := kindL_2 hk23
          refine aw_skip ?_
          refine thn_n ?_
          refine aw_cond rfl (fun hc47 => ?_) (fun hc47 => ?_)
          · have hk23 : e.kind = 2 ∨ e.kind = 3 := by simp at hc47; omega
            have hkl := kindL_2 hk23
            refine aw_seq ?_
            refine aw_draw 4 rfl ?_
            first | refine dq rfl rfl (qr_load_one rfl rfl) ?_ | refine dq rfl rfl (qr_load_pp_one rfl rfl) ?_
            refine dq rfl rfl (qr_move rfl) ?_
            first | refine dq rfl rfl (qr_nilCheck rfl) ?_ | refine dq rfl rfl (qr_nilCheck_pp rfl) ?_ | refine dq rfl rfl (qr_nilCheck_rp rfl) ?_
            first | refine dq rfl rfl (qr_fieldAddr rfl (Nat.succ_ne_zero _)) ?_ | refine dq rfl rfl (qr_fieldAddr_pp rfl (Nat.succ_ne_zero _)) ?_ | refine dq rfl rfl (qr_fieldAddr_rp rfl (Nat.succ_ne_zero _)) ?_
            refine dnil ⟨rfl, ?_⟩
            refine dalloc_s rfl ?_
            refine dalloc_s rfl ?_
            refine dalloc_s rfl ?_
            refine dalloc_s rfl ?_
            refine dalloc_nil ?_
            refine aops_e rfl (oe_call rfl rfl (FCall.fr3 (FCall.of_acall (fs := []) (cs := [.v (.pointer (some ⟨bm, 0, none⟩)), .v (.pointer (some ⟨by_, 0, none⟩))]) (sayR step ok IJ y hy 2 e.o (hkx _ (by rw [hkl]; simp)) _ bm by_ _ _ hI))) rfl ?_)
            rintro _ _ ⟨_, rfl, L, hI, rfl⟩
            refine aops_nil (thn_n ?_)
            refine aw_region ?_
            refine qq rfl rfl (qr_move rfl) ?_
            refine qq rfl rfl (qr_move rfl) ?_
            first | refine qq rfl rfl (qr_nilCheck rfl) ?_ | refine qq rfl rfl (qr_nilCheck_pp rfl) ?_ | refine qq rfl rfl (qr_nilCheck_rp rfl) ?_
            first | refine qq rfl rfl (qr_fieldAddr rfl (Nat.succ_ne_zero _)) ?_ | refine qq rfl rfl (qr_fieldAddr_pp rfl (Nat.succ_ne_zero _)) ?_ | refine qq rfl rfl (qr_fieldAddr_rp rfl (Nat.succ_ne_zero _)) ?_
            refine aops_e rfl (oe_call rfl rfl (FCall.fr2 (FCall.of_acall (fs := []) (cs := [.v (.pointer (some ⟨bs, 0, none⟩))]) (madeR step ok IJ y hy e.v (fun x hx => hkx x (by rw [hkl]; simp [hx])) _ bs bm by_ _ _ hI))) rfl ?_)
            rintro _ _ ⟨_, rfl, L, hI, rfl⟩
            refine aops_nil ?_
            refine inBlk_n ?_
            refine thn_n ?_
            refine ⟨L, ?_, ?_⟩
            · show IJ (goes step _ (kindL e)) L
              rw [hkl]; exact hI
            · rw [hkl]; exact (ent_sub (.cons _ _ _ rfl (.cons _ _ _ rfl (.cons _ _ _ rfl (.cons _ _ _ rfl (.cons _ _ _ rfl (.cons _ _ _ rfl (.nil))))))))
          · first | cases hc47 | exact absurd hc47 (by decide) | (exfalso; simp_all; done)
        · have hn23 := hc47
          simp at hn23
          refine aw_region ?_
          refine qq rfl rfl (qr_cmp rfl rfl rfl) ?_
          refine qq rfl rfl (qr_assign rfl) ?_
          refine aops_nil (thn_n ?_)
          refine aw_cond rfl (fun hc47 => ?_) (fun hc47 => ?_)
          · have hk23 : e.kind = 2 ∨ e.kind = 3 := by simp at hc47; omega
            have hkl := kindL_2 hk23
            refine aw_seq ?_
            refine aw_draw 4 rfl ?_
            first | refine dq rfl rfl (qr_load_one rfl rfl) ?_ | refine dq rfl rfl (qr_load_pp_one rfl rfl) ?_
            refine dq rfl rfl (qr_move rfl) ?_
            first | refine dq rfl rfl (qr_nilCheck rfl) ?_ | refine dq rfl rfl (qr_nilCheck_pp rfl) ?_ | refine dq rfl rfl (qr_nilCheck_rp rfl) ?_
            first | refine dq rfl rfl (qr_fieldAddr rfl (Nat.succ_ne_zero _)) ?_ | refine dq rfl rfl (qr_fieldAddr_pp rfl (Nat.succ_ne_zero _)) ?_ | refine dq rfl rfl (qr_fieldAddr_rp rfl (Nat.succ_ne_zero _)) ?_
            refine dnil ⟨rfl, ?_⟩
            refine dalloc_s rfl ?_
            refine dalloc_s rfl ?_
            refine dalloc_s rfl ?_
            refine dalloc_s rfl ?_
            refine dalloc_nil ?_
            refine aops_e rfl (oe_call rfl rfl (FCall.fr3 (FCall.of_acall (fs := []) (cs := [.v (.pointer (some ⟨bm, 0, none⟩)), .v (.pointer (some ⟨by_, 0, none⟩))]) (sayR step ok IJ y hy 2 e.o (hkx _ (by rw [hkl]; simp)) _ bm by_ _ _ hI))) rfl ?_)
            rintro _ _ ⟨_, rfl, L, hI, rfl⟩
            refine aops_nil (thn_n ?_)
            refine aw_region ?_
            refine qq rfl rfl (qr_move rfl) ?_
            refine qq rfl rfl (qr_move rfl) ?_
            first | refine qq rfl rfl (qr_nilCheck rfl) ?_ | refine qq rfl rfl (qr_nilCheck_pp rfl) ?_ | refine qq rfl rfl (qr_nilCheck_rp rfl) ?_
            first | refine qq rfl rfl (qr_fieldAddr rfl (Nat.succ_ne_zero _)) ?_ | refine qq rfl rfl (qr_fieldAddr_pp rfl (Nat.succ_ne_zero _)) ?_ | refine qq rfl rfl (qr_fieldAddr_rp rfl (Nat.succ_ne_zero _)) ?_
            refine aops_e rfl (oe_call rfl rfl (FCall.fr2 (FCall.of_acall (fs := []) (cs := [.v (.pointer (some ⟨bs, 0, none⟩))]) (madeR step ok IJ y hy e.v (fun x hx => hkx x (by rw [hkl]; simp [hx])) _ bs bm by_ _ _ hI))) rfl ?_)
            rintro _ _ ⟨_, rfl, L, hI, rfl⟩
            refine aops_nil ?_
            refine inBlk_n ?_
            refine thn_n ?_
            refine ⟨L, ?_, ?_⟩
            · show IJ (goes step _ (kindL e)) L
              rw [hkl]; exact hI
            · rw [hkl]; exact (ent_sub (.cons _ _ _ rfl (.cons _ _ _ rfl (.cons _ _ _ rfl (.cons _ _ _ rfl (.cons _ _ _ rfl (.cons _ _ _ rfl (.nil))))))))
          · have hn23 := hc47
            simp at hn23
            refine aw_seq (aw_region ?_)
            refine qq rfl rfl (qr_cmp rfl rfl rfl) ?_
            refine qq rfl rfl (qr_assign rfl) ?_
            refine aops_nil (thn_n ?_)
            refine aw_cond rfl (fun hc60 => ?_) (fun hc60 => ?_)
            · have hkl := kindL_4 (e := e) (by simpa using hc60)
              refine aw_draw 4 rfl ?_
              first | refine dq rfl rfl (qr_load_one rfl rfl) ?_ | refine dq rfl rfl (qr_load_pp_one rfl rfl) ?_
              refine dq rfl rfl (qr_move rfl) ?_
              first | refine dq rfl rfl (qr_nilCheck rfl) ?_ | refine dq rfl rfl (qr_nilCheck_pp rfl) ?_ | refine dq rfl rfl (qr_nilCheck_rp rfl) ?_
              first | refine dq rfl rfl (qr_fieldAddr rfl (Nat.succ_ne_zero _)) ?_ | refine dq rfl rfl (qr_fieldAddr_pp rfl (Nat.succ_ne_zero _)) ?_ | refine dq rfl rfl (qr_fieldAddr_rp rfl (Nat.succ_ne_zero _)) ?_
              refine dnil ⟨rfl, ?_⟩
              refine dalloc_s rfl ?_
              refine dalloc_s rfl ?_
              refine dalloc_s rfl ?_
              refine dalloc_s rfl ?_
              refine dalloc_nil ?_
              refine aops_e rfl (oe_call rfl rfl (FCall.fr3 (FCall.of_acall (fs := []) (cs := [.v (.pointer (some ⟨bm, 0, none⟩)), .v (.pointer (some ⟨by_, 0, none⟩))]) (sayR step ok IJ y hy 3 e.p (hkx _ (by rw [hkl]; simp)) _ bm by_ _ _ hI))) rfl ?_)
              rintro _ _ ⟨_, rfl, L, hI, rfl⟩
              refine aops_nil ?_
              refine inBlk_n ?_
              refine thn_n ?_
              refine ⟨L, ?_, ?_⟩
              · show IJ (goes step _ (kindL e)) L
                rw [hkl]; exact hI
              · rw [hkl]; exact (ent_sub (.cons _ _ _ rfl (.cons _ _ _ rfl (.cons _ _ _ rfl (.cons _ _ _ rfl (.cons _ _ _ rfl (.cons _ _ _ rfl (.nil))))))))
            · have hn4 : e.kind ≠ 4 := by simpa using hc60
              have hkl := kindL_0 (e := e) hn1 (by omega) (by omega) hn4
              refine aw_skip ?_
              refine inBlk_n ?_
              refine thn_n ?_
              refine ⟨L, ?_, ?_⟩
              · show IJ (goes step _ (kindL e)) L
                rw [hkl]; exact hI
              · rw [hkl]; exact (ent_sub (.cons _ _ _ rfl (.cons _ _ _ rfl (.cons _ _ _ rfl (.cons _ _ _ rfl (.cons _ _ _ rfl (.cons _ _ _ rfl (.nil))))))))
    · rintro L hI
      revert hI hF
      generalize goes step (goes step st [(0, e.t)]) (kindL e) = st2
      intro hF hI
      refine aw_seq (aw_region ?_)
      refine qq rfl rfl (qr_move rfl) ?_
      first | refine qq rfl rfl (qr_nilCheck rfl) ?_ | refine qq rfl rfl (qr_nilCheck_pp rfl) ?_ | refine qq rfl rfl (qr_nilCheck_rp rfl) ?_
      first | refine qq rfl rfl (qr_fieldAddr rfl (Nat.succ_ne_zero _)) ?_ | refine qq rfl rfl (qr_fieldAddr_pp rfl (Nat.succ_ne_zero _)) ?_ | refine qq rfl rfl (qr_fieldAddr_rp rfl (Nat.succ_ne_zero _)) ?_
      first | refine qq rfl rfl (qr_load_one rfl rfl) ?_ | refine qq rfl rfl (qr_load_pp_one rfl rfl) ?_
      refine qq rfl rfl (qr_len_list rfl) ?_
      refine qq rfl rfl (qr_move rfl) ?_
      refine aops_nil (thn_n ?_)
      refine aw_block ?_
      refine aw_loop' (fun x : Nat × Option σ × List Res => x.1 ≤ e.scan.length ∧ IJ x.2.1 x.2.2 ∧ Rem step ok x.2.1 (((e.scan.drop x.1).flatMap seenL) ++ (((h.evs.drop (k + 1)).flatMap evL) ++ (h.ords.flatMap ordL ++ (h.mats.flatMap matL ++ h.wants.flatMap wanL)))) (goes step (some s0) (spokenL h))) (fun x => ⟨[(72, iv x.1), (71, iv (e.scan.map seenR).length), (7, .pp (evR e)), (22, iv k), (21, iv (h.evs.map evR).length), (1, .v (.pointer (some ⟨b1, 0, none⟩))), (4, .v (.pointer (some ⟨bs, 0, none⟩))), (5, .fn (.func 51) [] [.v (.pointer (some ⟨bs, 0, none⟩))])], .box b1 67 [.v (.pointer (some ⟨bh, 0, none⟩))] :: .box bh 28 (histC h) :: .box bs 101 [.fn (.func 50) [] [.v (.pointer (some ⟨bm, 0, none⟩)), .v (.pointer (some ⟨by_, 0, none⟩))]] :: .box bm 4 [bv (x.2.1).isSome] :: .box by_ 100 [y] :: x.2.2, []⟩) (fun x => e.scan.length - x.1) (0, st2, L) ⟨by omega, hI, hF⟩
        (ent_sub (.cons _ _ _ rfl (.cons _ _ _ rfl (.cons _ _ _ rfl (.cons _ _ _ rfl (.cons _ _ _ rfl (.cons _ _ _ rfl (.cons _ _ _ rfl (.cons _ _ _ rfl (.nil)))))))))) ?_
      rintro ⟨j, st, L⟩ ⟨hj, hI, hF⟩
      simp only at hj hI hF
      refine aw_seq (aw_region ?_)
      refine qq rfl rfl (qr_cmp rfl rfl rfl) ?_
      refine aops_nil (thn_n ?_)
      refine aw_seq ?_
      refine aw_cond rfl (fun hc73 => ?_) (fun hc73 => ?_)
      · have j2 : j < e.scan.length := by simpa using hc73
        obtain ⟨x, hx⟩ : ∃ x, x = e.scan[j] := ⟨_, rfl⟩
        have hrowx : (e.scan.map seenR)[j]? = some (seenR x) := by rw [hx]; simp [j2]
        have hdx := List.drop_eq_getElem_cons j2
        rw [hdx, ← hx] at hF
        simp only [List.flatMap_cons, seenL, List.cons_append, List.append_assoc] at hF
        obtain ⟨hx, hF⟩ := hF.cons
        obtain ⟨hkx, hF⟩ := hF.app
        refine aw_skip ?_
        refine thn_n ?_
        refine aw_seq ?_
        refine aw_block ?_
        refine aw_seq (aw_region ?_)
        refine qq rfl rfl (qr_move rfl) ?_
        refine qq rfl rfl (qr_assign rfl) ?_
        refine aops_nil (thn_n ?_)
        refine aw_seq ?_
        refine aw_draw 8 rfl ?_
        first | refine dq rfl rfl (qr_load_one rfl rfl) ?_ | refine dq rfl rfl (qr_load_pp_one rfl rfl) ?_
        refine dq rfl rfl (qr_move rfl) ?_
        first | refine dq rfl rfl (qr_nilCheck rfl) ?_ | refine dq rfl rfl (qr_nilCheck_pp rfl) ?_ | refine dq rfl rfl (qr_nilCheck_rp rfl) ?_
        first | refine dq rfl rfl (qr_fieldAddr rfl (Nat.succ_ne_zero _)) ?_ | refine dq rfl rfl (qr_fieldAddr_pp rfl (Nat.succ_ne_zero _)) ?_ | refine dq rfl rfl (qr_fieldAddr_rp rfl (Nat.succ_ne_zero _)) ?_
        first | refine dq rfl rfl (qr_load_one rfl rfl) ?_ | refine dq rfl rfl (qr_load_pp_one rfl rfl) ?_
        refine dq rfl rfl (qr_move rfl) ?_
        refine dq rfl rfl (qr_index_list rfl rfl (by assumption)) ?_
        first | refine dq rfl rfl (qr_fieldAddr rfl (Nat.succ_ne_zero _)) ?_ | refine dq rfl rfl (qr_fieldAddr_pp rfl (Nat.succ_ne_zero _)) ?_ | refine dq rfl rfl (qr_fieldAddr_rp rfl (Nat.succ_ne_zero _)) ?_
        refine dnil ⟨rfl, ?_⟩
        refine dalloc_s rfl ?_
        refine dalloc_s rfl ?_
        refine dalloc_s rfl ?_
        refine dalloc_s rfl ?_
        refine dalloc_s rfl ?_
        refine dalloc_s rfl ?_
        refine dalloc_s rfl ?_
        refine dalloc_s rfl ?_
        refine dalloc_nil ?_
        refine aops_e rfl (oe_call rfl rfl (FCall.fr3 (FCall.of_acall (fs := []) (cs := [.v (.pointer (some ⟨bm, 0, none⟩)), .v (.pointer (some ⟨by_, 0, none⟩))]) (sayR step ok IJ y hy 2 x.o hx _ bm by_ _ _ hI))) rfl ?_)
        rintro _ _ ⟨_, rfl, L, hI, rfl⟩
        refine aops_nil (thn_n ?_)
        refine aw_region ?_
        refine qq rfl rfl (qr_move rfl) ?_
        refine qq rfl rfl (qr_move rfl) ?_
        first | refine qq rfl rfl (qr_nilCheck rfl) ?_ | refine qq rfl rfl (qr_nilCheck_pp rfl) ?_ | refine qq rfl rfl (qr_nilCheck_rp rfl) ?_
        first | refine qq rfl rfl (qr_fieldAddr rfl (Nat.succ_ne_zero _)) ?_ | refine qq rfl rfl (qr_fieldAddr_pp rfl (Nat.succ_ne_zero _)) ?_ | refine qq rfl rfl (qr_fieldAddr_rp rfl (Nat.succ_ne_zero _)) ?_
        first | refine qq rfl rfl (qr_load_one rfl rfl) ?_ | refine qq rfl rfl (qr_load_pp_one rfl rfl) ?_
        refine qq rfl rfl (qr_move rfl) ?_
        refine qq rfl rfl (qr_index_list rfl rfl (by assumption)) ?_
        first | refine qq rfl rfl (qr_fieldAddr rfl (Nat.succ_ne_zero _)) ?_ | refine qq rfl rfl (qr_fieldAddr_pp rfl (Nat.succ_ne_zero _)) ?_ | refine qq rfl rfl (qr_fieldAddr_rp rfl (Nat.succ_ne_zero _)) ?_
        refine aops_e rfl (oe_call rfl rfl (FCall.fr2 (FCall.of_acall (fs := []) (cs := [.v (.pointer (some ⟨bs, 0, none⟩))]) (madeR step ok IJ y hy x.v hkx _ bs bm by_ _ _ hI))) rfl ?_)
        rintro _ _ ⟨_, rfl, L, hI, rfl⟩
        refine aops_nil ?_
        refine inBlk_n ?_
        refine thn_n ?_
        refine aw_region ?_
        refine qq rfl rfl (qr_ari rfl rfl rfl (by omega)) ?_
        refine qq rfl rfl (qr_move rfl) ?_
        refine aops_nil (thn_n ?_)
        exact ⟨(j + 1, _, L), ⟨by omega, hI, hF⟩, (ent_sub (.cons _ _ _ rfl (.cons _ _ _ rfl (.cons _ _ _ rfl (.cons _ _ _ rfl (.cons _ _ _ rfl (.cons _ _ _ rfl (.cons _ _ _ rfl (.cons _ _ _ rfl (.nil)))))))))), by simp only; omega⟩
      · obtain rfl : j = e.scan.length := by
          have : e.scan.length ≤ j := by simpa using hc73
          omega
        rw [List.drop_length, List.flatMap_nil, List.nil_append] at hF
        refine aw_exit ?_
        refine thn_e ?_
        refine thn_e ?_
        refine inBlk_hit ?_
        refine inBlk_n ?_
        refine thn_n ?_
        refine aw_region ?_
        refine qq rfl rfl (qr_ari rfl rfl rfl (by omega)) ?_
        refine qq rfl rfl (qr_move rfl) ?_
        refine aops_nil (thn_n ?_)
        exact ⟨(k + 1, _, L), ⟨by omega, hI, hF⟩, (ent_sub (.cons _ _ _ rfl (.cons _ _ _ rfl (.cons _ _ _ rfl (.cons _ _ _ rfl (.cons _ _ _ rfl (.nil))))))), by simp only; omega⟩
  · obtain rfl : k = h.evs.length := by
      have : h.evs.length ≤ k := by simpa using hc23
      omega
    rw [List.drop_length, List.flatMap_nil, List.nil_append] at hF
    refine aw_exit ?_
    refine thn_e ?_
    refine thn_e ?_
    refine inBlk_hit ?_
    refine thn_n ?_
    refine aw_seq ?_
    refine aw_seq (aw_region ?_)
    first | refine qq rfl rfl (qr_load_one rfl rfl) ?_ | refine qq rfl rfl (qr_load_pp_one rfl rfl) ?_
    first | refine qq rfl rfl (qr_nilCheck rfl) ?_ | refine qq rfl rfl (qr_nilCheck_pp rfl) ?_ | refine qq rfl rfl (qr_nilCheck_rp rfl) ?_
    first | refine qq rfl rfl (qr_fieldAddr rfl (Nat.succ_ne_zero _)) ?_ | refine qq rfl rfl (qr_fieldAddr_pp rfl (Nat.succ_ne_zero _)) ?_ | refine qq rfl rfl (qr_fieldAddr_rp rfl (Nat.succ_ne_zero _)) ?_
    first | refine qq rfl rfl (qr_load_one rfl rfl) ?_ | refine qq rfl rfl (qr_load_pp_one rfl rfl) ?_
    refine qq rfl rfl (qr_len_list rfl) ?_
    refine qq rfl rfl (qr_move rfl) ?_
    refine aops_nil (thn_n ?_)
    refine aw_block ?_
    refine aw_loop' (fun x : Nat × Option σ × List Res => x.1 ≤ h.ords.length ∧ IJ x.2.1 x.2.2 ∧ Rem step ok x.2.1 (((h.ords.drop x.1).flatMap ordL) ++ (h.mats.flatMap matL ++ h.wants.flatMap wanL)) (goes step (some s0) (spokenL h))) (fun x => ⟨[(100, iv x.1), (99, iv (h.ords.map ordR).length), (1, .v (.pointer (some ⟨b1, 0, none⟩))), (4, .v (.pointer (some ⟨bs, 0, none⟩))), (5, .fn (.func 51) [] [.v (.pointer (some ⟨bs, 0, none⟩))])], .box b1 67 [.v (.pointer (some ⟨bh, 0, none⟩))] :: .box bh 28 (histC h) :: .box bs 101 [.fn (.func 50) [] [.v (.pointer (some ⟨bm, 0, none⟩)), .v (.pointer (some ⟨by_, 0, none⟩))]] :: .box bm 4 [bv (x.2.1).isSome] :: .box by_ 100 [y] :: x.2.2, []⟩) (fun x => h.ords.length - x.1) (0, st, L) ⟨by omega, hI, hF⟩
      (ent_sub (.cons _ _ _ rfl (.cons _ _ _ rfl (.cons _ _ _ rfl (.cons _ _ _ rfl (.cons _ _ _ rfl (.nil))))))) ?_
    rintro ⟨k, st, L⟩ ⟨hk, hI, hF⟩
    simp only at hk hI hF
    refine aw_seq (aw_region ?_)
    refine qq rfl rfl (qr_cmp rfl rfl rfl) ?_
    refine aops_nil (thn_n ?_)
    refine aw_seq ?_
    refine aw_cond rfl (fun hc101 => ?_) (fun hc101 => ?_)
    · have k2 : k < h.ords.length := by simpa using hc101
      obtain ⟨r, hr⟩ : ∃ r, r = h.ords[k] := ⟨_, rfl⟩
      have hrowr : (h.ords.map ordR)[k]? = some (ordR r) := by rw [hr]; simp [k2]
      have hdr := List.drop_eq_getElem_cons k2
      rw [hdr, ← hr] at hF
      simp only [List.flatMap_cons, ordL, List.cons_append, List.append_assoc] at hF
      obtain ⟨hx, hF⟩ := hF.cons
      have hle := la.ords
      have hls := la.ordts r (by rw [hr]; simp)
      refine aw_skip ?_
      refine thn_n ?_
      refine aw_seq ?_
      refine aw_block ?_
      refine aw_seq (aw_region ?_)
      refine qq rfl rfl (qr_move rfl) ?_
      refine qq rfl rfl (qr_assign rfl) ?_
      refine aops_nil (thn_n ?_)
      refine aw_seq ?_
      refine aw_draw 8 rfl ?_
      first | refine dq rfl rfl (qr_load_one rfl rfl) ?_ | refine dq rfl rfl (qr_load_pp_one rfl rfl) ?_
      first | refine dq rfl rfl (qr_load_one rfl rfl) ?_ | refine dq rfl rfl (qr_load_pp_one rfl rfl) ?_
      first | refine dq rfl rfl (qr_nilCheck rfl) ?_ | refine dq rfl rfl (qr_nilCheck_pp rfl) ?_ | refine dq rfl rfl (qr_nilCheck_rp rfl) ?_
      first | refine dq rfl rfl (qr_fieldAddr rfl (Nat.succ_ne_zero _)) ?_ | refine dq rfl rfl (qr_fieldAddr_pp rfl (Nat.succ_ne_zero _)) ?_ | refine dq rfl rfl (qr_fieldAddr_rp rfl (Nat.succ_ne_zero _)) ?_
      first | refine dq rfl rfl (qr_load_one rfl rfl) ?_ | refine dq rfl rfl (qr_load_pp_one rfl rfl) ?_
      refine dq rfl rfl (qr_move rfl) ?_
      refine dq rfl rfl (qr_index_list rfl rfl (by assumption)) ?_
      first | refine dq rfl rfl (qr_fieldAddr rfl (Nat.succ_ne_zero _)) ?_ | refine dq rfl rfl (qr_fieldAddr_pp rfl (Nat.succ_ne_zero _)) ?_ | refine dq rfl rfl (qr_fieldAddr_rp rfl (Nat.succ_ne_zero _)) ?_
      refine dnil ⟨rfl, ?_⟩
      refine dalloc_s rfl ?_
      refine dalloc_s rfl ?_
      refine dalloc_s rfl ?_
      refine dalloc_s rfl ?_
      refine dalloc_s rfl ?_
      refine dalloc_s rfl ?_
      refine dalloc_s rfl ?_
      refine dalloc_s rfl ?_
      refine dalloc_nil ?_
      refine aops_e rfl (oe_call rfl rfl (FCall.fr3 (FCall.of_acall (fs := []) (cs := [.v (.pointer (some ⟨bm, 0, none⟩)), .v (.pointer (some ⟨by_, 0, none⟩))]) (sayR step ok IJ y hy 2 r.o hx _ bm by_ _ _ hI))) rfl ?_)
      rintro _ _ ⟨_, rfl, L, hI, rfl⟩
      refine aops_nil (thn_n ?_)
      refine aw_seq (aw_region ?_)
      first | refine qq rfl rfl (qr_load_one rfl rfl) ?_ | refine qq rfl rfl (qr_load_pp_one rfl rfl) ?_
      first | refine qq rfl rfl (qr_nilCheck rfl) ?_ | refine qq rfl rfl (qr_nilCheck_pp rfl) ?_ | refine qq rfl rfl (qr_nilCheck_rp rfl) ?_
      first | refine qq rfl rfl (qr_fieldAddr rfl (Nat.succ_ne_zero _)) ?_ | refine qq rfl rfl (qr_fieldAddr_pp rfl (Nat.succ_ne_zero _)) ?_ | refine qq rfl rfl (qr_fieldAddr_rp rfl (Nat.succ_ne_zero _)) ?_
      first | refine qq rfl rfl (qr_load_one rfl rfl) ?_ | refine qq rfl rfl (qr_load_pp_one rfl rfl) ?_
      refine qq rfl rfl (qr_move rfl) ?_
      refine qq rfl rfl (qr_index_list rfl rfl (by assumption)) ?_
      first | refine qq rfl rfl (qr_fieldAddr rfl (Nat.succ_ne_zero _)) ?_ | refine qq rfl rfl (qr_fieldAddr_pp rfl (Nat.succ_ne_zero _)) ?_ | refine qq rfl rfl (qr_fieldAddr_rp rfl (Nat.succ_ne_zero _)) ?_
      first | refine qq rfl rfl (qr_load_one rfl rfl) ?_ | refine qq rfl rfl (qr_load_pp_one rfl rfl) ?_
      refine qq rfl rfl (qr_len_list rfl) ?_
      refine qq rfl rfl (qr_move rfl) ?_
      refine aops_nil (thn_n ?_)
      refine aw_block ?_
      refine aw_loop' (fun x : Nat × Option σ × List Res => x.1 ≤ r.ts.length ∧ IJ x.2.1 x.2.2 ∧ Rem step ok x.2.1 (((r.ts.drop x.1).map fun t => ((0 : Nat), t)) ++ (((h.ords.drop (k + 1)).flatMap ordL) ++ (h.mats.flatMap matL ++ h.wants.flatMap wanL))) (goes step (some s0) (spokenL h))) (fun x => ⟨[(121, iv x.1), (120, iv (r.ts.map intR).length), (9, iv k), (100, iv k), (99, iv (h.ords.map ordR).length), (1, .v (.pointer (some ⟨b1, 0, none⟩))), (4, .v (.pointer (some ⟨bs, 0, none⟩))), (5, .fn (.func 51) [] [.v (.pointer (some ⟨bs, 0, none⟩))])], .box b1 67 [.v (.pointer (some ⟨bh, 0, none⟩))] :: .box bh 28 (histC h) :: .box bs 101 [.fn (.func 50) [] [.v (.pointer (some ⟨bm, 0, none⟩)), .v (.pointer (some ⟨by_, 0, none⟩))]] :: .box bm 4 [bv (x.2.1).isSome] :: .box by_ 100 [y] :: x.2.2, []⟩) (fun x => r.ts.length - x.1) (0, _, L) ⟨by omega, hI, hF⟩
        (ent_sub (.cons _ _ _ rfl (.cons _ _ _ rfl (.cons _ _ _ rfl (.cons _ _ _ rfl (.cons _ _ _ rfl (.cons _ _ _ rfl (.cons _ _ _ rfl (.cons _ _ _ rfl (.nil)))))))))) ?_
      rintro ⟨j, st, L⟩ ⟨hj, hI, hF⟩
      simp only at hj hI hF
      refine aw_seq (aw_region ?_)
      refine qq rfl rfl (qr_cmp rfl rfl rfl) ?_
      refine aops_nil (thn_n ?_)
      refine aw_seq ?_
      refine aw_cond rfl (fun hc122 => ?_) (fun hc122 => ?_)
      · have j2 : j < r.ts.length := by simpa using hc122
        obtain ⟨t, ht⟩ : ∃ t, t = r.ts[j] := ⟨_, rfl⟩
        have hrowt : (r.ts.map intR)[j]? = some (intR t) := by rw [ht]; simp [j2]
        have hdt := List.drop_eq_getElem_cons j2
        rw [hdt, ← ht] at hF
        simp only [List.map_cons, List.cons_append] at hF
        obtain ⟨hx, hF⟩ := hF.cons
        refine aw_skip ?_
        refine thn_n ?_
        refine aw_seq ?_
        refine aw_block ?_
        refine aw_seq (aw_region ?_)
        refine qq rfl rfl (qr_move rfl) ?_
        refine qq rfl rfl (qr_assign rfl) ?_
        refine aops_nil (thn_n ?_)
        refine aw_draw 11 rfl ?_
        first | refine dq rfl rfl (qr_load_one rfl rfl) ?_ | refine dq rfl rfl (qr_load_pp_one rfl rfl) ?_
        first | refine dq rfl rfl (qr_load_one rfl rfl) ?_ | refine dq rfl rfl (qr_load_pp_one rfl rfl) ?_
        first | refine dq rfl rfl (qr_nilCheck rfl) ?_ | refine dq rfl rfl (qr_nilCheck_pp rfl) ?_ | refine dq rfl rfl (qr_nilCheck_rp rfl) ?_
        first | refine dq rfl rfl (qr_fieldAddr rfl (Nat.succ_ne_zero _)) ?_ | refine dq rfl rfl (qr_fieldAddr_pp rfl (Nat.succ_ne_zero _)) ?_ | refine dq rfl rfl (qr_fieldAddr_rp rfl (Nat.succ_ne_zero _)) ?_
        first | refine dq rfl rfl (qr_load_one rfl rfl) ?_ | refine dq rfl rfl (qr_load_pp_one rfl rfl) ?_
        refine dq rfl rfl (qr_move rfl) ?_
        refine dq rfl rfl (qr_index_list rfl rfl (by assumption)) ?_
        first | refine dq rfl rfl (qr_fieldAddr rfl (Nat.succ_ne_zero _)) ?_ | refine dq rfl rfl (qr_fieldAddr_pp rfl (Nat.succ_ne_zero _)) ?_ | refine dq rfl rfl (qr_fieldAddr_rp rfl (Nat.succ_ne_zero _)) ?_
        first | refine dq rfl rfl (qr_load_one rfl rfl) ?_ | refine dq rfl rfl (qr_load_pp_one rfl rfl) ?_
        refine dq rfl rfl (qr_move rfl) ?_
        refine dq rfl rfl (qr_index_list rfl rfl (by assumption)) ?_
        refine dnil ⟨rfl, ?_⟩
        refine dalloc_s rfl ?_
        refine dalloc_s rfl ?_
        refine dalloc_s rfl ?_
        refine dalloc_s rfl ?_
        refine dalloc_s rfl ?_
        refine dalloc_s rfl ?_
        refine dalloc_s rfl ?_
        refine dalloc_s rfl ?_
        refine dalloc_s rfl ?_
        refine dalloc_s rfl ?_
        refine dalloc_s rfl ?_
        refine dalloc_nil ?_
        refine aops_e rfl (oe_call rfl rfl (FCall.fr3 (FCall.of_acall (fs := []) (cs := [.v (.pointer (some ⟨bm, 0, none⟩)), .v (.pointer (some ⟨by_, 0, none⟩))]) (sayR step ok IJ y hy 0 t hx _ bm by_ _ _ hI))) rfl ?_)
        rintro _ _ ⟨_, rfl, L, hI, rfl⟩
        refine aops_nil ?_
        refine inBlk_n ?_
        refine thn_n ?_
        refine aw_region ?_
        refine qq rfl rfl (qr_ari rfl rfl rfl (by omega)) ?_
        refine qq rfl rfl (qr_move rfl) ?_
        refine aops_nil (thn_n ?_)
        exact ⟨(j + 1, _, L), ⟨by omega, hI, hF⟩, (ent_sub (.cons _ _ _ rfl (.cons _ _ _ rfl (.cons _ _ _ rfl (.cons _ _ _ rfl (.cons _ _ _ rfl (.cons _ _ _ rfl (.cons _ _ _ rfl (.cons _ _ _ rfl (.nil)))))))))), by simp only; omega⟩
      · obtain rfl : j = r.ts.length := by
          have : r.ts.length ≤ j := by simpa using hc122
          omega
        rw [List.drop_length, List.map_nil, List.nil_append] at hF
        refine aw_exit ?_
        refine thn_e ?_
        refine thn_e ?_
        refine inBlk_hit ?_
        refine inBlk_n ?_
        refine thn_n ?_
        refine aw_region ?_
        refine qq rfl rfl (qr_ari rfl rfl rfl (by omega)) ?_
        refine qq rfl rfl (qr_move rfl) ?_
        refine aops_nil (thn_n ?_)
        exact ⟨(k + 1, _, L), ⟨by omega, hI, hF⟩, (ent_sub (.cons _ _ _ rfl (.cons _ _ _ rfl (.cons _ _ _ rfl (.cons _ _ _ rfl (.cons _ _ _ rfl (.nil))))))), by simp only; omega⟩
    · obtain rfl : k = h.ords.length := by
        have : h.ords.length ≤ k := by simpa using hc101
        omega
      rw [List.drop_length, List.flatMap_nil, List.nil_append] at hF
      refine aw_exit ?_
      refine thn_e ?_
      refine thn_e ?_
      refine inBlk_hit ?_
      refine thn_n ?_
      refine aw_seq ?_
      refine aw_seq (aw_region ?_)
      first | refine qq rfl rfl (qr_load_one rfl rfl) ?_ | refine qq rfl rfl (qr_load_pp_one rfl rfl) ?_
      first | refine qq rfl rfl (qr_nilCheck rfl) ?_ | refine qq rfl rfl (qr_nilCheck_pp rfl) ?_ | refine qq rfl rfl (qr_nilCheck_rp rfl) ?_
      first | refine qq rfl rfl (qr_fieldAddr rfl (Nat.succ_ne_zero _)) ?_ | refine qq rfl rfl (qr_fieldAddr_pp rfl (Nat.succ_ne_zero _)) ?_ | refine qq rfl rfl (qr_fieldAddr_rp rfl (Nat.succ_ne_zero _)) ?_
      first | refine qq rfl rfl (qr_load_one rfl rfl) ?_ | refine qq rfl rfl (qr_load_pp_one rfl rfl) ?_
      refine qq rfl rfl (qr_len_list rfl) ?_
      refine qq rfl rfl (qr_move rfl) ?_
      refine aops_nil (thn_n ?_)
      refine aw_block ?_
      refine aw_loop' (fun x : Nat × Option σ × List Res => x.1 ≤ h.mats.length ∧ IJ x.2.1 x.2.2 ∧ Rem step ok x.2.1 (((h.mats.drop x.1).flatMap matL) ++ h.wants.flatMap wanL) (goes step (some s0) (spokenL h))) (fun x => ⟨[(143, iv x.1), (142, iv (h.mats.map matR).length), (1, .v (.pointer (some ⟨b1, 0, none⟩))), (4, .v (.pointer (some ⟨bs, 0, none⟩))), (5, .fn (.func 51) [] [.v (.pointer (some ⟨bs, 0, none⟩))])], .box b1 67 [.v (.pointer (some ⟨bh, 0, none⟩))] :: .box bh 28 (histC h) :: .box bs 101 [.fn (.func 50) [] [.v (.pointer (some ⟨bm, 0, none⟩)), .v (.pointer (some ⟨by_, 0, none⟩))]] :: .box bm 4 [bv (x.2.1).isSome] :: .box by_ 100 [y] :: x.2.2, []⟩) (fun x => h.mats.length - x.1) (0, st, L) ⟨by omega, hI, hF⟩
        (ent_sub (.cons _ _ _ rfl (.cons _ _ _ rfl (.cons _ _ _ rfl (.cons _ _ _ rfl (.cons _ _ _ rfl (.nil))))))) ?_
      rintro ⟨k, st, L⟩ ⟨hk, hI, hF⟩
      simp only at hk hI hF
      refine aw_seq (aw_region ?_)
      refine qq rfl rfl (qr_cmp rfl rfl rfl) ?_
      refine aops_nil (thn_n ?_)
      refine aw_seq ?_
      refine aw_cond rfl (fun hc144 => ?_) (fun hc144 => ?_)
      · have k2 : k < h.mats.length := by simpa using hc144
        obtain ⟨r, hr⟩ : ∃ r, r = h.mats[k] := ⟨_, rfl⟩
        have hrowr : (h.mats.map matR)[k]? = some (matR r) := by rw [hr]; simp [k2]
        have hdr := List.drop_eq_getElem_cons k2
        rw [hdr, ← hr] at hF
        simp only [List.flatMap_cons, matL, List.cons_append, List.append_assoc] at hF
        obtain ⟨hx, hF⟩ := hF.cons
        obtain ⟨hx2, hF⟩ := hF.cons
        have hle := la.mats
        have hls := la.matts r (by rw [hr]; simp)
        refine aw_skip ?_
        refine thn_n ?_
        refine aw_seq ?_
        refine aw_block ?_
        refine aw_seq (aw_region ?_)
        refine qq rfl rfl (qr_move rfl) ?_
        refine qq rfl rfl (qr_assign rfl) ?_
        refine aops_nil (thn_n ?_)
        refine aw_seq (aw_region ?_)
        first | refine qq rfl rfl (qr_load_one rfl rfl) ?_ | refine qq rfl rfl (qr_load_pp_one rfl rfl) ?_
        first | refine qq rfl rfl (qr_nilCheck rfl) ?_ | refine qq rfl rfl (qr_nilCheck_pp rfl) ?_ | refine qq rfl rfl (qr_nilCheck_rp rfl) ?_
        first | refine qq rfl rfl (qr_fieldAddr rfl (Nat.succ_ne_zero _)) ?_ | refine qq rfl rfl (qr_fieldAddr_pp rfl (Nat.succ_ne_zero _)) ?_ | refine qq rfl rfl (qr_fieldAddr_rp rfl (Nat.succ_ne_zero _)) ?_
        first | refine qq rfl rfl (qr_load_one rfl rfl) ?_ | refine qq rfl rfl (qr_load_pp_one rfl rfl) ?_
        refine qq rfl rfl (qr_move rfl) ?_
        refine qq rfl rfl (qr_index_list rfl rfl (by assumption)) ?_
        refine qq rfl rfl (qr_assign rfl) ?_
        refine aops_nil (thn_n ?_)
        refine aw_seq ?_
        refine aw_draw 4 rfl ?_
        first | refine dq rfl rfl (qr_load_one rfl rfl) ?_ | refine dq rfl rfl (qr_load_pp_one rfl rfl) ?_
        refine dq rfl rfl (qr_move rfl) ?_
        first | refine dq rfl rfl (qr_nilCheck rfl) ?_ | refine dq rfl rfl (qr_nilCheck_pp rfl) ?_ | refine dq rfl rfl (qr_nilCheck_rp rfl) ?_
        first | refine dq rfl rfl (qr_fieldAddr rfl (Nat.succ_ne_zero _)) ?_ | refine dq rfl rfl (qr_fieldAddr_pp rfl (Nat.succ_ne_zero _)) ?_ | refine dq rfl rfl (qr_fieldAddr_rp rfl (Nat.succ_ne_zero _)) ?_
        refine dnil ⟨rfl, ?_⟩
        refine dalloc_s rfl ?_
        refine dalloc_s rfl ?_
        refine dalloc_s rfl ?_
        refine dalloc_s rfl ?_
        refine dalloc_nil ?_
        refine aops_e rfl (oe_call rfl rfl (FCall.fr3 (FCall.of_acall (fs := []) (cs := [.v (.pointer (some ⟨bm, 0, none⟩)), .v (.pointer (some ⟨by_, 0, none⟩))]) (sayR step ok IJ y hy 3 r.p hx _ bm by_ _ _ hI))) rfl ?_)
        rintro _ _ ⟨_, rfl, L, hI, rfl⟩
        refine aops_nil (thn_n ?_)
        refine aw_seq ?_
        refine aw_draw 4 rfl ?_
        first | refine dq rfl rfl (qr_load_one rfl rfl) ?_ | refine dq rfl rfl (qr_load_pp_one rfl rfl) ?_
        refine dq rfl rfl (qr_move rfl) ?_
        first | refine dq rfl rfl (qr_nilCheck rfl) ?_ | refine dq rfl rfl (qr_nilCheck_pp rfl) ?_ | refine dq rfl rfl (qr_nilCheck_rp rfl) ?_
        first | refine dq rfl rfl (qr_fieldAddr rfl (Nat.succ_ne_zero _)) ?_ | refine dq rfl rfl (qr_fieldAddr_pp rfl (Nat.succ_ne_zero _)) ?_ | refine dq rfl rfl (qr_fieldAddr_rp rfl (Nat.succ_ne_zero _)) ?_
        refine dnil ⟨rfl, ?_⟩
        refine dalloc_s rfl ?_
        refine dalloc_s rfl ?_
        refine dalloc_s rfl ?_
        refine dalloc_s rfl ?_
        refine dalloc_nil ?_
        refine aops_e rfl (oe_call rfl rfl (FCall.fr3 (FCall.of_acall (fs := []) (cs := [.v (.pointer (some ⟨bm, 0, none⟩)), .v (.pointer (some ⟨by_, 0, none⟩))]) (sayR step ok IJ y hy 2 r.o hx2 _ bm by_ _ _ hI))) rfl ?_)
        rintro _ _ ⟨_, rfl, L, hI, rfl⟩
        refine aops_nil (thn_n ?_)
        refine aw_seq (aw_region ?_)
        refine qq rfl rfl (qr_move rfl) ?_
        first | refine qq rfl rfl (qr_nilCheck rfl) ?_ | refine qq rfl rfl (qr_nilCheck_pp rfl) ?_ | refine qq rfl rfl (qr_nilCheck_rp rfl) ?_
        first | refine qq rfl rfl (qr_fieldAddr rfl (Nat.succ_ne_zero _)) ?_ | refine qq rfl rfl (qr_fieldAddr_pp rfl (Nat.succ_ne_zero _)) ?_ | refine qq rfl rfl (qr_fieldAddr_rp rfl (Nat.succ_ne_zero _)) ?_
        first | refine qq rfl rfl (qr_load_one rfl rfl) ?_ | refine qq rfl rfl (qr_load_pp_one rfl rfl) ?_
        refine qq rfl rfl (qr_len_list rfl) ?_
        refine qq rfl rfl (qr_move rfl) ?_
        refine aops_nil (thn_n ?_)
        refine aw_block ?_
        refine aw_loop' (fun x : Nat × Option σ × List Res => x.1 ≤ r.ts.length ∧ IJ x.2.1 x.2.2 ∧ Rem step ok x.2.1 (((r.ts.drop x.1).map fun t => ((0 : Nat), t)) ++ (((h.mats.drop (k + 1)).flatMap matL) ++ h.wants.flatMap wanL)) (goes step (some s0) (spokenL h))) (fun x => ⟨[(167, iv x.1), (166, iv (r.ts.map intR).length), (12, .pp (matR r)), (143, iv k), (142, iv (h.mats.map matR).length), (1, .v (.pointer (some ⟨b1, 0, none⟩))), (4, .v (.pointer (some ⟨bs, 0, none⟩))), (5, .fn (.func 51) [] [.v (.pointer (some ⟨bs, 0, none⟩))])], .box b1 67 [.v (.pointer (some ⟨bh, 0, none⟩))] :: .box bh 28 (histC h) :: .box bs 101 [.fn (.func 50) [] [.v (.pointer (some ⟨bm, 0, none⟩)), .v (.pointer (some ⟨by_, 0, none⟩))]] :: .box bm 4 [bv (x.2.1).isSome] :: .box by_ 100 [y] :: x.2.2, []⟩) (fun x => r.ts.length - x.1) (0, _, L) ⟨by omega, hI, hF⟩
          (ent_sub (.cons _ _ _ rfl (.cons _ _ _ rfl (.cons _ _ _ rfl (.cons _ _ _ rfl (.cons _ _ _ rfl (.cons _ _ _ rfl (.cons _ _ _ rfl (.cons _ _ _ rfl (.nil)))))))))) ?_
        rintro ⟨j, st, L⟩ ⟨hj, hI, hF⟩
        simp only at hj hI hF
        refine aw_seq (aw_region ?_)
        refine qq rfl rfl (qr_cmp rfl rfl rfl) ?_
        refine aops_nil (thn_n ?_)
        refine aw_seq ?_
        refine aw_cond rfl (fun hc168 => ?_) (fun hc168 => ?_)
        · have j2 : j < r.ts.length := by simpa using hc168
          obtain ⟨t, ht⟩ : ∃ t, t = r.ts[j] := ⟨_, rfl⟩
          have hrowt : (r.ts.map intR)[j]? = some (intR t) := by rw [ht]; simp [j2]
          have hdt := List.drop_eq_getElem_cons j2
          rw [hdt, ← ht] at hF
          simp only [List.map_cons, List.cons_append] at hF
          obtain ⟨hx, hF⟩ := hF.cons
          refine aw_skip ?_
          refine thn_n ?_
          refine aw_seq ?_
          refine aw_block ?_
          refine aw_seq (aw_region ?_)
          refine qq rfl rfl (qr_move rfl) ?_
          refine qq rfl rfl (qr_assign rfl) ?_
          refine aops_nil (thn_n ?_)
          refine aw_draw 7 rfl ?_
          first | refine dq rfl rfl (qr_load_one rfl rfl) ?_ | refine dq rfl rfl (qr_load_pp_one rfl rfl) ?_
          refine dq rfl rfl (qr_move rfl) ?_
          first | refine dq rfl rfl (qr_nilCheck rfl) ?_ | refine dq rfl rfl (qr_nilCheck_pp rfl) ?_ | refine dq rfl rfl (qr_nilCheck_rp rfl) ?_
          first | refine dq rfl rfl (qr_fieldAddr rfl (Nat.succ_ne_zero _)) ?_ | refine dq rfl rfl (qr_fieldAddr_pp rfl (Nat.succ_ne_zero _)) ?_ | refine dq rfl rfl (qr_fieldAddr_rp rfl (Nat.succ_ne_zero _)) ?_
          first | refine dq rfl rfl (qr_load_one rfl rfl) ?_ | refine dq rfl rfl (qr_load_pp_one rfl rfl) ?_
          refine dq rfl rfl (qr_move rfl) ?_
          refine dq rfl rfl (qr_index_list rfl rfl (by assumption)) ?_
          refine dnil ⟨rfl, ?_⟩
          refine dalloc_s rfl ?_
          refine dalloc_s rfl ?_
          refine dalloc_s rfl ?_
          refine dalloc_s rfl ?_
          refine dalloc_s rfl ?_
          refine dalloc_s rfl ?_
          refine dalloc_s rfl ?_
          refine dalloc_nil ?_
          refine aops_e rfl (oe_call rfl rfl (FCall.fr3 (FCall.of_acall (fs := []) (cs := [.v (.pointer (some ⟨bm, 0, none⟩)), .v (.pointer (some ⟨by_, 0, none⟩))]) (sayR step ok IJ y hy 0 t hx _ bm by_ _ _ hI))) rfl ?_)
          rintro _ _ ⟨_, rfl, L, hI, rfl⟩
          refine aops_nil ?_
          refine inBlk_n ?_
          refine thn_n ?_
          refine aw_region ?_
          refine qq rfl rfl (qr_ari rfl rfl rfl (by omega)) ?_
          refine qq rfl rfl (qr_move rfl) ?_
          refine aops_nil (thn_n ?_)
          exact ⟨(j + 1, _, L), ⟨by omega, hI, hF⟩, (ent_sub (.cons _ _ _ rfl (.cons _ _ _ rfl (.cons _ _ _ rfl (.cons _ _ _ rfl (.cons _ _ _ rfl (.cons _ _ _ rfl (.cons _ _ _ rfl (.cons _ _ _ rfl (.nil)))))))))), by simp only; omega⟩
        · obtain rfl : j = r.ts.length := by
            have : r.ts.length ≤ j := by simpa using hc168
            omega
          rw [List.drop_length, List.map_nil, List.nil_append] at hF
          refine aw_exit ?_
          refine thn_e ?_
          refine thn_e ?_
          refine inBlk_hit ?_
          refine inBlk_n ?_
          refine thn_n ?_
          refine aw_region ?_
          refine qq rfl rfl (qr_ari rfl rfl rfl (by omega)) ?_
          refine qq rfl rfl (qr_move rfl) ?_
          refine aops_nil (thn_n ?_)
          exact ⟨(k + 1, _, L), ⟨by omega, hI, hF⟩, (ent_sub (.cons _ _ _ rfl (.cons _ _ _ rfl (.cons _ _ _ rfl (.cons _ _ _ rfl (.cons _ _ _ rfl (.nil))))))), by simp only; omega⟩
      · obtain rfl : k = h.mats.length := by
          have : h.mats.length ≤ k := by simpa using hc144
          omega
        rw [List.drop_length, List.flatMap_nil, List.nil_append] at hF
        refine aw_exit ?_
        refine thn_e ?_
        refine thn_e ?_
        refine inBlk_hit ?_
        refine thn_n ?_
        refine aw_seq (aw_region ?_)
        first | refine qq rfl rfl (qr_load_one rfl rfl) ?_ | refine qq rfl rfl (qr_load_pp_one rfl rfl) ?_
        first | refine qq rfl rfl (qr_nilCheck rfl) ?_ | refine qq rfl rfl (qr_nilCheck_pp rfl) ?_ | refine qq rfl rfl (qr_nilCheck_rp rfl) ?_
        first | refine qq rfl rfl (qr_fieldAddr rfl (Nat.succ_ne_zero _)) ?_ | refine qq rfl rfl (qr_fieldAddr_pp rfl (Nat.succ_ne_zero _)) ?_ | refine qq rfl rfl (qr_fieldAddr_rp rfl (Nat.succ_ne_zero _)) ?_
        first | refine qq rfl rfl (qr_load_one rfl rfl) ?_ | refine qq rfl rfl (qr_load_pp_one rfl rfl) ?_
        refine qq rfl rfl (qr_len_list rfl) ?_
        refine qq rfl rfl (qr_move rfl) ?_
        refine aops_nil (thn_n ?_)
        refine aw_block ?_
        refine aw_loop' (fun x : Nat × Option σ × List Res => x.1 ≤ h.wants.length ∧ IJ x.2.1 x.2.2 ∧ Rem step ok x.2.1 (((h.wants.drop x.1).flatMap wanL) ++ []) (goes step (some s0) (spokenL h))) (fun x => ⟨[(185, iv x.1), (184, iv (h.wants.map wanR).length), (1, .v (.pointer (some ⟨b1, 0, none⟩))), (4, .v (.pointer (some ⟨bs, 0, none⟩))), (5, .fn (.func 51) [] [.v (.pointer (some ⟨bs, 0, none⟩))])], .box b1 67 [.v (.pointer (some ⟨bh, 0, none⟩))] :: .box bh 28 (histC h) :: .box bs 101 [.fn (.func 50) [] [.v (.pointer (some ⟨bm, 0, none⟩)), .v (.pointer (some ⟨by_, 0, none⟩))]] :: .box bm 4 [bv (x.2.1).isSome] :: .box by_ 100 [y] :: x.2.2, []⟩) (fun x => h.wants.length - x.1) (0, st, L) ⟨by omega, hI, by rw [List.append_nil]; exact hF⟩
          (ent_sub (.cons _ _ _ rfl (.cons _ _ _ rfl (.cons _ _ _ rfl (.cons _ _ _ rfl (.cons _ _ _ rfl (.nil))))))) ?_
        rintro ⟨k, st, L⟩ ⟨hk, hI, hF⟩
        simp only at hk hI hF
        refine aw_seq (aw_region ?_)
        refine qq rfl rfl (qr_cmp rfl rfl rfl) ?_
        refine aops_nil (thn_n ?_)
        refine aw_seq ?_
        refine aw_cond rfl (fun hc186 => ?_) (fun hc186 => ?_)
        · have k2 : k < h.wants.length := by simpa using hc186
          obtain ⟨r, hr⟩ : ∃ r, r = h.wants[k] := ⟨_, rfl⟩
          have hrowr : (h.wants.map wanR)[k]? = some (wanR r) := by rw [hr]; simp [k2]
          have hdr := List.drop_eq_getElem_cons k2
          rw [hdr, ← hr] at hF
          simp only [List.flatMap_cons, wanL, List.cons_append, List.append_assoc, List.nil_append] at hF
          obtain ⟨hx, hF⟩ := hF.cons
          have hle := la.wants
          refine aw_skip ?_
          refine thn_n ?_
          refine aw_seq ?_
          refine aw_block ?_
          refine aw_seq (aw_region ?_)
          refine qq rfl rfl (qr_move rfl) ?_
          refine qq rfl rfl (qr_assign rfl) ?_
          refine aops_nil (thn_n ?_)
          refine aw_draw 8 rfl ?_
          first | refine dq rfl rfl (qr_load_one rfl rfl) ?_ | refine dq rfl rfl (qr_load_pp_one rfl rfl) ?_
          first | refine dq rfl rfl (qr_load_one rfl rfl) ?_ | refine dq rfl rfl (qr_load_pp_one rfl rfl) ?_
          first | refine dq rfl rfl (qr_nilCheck rfl) ?_ | refine dq rfl rfl (qr_nilCheck_pp rfl) ?_ | refine dq rfl rfl (qr_nilCheck_rp rfl) ?_
          first | refine dq rfl rfl (qr_fieldAddr rfl (Nat.succ_ne_zero _)) ?_ | refine dq rfl rfl (qr_fieldAddr_pp rfl (Nat.succ_ne_zero _)) ?_ | refine dq rfl rfl (qr_fieldAddr_rp rfl (Nat.succ_ne_zero _)) ?_
          first | refine dq rfl rfl (qr_load_one rfl rfl) ?_ | refine dq rfl rfl (qr_load_pp_one rfl rfl) ?_
          refine dq rfl rfl (qr_move rfl) ?_
          refine dq rfl rfl (qr_index_list rfl rfl (by assumption)) ?_
          first | refine dq rfl rfl (qr_fieldAddr rfl (Nat.succ_ne_zero _)) ?_ | refine dq rfl rfl (qr_fieldAddr_pp rfl (Nat.succ_ne_zero _)) ?_ | refine dq rfl rfl (qr_fieldAddr_rp rfl (Nat.succ_ne_zero _)) ?_
          refine dnil ⟨rfl, ?_⟩
          refine dalloc_s rfl ?_
          refine dalloc_s rfl ?_
          refine dalloc_s rfl ?_
          refine dalloc_s rfl ?_
          refine dalloc_s rfl ?_
          refine dalloc_s rfl ?_
          refine dalloc_s rfl ?_
          refine dalloc_s rfl ?_
          refine dalloc_nil ?_
          refine aops_e rfl (oe_call rfl rfl (FCall.fr3 (FCall.of_acall (fs := []) (cs := [.v (.pointer (some ⟨bm, 0, none⟩)), .v (.pointer (some ⟨by_, 0, none⟩))]) (sayR step ok IJ y hy 1 r.s hx _ bm by_ _ _ hI))) rfl ?_)
          rintro _ _ ⟨_, rfl, L, hI, rfl⟩
          refine aops_nil ?_
          refine inBlk_n ?_
          refine thn_n ?_
          refine aw_region ?_
          refine qq rfl rfl (qr_ari rfl rfl rfl (by omega)) ?_
          refine qq rfl rfl (qr_move rfl) ?_
          refine aops_nil (thn_n ?_)
          exact ⟨(k + 1, _, L), ⟨by omega, hI, hF⟩, (ent_sub (.cons _ _ _ rfl (.cons _ _ _ rfl (.cons _ _ _ rfl (.cons _ _ _ rfl (.cons _ _ _ rfl (.nil))))))), by simp only; omega⟩
        · obtain rfl : k = h.wants.length := by
            have : h.wants.length ≤ k := by simpa using hc186
            omega
          rw [List.drop_length, List.flatMap_nil, List.nil_append] at hF
          refine aw_exit ?_
          refine thn_e ?_
          refine thn_e ?_
          refine inBlk_hit ?_
          have hF' : st = goes step (some s0) (spokenL h) := hF.fin
          exact retq_n .nil (.trans (.perm ((pt2 _ _ _ _).trans (.cons _ ((pt2 _ _ _ _).trans (.cons _ (pt2 _ _ _ _))))) _) (.drop [_, _, _] _ _)) ⟨L, hF' ▸ hI, rfl⟩
theorem spoken (bh : Nat) (h : List Res) : ACall Tryd.prog 22 [.v (.pointer (some ⟨bh, 0, none⟩))] h (fun r h' => ∃ b1, h' = .box b1 67 [.v (.pointer (some ⟨bh, 0, none⟩))] :: h ∧ r = .fn (.func 49) [] [.v (.pointer (some ⟨b1, 0, none⟩))]) := by
  refine acall_of_aw Tryd.func22 rfl rfl rfl ?_
  refine aw_seq (aw_region ?_)
  refine aops_e rfl (oe_box rfl rfl rfl fun b1 => ?_)
  refine qq rfl rfl (qr_assign rfl) ?_
  refine aops_nil (thn_n ?_)
  refine aw_seq (aw_region ?_)
  refine qq rfl rfl (qr_makeFunc rfl rfl) ?_
  refine qq rfl rfl (qr_assign rfl) ?_
  refine aops_nil (thn_n ?_)
  refine aw_ret ?_
  exact retq (.cons _ _ _ _ (.tmp _ _ rfl) .nil) (.refl _ _) ⟨_, rfl, rfl⟩
end Go.Proofs
/- The walk of history.own. Conditions: none. -/
set_option linter.unusedVariables false
set_option linter.unusedSimpArgs false
set_option maxRecDepth 10000
namespace Go.Proofs
open Go Go.Ab
open Go.H
def nmR (n : NV) (h : Hist) (L : List Res) : List Res := .row n.vT.v 1 9 (h.ts.map strR) :: .row n.vS.v 1 9 (h.ss.map strR) :: .row n.vO.v 1 9 (h.os.map strR) :: .row n.vP.v 1 9 (h.ps.map strR) :: L
def ohF (o : OH) (L : List Res) : List Res := .row o.vE.v 9 40 (o.evs.map evRw) :: .row o.vR.v 2 54 (o.ords.map ordRw) :: .row o.vM.v 4 57 (o.mats.map matRw) :: .row o.vW.v 2 60 (o.wants.map wanR) :: (scR 52 o.evs ++ (otR 3 o.ords ++ (mtR 3 o.mats ++ L)))
def ohR (o : OH) : List Res := .row o.vE.v 9 40 (o.evs.map evRw) :: .row o.vR.v 2 54 (o.ords.map ordRw) :: .row o.vM.v 4 57 (o.mats.map matRw) :: .row o.vW.v 2 60 (o.wants.map wanR) :: (scR 52 o.evs ++ (otR 3 o.ords ++ mtR 3 o.mats))
theorem ohF_eq (o : OH) (L : List Res) : ohR o ++ L = ohF o L := by simp [ohR, ohF]
theorem own (h : Hist) (la : Lim 1099511627776 h) : ACall Tryd.prog 20 [.agg (histC h)] [] (fun r h' => ∃ (n : NV) (o : OH), o.hist = h ∧ h' = nmR n h (ohR o) ∧ r = .agg (n.cells ++ o.cells)) := by
  refine acall_of_aw Tryd.func20 rfl rfl rfl ?_
  refine aw_seq (aw_region ?_)
  refine aops_e rfl (oe_box rfl rfl rfl fun b1 => ?_)
  refine aops_e rfl (oe_alloc rfl fun b2 => ?_)
  refine aops_nil (thn_n ?_)
  refine aw_cutE (fun _ : SV × SV × SV × SV => True) (fun x => ⟨[(1, .v (.pointer (some ⟨b1, 0, none⟩))), (2, .v (.pointer (some ⟨b2, 0, none⟩)))], .box b2 28 histZ :: .box b1 28 [.v x.1.v, .v x.2.1.v, .v x.2.2.1.v, .v x.2.2.2.v, evsA h.evs, ordsA h.ords, matsA h.mats, wansA h.wants] :: .row x.1.v 1 9 (h.ts.map strR) :: .row x.2.1.v 1 9 (h.ss.map strR) :: .row x.2.2.1.v 1 9 (h.os.map strR) :: .row x.2.2.2.v 1 9 (h.ps.map strR) :: [], []⟩) ?_ ?_
  · refine aw_drawM 13 rfl ?_
    first | refine mq rfl rfl (qr_fieldAddr rfl (Nat.succ_ne_zero _)) ?_ | refine mq rfl rfl (qr_fieldAddr_pp rfl (Nat.succ_ne_zero _)) ?_ | refine mq rfl rfl (qr_fieldAddr_rp rfl (Nat.succ_ne_zero _)) ?_ | refine mq rfl rfl (qr_fieldAddr_row rfl (Nat.succ_ne_zero _)) ?_
    first | refine mq rfl rfl (qr_load_one rfl rfl) ?_ | refine mq rfl rfl (qr_load_pp_one rfl rfl) ?_ | refine mq rfl rfl (qr_load_rp_one rfl (by assumption) rfl) ?_
    refine mcall (mrow 1 9 (h.ts.map strR)) rfl rfl rfl (mk_row (FCall.of_fun (cloneRowStr _ (by simpa using la.ts) (one_str _)))) ?_
    first | refine mq rfl rfl (qr_fieldAddr rfl (Nat.succ_ne_zero _)) ?_ | refine mq rfl rfl (qr_fieldAddr_pp rfl (Nat.succ_ne_zero _)) ?_ | refine mq rfl rfl (qr_fieldAddr_rp rfl (Nat.succ_ne_zero _)) ?_ | refine mq rfl rfl (qr_fieldAddr_row rfl (Nat.succ_ne_zero _)) ?_
    first | refine mq rfl rfl (qr_load_one rfl rfl) ?_ | refine mq rfl rfl (qr_load_pp_one rfl rfl) ?_ | refine mq rfl rfl (qr_load_rp_one rfl (by assumption) rfl) ?_
    refine mcall (mrow 1 9 (h.ss.map strR)) rfl rfl rfl (mk_row (FCall.of_fun (cloneRowStr _ (by simpa using la.ss) (one_str _)))) ?_
    first | refine mq rfl rfl (qr_fieldAddr rfl (Nat.succ_ne_zero _)) ?_ | refine mq rfl rfl (qr_fieldAddr_pp rfl (Nat.succ_ne_zero _)) ?_ | refine mq rfl rfl (qr_fieldAddr_rp rfl (Nat.succ_ne_zero _)) ?_ | refine mq rfl rfl (qr_fieldAddr_row rfl (Nat.succ_ne_zero _)) ?_
    first | refine mq rfl rfl (qr_load_one rfl rfl) ?_ | refine mq rfl rfl (qr_load_pp_one rfl rfl) ?_ | refine mq rfl rfl (qr_load_rp_one rfl (by assumption) rfl) ?_
    refine mcall (mrow 1 9 (h.os.map strR)) rfl rfl rfl (mk_row (FCall.of_fun (cloneRowStr _ (by simpa using la.os) (one_str _)))) ?_
    first | refine mq rfl rfl (qr_fieldAddr rfl (Nat.succ_ne_zero _)) ?_ | refine mq rfl rfl (qr_fieldAddr_pp rfl (Nat.succ_ne_zero _)) ?_ | refine mq rfl rfl (qr_fieldAddr_rp rfl (Nat.succ_ne_zero _)) ?_ | refine mq rfl rfl (qr_fieldAddr_row rfl (Nat.succ_ne_zero _)) ?_
    first | refine mq rfl rfl (qr_load_one rfl rfl) ?_ | refine mq rfl rfl (qr_load_pp_one rfl rfl) ?_ | refine mq rfl rfl (qr_load_rp_one rfl (by assumption) rfl) ?_
    refine mcall (mrow 1 9 (h.ps.map strR)) rfl rfl rfl (mk_row (FCall.of_fun (cloneRowStr _ (by simpa using la.ps) (one_str _)))) ?_
    first | refine mq rfl rfl (qr_fieldAddr rfl (Nat.succ_ne_zero _)) ?_ | refine mq rfl rfl (qr_fieldAddr_pp rfl (Nat.succ_ne_zero _)) ?_ | refine mq rfl rfl (qr_fieldAddr_rp rfl (Nat.succ_ne_zero _)) ?_ | refine mq rfl rfl (qr_fieldAddr_row rfl (Nat.succ_ne_zero _)) ?_
    refine mnil ⟨.refl _, ?_⟩
    refine mal_s ?_
    refine mal_s ?_
    refine mal_row fun s8 => ?_
    refine mal_s ?_
    refine mal_s ?_
    refine mal_row fun s11 => ?_
    refine mal_s ?_
    refine mal_s ?_
    refine mal_row fun s14 => ?_
    refine mal_s ?_
    refine mal_s ?_
    refine mal_row fun s17 => ?_
    refine mal_s ?_
    refine mal_nil ?_
    first | refine aops_e rfl (oe_store_all rfl rfl rfl ?_) | refine aops_e rfl (oe_store rfl rfl rfl rfl (Nat.le_of_ble_eq_true rfl) ?_)
    first | refine qq rfl rfl (qr_fieldAddr rfl (Nat.succ_ne_zero _)) ?_ | refine qq rfl rfl (qr_fieldAddr_pp rfl (Nat.succ_ne_zero _)) ?_ | refine qq rfl rfl (qr_fieldAddr_rp rfl (Nat.succ_ne_zero _)) ?_ | refine qq rfl rfl (qr_fieldAddr_row rfl (Nat.succ_ne_zero _)) ?_
    first | refine aops_e rfl (oe_store_all rfl rfl rfl ?_) | refine aops_e rfl (oe_store rfl rfl rfl rfl (Nat.le_of_ble_eq_true rfl) ?_)
    first | refine qq rfl rfl (qr_fieldAddr rfl (Nat.succ_ne_zero _)) ?_ | refine qq rfl rfl (qr_fieldAddr_pp rfl (Nat.succ_ne_zero _)) ?_ | refine qq rfl rfl (qr_fieldAddr_rp rfl (Nat.succ_ne_zero _)) ?_ | refine qq rfl rfl (qr_fieldAddr_row rfl (Nat.succ_ne_zero _)) ?_
    first | refine aops_e rfl (oe_store_all rfl rfl rfl ?_) | refine aops_e rfl (oe_store rfl rfl rfl rfl (Nat.le_of_ble_eq_true rfl) ?_)
    first | refine qq rfl rfl (qr_fieldAddr rfl (Nat.succ_ne_zero _)) ?_ | refine qq rfl rfl (qr_fieldAddr_pp rfl (Nat.succ_ne_zero _)) ?_ | refine qq rfl rfl (qr_fieldAddr_rp rfl (Nat.succ_ne_zero _)) ?_ | refine qq rfl rfl (qr_fieldAddr_row rfl (Nat.succ_ne_zero _)) ?_
    first | refine aops_e rfl (oe_store_all rfl rfl rfl ?_) | refine aops_e rfl (oe_store rfl rfl rfl rfl (Nat.le_of_ble_eq_true rfl) ?_)
    refine aops_nil (thn_n ?_)
    exact ⟨(s8, s11, s14, s17), trivial, ent_trans (ent_perm ((pt4 _ _ _ _ _ _).trans (.cons _ ((pt4 _ _ _ _ _ _).trans (.cons _ ((pt3 _ _ _ _ _).trans (.cons _ ((pt2 _ _ _ _).trans (.cons _ (pt1 _ _ _)))))))))) (ent_sub (.cons _ _ _ rfl (.cons _ _ _ rfl (.nil))))⟩
  · rintro ⟨s8, s11, s14, s17⟩ _
    refine aw_cutE (fun _ : SV × SV × SV × SV => True) (fun x => ⟨[(1, .v (.pointer (some ⟨b1, 0, none⟩))), (2, .v (.pointer (some ⟨b2, 0, none⟩)))], .box b2 28 histZ :: .box b1 28 [.v s8.v, .v s11.v, .v s14.v, .v s17.v, .v x.1.v, .v x.2.1.v, .v x.2.2.1.v, .v x.2.2.2.v] :: .row s8.v 1 9 (h.ts.map strR) :: .row s11.v 1 9 (h.ss.map strR) :: .row s14.v 1 9 (h.os.map strR) :: .row s17.v 1 9 (h.ps.map strR) :: .row x.1.v 9 40 (h.evs.map evR) :: .row x.2.1.v 2 54 (h.ords.map ordR) :: .row x.2.2.1.v 4 57 (h.mats.map matR) :: .row x.2.2.2.v 2 60 (h.wants.map wanR) :: [], []⟩) ?_ ?_
    · refine aw_drawM 13 rfl ?_
      first | refine mq rfl rfl (qr_fieldAddr rfl (Nat.succ_ne_zero _)) ?_ | refine mq rfl rfl (qr_fieldAddr_pp rfl (Nat.succ_ne_zero _)) ?_ | refine mq rfl rfl (qr_fieldAddr_rp rfl (Nat.succ_ne_zero _)) ?_ | refine mq rfl rfl (qr_fieldAddr_row rfl (Nat.succ_ne_zero _)) ?_
      first | refine mq rfl rfl (qr_load_one rfl rfl) ?_ | refine mq rfl rfl (qr_load_pp_one rfl rfl) ?_ | refine mq rfl rfl (qr_load_rp_one rfl (by assumption) rfl) ?_
      refine mcall (mrow 9 40 (h.evs.map evR)) rfl rfl rfl (mk_row (FCall.of_fun (cloneRowEv _ (by simpa using la.evs) (one_ev _)))) ?_
      first | refine mq rfl rfl (qr_fieldAddr rfl (Nat.succ_ne_zero _)) ?_ | refine mq rfl rfl (qr_fieldAddr_pp rfl (Nat.succ_ne_zero _)) ?_ | refine mq rfl rfl (qr_fieldAddr_rp rfl (Nat.succ_ne_zero _)) ?_ | refine mq rfl rfl (qr_fieldAddr_row rfl (Nat.succ_ne_zero _)) ?_
      first | refine mq rfl rfl (qr_load_one rfl rfl) ?_ | refine mq rfl rfl (qr_load_pp_one rfl rfl) ?_ | refine mq rfl rfl (qr_load_rp_one rfl (by assumption) rfl) ?_
      refine mcall (mrow 2 54 (h.ords.map ordR)) rfl rfl rfl (mk_row (FCall.of_fun (cloneRowOrd _ (by simpa using la.ords) (one_ord _)))) ?_
      first | refine mq rfl rfl (qr_fieldAddr rfl (Nat.succ_ne_zero _)) ?_ | refine mq rfl rfl (qr_fieldAddr_pp rfl (Nat.succ_ne_zero _)) ?_ | refine mq rfl rfl (qr_fieldAddr_rp rfl (Nat.succ_ne_zero _)) ?_ | refine mq rfl rfl (qr_fieldAddr_row rfl (Nat.succ_ne_zero _)) ?_
      first | refine mq rfl rfl (qr_load_one rfl rfl) ?_ | refine mq rfl rfl (qr_load_pp_one rfl rfl) ?_ | refine mq rfl rfl (qr_load_rp_one rfl (by assumption) rfl) ?_
      refine mcall (mrow 4 57 (h.mats.map matR)) rfl rfl rfl (mk_row (FCall.of_fun (cloneRowMat _ (by simpa using la.mats) (one_mat _)))) ?_
      first | refine mq rfl rfl (qr_fieldAddr rfl (Nat.succ_ne_zero _)) ?_ | refine mq rfl rfl (qr_fieldAddr_pp rfl (Nat.succ_ne_zero _)) ?_ | refine mq rfl rfl (qr_fieldAddr_rp rfl (Nat.succ_ne_zero _)) ?_ | refine mq rfl rfl (qr_fieldAddr_row rfl (Nat.succ_ne_zero _)) ?_
      first | refine mq rfl rfl (qr_load_one rfl rfl) ?_ | refine mq rfl rfl (qr_load_pp_one rfl rfl) ?_ | refine mq rfl rfl (qr_load_rp_one rfl (by assumption) rfl) ?_
      refine mcall (mrow 2 60 (h.wants.map wanR)) rfl rfl rfl (mk_row (FCall.of_fun (cloneRowWan _ (by simpa using la.wants) (one_wan _)))) ?_
      first | refine mq rfl rfl (qr_fieldAddr rfl (Nat.succ_ne_zero _)) ?_ | refine mq rfl rfl (qr_fieldAddr_pp rfl (Nat.succ_ne_zero _)) ?_ | refine mq rfl rfl (qr_fieldAddr_rp rfl (Nat.succ_ne_zero _)) ?_ | refine mq rfl rfl (qr_fieldAddr_row rfl (Nat.succ_ne_zero _)) ?_
      refine mnil ⟨.refl _, ?_⟩
      refine mal_s ?_
      refine mal_s ?_
      refine mal_row fun s24 => ?_
      refine mal_s ?_
      refine mal_s ?_
      refine mal_row fun s27 => ?_
      refine mal_s ?_
      refine mal_s ?_
      refine mal_row fun s30 => ?_
      refine mal_s ?_
      refine mal_s ?_
      refine mal_row fun s33 => ?_
      refine mal_s ?_
      refine mal_nil ?_
      first | refine aops_e rfl (oe_store_all rfl rfl rfl ?_) | refine aops_e rfl (oe_store rfl rfl rfl rfl (Nat.le_of_ble_eq_true rfl) ?_)
      first | refine qq rfl rfl (qr_fieldAddr rfl (Nat.succ_ne_zero _)) ?_ | refine qq rfl rfl (qr_fieldAddr_pp rfl (Nat.succ_ne_zero _)) ?_ | refine qq rfl rfl (qr_fieldAddr_rp rfl (Nat.succ_ne_zero _)) ?_ | refine qq rfl rfl (qr_fieldAddr_row rfl (Nat.succ_ne_zero _)) ?_
      first | refine aops_e rfl (oe_store_all rfl rfl rfl ?_) | refine aops_e rfl (oe_store rfl rfl rfl rfl (Nat.le_of_ble_eq_true rfl) ?_)
      first | refine qq rfl rfl (qr_fieldAddr rfl (Nat.succ_ne_zero _)) ?_ | refine qq rfl rfl (qr_fieldAddr_pp rfl (Nat.succ_ne_zero _)) ?_ | refine qq rfl rfl (qr_fieldAddr_rp rfl (Nat.succ_ne_zero _)) ?_ | refine qq rfl rfl (qr_fieldAddr_row rfl (Nat.succ_ne_zero _)) ?_
      first | refine aops_e rfl (oe_store_all rfl rfl rfl ?_) | refine aops_e rfl (oe_store rfl rfl rfl rfl (Nat.le_of_ble_eq_true rfl) ?_)
      first | refine qq rfl rfl (qr_fieldAddr rfl (Nat.succ_ne_zero _)) ?_ | refine qq rfl rfl (qr_fieldAddr_pp rfl (Nat.succ_ne_zero _)) ?_ | refine qq rfl rfl (qr_fieldAddr_rp rfl (Nat.succ_ne_zero _)) ?_ | refine qq rfl rfl (qr_fieldAddr_row rfl (Nat.succ_ne_zero _)) ?_
      first | refine aops_e rfl (oe_store_all rfl rfl rfl ?_) | refine aops_e rfl (oe_store rfl rfl rfl rfl (Nat.le_of_ble_eq_true rfl) ?_)
      refine aops_nil (thn_n ?_)
      exact ⟨(s24, s27, s30, s33), trivial, ent_trans (ent_perm ((pt4 _ _ _ _ _ _).trans (.cons _ ((pt4 _ _ _ _ _ _).trans (.cons _ ((pt4 _ _ _ _ _ _).trans (.cons _ ((pt4 _ _ _ _ _ _).trans (.cons _ ((pt4 _ _ _ _ _ _).trans (.cons _ ((pt4 _ _ _ _ _ _).trans (.cons _ ((pt3 _ _ _ _ _).trans (.cons _ ((pt2 _ _ _ _).trans (.cons _ (pt1 _ _ _)))))))))))))))))) (ent_sub (.cons _ _ _ rfl (.cons _ _ _ rfl (.nil))))⟩
    · rintro ⟨s24, s27, s30, s33⟩ _
      refine aw_seq ?_
      refine aw_seq (aw_region ?_)
      first | refine qq rfl rfl (qr_fieldAddr rfl (Nat.succ_ne_zero _)) ?_ | refine qq rfl rfl (qr_fieldAddr_pp rfl (Nat.succ_ne_zero _)) ?_ | refine qq rfl rfl (qr_fieldAddr_rp rfl (Nat.succ_ne_zero _)) ?_ | refine qq rfl rfl (qr_fieldAddr_row rfl (Nat.succ_ne_zero _)) ?_
      first | refine qq rfl rfl (qr_load_one rfl rfl) ?_ | refine qq rfl rfl (qr_load_pp_one rfl rfl) ?_ | refine qq rfl rfl (qr_load_rp_one rfl (by assumption) rfl) ?_
      first | refine qq rfl rfl (qr_len_list rfl) ?_ | refine qq rfl rfl (qr_len_row rfl) ?_
      refine qq rfl rfl (qr_move rfl) ?_
      refine aops_nil (thn_n ?_)
      refine aw_block ?_
      refine aw_loop' (fun x : Nat × List (SV × Ev) => x.1 ≤ h.evs.length ∧ x.2.map (·.2) = h.evs.take x.1) (fun x => ⟨[(41, iv x.1), (40, iv (h.evs.map evR).length), (1, .v (.pointer (some ⟨b1, 0, none⟩))), (2, .v (.pointer (some ⟨b2, 0, none⟩)))], .box b2 28 histZ :: .box b1 28 [.v s8.v, .v s11.v, .v s14.v, .v s17.v, .v s24.v, .v s27.v, .v s30.v, .v s33.v] :: .row s8.v 1 9 (h.ts.map strR) :: .row s11.v 1 9 (h.ss.map strR) :: .row s14.v 1 9 (h.os.map strR) :: .row s17.v 1 9 (h.ps.map strR) :: .row s24.v 9 40 (x.2.map evRw ++ (h.evs.drop x.1).map evR) :: .row s27.v 2 54 (h.ords.map ordR) :: .row s30.v 4 57 (h.mats.map matR) :: .row s33.v 2 60 (h.wants.map wanR) :: scR 52 x.2, []⟩) (fun x => h.evs.length - x.1) (0, []) ⟨by omega, rfl⟩
        (ent_sub (.cons _ _ _ rfl (.cons _ _ _ rfl (.cons _ _ _ rfl (.cons _ _ _ rfl (.nil)))))) ?_
      rintro ⟨k, x⟩ ⟨hk, hx⟩
      simp only at hk hx
      have hxl := mid_len2 hx hk
      refine aw_seq (aw_region ?_)
      refine qq rfl rfl (qr_cmp rfl rfl rfl) ?_
      refine aops_nil (thn_n ?_)
      refine aw_seq ?_
      refine aw_cond rfl (fun hc42 => ?_) (fun hc42 => ?_)
      · have hk2 : k < h.evs.length := by simpa using hc42
        obtain ⟨e, he⟩ : ∃ e, e = h.evs[k] := ⟨_, rfl⟩
        have hd := List.drop_eq_getElem_cons hk2
        rw [← he] at hd
        have hrow : (x.map evRw ++ (h.evs.drop k).map evR)[k]? = some (evR e) := mid_get hxl hd
        have hmem : e ∈ h.evs := by rw [he]; simp
        have hle := la.evs
        have hk3 : k < (x.map evRw ++ (h.evs.drop k).map evR).length := by rw [mid_len hxl hk]; exact hk2
        refine aw_skip ?_
        refine thn_n ?_
        refine aw_seq ?_
        refine aw_block ?_
        refine aw_seq (aw_region ?_)
        refine qq rfl rfl (qr_move rfl) ?_
        refine qq rfl rfl (qr_assign rfl) ?_
        refine aops_nil (thn_n ?_)
        refine aw_drawM 10 rfl ?_
        first | refine mq rfl rfl (qr_fieldAddr rfl (Nat.succ_ne_zero _)) ?_ | refine mq rfl rfl (qr_fieldAddr_pp rfl (Nat.succ_ne_zero _)) ?_ | refine mq rfl rfl (qr_fieldAddr_rp rfl (Nat.succ_ne_zero _)) ?_ | refine mq rfl rfl (qr_fieldAddr_row rfl (Nat.succ_ne_zero _)) ?_
        first | refine mq rfl rfl (qr_load_one rfl rfl) ?_ | refine mq rfl rfl (qr_load_pp_one rfl rfl) ?_ | refine mq rfl rfl (qr_load_rp_one rfl (by assumption) rfl) ?_
        refine mq rfl rfl (qr_move rfl) ?_
        first | refine mq rfl rfl (qr_fieldAddr rfl (Nat.succ_ne_zero _)) ?_ | refine mq rfl rfl (qr_fieldAddr_pp rfl (Nat.succ_ne_zero _)) ?_ | refine mq rfl rfl (qr_fieldAddr_rp rfl (Nat.succ_ne_zero _)) ?_ | refine mq rfl rfl (qr_fieldAddr_row rfl (Nat.succ_ne_zero _)) ?_
        first | refine mq rfl rfl (qr_load_one rfl rfl) ?_ | refine mq rfl rfl (qr_load_pp_one rfl rfl) ?_ | refine mq rfl rfl (qr_load_rp_one rfl (by assumption) rfl) ?_
        refine mq rfl rfl (qr_move rfl) ?_
        refine mq rfl rfl (qr_index_row rfl rfl hk3) ?_
        first | refine mq rfl rfl (qr_fieldAddr rfl (Nat.succ_ne_zero _)) ?_ | refine mq rfl rfl (qr_fieldAddr_pp rfl (Nat.succ_ne_zero _)) ?_ | refine mq rfl rfl (qr_fieldAddr_rp rfl (Nat.succ_ne_zero _)) ?_ | refine mq rfl rfl (qr_fieldAddr_row rfl (Nat.succ_ne_zero _)) ?_
        refine mq rfl rfl (qr_load_rp_one rfl hrow rfl) ?_
        refine mcall (mrow 3 52 (e.scan.map seenR)) rfl rfl rfl (mk_row (FCall.of_fun (cloneRowSeen _ (by simpa using (la.scans e hmem)) (one_seen _)))) ?_
        refine mnil ⟨.refl _, ?_⟩
        refine mal_s ?_
        refine mal_s ?_
        refine mal_s ?_
        refine mal_s ?_
        refine mal_s ?_
        refine mal_s ?_
        refine mal_s ?_
        refine mal_s ?_
        refine mal_s ?_
        refine mal_row fun s53 => ?_
        refine mal_nil ?_
        refine qq rfl rfl (qr_index_row rfl rfl hk3) ?_
        first | refine qq rfl rfl (qr_fieldAddr rfl (Nat.succ_ne_zero _)) ?_ | refine qq rfl rfl (qr_fieldAddr_pp rfl (Nat.succ_ne_zero _)) ?_ | refine qq rfl rfl (qr_fieldAddr_rp rfl (Nat.succ_ne_zero _)) ?_ | refine qq rfl rfl (qr_fieldAddr_row rfl (Nat.succ_ne_zero _)) ?_
        refine aops_e rfl (oe_store_rp rfl rfl rfl hrow rfl (Nat.le_of_ble_eq_true rfl) ?_)
        refine aops_nil ?_
        refine inBlk_n ?_
        refine thn_n ?_
        refine aw_region ?_
        refine qq rfl rfl (qr_ari rfl rfl rfl (by omega)) ?_
        refine qq rfl rfl (qr_move rfl) ?_
        refine aops_nil (thn_n ?_)
        have hset := mid_set (f := evRw) (g := evR) (a := (s53, e)) (r := (evR e).take 8 ++ [.v s53.v] ++ (evR e).drop (8 + 1)) hxl hd rfl
        have htl : scR 52 (x ++ [(s53, e)]) = scR 52 x ++ [.row s53.v 3 52 (e.scan.map seenR)] := by simp [scR]
        exact ⟨(k + 1, x ++ [(s53, e)]), ⟨by omega, mid_snoc hx hk2 he⟩, by simp only [htl]; exact ent_trans (ent_perm (perm_swap [_] _)) (by rw [← hset]; exact (ent_sub (.cons _ _ _ rfl (.cons _ _ _ rfl (.cons _ _ _ rfl (.cons _ _ _ rfl (.nil))))))), by simp only; omega⟩
      · obtain rfl : k = h.evs.length := by
          have : h.evs.length ≤ k := by simpa using hc42
          omega
        rw [List.take_length] at hx
        obtain ⟨E, hE⟩ : ∃ E, E = x := ⟨_, rfl⟩
        rw [← hE] at hx ⊢
        have hxE := hx
        rw [List.drop_length, List.map_nil, List.append_nil]
        refine aw_exit ?_
        refine thn_e ?_
        refine thn_e ?_
        refine inBlk_hit ?_
        refine thn_n ?_
        refine aw_seq ?_
        refine aw_seq (aw_region ?_)
        first | refine qq rfl rfl (qr_fieldAddr rfl (Nat.succ_ne_zero _)) ?_ | refine qq rfl rfl (qr_fieldAddr_pp rfl (Nat.succ_ne_zero _)) ?_ | refine qq rfl rfl (qr_fieldAddr_rp rfl (Nat.succ_ne_zero _)) ?_ | refine qq rfl rfl (qr_fieldAddr_row rfl (Nat.succ_ne_zero _)) ?_
        first | refine qq rfl rfl (qr_load_one rfl rfl) ?_ | refine qq rfl rfl (qr_load_pp_one rfl rfl) ?_ | refine qq rfl rfl (qr_load_rp_one rfl (by assumption) rfl) ?_
        first | refine qq rfl rfl (qr_len_list rfl) ?_ | refine qq rfl rfl (qr_len_row rfl) ?_
        refine qq rfl rfl (qr_move rfl) ?_
        refine aops_nil (thn_n ?_)
        refine aw_block ?_
        refine aw_loop' (fun x : Nat × List (SV × H.Ord) => x.1 ≤ h.ords.length ∧ x.2.map (·.2) = h.ords.take x.1) (fun x => ⟨[(60, iv x.1), (59, iv (h.ords.map ordR).length), (1, .v (.pointer (some ⟨b1, 0, none⟩))), (2, .v (.pointer (some ⟨b2, 0, none⟩)))], .box b2 28 histZ :: .box b1 28 [.v s8.v, .v s11.v, .v s14.v, .v s17.v, .v s24.v, .v s27.v, .v s30.v, .v s33.v] :: .row s8.v 1 9 (h.ts.map strR) :: .row s11.v 1 9 (h.ss.map strR) :: .row s14.v 1 9 (h.os.map strR) :: .row s17.v 1 9 (h.ps.map strR) :: .row s24.v 9 40 (E.map evRw) :: .row s27.v 2 54 (x.2.map ordRw ++ (h.ords.drop x.1).map ordR) :: .row s30.v 4 57 (h.mats.map matR) :: .row s33.v 2 60 (h.wants.map wanR) :: (scR 52 E ++ otR 3 x.2), []⟩) (fun x => h.ords.length - x.1) (0, []) ⟨by omega, rfl⟩
          (by simp only [otR, List.map_nil, List.append_nil]; exact (ent_sub (.cons _ _ _ rfl (.cons _ _ _ rfl (.cons _ _ _ rfl (.cons _ _ _ rfl (.nil))))))) ?_
        rintro ⟨k, x⟩ ⟨hk, hx⟩
        simp only at hk hx
        have hxl := mid_len2 hx hk
        refine aw_seq (aw_region ?_)
        refine qq rfl rfl (qr_cmp rfl rfl rfl) ?_
        refine aops_nil (thn_n ?_)
        refine aw_seq ?_
        refine aw_cond rfl (fun hc61 => ?_) (fun hc61 => ?_)
        · have hk2 : k < h.ords.length := by simpa using hc61
          obtain ⟨e, he⟩ : ∃ e, e = h.ords[k] := ⟨_, rfl⟩
          have hd := List.drop_eq_getElem_cons hk2
          rw [← he] at hd
          have hrow : (x.map ordRw ++ (h.ords.drop k).map ordR)[k]? = some (ordR e) := mid_get hxl hd
          have hmem : e ∈ h.ords := by rw [he]; simp
          have hle := la.ords
          have hk3 : k < (x.map ordRw ++ (h.ords.drop k).map ordR).length := by rw [mid_len hxl hk]; exact hk2
          refine aw_skip ?_
          refine thn_n ?_
          refine aw_seq ?_
          refine aw_block ?_
          refine aw_seq (aw_region ?_)
          refine qq rfl rfl (qr_move rfl) ?_
          refine qq rfl rfl (qr_assign rfl) ?_
          refine aops_nil (thn_n ?_)
          refine aw_drawM 10 rfl ?_
          first | refine mq rfl rfl (qr_fieldAddr rfl (Nat.succ_ne_zero _)) ?_ | refine mq rfl rfl (qr_fieldAddr_pp rfl (Nat.succ_ne_zero _)) ?_ | refine mq rfl rfl (qr_fieldAddr_rp rfl (Nat.succ_ne_zero _)) ?_ | refine mq rfl rfl (qr_fieldAddr_row rfl (Nat.succ_ne_zero _)) ?_
          first | refine mq rfl rfl (qr_load_one rfl rfl) ?_ | refine mq rfl rfl (qr_load_pp_one rfl rfl) ?_ | refine mq rfl rfl (qr_load_rp_one rfl (by assumption) rfl) ?_
          refine mq rfl rfl (qr_move rfl) ?_
          first | refine mq rfl rfl (qr_fieldAddr rfl (Nat.succ_ne_zero _)) ?_ | refine mq rfl rfl (qr_fieldAddr_pp rfl (Nat.succ_ne_zero _)) ?_ | refine mq rfl rfl (qr_fieldAddr_rp rfl (Nat.succ_ne_zero _)) ?_ | refine mq rfl rfl (qr_fieldAddr_row rfl (Nat.succ_ne_zero _)) ?_
          first | refine mq rfl rfl (qr_load_one rfl rfl) ?_ | refine mq rfl rfl (qr_load_pp_one rfl rfl) ?_ | refine mq rfl rfl (qr_load_rp_one rfl (by assumption) rfl) ?_
          refine mq rfl rfl (qr_move rfl) ?_
          refine mq rfl rfl (qr_index_row rfl rfl hk3) ?_
          first | refine mq rfl rfl (qr_fieldAddr rfl (Nat.succ_ne_zero _)) ?_ | refine mq rfl rfl (qr_fieldAddr_pp rfl (Nat.succ_ne_zero _)) ?_ | refine mq rfl rfl (qr_fieldAddr_rp rfl (Nat.succ_ne_zero _)) ?_ | refine mq rfl rfl (qr_fieldAddr_row rfl (Nat.succ_ne_zero _)) ?_
          refine mq rfl rfl (qr_load_rp_one rfl hrow rfl) ?_
          refine mcall (mrow 1 3 (e.ts.map intR)) rfl rfl rfl (mk_row (FCall.of_fun (cloneRowInt _ (by simpa using (la.ordts e hmem)) (one_int _)))) ?_
          refine mnil ⟨.refl _, ?_⟩
          refine mal_s ?_
          refine mal_s ?_
          refine mal_s ?_
          refine mal_s ?_
          refine mal_s ?_
          refine mal_s ?_
          refine mal_s ?_
          refine mal_s ?_
          refine mal_s ?_
          refine mal_row fun s72 => ?_
          refine mal_nil ?_
          refine qq rfl rfl (qr_index_row rfl rfl hk3) ?_
          first | refine qq rfl rfl (qr_fieldAddr rfl (Nat.succ_ne_zero _)) ?_ | refine qq rfl rfl (qr_fieldAddr_pp rfl (Nat.succ_ne_zero _)) ?_ | refine qq rfl rfl (qr_fieldAddr_rp rfl (Nat.succ_ne_zero _)) ?_ | refine qq rfl rfl (qr_fieldAddr_row rfl (Nat.succ_ne_zero _)) ?_
          refine aops_e rfl (oe_store_rp rfl rfl rfl hrow rfl (Nat.le_of_ble_eq_true rfl) ?_)
          refine aops_nil ?_
          refine inBlk_n ?_
          refine thn_n ?_
          refine aw_region ?_
          refine qq rfl rfl (qr_ari rfl rfl rfl (by omega)) ?_
          refine qq rfl rfl (qr_move rfl) ?_
          refine aops_nil (thn_n ?_)
          have hset := mid_set (f := ordRw) (g := ordR) (a := (s72, e)) (r := (ordR e).take 1 ++ [.v s72.v] ++ (ordR e).drop (1 + 1)) hxl hd rfl
          have htl : ∀ L : List Res, L ++ otR 3 (x ++ [(s72, e)]) = (L ++ otR 3 x) ++ [.row s72.v 1 3 (e.ts.map intR)] := by simp [otR]
          exact ⟨(k + 1, x ++ [(s72, e)]), ⟨by omega, mid_snoc hx hk2 he⟩, by simp only [htl]; exact ent_trans (ent_perm (perm_swap [_] _)) (by rw [← hset]; exact (ent_sub (.cons _ _ _ rfl (.cons _ _ _ rfl (.cons _ _ _ rfl (.cons _ _ _ rfl (.nil))))))), by simp only; omega⟩
        · obtain rfl : k = h.ords.length := by
            have : h.ords.length ≤ k := by simpa using hc61
            omega
          rw [List.take_length] at hx
          obtain ⟨O, hO⟩ : ∃ O, O = x := ⟨_, rfl⟩
          rw [← hO] at hx ⊢
          have hxO := hx
          rw [List.drop_length, List.map_nil, List.append_nil]
          refine aw_exit ?_
          refine thn_e ?_
          refine thn_e ?_
          refine inBlk_hit ?_
          refine thn_n ?_
          refine aw_seq ?_
          refine aw_seq (aw_region ?_)
          first | refine qq rfl rfl (qr_fieldAddr rfl (Nat.succ_ne_zero _)) ?_ | refine qq rfl rfl (qr_fieldAddr_pp rfl (Nat.succ_ne_zero _)) ?_ | refine qq rfl rfl (qr_fieldAddr_rp rfl (Nat.succ_ne_zero _)) ?_ | refine qq rfl rfl (qr_fieldAddr_row rfl (Nat.succ_ne_zero _)) ?_
          first | refine qq rfl rfl (qr_load_one rfl rfl) ?_ | refine qq rfl rfl (qr_load_pp_one rfl rfl) ?_ | refine qq rfl rfl (qr_load_rp_one rfl (by assumption) rfl) ?_
          first | refine qq rfl rfl (qr_len_list rfl) ?_ | refine qq rfl rfl (qr_len_row rfl) ?_
          refine qq rfl rfl (qr_move rfl) ?_
          refine aops_nil (thn_n ?_)
          refine aw_block ?_
          refine aw_loop' (fun x : Nat × List (SV × Mat) => x.1 ≤ h.mats.length ∧ x.2.map (·.2) = h.mats.take x.1) (fun x => ⟨[(79, iv x.1), (78, iv (h.mats.map matR).length), (1, .v (.pointer (some ⟨b1, 0, none⟩))), (2, .v (.pointer (some ⟨b2, 0, none⟩)))], .box b2 28 histZ :: .box b1 28 [.v s8.v, .v s11.v, .v s14.v, .v s17.v, .v s24.v, .v s27.v, .v s30.v, .v s33.v] :: .row s8.v 1 9 (h.ts.map strR) :: .row s11.v 1 9 (h.ss.map strR) :: .row s14.v 1 9 (h.os.map strR) :: .row s17.v 1 9 (h.ps.map strR) :: .row s24.v 9 40 (E.map evRw) :: .row s27.v 2 54 (O.map ordRw) :: .row s30.v 4 57 (x.2.map matRw ++ (h.mats.drop x.1).map matR) :: .row s33.v 2 60 (h.wants.map wanR) :: (scR 52 E ++ (otR 3 O ++ mtR 3 x.2)), []⟩) (fun x => h.mats.length - x.1) (0, []) ⟨by omega, rfl⟩
            (by simp only [mtR, List.map_nil, List.append_nil]; exact (ent_sub (.cons _ _ _ rfl (.cons _ _ _ rfl (.cons _ _ _ rfl (.cons _ _ _ rfl (.nil))))))) ?_
          rintro ⟨k, x⟩ ⟨hk, hx⟩
          simp only at hk hx
          have hxl := mid_len2 hx hk
          refine aw_seq (aw_region ?_)
          refine qq rfl rfl (qr_cmp rfl rfl rfl) ?_
          refine aops_nil (thn_n ?_)
          refine aw_seq ?_
          refine aw_cond rfl (fun hc80 => ?_) (fun hc80 => ?_)
          · have hk2 : k < h.mats.length := by simpa using hc80
            obtain ⟨e, he⟩ : ∃ e, e = h.mats[k] := ⟨_, rfl⟩
            have hd := List.drop_eq_getElem_cons hk2
            rw [← he] at hd
            have hrow : (x.map matRw ++ (h.mats.drop k).map matR)[k]? = some (matR e) := mid_get hxl hd
            have hmem : e ∈ h.mats := by rw [he]; simp
            have hle := la.mats
            have hk3 : k < (x.map matRw ++ (h.mats.drop k).map matR).length := by rw [mid_len hxl hk]; exact hk2
            refine aw_skip ?_
            refine thn_n ?_
            refine aw_seq ?_
            refine aw_block ?_
            refine aw_seq (aw_region ?_)
            refine qq rfl rfl (qr_move rfl) ?_
            refine qq rfl rfl (qr_assign rfl) ?_
            refine aops_nil (thn_n ?_)
            refine aw_drawM 10 rfl ?_
            first | refine mq rfl rfl (qr_fieldAddr rfl (Nat.succ_ne_zero _)) ?_ | refine mq rfl rfl (qr_fieldAddr_pp rfl (Nat.succ_ne_zero _)) ?_ | refine mq rfl rfl (qr_fieldAddr_rp rfl (Nat.succ_ne_zero _)) ?_ | refine mq rfl rfl (qr_fieldAddr_row rfl (Nat.succ_ne_zero _)) ?_
            first | refine mq rfl rfl (qr_load_one rfl rfl) ?_ | refine mq rfl rfl (qr_load_pp_one rfl rfl) ?_ | refine mq rfl rfl (qr_load_rp_one rfl (by assumption) rfl) ?_
            refine mq rfl rfl (qr_move rfl) ?_
            first | refine mq rfl rfl (qr_fieldAddr rfl (Nat.succ_ne_zero _)) ?_ | refine mq rfl rfl (qr_fieldAddr_pp rfl (Nat.succ_ne_zero _)) ?_ | refine mq rfl rfl (qr_fieldAddr_rp rfl (Nat.succ_ne_zero _)) ?_ | refine mq rfl rfl (qr_fieldAddr_row rfl (Nat.succ_ne_zero _)) ?_
            first | refine mq rfl rfl (qr_load_one rfl rfl) ?_ | refine mq rfl rfl (qr_load_pp_one rfl rfl) ?_ | refine mq rfl rfl (qr_load_rp_one rfl (by assumption) rfl) ?_
            refine mq rfl rfl (qr_move rfl) ?_
            refine mq rfl rfl (qr_index_row rfl rfl hk3) ?_
            first | refine mq rfl rfl (qr_fieldAddr rfl (Nat.succ_ne_zero _)) ?_ | refine mq rfl rfl (qr_fieldAddr_pp rfl (Nat.succ_ne_zero _)) ?_ | refine mq rfl rfl (qr_fieldAddr_rp rfl (Nat.succ_ne_zero _)) ?_ | refine mq rfl rfl (qr_fieldAddr_row rfl (Nat.succ_ne_zero _)) ?_
            refine mq rfl rfl (qr_load_rp_one rfl hrow rfl) ?_
            refine mcall (mrow 1 3 (e.ts.map intR)) rfl rfl rfl (mk_row (FCall.of_fun (cloneRowInt _ (by simpa using (la.matts e hmem)) (one_int _)))) ?_
            refine mnil ⟨.refl _, ?_⟩
            refine mal_s ?_
            refine mal_s ?_
            refine mal_s ?_
            refine mal_s ?_
            refine mal_s ?_
            refine mal_s ?_
            refine mal_s ?_
            refine mal_s ?_
            refine mal_s ?_
            refine mal_row fun s91 => ?_
            refine mal_nil ?_
            refine qq rfl rfl (qr_index_row rfl rfl hk3) ?_
            first | refine qq rfl rfl (qr_fieldAddr rfl (Nat.succ_ne_zero _)) ?_ | refine qq rfl rfl (qr_fieldAddr_pp rfl (Nat.succ_ne_zero _)) ?_ | refine qq rfl rfl (qr_fieldAddr_rp rfl (Nat.succ_ne_zero _)) ?_ | refine qq rfl rfl (qr_fieldAddr_row rfl (Nat.succ_ne_zero _)) ?_
            refine aops_e rfl (oe_store_rp rfl rfl rfl hrow rfl (Nat.le_of_ble_eq_true rfl) ?_)
            refine aops_nil ?_
            refine inBlk_n ?_
            refine thn_n ?_
            refine aw_region ?_
            refine qq rfl rfl (qr_ari rfl rfl rfl (by omega)) ?_
            refine qq rfl rfl (qr_move rfl) ?_
            refine aops_nil (thn_n ?_)
            have hset := mid_set (f := matRw) (g := matR) (a := (s91, e)) (r := (matR e).take 3 ++ [.v s91.v] ++ (matR e).drop (3 + 1)) hxl hd rfl
            have htl : ∀ L L2 : List Res, L ++ (L2 ++ mtR 3 (x ++ [(s91, e)])) = (L ++ (L2 ++ mtR 3 x)) ++ [.row s91.v 1 3 (e.ts.map intR)] := by simp [mtR]
            exact ⟨(k + 1, x ++ [(s91, e)]), ⟨by omega, mid_snoc hx hk2 he⟩, by simp only [htl]; exact ent_trans (ent_perm (perm_swap [_] _)) (by rw [← hset]; exact (ent_sub (.cons _ _ _ rfl (.cons _ _ _ rfl (.cons _ _ _ rfl (.cons _ _ _ rfl (.nil))))))), by simp only; omega⟩
          · obtain rfl : k = h.mats.length := by
              have : h.mats.length ≤ k := by simpa using hc80
              omega
            rw [List.take_length] at hx
            obtain ⟨M, hM⟩ : ∃ M, M = x := ⟨_, rfl⟩
            rw [← hM] at hx ⊢
            have hxM := hx
            rw [List.drop_length, List.map_nil, List.append_nil]
            refine aw_exit ?_
            refine thn_e ?_
            refine thn_e ?_
            refine inBlk_hit ?_
            refine thn_n ?_
            refine aw_seq (aw_region ?_)
            first | refine qq rfl rfl (qr_load_all rfl rfl) ?_ | refine qq rfl rfl (qr_load_pp_all rfl rfl) ?_ | refine qq rfl rfl (qr_load_agg rfl (Nat.le_of_ble_eq_true rfl)) ?_ | refine qq rfl rfl (qr_load_pp_agg rfl (Nat.le_of_ble_eq_true rfl)) ?_
            first | refine aops_e rfl (oe_store_all rfl rfl rfl ?_) | refine aops_e rfl (oe_store rfl rfl rfl rfl (Nat.le_of_ble_eq_true rfl) ?_)
            refine aops_nil (thn_n ?_)
            refine aw_ret ?_
            exact retq (.cons _ _ _ _ (.agg _ _ _ _ _ _ _ rfl inferInstance inferInstance inferInstance rfl) .nil) (.drop [_, _] _ _) ⟨⟨s8, s11, s14, s17⟩, ⟨s24, s27, s30, s33, h.ts, h.ss, h.os, h.ps, E, O, M, h.wants⟩, by simp only [OH.hist, hxE, hxO, hxM], rfl, rfl⟩
end Go.Proofs
