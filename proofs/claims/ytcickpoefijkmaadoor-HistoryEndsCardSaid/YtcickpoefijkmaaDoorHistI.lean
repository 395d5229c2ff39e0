/- Number and Complete, read plainly; the law's small history. Conditions: none. -/
import Derived.Test.YtcickpoefijkmaaDoorHistH
set_option linter.unusedVariables false
set_option linter.unusedSimpArgs false
set_option maxRecDepth 10000
namespace Go.Proofs
open Go Go.Ab
open Go.H
theorem numberP (h : Hist) (la : Lim 4611686018427387904 h) : ACall Tryd.prog 7 [.agg (histC h)] [.glob 0 71 limitsC, .glob 1 129 firstC, .glob 2 133 acceptC] (fun r h' => h' = [.glob 0 71 limitsC, .glob 1 129 firstC, .glob 2 133 acceptC] ∧ r = .tup [.agg (histC (numR h)), iv (numE h)]) := by
  refine (number h la).ventR ?_
  rintro r h' ⟨ht, hf⟩
  by_cases hs : shapedB h = true
  · obtain ⟨n, o, ho, rfl, rfl⟩ := ht hs
    refine ⟨_, _, (by rw [← ho]; exact hist_freeze [.glob 0 71 limitsC, .glob 1 129 firstC, .glob 2 133 acceptC] n o 9 40 54 57 60 52 3 (nmR n o.hist (ohF o [])) (by simp [nmR, OH.hist]) (by simp [nmR, OH.hist]) (by simp [nmR, OH.hist]) (by simp [nmR, OH.hist]) (by simp [nmR, ohF]) (by simp [nmR, ohF]) (by simp [nmR, ohF]) (by simp [nmR, ohF]) (fun r hr => by simp [nmR, ohF, hr]) (fun r hr => by simp [nmR, ohF, hr]) (fun r hr => by simp [nmR, ohF, hr]) (iv 0) (.v _)), rfl, ?_⟩
    rw [ho, numR, numE, if_pos hs, if_pos hs]
  · obtain ⟨rfl, rfl⟩ := hf (by simpa using hs)
    refine ⟨_, _, .le (Sb.tups (aS := [.agg histZ, _]) (bs := [.agg (histC hist0), _]) ⟨Sb.aggs (aS := histZ) (bs := histC hist0) ⟨.nil _ _, .nil _ _, .nil _ _, .nil _ _, .nil _ _, .nil _ _, .nil _ _, .nil _ _, trivial⟩, .refl _, trivial⟩).le, rfl, ?_⟩
    rw [numR, numE, if_neg hs, if_neg hs]
theorem completeP (h : Hist) (la : Lim 4611686018427387904 h) : ACall Tryd.prog 10 [.agg (histC h)] [.glob 0 71 limitsC, .glob 1 129 firstC, .glob 2 133 acceptC] (fun r h' => h' = [.glob 0 71 limitsC, .glob 1 129 firstC, .glob 2 133 acceptC] ∧ r = .tup [.agg (histC (complR h)), iv (complE h)]) := by
  refine (complete h la).ventR ?_
  rintro r h' ⟨ht, hf⟩
  by_cases hs : complE h = 0
  · obtain ⟨n, o, ho, rfl, rfl⟩ := ht hs
    refine ⟨_, _, (by rw [← ho]; exact hist_freeze [.glob 0 71 limitsC, .glob 1 129 firstC, .glob 2 133 acceptC] n o 9 40 54 57 60 52 3 (nmR n o.hist (ohF o [])) (by simp [nmR, OH.hist]) (by simp [nmR, OH.hist]) (by simp [nmR, OH.hist]) (by simp [nmR, OH.hist]) (by simp [nmR, ohF]) (by simp [nmR, ohF]) (by simp [nmR, ohF]) (by simp [nmR, ohF]) (fun r hr => by simp [nmR, ohF, hr]) (fun r hr => by simp [nmR, ohF, hr]) (fun r hr => by simp [nmR, ohF, hr]) (iv 0) (.v _)), rfl, ?_⟩
    rw [ho, complR, if_pos hs, hs]
  · obtain ⟨rfl, rfl⟩ := hf (hs)
    refine ⟨_, _, .le (Sb.tups (aS := [.agg histZ, _]) (bs := [.agg (histC hist0), _]) ⟨Sb.aggs (aS := histZ) (bs := histC hist0) ⟨.nil _ _, .nil _ _, .nil _ _, .nil _ _, .nil _ _, .nil _ _, .nil _ _, .nil _ _, trivial⟩, .refl _, trivial⟩).le, rfl, ?_⟩
    rw [complR, if_neg hs]
theorem smallP  : ACall Tryd.prog 12 [] [] (fun r h' => h' = [] ∧ r = .agg (histC smallH)) := by
  refine acall_of_aw Tryd.func12 rfl rfl rfl ?_
  refine aw_seq (aw_region ?_)
  refine aops_e rfl (oe_alloc rfl fun b0 => ?_)
  refine aops_nil (thn_n ?_)
  refine aw_seq (aw_region ?_)
  refine qv rfl rfl (qv_buildSlice rfl rfl) ?_
  refine qv rfl rfl (qv_buildSlice rfl rfl) ?_
  refine qv rfl rfl (qv_buildSlice rfl rfl) ?_
  refine qq rfl rfl (qr_build rfl (by rfl)) ?_
  refine qq rfl rfl (qr_build rfl (by rfl)) ?_
  refine qq rfl rfl (qr_build rfl (by rfl)) ?_
  refine qq rfl rfl (qr_build rfl (by rfl)) ?_
  refine qv rfl rfl (qv_buildSlice rfl rfl) ?_
  refine qq rfl rfl (qr_build rfl (by rfl)) ?_
  first | refine aops_e rfl (oe_store_all rfl rfl rfl ?_) | refine aops_e rfl (oe_store rfl rfl rfl rfl (Nat.le_of_ble_eq_true rfl) ?_)
  refine aops_nil (thn_n ?_)
  refine aw_ret ?_
  exact retq (.cons _ _ _ _ (.agg _ _ _ _ _ _ _ rfl inferInstance inferInstance inferInstance rfl) .nil) (.trans (.drop1 _ _ _) (.le (Sb.aggs (bs := histC smallH) (by exact ⟨.unfull, .unfull, .unfull, .nil _ _, (.lists (by simp) ⟨⟨.refl _, .refl _, .refl _, .refl _, .refl _, .refl _, .refl _, .refl _, .nil _ _, trivial⟩, ⟨.refl _, .refl _, .refl _, .refl _, .refl _, .refl _, .refl _, .refl _, .nil _ _, trivial⟩, ⟨.refl _, .refl _, .refl _, .refl _, .refl _, .refl _, .refl _, .refl _, .nil _ _, trivial⟩, trivial⟩), .nil _ _, .nil _ _, .nil _ _, trivial⟩)).le)) ⟨rfl, rfl⟩
theorem smallO  : ACall Tryd.prog 12 [] [] (fun r h' => ∃ s : SV, h' = [.row s.v 9 40 (smallH.evs.map evR)] ∧ r = .agg ([strsA smallH.ts, strsA smallH.ss, strsA smallH.os, strsA []] ++ .v s.v :: [ordsA [], matsA [], wansA []])) := by
  refine acall_of_aw Tryd.func12 rfl rfl rfl ?_
  refine aw_seq (aw_region ?_)
  refine aops_e rfl (oe_alloc rfl fun b0 => ?_)
  refine aops_nil (thn_n ?_)
  refine aw_seq (aw_region ?_)
  refine qv rfl rfl (qv_buildSlice rfl rfl) ?_
  refine qv rfl rfl (qv_buildSlice rfl rfl) ?_
  refine qv rfl rfl (qv_buildSlice rfl rfl) ?_
  refine qq rfl rfl (qr_build rfl (by rfl)) ?_
  refine qq rfl rfl (qr_build rfl (by rfl)) ?_
  refine qq rfl rfl (qr_build rfl (by rfl)) ?_
  refine qq rfl rfl (qr_build rfl (by rfl)) ?_
  refine aops_e rfl (oe_buildRow rfl rfl rfl fun s8 => ?_)
  refine aops_slice s8 fun sv hsv => ?_
  subst hsv
  refine qq rfl rfl (qr_build rfl (by rfl)) ?_
  first | refine aops_e rfl (oe_store_all rfl rfl rfl ?_) | refine aops_e rfl (oe_store rfl rfl rfl rfl (Nat.le_of_ble_eq_true rfl) ?_)
  refine aops_nil (thn_n ?_)
  refine aw_ret ?_
  exact retq (.cons _ _ _ _ (.agg _ _ _ _ _ _ _ rfl inferInstance inferInstance inferInstance rfl) .nil) (.trans (.perm (pt1 _ _ _) _) (.trans (.drop1 _ _ _) (.trans (vent_row_sb (rows' := smallH.evs.map evR) (by exact ⟨⟨.refl _, .refl _, .refl _, .refl _, .refl _, .refl _, .refl _, .refl _, .nil _ _, trivial⟩, ⟨.refl _, .refl _, .refl _, .refl _, .refl _, .refl _, .refl _, .refl _, .nil _ _, trivial⟩, ⟨.refl _, .refl _, .refl _, .refl _, .refl _, .refl _, .refl _, .refl _, .nil _ _, trivial⟩, trivial⟩) _) (.le (Sb.aggs (bs := [strsA smallH.ts, strsA smallH.ss, strsA smallH.os, strsA []] ++ .v sv.v :: [ordsA [], matsA [], wansA []]) (by exact ⟨.unfull, .unfull, .unfull, .nil _ _, .refl _, .nil _ _, .nil _ _, .nil _ _, trivial⟩)).le)))) ⟨sv, rfl, rfl⟩
end Go.Proofs
/- The walk of history.Same. Conditions: none. -/
set_option linter.unusedVariables false
set_option linter.unusedSimpArgs false
set_option maxRecDepth 10000
namespace Go.Proofs
open Go Go.Ab
open Go.H
theorem same (a b : Hist) (la : Lim 4611686018427387904 a) (lb : Lim 4611686018427387904 b) : ACall Tryd.prog 9 [.agg (histC a), .agg (histC b)] [] (fun r h' => h' = [] ∧ r = bv (sameB a b)) := by
  refine acall_of_aw Tryd.func9 rfl rfl rfl ?_
  refine aw_seq (aw_region ?_)
  refine aops_e rfl (oe_box rfl rfl rfl fun b2 => ?_)
  refine aops_e rfl (oe_box rfl rfl rfl fun b3 => ?_)
  refine qq rfl rfl (qr_assign rfl) ?_
  refine aops_nil (thn_n ?_)
  refine aw_seq ?_
  refine aw_draw 6 rfl ?_
  first | refine dq rfl rfl (qr_load_all rfl rfl) ?_ | refine dq rfl rfl (qr_load_pp_all rfl rfl) ?_ | refine dq rfl rfl (qr_load_agg rfl (Nat.le_of_ble_eq_true rfl)) ?_ | refine dq rfl rfl (qr_load_pp_agg rfl (Nat.le_of_ble_eq_true rfl)) ?_
  refine dv rfl rfl (by exact qv_call rfl rfl (pcall (names _) (Sbs.refl _))) ?_
  first | refine dq rfl rfl (qr_load_all rfl rfl) ?_ | refine dq rfl rfl (qr_load_pp_all rfl rfl) ?_ | refine dq rfl rfl (qr_load_agg rfl (Nat.le_of_ble_eq_true rfl)) ?_ | refine dq rfl rfl (qr_load_pp_agg rfl (Nat.le_of_ble_eq_true rfl)) ?_
  refine dv rfl rfl (by exact qv_call rfl rfl (pcall (names _) (Sbs.refl _))) ?_
  refine da ?_
  refine da ?_
  refine dnil ⟨rfl, ?_⟩
  refine dalloc_s rfl ?_
  refine dalloc_s rfl ?_
  refine dalloc_s rfl ?_
  refine dalloc_s rfl ?_
  refine dalloc_a rfl fun b5 => ?_
  refine dalloc_a rfl fun b6 => ?_
  refine dalloc_nil ?_
  first | refine aops_e rfl (oe_store_all rfl rfl rfl ?_) | refine aops_e rfl (oe_store rfl rfl rfl rfl (Nat.le_of_ble_eq_true rfl) ?_)
  first | refine aops_e rfl (oe_store_all rfl rfl rfl ?_) | refine aops_e rfl (oe_store rfl rfl rfl rfl (Nat.le_of_ble_eq_true rfl) ?_)
  refine aops_nil (thn_n ?_)
  refine aw_seq ?_
  refine aw_seq (aw_region ?_)
  refine qq rfl rfl (qr_move rfl) ?_
  refine aops_nil (thn_n ?_)
  refine aw_block ?_
  refine aw_loop' (fun k : Nat => k ≤ 4 ∧ ∀ j, j < k → namesEq a b j = true) (fun k => ⟨[(14, iv k), (2, .v (.pointer (some ⟨b2, 0, none⟩))), (3, .v (.pointer (some ⟨b3, 0, none⟩))), (5, .v (.pointer (some ⟨b5, 0, none⟩))), (6, .v (.pointer (some ⟨b6, 0, none⟩)))], [.box b6 _ (namesC b), .box b5 _ (namesC a), .box b3 _ (histC b), .box b2 _ (histC a)], []⟩) (fun k => 4 - k) 0 ⟨by omega, fun j hj => by omega⟩
    (ent_sub (.cons _ _ _ rfl (.cons _ _ _ rfl (.cons _ _ _ rfl (.cons _ _ _ rfl (.cons _ _ _ rfl (.nil))))))) ?_
  rintro k ⟨hk, hz⟩
  refine aw_seq (aw_region ?_)
  refine qq rfl rfl (qr_cmp rfl rfl rfl) ?_
  refine aops_nil (thn_n ?_)
  refine aw_seq ?_
  refine aw_cond rfl (fun hc15 => ?_) (fun hc15 => ?_)
  · have hk4 : k < 4 := by simp at hc15; omega
    refine aw_skip ?_
    refine thn_n ?_
    refine aw_seq ?_
    refine aw_block ?_
    refine aw_seq (aw_region ?_)
    refine qq rfl rfl (qr_move rfl) ?_
    refine qq rfl rfl (qr_assign rfl) ?_
    refine aops_nil (thn_n ?_)
    refine aw_seq ?_
    refine aw_draw 6 rfl ?_
    refine dq rfl rfl (qr_move rfl) ?_
    refine dq rfl rfl (qr_indexAddr_arr rfl rfl (by omega)) ?_
    refine dq rfl rfl (qr_load_one rfl (by have := nmK_get a hk4; simpa using this)) ?_
    refine dq rfl rfl (qr_move rfl) ?_
    refine dq rfl rfl (qr_indexAddr_arr rfl rfl (by omega)) ?_
    refine dq rfl rfl (qr_load_one rfl (by have := nmK_get b hk4; simpa using this)) ?_
    refine dnil ⟨rfl, ?_⟩
    refine dalloc_s rfl ?_
    refine dalloc_s rfl ?_
    refine dalloc_s rfl ?_
    refine dalloc_s rfl ?_
    refine dalloc_s rfl ?_
    refine dalloc_s rfl ?_
    refine dalloc_nil ?_
    refine qv rfl rfl (qv_call rfl rfl (pcall (equalStr _ _ (la.nm k) (lb.nm k)) (Sbs.refl _))) ?_
    refine qq rfl rfl (qr_not rfl) ?_
    refine aops_nil (thn_n ?_)
    refine aw_cond rfl (fun hc24 => ?_) (fun hc24 => ?_)
    · refine aw_seq (aw_region ?_)
      refine qq rfl rfl (qr_assign rfl) ?_
      refine aops_nil (thn_n ?_)
      refine aw_ret ?_
      refine inBlk_r ?_
      refine thn_r ?_
      refine thn_r ?_
      refine inBlk_r ?_
      refine thn_r ?_
      exact retq (.cons _ _ _ _ (.tmp _ _ rfl) .nil) (.drop [_, _, _, _] _ _) ⟨rfl, congrArg bv (by rw [sameB, all_not hk4 (not_t hc24)]; rfl)⟩
    · refine aw_skip ?_
      refine inBlk_n ?_
      refine thn_n ?_
      refine aw_region ?_
      refine qq rfl rfl (qr_ari rfl rfl rfl (by omega)) ?_
      refine qq rfl rfl (qr_move rfl) ?_
      refine aops_nil (thn_n ?_)
      exact ⟨k + 1, ⟨by omega, fun j hj => by
        by_cases hjk : j = k
        · subst hjk; exact not_f hc24
        · exact hz j (by omega)⟩, (ent_sub (.cons _ _ _ rfl (.cons _ _ _ rfl (.cons _ _ _ rfl (.cons _ _ _ rfl (.cons _ _ _ rfl (.nil))))))), by omega⟩
  · have hk3 : k = 4 := by simp at hc15; omega
    subst hk3
    refine aw_exit ?_
    refine thn_e ?_
    refine thn_e ?_
    refine inBlk_hit ?_
    refine thn_n ?_
    refine aw_seq (aw_region ?_)
    first | refine qq rfl rfl (qr_fieldAddr rfl (Nat.succ_ne_zero _)) ?_ | refine qq rfl rfl (qr_fieldAddr_pp rfl (Nat.succ_ne_zero _)) ?_ | refine qq rfl rfl (qr_fieldAddr_rp rfl (Nat.succ_ne_zero _)) ?_
    first | refine qq rfl rfl (qr_load_one rfl rfl) ?_ | refine qq rfl rfl (qr_load_pp_one rfl rfl) ?_
    first | refine qq rfl rfl (qr_fieldAddr rfl (Nat.succ_ne_zero _)) ?_ | refine qq rfl rfl (qr_fieldAddr_pp rfl (Nat.succ_ne_zero _)) ?_ | refine qq rfl rfl (qr_fieldAddr_rp rfl (Nat.succ_ne_zero _)) ?_
    first | refine qq rfl rfl (qr_load_one rfl rfl) ?_ | refine qq rfl rfl (qr_load_pp_one rfl rfl) ?_
    refine qv rfl rfl (qv_call rfl rfl (pcall (equalFuncOrd _ _ _ ordEq (fun x hx y hy => FCall.of_fun (sameOrd x y (la.ordts x hx) (lb.ordts y hy))) la.ords lb.ords) (Sbs.refl _))) ?_
    refine qq rfl rfl (qr_assign rfl) ?_
    refine aops_nil (thn_n ?_)
    refine aw_seq (aw_region ?_)
    first | refine qq rfl rfl (qr_fieldAddr rfl (Nat.succ_ne_zero _)) ?_ | refine qq rfl rfl (qr_fieldAddr_pp rfl (Nat.succ_ne_zero _)) ?_ | refine qq rfl rfl (qr_fieldAddr_rp rfl (Nat.succ_ne_zero _)) ?_
    first | refine qq rfl rfl (qr_load_one rfl rfl) ?_ | refine qq rfl rfl (qr_load_pp_one rfl rfl) ?_
    first | refine qq rfl rfl (qr_fieldAddr rfl (Nat.succ_ne_zero _)) ?_ | refine qq rfl rfl (qr_fieldAddr_pp rfl (Nat.succ_ne_zero _)) ?_ | refine qq rfl rfl (qr_fieldAddr_rp rfl (Nat.succ_ne_zero _)) ?_
    first | refine qq rfl rfl (qr_load_one rfl rfl) ?_ | refine qq rfl rfl (qr_load_pp_one rfl rfl) ?_
    refine qv rfl rfl (qv_call rfl rfl (pcall (equalFuncMat _ _ _ matEq (fun x hx y hy => FCall.of_fun (sameMat x y (la.matts x hx) (lb.matts y hy))) la.mats lb.mats) (Sbs.refl _))) ?_
    refine qq rfl rfl (qr_assign rfl) ?_
    refine aops_nil (thn_n ?_)
    refine aw_seq (aw_region ?_)
    refine qq rfl rfl (qr_move rfl) ?_
    refine qq rfl rfl (qr_move rfl) ?_
    refine asplit (fun hg10_1 => ?_) (fun hg10_1 => ?_)
    · refine qq rfl rfl (qr_move rfl) ?_
      first | refine qq rfl rfl (qr_pick_t rfl rfl) ?_ | refine qq rfl rfl (qr_pick_f rfl rfl) ?_ | refine qq rfl rfl (qr_pick_b rfl rfl rfl) ?_
      refine qq rfl rfl (qr_move rfl) ?_
      refine asplit (fun hg10_4 => ?_) (fun hg10_4 => ?_)
      · first | refine qq rfl rfl (qr_fieldAddr rfl (Nat.succ_ne_zero _)) ?_ | refine qq rfl rfl (qr_fieldAddr_pp rfl (Nat.succ_ne_zero _)) ?_ | refine qq rfl rfl (qr_fieldAddr_rp rfl (Nat.succ_ne_zero _)) ?_
        first | refine qq rfl rfl (qr_load_one rfl rfl) ?_ | refine qq rfl rfl (qr_load_pp_one rfl rfl) ?_
        first | refine qq rfl rfl (qr_fieldAddr rfl (Nat.succ_ne_zero _)) ?_ | refine qq rfl rfl (qr_fieldAddr_pp rfl (Nat.succ_ne_zero _)) ?_ | refine qq rfl rfl (qr_fieldAddr_rp rfl (Nat.succ_ne_zero _)) ?_
        first | refine qq rfl rfl (qr_load_one rfl rfl) ?_ | refine qq rfl rfl (qr_load_pp_one rfl rfl) ?_
        refine qv rfl rfl (qv_call rfl rfl (pcall (equalWan _ _ la.wants lb.wants) (Sbs.refl _))) ?_
        first | refine qq rfl rfl (qr_pick_t rfl rfl) ?_ | refine qq rfl rfl (qr_pick_f rfl rfl) ?_ | refine qq rfl rfl (qr_pick_b rfl rfl rfl) ?_
        refine qq rfl rfl (qr_move rfl) ?_
        refine asplit (fun hg10_11 => ?_) (fun hg10_11 => ?_)
        · first | refine qq rfl rfl (qr_fieldAddr rfl (Nat.succ_ne_zero _)) ?_ | refine qq rfl rfl (qr_fieldAddr_pp rfl (Nat.succ_ne_zero _)) ?_ | refine qq rfl rfl (qr_fieldAddr_rp rfl (Nat.succ_ne_zero _)) ?_
          first | refine qq rfl rfl (qr_load_one rfl rfl) ?_ | refine qq rfl rfl (qr_load_pp_one rfl rfl) ?_
          first | refine qq rfl rfl (qr_fieldAddr rfl (Nat.succ_ne_zero _)) ?_ | refine qq rfl rfl (qr_fieldAddr_pp rfl (Nat.succ_ne_zero _)) ?_ | refine qq rfl rfl (qr_fieldAddr_rp rfl (Nat.succ_ne_zero _)) ?_
          first | refine qq rfl rfl (qr_load_one rfl rfl) ?_ | refine qq rfl rfl (qr_load_pp_one rfl rfl) ?_
          refine qv rfl rfl (qv_call rfl rfl (pcall (equalFuncEv _ _ _ evEq (fun x hx y hy => FCall.of_fun (sameEvent x y (la.scans x hx) (lb.scans y hy))) la.evs lb.evs) (Sbs.refl _))) ?_
          first | refine qq rfl rfl (qr_pick_t rfl rfl) ?_ | refine qq rfl rfl (qr_pick_f rfl rfl) ?_ | refine qq rfl rfl (qr_pick_b rfl rfl rfl) ?_
          refine qq rfl rfl (qr_assign rfl) ?_
          refine aops_nil (thn_n ?_)
          refine aw_ret ?_
          exact retq (.cons _ _ _ _ (.tmp _ _ rfl) .nil) (.drop [_, _, _, _] _ _) ⟨rfl, congrArg bv (by rw [sameB, all_lt hz]; simp only [*, Bool.true_and, Bool.false_and, Bool.and_false, Bool.and_true, Bool.true_or, Bool.or_false, Bool.false_or, Bool.or_true, if_true, if_false, Bool.false_eq_true, Bool.not_true, Bool.not_false])⟩
        · refine qs rfl rfl ?_
          refine qs rfl rfl ?_
          refine qs rfl rfl ?_
          refine qs rfl rfl ?_
          refine qs rfl rfl ?_
          first | refine qq rfl rfl (qr_pick_t rfl rfl) ?_ | refine qq rfl rfl (qr_pick_f rfl rfl) ?_ | refine qq rfl rfl (qr_pick_b rfl rfl rfl) ?_
          refine qq rfl rfl (qr_assign rfl) ?_
          refine aops_nil (thn_n ?_)
          refine aw_ret ?_
          exact retq (.cons _ _ _ _ (.tmp _ _ rfl) .nil) (.drop [_, _, _, _] _ _) ⟨rfl, congrArg bv (by rw [sameB, all_lt hz]; simp only [*, Bool.true_and, Bool.false_and, Bool.and_false, Bool.and_true, Bool.true_or, Bool.or_false, Bool.false_or, Bool.or_true, if_true, if_false, Bool.false_eq_true, Bool.not_true, Bool.not_false])⟩
      · refine qs rfl rfl ?_
        refine qs rfl rfl ?_
        refine qs rfl rfl ?_
        refine qs rfl rfl ?_
        refine qs rfl rfl ?_
        first | refine qq rfl rfl (qr_pick_t rfl rfl) ?_ | refine qq rfl rfl (qr_pick_f rfl rfl) ?_ | refine qq rfl rfl (qr_pick_b rfl rfl rfl) ?_
        refine qq rfl rfl (qr_move rfl) ?_
        refine qs rfl rfl ?_
        refine qs rfl rfl ?_
        refine qs rfl rfl ?_
        refine qs rfl rfl ?_
        refine qs rfl rfl ?_
        first | refine qq rfl rfl (qr_pick_t rfl rfl) ?_ | refine qq rfl rfl (qr_pick_f rfl rfl) ?_ | refine qq rfl rfl (qr_pick_b rfl rfl rfl) ?_
        refine qq rfl rfl (qr_assign rfl) ?_
        refine aops_nil (thn_n ?_)
        refine aw_ret ?_
        exact retq (.cons _ _ _ _ (.tmp _ _ rfl) .nil) (.drop [_, _, _, _] _ _) ⟨rfl, congrArg bv (by rw [sameB, all_lt hz]; simp only [*, Bool.true_and, Bool.false_and, Bool.and_false, Bool.and_true, Bool.true_or, Bool.or_false, Bool.false_or, Bool.or_true, if_true, if_false, Bool.false_eq_true, Bool.not_true, Bool.not_false])⟩
    · refine qs rfl rfl ?_
      first | refine qq rfl rfl (qr_pick_t rfl rfl) ?_ | refine qq rfl rfl (qr_pick_f rfl rfl) ?_ | refine qq rfl rfl (qr_pick_b rfl rfl rfl) ?_
      refine qq rfl rfl (qr_move rfl) ?_
      refine qs rfl rfl ?_
      refine qs rfl rfl ?_
      refine qs rfl rfl ?_
      refine qs rfl rfl ?_
      refine qs rfl rfl ?_
      first | refine qq rfl rfl (qr_pick_t rfl rfl) ?_ | refine qq rfl rfl (qr_pick_f rfl rfl) ?_ | refine qq rfl rfl (qr_pick_b rfl rfl rfl) ?_
      refine qq rfl rfl (qr_move rfl) ?_
      refine qs rfl rfl ?_
      refine qs rfl rfl ?_
      refine qs rfl rfl ?_
      refine qs rfl rfl ?_
      refine qs rfl rfl ?_
      first | refine qq rfl rfl (qr_pick_t rfl rfl) ?_ | refine qq rfl rfl (qr_pick_f rfl rfl) ?_ | refine qq rfl rfl (qr_pick_b rfl rfl rfl) ?_
      refine qq rfl rfl (qr_assign rfl) ?_
      refine aops_nil (thn_n ?_)
      refine aw_ret ?_
      exact retq (.cons _ _ _ _ (.tmp _ _ rfl) .nil) (.drop [_, _, _, _] _ _) ⟨rfl, congrArg bv (by rw [sameB, all_lt hz]; simp only [*, Bool.true_and, Bool.false_and, Bool.and_false, Bool.and_true, Bool.true_or, Bool.or_false, Bool.false_or, Bool.or_true, if_true, if_false, Bool.false_eq_true, Bool.not_true, Bool.not_false])⟩
end Go.Proofs
/- The walk of the law's wakes. Conditions: none. -/
set_option linter.unusedVariables false
set_option linter.unusedSimpArgs false
set_option maxRecDepth 10000
namespace Go.Proofs
open Go Go.Ab
open Go.H
theorem limOpen : Lim 4611686018427387904 openH := ⟨by decide, by decide, by decide, by decide, by decide, by decide, by decide, by decide, by decide, by decide, by decide⟩
theorem limSmall : Lim 4611686018427387904 smallH := ⟨by decide, by decide, by decide, by decide, by decide, by decide, by decide, by decide, by decide, by decide, by decide⟩
theorem limOther : Lim 4611686018427387904 otherH := ⟨by decide, by decide, by decide, by decide, by decide, by decide, by decide, by decide, by decide, by decide, by decide⟩
theorem equalW : ACall Tryd.prog 14 [.list false 1 ((ofR smallH 0).map intR), .list true 1 ([0, 1, 2].map intR)] [] (fun r h' => h' = [] ∧ r = bv true) :=
  (equalInt (ofR smallH 0) [0, 1, 2] (by rw [w2]; decide) (by decide)).mono (fun r h' q => ⟨q.1, by rw [q.2, w2]; rfl⟩)
theorem sameW : ACall Tryd.prog 9 [.agg (histC (numR otherH)), .agg (histC smallH)] [] (fun r h' => h' = [] ∧ r = bv true) := by
  rw [w7]
  exact (same smallH smallH limSmall limSmall).mono (fun r h' q => ⟨q.1, by rw [q.2, sameB_self]⟩)
theorem ofLent (s : SV) : FCall Tryd.prog (.fn (.func 13) [] []) [.agg ([strsA smallH.ts, strsA smallH.ss, strsA smallH.os, strsA []] ++ .v s.v :: [ordsA [], matsA [], wansA []]), iv 0] (.row s.v 9 40 (smallH.evs.map evR) :: [.glob 0 71 limitsC, .glob 1 129 firstC, .glob 2 133 acceptC])
    (fun r h' => ∃ h'', h' = .row s.v 9 40 (smallH.evs.map evR) :: h'' ∧ ∃ s5, h'' = .row s5 1 3 ((ofR smallH 0).map intR) :: [.glob 0 71 limitsC, .glob 1 129 firstC, .glob 2 133 acceptC] ∧ r = .tup [.v s5, iv (checkE smallH)]) := by
  refine FCall.lendRow (args' := [.agg (histC smallH), iv 0]) (fun X w vs hh hr => ?_) ?_ (FCall.of_fun (ofO smallH 0 limSmall))
  · match vs, hr with
    | [v1, v2], ⟨r1, r2, _⟩ => exact ⟨lend_cell hh r1, (Scal.v _).rel r2, trivial⟩
  · rintro _ _ ⟨s5, rfl, rfl⟩
    refine ⟨.tup _ (fun j hj => ?_), fun x hx => ?_⟩
    · match j, hj with
      | 0, _ => exact .v _
      | 1, _ => exact .v _
    · simp only [List.mem_cons, List.not_mem_nil, or_false] at hx
      rcases hx with rfl | rfl | rfl | rfl
      · refine .inl (scal_row fun r hr a ha => ?_)
        obtain ⟨n, _, rfl⟩ := List.mem_map.1 hr
        simp only [intR, List.mem_singleton] at ha; subst ha; exact .v _
      · exact .inr ⟨by simp, _, _, _, rfl⟩
      · exact .inr ⟨by simp, _, _, _, rfl⟩
      · exact .inr ⟨by simp, _, _, _, rfl⟩
theorem wakes  : ACall Tryd.prog 5 [] [.glob 0 71 limitsC, .glob 1 129 firstC, .glob 2 133 acceptC] (fun r h' => h' = [.glob 0 71 limitsC, .glob 1 129 firstC, .glob 2 133 acceptC] ∧ r = bv true) := by
  refine acall_of_aw Tryd.func5 rfl rfl rfl ?_
  refine aw_seq (aw_region ?_)
  refine qq rfl rfl (qr_assign rfl) ?_
  refine aops_nil (thn_n ?_)
  refine aw_seq (aw_region ?_)
  refine aops_e rfl (oe_call rfl rfl (FCall.fr (FCall.of_fun smallO) (.refl _)) rfl ?_)
  rintro _ _ ⟨_, rfl, s1, rfl, rfl⟩
  show aops _ _ _ _ _ _ ⟨_, .row s1.v 9 40 (smallH.evs.map evR) :: .glob 0 71 limitsC :: .glob 1 129 firstC :: .glob 2 133 acceptC :: [], _⟩
  refine aops_e rfl (oe_alloc rfl fun b1 => ?_)
  first | refine aops_e rfl (oe_store_all rfl rfl rfl ?_) | refine aops_e rfl (oe_store rfl rfl rfl rfl (Nat.le_of_ble_eq_true rfl) ?_)
  refine aops_nil (thn_n ?_)
  refine aw_seq (aw_region ?_)
  refine qv rfl rfl (qv_call rfl rfl (pcall smallP (Sbs.refl _))) ?_
  refine aops_e rfl (oe_alloc rfl fun b2 => ?_)
  first | refine aops_e rfl (oe_store_all rfl rfl rfl ?_) | refine aops_e rfl (oe_store rfl rfl rfl rfl (Nat.le_of_ble_eq_true rfl) ?_)
  refine aops_nil (thn_n ?_)
  refine aw_seq (aw_region ?_)
  first | refine qq rfl rfl (qr_fieldAddr rfl (Nat.succ_ne_zero _)) ?_ | refine qq rfl rfl (qr_fieldAddr_pp rfl (Nat.succ_ne_zero _)) ?_ | refine qq rfl rfl (qr_fieldAddr_rp rfl (Nat.succ_ne_zero _)) ?_ | refine qq rfl rfl (qr_fieldAddr_row rfl (Nat.succ_ne_zero _)) ?_
  first | refine qq rfl rfl (qr_load_one rfl rfl) ?_ | refine qq rfl rfl (qr_load_pp_one rfl rfl) ?_ | refine qq rfl rfl (qr_load_rp_one rfl (by assumption) rfl) ?_
  refine qq rfl rfl (qr_slice_hE (k := 2) (rows' := openH.evs.map evR) rfl rfl (by decide) rfl) ?_
  first | refine qq rfl rfl (qr_fieldAddr rfl (Nat.succ_ne_zero _)) ?_ | refine qq rfl rfl (qr_fieldAddr_pp rfl (Nat.succ_ne_zero _)) ?_ | refine qq rfl rfl (qr_fieldAddr_rp rfl (Nat.succ_ne_zero _)) ?_ | refine qq rfl rfl (qr_fieldAddr_row rfl (Nat.succ_ne_zero _)) ?_
  first | refine aops_e rfl (oe_store_all rfl rfl rfl ?_) | refine aops_e rfl (oe_store rfl rfl rfl rfl (Nat.le_of_ble_eq_true rfl) ?_)
  refine aops_nil (thn_n ?_)
  refine aw_seq (aw_region ?_)
  first | refine qq rfl rfl (qr_load_all rfl rfl) ?_ | refine qq rfl rfl (qr_load_pp_all rfl rfl) ?_ | refine qq rfl rfl (qr_load_agg rfl (Nat.le_of_ble_eq_true rfl)) ?_ | refine qq rfl rfl (qr_load_pp_agg rfl (Nat.le_of_ble_eq_true rfl)) ?_ | refine qq rfl rfl (qr_load_rp_all rfl (by assumption) rfl) ?_
  refine qv rfl rfl (qv_call rfl rfl (FCall.qt (FCall.of_fun (completeP openH limOpen)) ((pt3 _ _ _ _ _).trans (.cons _ ((pt3 _ _ _ _ _).trans (.cons _ (pt3 _ _ _ _ _))))))) ?_
  refine qq rfl rfl (qr_move rfl) ?_
  refine qq rfl rfl (qr_extract rfl rfl) ?_
  refine qq rfl rfl (qr_extract rfl rfl) ?_
  refine aops_e rfl (oe_alloc rfl fun b3 => ?_)
  first | refine aops_e rfl (oe_store_all rfl rfl rfl ?_) | refine aops_e rfl (oe_store rfl rfl rfl rfl (Nat.le_of_ble_eq_true rfl) ?_)
  refine qq rfl rfl (qr_assign rfl) ?_
  refine aops_nil (thn_n ?_)
  refine aw_seq (aw_region ?_)
  first | refine qq rfl rfl (qr_load_all rfl rfl) ?_ | refine qq rfl rfl (qr_load_pp_all rfl rfl) ?_ | refine qq rfl rfl (qr_load_agg rfl (Nat.le_of_ble_eq_true rfl)) ?_ | refine qq rfl rfl (qr_load_pp_agg rfl (Nat.le_of_ble_eq_true rfl)) ?_ | refine qq rfl rfl (qr_load_rp_all rfl (by assumption) rfl) ?_
  refine aops_e rfl (oe_call rfl rfl (FCall.fr (ofLent s1) ((pt3 _ _ _ _ _).trans (.cons _ ((pt3 _ _ _ _ _).trans (.cons _ ((pt3 _ _ _ _ _).trans (.cons _ (pt3 _ _ _ _ _)))))))) rfl ?_)
  rintro _ _ ⟨_, rfl, _, rfl, s5, rfl, rfl⟩
  show aops _ _ _ _ _ _ ⟨_, .row s1.v 9 40 (smallH.evs.map evR) :: .row s5 1 3 ((ofR smallH 0).map intR) :: .glob 0 71 limitsC :: .glob 1 129 firstC :: .glob 2 133 acceptC :: .box b3 28 (histC (complR openH)) :: .box b2 28 (histC openH) :: .box b1 28 ([strsA smallH.ts, strsA smallH.ss, strsA smallH.os, strsA []] ++ .v s1.v :: [ordsA [], matsA [], wansA []]) :: [], _⟩
  refine qq rfl rfl (qr_move rfl) ?_
  refine qq rfl rfl (qr_extract rfl rfl) ?_
  refine qq rfl rfl (qr_extract rfl rfl) ?_
  refine qq rfl rfl (qr_assign rfl) ?_
  refine qq rfl rfl (qr_assign rfl) ?_
  refine aops_nil (thn_n ?_)
  refine aw_seq (aw_region ?_)
  refine qv rfl rfl (qv_buildSlice rfl rfl) ?_
  first | refine qq rfl rfl (qr_fieldAddr rfl (Nat.succ_ne_zero _)) ?_ | refine qq rfl rfl (qr_fieldAddr_pp rfl (Nat.succ_ne_zero _)) ?_ | refine qq rfl rfl (qr_fieldAddr_rp rfl (Nat.succ_ne_zero _)) ?_ | refine qq rfl rfl (qr_fieldAddr_row rfl (Nat.succ_ne_zero _)) ?_
  first | refine aops_e rfl (oe_store_all rfl rfl rfl ?_) | refine aops_e rfl (oe_store rfl rfl rfl rfl (Nat.le_of_ble_eq_true rfl) ?_)
  refine aops_nil (thn_n ?_)
  refine aw_seq (aw_region ?_)
  first | refine qq rfl rfl (qr_fieldAddr rfl (Nat.succ_ne_zero _)) ?_ | refine qq rfl rfl (qr_fieldAddr_pp rfl (Nat.succ_ne_zero _)) ?_ | refine qq rfl rfl (qr_fieldAddr_rp rfl (Nat.succ_ne_zero _)) ?_ | refine qq rfl rfl (qr_fieldAddr_row rfl (Nat.succ_ne_zero _)) ?_
  first | refine qq rfl rfl (qr_load_one rfl rfl) ?_ | refine qq rfl rfl (qr_load_pp_one rfl rfl) ?_ | refine qq rfl rfl (qr_load_rp_one rfl (by assumption) rfl) ?_
  refine qq rfl rfl (qr_index_row (k := 1) rfl rfl (by decide)) ?_
  first | refine qq rfl rfl (qr_fieldAddr rfl (Nat.succ_ne_zero _)) ?_ | refine qq rfl rfl (qr_fieldAddr_pp rfl (Nat.succ_ne_zero _)) ?_ | refine qq rfl rfl (qr_fieldAddr_rp rfl (Nat.succ_ne_zero _)) ?_ | refine qq rfl rfl (qr_fieldAddr_row rfl (Nat.succ_ne_zero _)) ?_
  refine aops_e rfl (oe_store_rp (row := evR ⟨2, 0, 0, 0, 0, ⟨0, 1⟩, 0, []⟩) rfl rfl rfl rfl rfl (Nat.le_of_ble_eq_true rfl) ?_)
  refine aops_nil (thn_n ?_)
  refine aw_seq ?_
  refine aw_ent (s' := ⟨[(1, .v (.pointer (some ⟨b1, 0, none⟩))), (3, .v (.pointer (some ⟨b3, 0, none⟩))), (4, iv (complE openH)), (6, iv (checkE smallH)), (5, .list false 1 ((ofR smallH 0).map intR))], .box b1 28 ([strsA smallH.ts, strsA smallH.ss, .list true 1 [[sv bY], [sv bX]], strsA []] ++ .list false 9 (otherH.evs.map evR) :: [ordsA [], matsA [], wansA []]) :: .box b3 28 (histC (complR openH)) :: .box b2 28 (histC openH) :: .glob 0 71 limitsC :: .glob 1 129 firstC :: .glob 2 133 acceptC :: [], []⟩) (ent_trans (ent_perm (h' := .row s1.v 9 40 (otherH.evs.map evR) :: .box b1 28 ([strsA smallH.ts, strsA smallH.ss, .list true 1 [[sv bY], [sv bX]], strsA []] ++ .v s1.v :: [ordsA [], matsA [], wansA []]) :: .row s5 1 3 ((ofR smallH 0).map intR) :: .box b3 28 (histC (complR openH)) :: .box b2 28 (histC openH) :: .glob 0 71 limitsC :: .glob 1 129 firstC :: .glob 2 133 acceptC :: []) (.cons _ ((pt6 _ _ _ _ _ _ _ _).trans (.cons _ (.cons _ ((pt3 _ _ _ _ _).trans (.cons _ (pt3 _ _ _ _ _)))))))) (ent_trans (ent_freeze_box [strsA smallH.ts, strsA smallH.ss, .list true 1 [[sv bY], [sv bX]], strsA []] [ordsA [], matsA [], wansA []]) (ent_trans (ent_perm (h' := .row s5 1 3 ((ofR smallH 0).map intR) :: .box b1 28 ([strsA smallH.ts, strsA smallH.ss, .list true 1 [[sv bY], [sv bX]], strsA []] ++ .list false 9 (otherH.evs.map evR) :: [ordsA [], matsA [], wansA []]) :: .box b3 28 (histC (complR openH)) :: .box b2 28 (histC openH) :: .glob 0 71 limitsC :: .glob 1 129 firstC :: .glob 2 133 acceptC :: []) (pt1 _ _ _)) (ent_freeze (.cons _ _ _ rfl (.cons _ _ _ rfl (.cons _ _ _ rfl (.cons _ _ _ rfl (.row _ _ rfl .nil))))))))) ?_
  refine aw_region ?_
  first | refine qq rfl rfl (qr_load_all rfl rfl) ?_ | refine qq rfl rfl (qr_load_pp_all rfl rfl) ?_ | refine qq rfl rfl (qr_load_agg rfl (Nat.le_of_ble_eq_true rfl)) ?_ | refine qq rfl rfl (qr_load_pp_agg rfl (Nat.le_of_ble_eq_true rfl)) ?_ | refine qq rfl rfl (qr_load_rp_all rfl (by assumption) rfl) ?_
  refine qv rfl rfl (qv_call rfl rfl (gcall (h := [_, _, _]) (numberP otherH limOther) (by exact ⟨Sb.aggs (bs := histC otherH) ⟨.refl _, .refl _, .unfull, .refl _, .refl _, .refl _, .refl _, .refl _, trivial⟩, trivial⟩))) ?_
  refine qq rfl rfl (qr_move rfl) ?_
  refine qq rfl rfl (qr_extract rfl rfl) ?_
  refine qq rfl rfl (qr_extract rfl rfl) ?_
  refine aops_e rfl (oe_alloc rfl fun b7 => ?_)
  first | refine aops_e rfl (oe_store_all rfl rfl rfl ?_) | refine aops_e rfl (oe_store rfl rfl rfl rfl (Nat.le_of_ble_eq_true rfl) ?_)
  refine qq rfl rfl (qr_assign rfl) ?_
  refine aops_nil (thn_n ?_)
  refine aw_seq ?_
  refine aw_draw 37 rfl ?_
  refine dq rfl rfl (qr_move rfl) ?_
  refine dq rfl rfl (qr_cmp (c := true) rfl rfl (by rw [w1]; rfl)) ?_
  refine dq rfl rfl (qr_move rfl) ?_
  refine dq rfl rfl (qr_move rfl) ?_
  refine dq rfl rfl (qr_cmp (c := true) rfl rfl (by rw [w2']; rfl)) ?_
  first | refine dq rfl rfl (qr_pick_t rfl rfl) ?_ | refine dq rfl rfl (qr_pick_f rfl rfl) ?_ | refine dq rfl rfl (qr_pick_b rfl rfl rfl) ?_
  refine dq rfl rfl (qr_move rfl) ?_
  refine dq rfl rfl (qr_move rfl) ?_
  refine dq rfl rfl (qr_cmp (c := true) rfl rfl (by rw [w3]; rfl)) ?_
  first | refine dq rfl rfl (qr_pick_t rfl rfl) ?_ | refine dq rfl rfl (qr_pick_f rfl rfl) ?_ | refine dq rfl rfl (qr_pick_b rfl rfl rfl) ?_
  refine dq rfl rfl (qr_move rfl) ?_
  first | refine dq rfl rfl (qr_load_all rfl rfl) ?_ | refine dq rfl rfl (qr_load_pp_all rfl rfl) ?_ | refine dq rfl rfl (qr_load_agg rfl (Nat.le_of_ble_eq_true rfl)) ?_ | refine dq rfl rfl (qr_load_pp_agg rfl (Nat.le_of_ble_eq_true rfl)) ?_ | refine dq rfl rfl (qr_load_rp_all rfl (by assumption) rfl) ?_
  refine dv rfl rfl (by exact qv_call rfl rfl (gcall (h := [_, _, _, _]) (check otherH limOther) (by exact ⟨Sb.aggs (bs := histC otherH) ⟨.refl _, .refl _, .unfull, .refl _, .refl _, .refl _, .refl _, .refl _, trivial⟩, trivial⟩))) ?_
  refine dq rfl rfl (qr_cmp (c := true) rfl rfl (by rw [w4]; rfl)) ?_
  first | refine dq rfl rfl (qr_pick_t rfl rfl) ?_ | refine dq rfl rfl (qr_pick_f rfl rfl) ?_ | refine dq rfl rfl (qr_pick_b rfl rfl rfl) ?_
  refine dq rfl rfl (qr_move rfl) ?_
  first | refine dq rfl rfl (qr_fieldAddr rfl (Nat.succ_ne_zero _)) ?_ | refine dq rfl rfl (qr_fieldAddr_pp rfl (Nat.succ_ne_zero _)) ?_ | refine dq rfl rfl (qr_fieldAddr_rp rfl (Nat.succ_ne_zero _)) ?_ | refine dq rfl rfl (qr_fieldAddr_row rfl (Nat.succ_ne_zero _)) ?_
  first | refine dq rfl rfl (qr_load_one rfl rfl) ?_ | refine dq rfl rfl (qr_load_pp_one rfl rfl) ?_ | refine dq rfl rfl (qr_load_rp_one rfl (by assumption) rfl) ?_
  first | refine dq rfl rfl (qr_len_list rfl) ?_ | refine dq rfl rfl (qr_len_row rfl) ?_
  refine dq rfl rfl (qr_cmp (c := true) rfl rfl (by rw [w5]; rfl)) ?_
  first | refine dq rfl rfl (qr_pick_t rfl rfl) ?_ | refine dq rfl rfl (qr_pick_f rfl rfl) ?_ | refine dq rfl rfl (qr_pick_b rfl rfl rfl) ?_
  refine dq rfl rfl (qr_move rfl) ?_
  first | refine dq rfl rfl (qr_fieldAddr rfl (Nat.succ_ne_zero _)) ?_ | refine dq rfl rfl (qr_fieldAddr_pp rfl (Nat.succ_ne_zero _)) ?_ | refine dq rfl rfl (qr_fieldAddr_rp rfl (Nat.succ_ne_zero _)) ?_ | refine dq rfl rfl (qr_fieldAddr_row rfl (Nat.succ_ne_zero _)) ?_
  first | refine dq rfl rfl (qr_load_one rfl rfl) ?_ | refine dq rfl rfl (qr_load_pp_one rfl rfl) ?_ | refine dq rfl rfl (qr_load_rp_one rfl (by assumption) rfl) ?_
  refine dq rfl rfl (qr_index_list (i := 2) (row := evR (abortE 0)) rfl rfl (by rw [w5]; rfl)) ?_
  first | refine dq rfl rfl (qr_fieldAddr rfl (Nat.succ_ne_zero _)) ?_ | refine dq rfl rfl (qr_fieldAddr_pp rfl (Nat.succ_ne_zero _)) ?_ | refine dq rfl rfl (qr_fieldAddr_rp rfl (Nat.succ_ne_zero _)) ?_ | refine dq rfl rfl (qr_fieldAddr_row rfl (Nat.succ_ne_zero _)) ?_
  first | refine dq rfl rfl (qr_load_one rfl rfl) ?_ | refine dq rfl rfl (qr_load_pp_one rfl rfl) ?_ | refine dq rfl rfl (qr_load_rp_one rfl (by assumption) rfl) ?_
  refine dq rfl rfl (qr_cmp (c := true) rfl rfl (by decide)) ?_
  first | refine dq rfl rfl (qr_pick_t rfl rfl) ?_ | refine dq rfl rfl (qr_pick_f rfl rfl) ?_ | refine dq rfl rfl (qr_pick_b rfl rfl rfl) ?_
  refine dq rfl rfl (qr_move rfl) ?_
  refine dq rfl rfl (qr_move rfl) ?_
  refine dv rfl rfl (qv_buildSlice rfl rfl) ?_
  refine dv rfl rfl (by exact qv_call rfl rfl (pcall equalW (Sbs.refl _))) ?_
  first | refine dq rfl rfl (qr_pick_t rfl rfl) ?_ | refine dq rfl rfl (qr_pick_f rfl rfl) ?_ | refine dq rfl rfl (qr_pick_b rfl rfl rfl) ?_
  refine dq rfl rfl (qr_move rfl) ?_
  first | refine dq rfl rfl (qr_load_all rfl rfl) ?_ | refine dq rfl rfl (qr_load_pp_all rfl rfl) ?_ | refine dq rfl rfl (qr_load_agg rfl (Nat.le_of_ble_eq_true rfl)) ?_ | refine dq rfl rfl (qr_load_pp_agg rfl (Nat.le_of_ble_eq_true rfl)) ?_ | refine dq rfl rfl (qr_load_rp_all rfl (by assumption) rfl) ?_
  refine dv rfl rfl (by exact qv_call rfl rfl (pcall smallP (Sbs.refl _))) ?_
  refine dnil ⟨rfl, ?_⟩
  refine dalloc_s rfl ?_
  refine dalloc_s rfl ?_
  refine dalloc_s rfl ?_
  refine dalloc_s rfl ?_
  refine dalloc_s rfl ?_
  refine dalloc_s rfl ?_
  refine dalloc_s rfl ?_
  refine dalloc_s rfl ?_
  refine dalloc_s rfl ?_
  refine dalloc_s rfl ?_
  refine dalloc_s rfl ?_
  refine dalloc_s rfl ?_
  refine dalloc_s rfl ?_
  refine dalloc_s rfl ?_
  refine dalloc_s rfl ?_
  refine dalloc_s rfl ?_
  refine dalloc_s rfl ?_
  refine dalloc_s rfl ?_
  refine dalloc_s rfl ?_
  refine dalloc_s rfl ?_
  refine dalloc_s rfl ?_
  refine dalloc_s rfl ?_
  refine dalloc_s rfl ?_
  refine dalloc_s rfl ?_
  refine dalloc_s rfl ?_
  refine dalloc_s rfl ?_
  refine dalloc_s rfl ?_
  refine dalloc_s rfl ?_
  refine dalloc_s rfl ?_
  refine dalloc_s rfl ?_
  refine dalloc_s rfl ?_
  refine dalloc_s rfl ?_
  refine dalloc_s rfl ?_
  refine dalloc_s rfl ?_
  refine dalloc_s rfl ?_
  refine dalloc_s rfl ?_
  refine dalloc_s rfl ?_
  refine dalloc_nil ?_
  refine qv rfl rfl (qv_call rfl rfl (pcall sameW (Sbs.refl _))) ?_
  first | refine qq rfl rfl (qr_pick_t rfl rfl) ?_ | refine qq rfl rfl (qr_pick_f rfl rfl) ?_ | refine qq rfl rfl (qr_pick_b rfl rfl rfl) ?_
  refine qq rfl rfl (qr_assign rfl) ?_
  refine aops_nil (thn_n ?_)
  refine aw_ret ?_
  exact retq (.cons _ _ _ _ (.tmp _ _ rfl) .nil) (.drop [_, _, _, _] _ _) ⟨rfl, rfl⟩
end Go.Proofs
/- The walk of HistoryEnds. Conditions: none. -/
set_option linter.unusedVariables false
set_option linter.unusedSimpArgs false
set_option maxRecDepth 10000
namespace Go.Proofs
open Go Go.Ab
open Go.H
theorem sameE (h : Hist) (l : Lim 4611686018427387904 h) : ACall Tryd.prog 9 [.agg (histC h), .agg (histC h)] [] (fun r h' => h' = [] ∧ r = bv true) :=
  (same h h l l).mono (fun r h' q => ⟨q.1, by rw [q.2, sameB_self]⟩)
theorem sameEvT (a b : Ev) (h : a = b) (ha : a.scan.length ≤ 4611686018427387904) : ACall Tryd.prog 11 [.agg (evR a), .agg (evR b)] [] (fun r h' => h' = [] ∧ r = bv true) := by
  subst h
  exact (sameEvent a a ha ha).mono (fun r h' q => ⟨q.1, by rw [q.2, evEq_eq]; simp⟩)
set_option maxHeartbeats 1000000 in
theorem historyEnds (x : Hist) (la : Lim 4611686018427387904 x) : ACall Tryd.prog 4 [.agg (histC x)] [.glob 0 71 limitsC, .glob 1 129 firstC, .glob 2 133 acceptC] (fun r h' => h' = [.glob 0 71 limitsC, .glob 1 129 firstC, .glob 2 133 acceptC] ∧ r = bv true) := by
  refine acall_of_aw Tryd.func4 rfl rfl rfl ?_
  refine aw_seq (aw_region ?_)
  refine aops_e rfl (oe_box rfl rfl rfl fun b1 => ?_)
  refine qq rfl rfl (qr_assign rfl) ?_
  refine aops_nil (thn_n ?_)
  refine aw_seq ?_
  refine aw_seq (aw_region ?_)
  refine qv rfl rfl (qv_call rfl rfl (FCall.qt (FCall.of_fun wakes) ((pt1 _ _ _).trans (.cons _ ((pt1 _ _ _).trans (.cons _ (pt1 _ _ _))))))) ?_
  refine qq rfl rfl (qr_not rfl) ?_
  refine aops_nil (thn_n ?_)
  refine aw_cond rfl (fun hc14 => ?_) (fun hc14 => ?_)
  · exact absurd hc14 (by decide)
  · refine aw_skip ?_
    refine thn_n ?_
    refine aw_seq (aw_region ?_)
    first | refine qq rfl rfl (qr_load_all rfl rfl) ?_ | refine qq rfl rfl (qr_load_pp_all rfl rfl) ?_ | refine qq rfl rfl (qr_load_agg rfl (Nat.le_of_ble_eq_true rfl)) ?_ | refine qq rfl rfl (qr_load_pp_agg rfl (Nat.le_of_ble_eq_true rfl)) ?_ | refine qq rfl rfl (qr_load_rp_all rfl (by assumption) rfl) ?_
    refine qv rfl rfl (qv_call rfl rfl (pcall (few x la) (Sbs.refl _))) ?_
    refine aops_e rfl (oe_alloc rfl fun b3 => ?_)
    first | refine aops_e rfl (oe_store_all rfl rfl rfl ?_) | refine aops_e rfl (oe_store rfl rfl rfl rfl (Nat.le_of_ble_eq_true rfl) ?_)
    refine aops_nil (thn_n ?_)
    refine aw_seq (aw_region ?_)
    first | refine qq rfl rfl (qr_load_all rfl rfl) ?_ | refine qq rfl rfl (qr_load_pp_all rfl rfl) ?_ | refine qq rfl rfl (qr_load_agg rfl (Nat.le_of_ble_eq_true rfl)) ?_ | refine qq rfl rfl (qr_load_pp_agg rfl (Nat.le_of_ble_eq_true rfl)) ?_ | refine qq rfl rfl (qr_load_rp_all rfl (by assumption) rfl) ?_
    refine qv rfl rfl (qv_call rfl rfl (FCall.qt (FCall.of_fun (completeP (fewH x) ((few_lim x).mono (by decide)))) ((pt2 _ _ _ _).trans (.cons _ ((pt2 _ _ _ _).trans (.cons _ (pt2 _ _ _ _))))))) ?_
    refine qq rfl rfl (qr_move rfl) ?_
    refine qq rfl rfl (qr_extract rfl rfl) ?_
    refine qq rfl rfl (qr_extract rfl rfl) ?_
    refine aops_e rfl (oe_alloc rfl fun b4 => ?_)
    first | refine aops_e rfl (oe_store_all rfl rfl rfl ?_) | refine aops_e rfl (oe_store rfl rfl rfl rfl (Nat.le_of_ble_eq_true rfl) ?_)
    refine qq rfl rfl (qr_assign rfl) ?_
    refine aops_nil (thn_n ?_)
    refine aw_seq ?_
    refine aw_seq (aw_region ?_)
    refine qq rfl rfl (qr_move rfl) ?_
    refine qq rfl rfl (qr_cmp rfl rfl rfl) ?_
    refine aops_nil (thn_n ?_)
    refine aw_cond rfl (fun hc23 => ?_) (fun hc23 => ?_)
    · have hc : complE (fewH x) ≠ 0 := by simpa using hc23
      refine aw_seq (aw_region ?_)
      first | refine qq rfl rfl (qr_load_all rfl rfl) ?_ | refine qq rfl rfl (qr_load_pp_all rfl rfl) ?_ | refine qq rfl rfl (qr_load_agg rfl (Nat.le_of_ble_eq_true rfl)) ?_ | refine qq rfl rfl (qr_load_pp_agg rfl (Nat.le_of_ble_eq_true rfl)) ?_ | refine qq rfl rfl (qr_load_rp_all rfl (by assumption) rfl) ?_
      refine qv rfl rfl (qv_call rfl rfl (FCall.qt (FCall.of_fun (check (fewH x) ((few_lim x).mono (by decide)))) ((pt3 _ _ _ _ _).trans (.cons _ ((pt3 _ _ _ _ _).trans (.cons _ (pt3 _ _ _ _ _))))))) ?_
      refine qq rfl rfl (qr_cmp rfl rfl rfl) ?_
      refine qq rfl rfl (qr_assign rfl) ?_
      refine aops_nil (thn_n ?_)
      refine aw_ret ?_
      refine thn_r ?_
      exact retq (.cons _ _ _ _ (.tmp _ _ rfl) .nil) (.drop [_, _, _] _ _) ⟨rfl, congrArg bv (by rw [(few_not hc).2]; rfl)⟩
    · have hc : complE (fewH x) = 0 := by simpa using hc23
      obtain ⟨he1, he2, he3, he4⟩ := ends_again hc
      rw [he1]
      refine aw_skip ?_
      refine thn_n ?_
      refine aw_seq (aw_region ?_)
      first | refine qq rfl rfl (qr_load_all rfl rfl) ?_ | refine qq rfl rfl (qr_load_pp_all rfl rfl) ?_ | refine qq rfl rfl (qr_load_agg rfl (Nat.le_of_ble_eq_true rfl)) ?_ | refine qq rfl rfl (qr_load_pp_agg rfl (Nat.le_of_ble_eq_true rfl)) ?_ | refine qq rfl rfl (qr_load_rp_all rfl (by assumption) rfl) ?_
      refine qv rfl rfl (qv_call rfl rfl (FCall.qt (FCall.of_fun (completeP (complH (fewH x)) (compl_lim.mono (by decide)))) ((pt3 _ _ _ _ _).trans (.cons _ ((pt3 _ _ _ _ _).trans (.cons _ (pt3 _ _ _ _ _))))))) ?_
      refine qq rfl rfl (qr_move rfl) ?_
      refine qq rfl rfl (qr_extract rfl rfl) ?_
      refine qq rfl rfl (qr_extract rfl rfl) ?_
      refine aops_e rfl (oe_alloc rfl fun b6 => ?_)
      first | refine aops_e rfl (oe_store_all rfl rfl rfl ?_) | refine aops_e rfl (oe_store rfl rfl rfl rfl (Nat.le_of_ble_eq_true rfl) ?_)
      refine qq rfl rfl (qr_assign rfl) ?_
      refine aops_nil (thn_n ?_)
      refine aw_seq ?_
      refine aw_seq ?_
      rw [he3, he4]
      refine aw_region ?_
      refine qq rfl rfl (qr_move rfl) ?_
      refine qq rfl rfl (qr_cmp (c := false) rfl rfl (by rfl)) ?_
      refine qq rfl rfl (qr_move rfl) ?_
      first | refine qq rfl rfl (qr_load_all rfl rfl) ?_ | refine qq rfl rfl (qr_load_pp_all rfl rfl) ?_ | refine qq rfl rfl (qr_load_agg rfl (Nat.le_of_ble_eq_true rfl)) ?_ | refine qq rfl rfl (qr_load_pp_agg rfl (Nat.le_of_ble_eq_true rfl)) ?_ | refine qq rfl rfl (qr_load_rp_all rfl (by assumption) rfl) ?_
      first | refine qq rfl rfl (qr_load_all rfl rfl) ?_ | refine qq rfl rfl (qr_load_pp_all rfl rfl) ?_ | refine qq rfl rfl (qr_load_agg rfl (Nat.le_of_ble_eq_true rfl)) ?_ | refine qq rfl rfl (qr_load_pp_agg rfl (Nat.le_of_ble_eq_true rfl)) ?_ | refine qq rfl rfl (qr_load_rp_all rfl (by assumption) rfl) ?_
      refine qv rfl rfl (qv_call rfl rfl (pcall (sameE (complH (fewH x)) (compl_lim.mono (by decide))) (Sbs.refl _))) ?_
      refine qq rfl rfl (qr_not rfl) ?_
      first | refine qq rfl rfl (qr_pick_t rfl rfl) ?_ | refine qq rfl rfl (qr_pick_f rfl rfl) ?_ | refine qq rfl rfl (qr_pick_b rfl rfl rfl) ?_
      refine qq rfl rfl (qr_move rfl) ?_
      first | refine qq rfl rfl (qr_load_all rfl rfl) ?_ | refine qq rfl rfl (qr_load_pp_all rfl rfl) ?_ | refine qq rfl rfl (qr_load_agg rfl (Nat.le_of_ble_eq_true rfl)) ?_ | refine qq rfl rfl (qr_load_pp_agg rfl (Nat.le_of_ble_eq_true rfl)) ?_ | refine qq rfl rfl (qr_load_rp_all rfl (by assumption) rfl) ?_
      refine qv rfl rfl (qv_call rfl rfl (FCall.qt (FCall.of_fun (check (complH (fewH x)) (compl_lim.mono (by decide)))) ((pt4 _ _ _ _ _ _).trans (.cons _ ((pt4 _ _ _ _ _ _).trans (.cons _ (pt4 _ _ _ _ _ _))))))) ?_
      refine qq rfl rfl (qr_cmp (c := false) rfl rfl (by rw [check_0.2 he2]; rfl)) ?_
      first | refine qq rfl rfl (qr_pick_t rfl rfl) ?_ | refine qq rfl rfl (qr_pick_f rfl rfl) ?_ | refine qq rfl rfl (qr_pick_b rfl rfl rfl) ?_
      refine qq rfl rfl (qr_move rfl) ?_
      first | refine qq rfl rfl (qr_fieldAddr rfl (Nat.succ_ne_zero _)) ?_ | refine qq rfl rfl (qr_fieldAddr_pp rfl (Nat.succ_ne_zero _)) ?_ | refine qq rfl rfl (qr_fieldAddr_rp rfl (Nat.succ_ne_zero _)) ?_ | refine qq rfl rfl (qr_fieldAddr_row rfl (Nat.succ_ne_zero _)) ?_
      first | refine qq rfl rfl (qr_load_one rfl rfl) ?_ | refine qq rfl rfl (qr_load_pp_one rfl rfl) ?_ | refine qq rfl rfl (qr_load_rp_one rfl (by assumption) rfl) ?_
      first | refine qq rfl rfl (qr_len_list rfl) ?_ | refine qq rfl rfl (qr_len_row rfl) ?_
      first | refine qq rfl rfl (qr_fieldAddr rfl (Nat.succ_ne_zero _)) ?_ | refine qq rfl rfl (qr_fieldAddr_pp rfl (Nat.succ_ne_zero _)) ?_ | refine qq rfl rfl (qr_fieldAddr_rp rfl (Nat.succ_ne_zero _)) ?_ | refine qq rfl rfl (qr_fieldAddr_row rfl (Nat.succ_ne_zero _)) ?_
      first | refine qq rfl rfl (qr_load_one rfl rfl) ?_ | refine qq rfl rfl (qr_load_pp_one rfl rfl) ?_ | refine qq rfl rfl (qr_load_rp_one rfl (by assumption) rfl) ?_
      first | refine qq rfl rfl (qr_len_list rfl) ?_ | refine qq rfl rfl (qr_len_row rfl) ?_
      refine qq rfl rfl (qr_cmp (c := false) rfl rfl (congrArg some (decide_eq_false (by
        rw [List.length_map, List.length_map]
        show ¬ ((((fewH x).evs ++ (openL (fewH x)).map abortE).length : Nat) : Int) < _
        simp; omega)))) ?_
      first | refine qq rfl rfl (qr_pick_t rfl rfl) ?_ | refine qq rfl rfl (qr_pick_f rfl rfl) ?_ | refine qq rfl rfl (qr_pick_b rfl rfl rfl) ?_
      refine aops_nil (thn_n ?_)
      refine aw_cond rfl (fun hc53 => ?_) (fun hc53 => ?_)
      · first | cases hc53 | exact absurd hc53 (by decide) | (exfalso; simp_all; done)
      · refine aw_skip ?_
        refine thn_n ?_
        refine aw_seq (aw_region ?_)
        refine aops_e rfl (oe_makeMap (enc := intK) rfl fun b54 => ?_)
        refine aops_e rfl (oe_makeMap (enc := intK) rfl fun b55 => ?_)
        refine qq rfl rfl (qr_assign rfl) ?_
        refine qq rfl rfl (qr_assign rfl) ?_
        refine aops_nil (thn_n ?_)
        refine aw_seq ?_
        refine aw_seq (aw_region ?_)
        first | refine qq rfl rfl (qr_fieldAddr rfl (Nat.succ_ne_zero _)) ?_ | refine qq rfl rfl (qr_fieldAddr_pp rfl (Nat.succ_ne_zero _)) ?_ | refine qq rfl rfl (qr_fieldAddr_rp rfl (Nat.succ_ne_zero _)) ?_ | refine qq rfl rfl (qr_fieldAddr_row rfl (Nat.succ_ne_zero _)) ?_
        first | refine qq rfl rfl (qr_load_one rfl rfl) ?_ | refine qq rfl rfl (qr_load_pp_one rfl rfl) ?_ | refine qq rfl rfl (qr_load_rp_one rfl (by assumption) rfl) ?_
        first | refine qq rfl rfl (qr_len_list rfl) ?_ | refine qq rfl rfl (qr_len_row rfl) ?_
        refine qq rfl rfl (qr_move rfl) ?_
        refine aops_nil (thn_n ?_)
        refine aw_block ?_
        refine aw_loop' (fun y : Nat × List (Int × AV) × List (Int × AV) => y.1 ≤ (complH (fewH x)).evs.length ∧ MB y.2.1 (fun t => begunL ((complH (fewH x)).evs.take y.1) t) ∧ MB y.2.2 (fun t => overL ((complH (fewH x)).evs.take y.1) t)) (fun y => ⟨[(59, iv y.1), (58, iv ((complH (fewH x)).evs.map evR).length), (57, evsA (complH (fewH x)).evs), (7, .v (.map (some b54))), (8, .v (.map (some b55))), (1, .v (.pointer (some ⟨b1, 0, none⟩))), (3, .v (.pointer (some ⟨b3, 0, none⟩))), (4, .v (.pointer (some ⟨b4, 0, none⟩)))], .map b55 (encM intK y.2.2) :: .map b54 (encM intK y.2.1) :: .box b6 28 (histC (complH (fewH x))) :: .box b4 28 (histC (complH (fewH x))) :: .box b3 28 (histC (fewH x)) :: .box b1 28 (histC x) :: .glob 0 71 limitsC :: .glob 1 129 firstC :: .glob 2 133 acceptC :: [], []⟩) (fun y => (complH (fewH x)).evs.length - y.1) (0, [], []) ⟨by omega, mb0, mb0'⟩
          (ent_sub (.cons _ _ _ rfl (.cons _ _ _ rfl (.cons _ _ _ rfl (.cons _ _ _ rfl (.cons _ _ _ rfl (.cons _ _ _ rfl (.cons _ _ _ rfl (.cons _ _ _ rfl (.nil)))))))))) ?_
        rintro ⟨k, es1, es2⟩ ⟨hk, hm1, hm2⟩
        simp only at hk hm1 hm2
        refine aw_seq (aw_region ?_)
        refine qq rfl rfl (qr_cmp rfl rfl rfl) ?_
        refine aops_nil (thn_n ?_)
        refine aw_seq ?_
        refine aw_cond rfl (fun hc60 => ?_) (fun hc60 => ?_)
        · have hk2 : k < (complH (fewH x)).evs.length := by simpa using hc60
          obtain ⟨e, he⟩ : ∃ e, e = (complH (fewH x)).evs[k] := ⟨_, rfl⟩
          have hrow : ((complH (fewH x)).evs.map evR)[k]? = some (evR e) := by rw [he]; simp [hk2]
          have hat := compl_at (h := (fewH x)) (k := k) (e := e) (by rw [he]; simp [hk2])
          have htk := take_snoc' hk2 he
          have hle := compl_lim (x := x)
          have hle2 := hle.evs
          have hes : e.scan.length ≤ 4611686018427387904 := Nat.le_trans (hle.scans e (by rw [he]; simp)) (by decide)
          refine aw_skip ?_
          refine thn_n ?_
          refine aw_seq ?_
          refine aw_block ?_
          refine aw_seq (aw_region ?_)
          refine qq rfl rfl (qr_move rfl) ?_
          first | refine qq rfl rfl (qr_index_list rfl rfl (by assumption)) ?_ | refine qq rfl rfl (qr_index_row rfl rfl (by assumption)) ?_
          first | refine qq rfl rfl (qr_load_all rfl rfl) ?_ | refine qq rfl rfl (qr_load_pp_all rfl rfl) ?_ | refine qq rfl rfl (qr_load_agg rfl (Nat.le_of_ble_eq_true rfl)) ?_ | refine qq rfl rfl (qr_load_pp_agg rfl (Nat.le_of_ble_eq_true rfl)) ?_ | refine qq rfl rfl (qr_load_rp_all rfl (by assumption) rfl) ?_
          refine aops_e rfl (oe_alloc rfl fun b10 => ?_)
          refine qq rfl rfl (qr_assign rfl) ?_
          first | refine aops_e rfl (oe_store_all rfl rfl rfl ?_) | refine aops_e rfl (oe_store rfl rfl rfl rfl (Nat.le_of_ble_eq_true rfl) ?_)
          refine aops_nil (thn_n ?_)
          refine aw_seq ?_
          refine aw_cut (⟨[(90, bv false), (10, .v (.pointer (some ⟨b10, 0, none⟩))), (59, iv k), (58, iv ((complH (fewH x)).evs.map evR).length), (57, evsA (complH (fewH x)).evs), (7, .v (.map (some b54))), (8, .v (.map (some b55))), (1, .v (.pointer (some ⟨b1, 0, none⟩))), (3, .v (.pointer (some ⟨b3, 0, none⟩))), (4, .v (.pointer (some ⟨b4, 0, none⟩)))], .box b10 40 (evR e) :: .map b55 (encM intK es2) :: .map b54 (encM intK es1) :: .box b6 28 (histC (complH (fewH x))) :: .box b4 28 (histC (complH (fewH x))) :: .box b3 28 (histC (fewH x)) :: .box b1 28 (histC x) :: .glob 0 71 limitsC :: .glob 1 129 firstC :: .glob 2 133 acceptC :: [], []⟩) ?_ ?_
          · refine aw_draw 20 rfl ?_
            refine dq rfl rfl (qr_move rfl) ?_
            first | refine dq rfl rfl (qr_fieldAddr rfl (Nat.succ_ne_zero _)) ?_ | refine dq rfl rfl (qr_fieldAddr_pp rfl (Nat.succ_ne_zero _)) ?_ | refine dq rfl rfl (qr_fieldAddr_rp rfl (Nat.succ_ne_zero _)) ?_ | refine dq rfl rfl (qr_fieldAddr_row rfl (Nat.succ_ne_zero _)) ?_
            first | refine dq rfl rfl (qr_load_one rfl rfl) ?_ | refine dq rfl rfl (qr_load_pp_one rfl rfl) ?_ | refine dq rfl rfl (qr_load_rp_one rfl (by assumption) rfl) ?_
            first | refine dq rfl rfl (qr_len_list rfl) ?_ | refine dq rfl rfl (qr_len_row rfl) ?_
            refine (Nat.lt_or_ge k (fewH x).evs.length).elim (fun hlt => dq rfl rfl (qr_cmp (c := true) rfl rfl (congrArg some (decide_eq_true (by rw [List.length_map]; omega)))) ?_) (fun hlt => dq rfl rfl (qr_cmp (c := false) rfl rfl (congrArg some (decide_eq_false (by rw [List.length_map]; omega)))) ?_)
            · refine dq rfl rfl (qr_move rfl) ?_
              first | refine dq rfl rfl (qr_load_all rfl rfl) ?_ | refine dq rfl rfl (qr_load_pp_all rfl rfl) ?_ | refine dq rfl rfl (qr_load_agg rfl (Nat.le_of_ble_eq_true rfl)) ?_ | refine dq rfl rfl (qr_load_pp_agg rfl (Nat.le_of_ble_eq_true rfl)) ?_ | refine dq rfl rfl (qr_load_rp_all rfl (by assumption) rfl) ?_
              first | refine dq rfl rfl (qr_fieldAddr rfl (Nat.succ_ne_zero _)) ?_ | refine dq rfl rfl (qr_fieldAddr_pp rfl (Nat.succ_ne_zero _)) ?_ | refine dq rfl rfl (qr_fieldAddr_rp rfl (Nat.succ_ne_zero _)) ?_ | refine dq rfl rfl (qr_fieldAddr_row rfl (Nat.succ_ne_zero _)) ?_
              first | refine dq rfl rfl (qr_load_one rfl rfl) ?_ | refine dq rfl rfl (qr_load_pp_one rfl rfl) ?_ | refine dq rfl rfl (qr_load_rp_one rfl (by assumption) rfl) ?_
              refine dq rfl rfl (qr_move rfl) ?_
              have hrow2 : ((fewH x).evs.map evR)[k]? = some (evR (fewH x).evs[k]) := by simp [hlt]
              refine dq rfl rfl (qr_index_list rfl rfl hrow2) ?_
              first | refine dq rfl rfl (qr_load_all rfl rfl) ?_ | refine dq rfl rfl (qr_load_pp_all rfl rfl) ?_ | refine dq rfl rfl (qr_load_agg rfl (Nat.le_of_ble_eq_true rfl)) ?_ | refine dq rfl rfl (qr_load_pp_agg rfl (Nat.le_of_ble_eq_true rfl)) ?_ | refine dq rfl rfl (qr_load_rp_all rfl (by assumption) rfl) ?_
              refine dv rfl rfl (by exact qv_call rfl rfl (pcall (sameEvT e (fewH x).evs[k] (hat.1 hlt) hes) (Sbs.refl _))) ?_
              refine dq rfl rfl (qr_not rfl) ?_
              first | refine dq rfl rfl (qr_pick_t rfl rfl) ?_ | refine dq rfl rfl (qr_pick_f rfl rfl) ?_ | refine dq rfl rfl (qr_pick_b rfl rfl rfl) ?_
              refine dq rfl rfl (qr_move rfl) ?_
              refine dq rfl rfl (qr_move rfl) ?_
              first | refine dq rfl rfl (qr_fieldAddr rfl (Nat.succ_ne_zero _)) ?_ | refine dq rfl rfl (qr_fieldAddr_pp rfl (Nat.succ_ne_zero _)) ?_ | refine dq rfl rfl (qr_fieldAddr_rp rfl (Nat.succ_ne_zero _)) ?_ | refine dq rfl rfl (qr_fieldAddr_row rfl (Nat.succ_ne_zero _)) ?_
              first | refine dq rfl rfl (qr_load_one rfl rfl) ?_ | refine dq rfl rfl (qr_load_pp_one rfl rfl) ?_ | refine dq rfl rfl (qr_load_rp_one rfl (by assumption) rfl) ?_
              first | refine dq rfl rfl (qr_len_list rfl) ?_ | refine dq rfl rfl (qr_len_row rfl) ?_
              refine dnil ⟨rfl, ?_⟩
              refine dalloc_s rfl ?_
              refine dalloc_s rfl ?_
              refine dalloc_s rfl ?_
              refine dalloc_s rfl ?_
              refine dalloc_s rfl ?_
              refine dalloc_s rfl ?_
              refine dalloc_s rfl ?_
              refine dalloc_s rfl ?_
              refine dalloc_s rfl ?_
              refine dalloc_s rfl ?_
              refine dalloc_s rfl ?_
              refine dalloc_s rfl ?_
              refine dalloc_s rfl ?_
              refine dalloc_s rfl ?_
              refine dalloc_s rfl ?_
              refine dalloc_s rfl ?_
              refine dalloc_s rfl ?_
              refine dalloc_s rfl ?_
              refine dalloc_s rfl ?_
              refine dalloc_s rfl ?_
              refine dalloc_nil ?_
              first | refine qq rfl rfl (qr_cmp (c := false) rfl rfl (congrArg some (decide_eq_false (by rw [List.length_map]; omega)))) ?_ | refine qq rfl rfl (qr_cmp (c := true) rfl rfl (congrArg some (decide_eq_true (by rw [List.length_map]; omega)))) ?_
              refine qq rfl rfl (qr_move rfl) ?_
              refine qs rfl rfl ?_
              refine qs rfl rfl ?_
              refine qs rfl rfl ?_
              first | refine qq rfl rfl (qr_pick_t rfl rfl) ?_ | refine qq rfl rfl (qr_pick_f rfl rfl) ?_ | refine qq rfl rfl (qr_pick_b rfl rfl rfl) ?_
              first | refine qq rfl rfl (qr_pick_t rfl rfl) ?_ | refine qq rfl rfl (qr_pick_f rfl rfl) ?_ | refine qq rfl rfl (qr_pick_b rfl rfl rfl) ?_
              refine aops_nil (thn_n ?_)
              exact (ent_sub (.cons _ _ _ rfl (.cons _ _ _ rfl (.cons _ _ _ rfl (.cons _ _ _ rfl (.cons _ _ _ rfl (.cons _ _ _ rfl (.cons _ _ _ rfl (.cons _ _ _ rfl (.cons _ _ _ rfl (.cons _ _ _ rfl (.nil))))))))))))
            · refine dq rfl rfl (qr_move rfl) ?_
              refine ds rfl rfl ?_
              refine ds rfl rfl ?_
              refine ds rfl rfl ?_
              refine ds rfl rfl ?_
              refine ds rfl rfl ?_
              refine ds rfl rfl ?_
              refine ds rfl rfl ?_
              refine ds rfl rfl ?_
              first | refine dq rfl rfl (qr_pick_t rfl rfl) ?_ | refine dq rfl rfl (qr_pick_f rfl rfl) ?_ | refine dq rfl rfl (qr_pick_b rfl rfl rfl) ?_
              refine dq rfl rfl (qr_move rfl) ?_
              refine dq rfl rfl (qr_move rfl) ?_
              first | refine dq rfl rfl (qr_fieldAddr rfl (Nat.succ_ne_zero _)) ?_ | refine dq rfl rfl (qr_fieldAddr_pp rfl (Nat.succ_ne_zero _)) ?_ | refine dq rfl rfl (qr_fieldAddr_rp rfl (Nat.succ_ne_zero _)) ?_ | refine dq rfl rfl (qr_fieldAddr_row rfl (Nat.succ_ne_zero _)) ?_
              first | refine dq rfl rfl (qr_load_one rfl rfl) ?_ | refine dq rfl rfl (qr_load_pp_one rfl rfl) ?_ | refine dq rfl rfl (qr_load_rp_one rfl (by assumption) rfl) ?_
              first | refine dq rfl rfl (qr_len_list rfl) ?_ | refine dq rfl rfl (qr_len_row rfl) ?_
              refine dnil ⟨rfl, ?_⟩
              refine dalloc_s rfl ?_
              refine dalloc_s rfl ?_
              refine dalloc_s rfl ?_
              refine dalloc_s rfl ?_
              refine dalloc_s rfl ?_
              refine dalloc_s rfl ?_
              refine dalloc_s rfl ?_
              refine dalloc_s rfl ?_
              refine dalloc_s rfl ?_
              refine dalloc_s rfl ?_
              refine dalloc_s rfl ?_
              refine dalloc_s rfl ?_
              refine dalloc_s rfl ?_
              refine dalloc_s rfl ?_
              refine dalloc_s rfl ?_
              refine dalloc_s rfl ?_
              refine dalloc_s rfl ?_
              refine dalloc_s rfl ?_
              refine dalloc_s rfl ?_
              refine dalloc_s rfl ?_
              refine dalloc_nil ?_
              first | refine qq rfl rfl (qr_cmp (c := false) rfl rfl (congrArg some (decide_eq_false (by rw [List.length_map]; omega)))) ?_ | refine qq rfl rfl (qr_cmp (c := true) rfl rfl (congrArg some (decide_eq_true (by rw [List.length_map]; omega)))) ?_
              refine qq rfl rfl (qr_move rfl) ?_
              first | refine qq rfl rfl (qr_fieldAddr rfl (Nat.succ_ne_zero _)) ?_ | refine qq rfl rfl (qr_fieldAddr_pp rfl (Nat.succ_ne_zero _)) ?_ | refine qq rfl rfl (qr_fieldAddr_rp rfl (Nat.succ_ne_zero _)) ?_ | refine qq rfl rfl (qr_fieldAddr_row rfl (Nat.succ_ne_zero _)) ?_
              first | refine qq rfl rfl (qr_load_one rfl rfl) ?_ | refine qq rfl rfl (qr_load_pp_one rfl rfl) ?_ | refine qq rfl rfl (qr_load_rp_one rfl (by assumption) rfl) ?_
              refine qq rfl rfl (qr_cmp (c := false) rfl rfl (by rw [hat.2 (by omega)]; rfl)) ?_
              first | refine qq rfl rfl (qr_pick_t rfl rfl) ?_ | refine qq rfl rfl (qr_pick_f rfl rfl) ?_ | refine qq rfl rfl (qr_pick_b rfl rfl rfl) ?_
              first | refine qq rfl rfl (qr_pick_t rfl rfl) ?_ | refine qq rfl rfl (qr_pick_f rfl rfl) ?_ | refine qq rfl rfl (qr_pick_b rfl rfl rfl) ?_
              refine aops_nil (thn_n ?_)
              exact (ent_sub (.cons _ _ _ rfl (.cons _ _ _ rfl (.cons _ _ _ rfl (.cons _ _ _ rfl (.cons _ _ _ rfl (.cons _ _ _ rfl (.cons _ _ _ rfl (.cons _ _ _ rfl (.cons _ _ _ rfl (.cons _ _ _ rfl (.nil))))))))))))
          · refine aw_cond rfl (fun hc90 => ?_) (fun hc90 => ?_)
            · exact absurd hc90 (by decide)
            · refine aw_skip ?_
              refine thn_n ?_
              refine aw_cutE (fun es1' => MB es1' (fun t => begunL ((complH (fewH x)).evs.take (k + 1)) t)) (fun es1' => ⟨[(10, .v (.pointer (some ⟨b10, 0, none⟩))), (59, iv k), (58, iv ((complH (fewH x)).evs.map evR).length), (57, evsA (complH (fewH x)).evs), (7, .v (.map (some b54))), (8, .v (.map (some b55))), (1, .v (.pointer (some ⟨b1, 0, none⟩))), (3, .v (.pointer (some ⟨b3, 0, none⟩))), (4, .v (.pointer (some ⟨b4, 0, none⟩)))], .box b10 40 (evR e) :: .map b55 (encM intK es2) :: .map b54 (encM intK es1') :: .box b6 28 (histC (complH (fewH x))) :: .box b4 28 (histC (complH (fewH x))) :: .box b3 28 (histC (fewH x)) :: .box b1 28 (histC x) :: .glob 0 71 limitsC :: .glob 1 129 firstC :: .glob 2 133 acceptC :: [], []⟩) ?_ ?_
              · refine aw_region ?_
                refine qq rfl rfl (qr_move rfl) ?_
                first | refine qq rfl rfl (qr_fieldAddr rfl (Nat.succ_ne_zero _)) ?_ | refine qq rfl rfl (qr_fieldAddr_pp rfl (Nat.succ_ne_zero _)) ?_ | refine qq rfl rfl (qr_fieldAddr_rp rfl (Nat.succ_ne_zero _)) ?_ | refine qq rfl rfl (qr_fieldAddr_row rfl (Nat.succ_ne_zero _)) ?_
                first | refine qq rfl rfl (qr_load_one rfl rfl) ?_ | refine qq rfl rfl (qr_load_pp_one rfl rfl) ?_ | refine qq rfl rfl (qr_load_rp_one rfl (by assumption) rfl) ?_
                refine qq rfl rfl (qr_move rfl) ?_
                first | refine qq rfl rfl (qr_fieldAddr rfl (Nat.succ_ne_zero _)) ?_ | refine qq rfl rfl (qr_fieldAddr_pp rfl (Nat.succ_ne_zero _)) ?_ | refine qq rfl rfl (qr_fieldAddr_rp rfl (Nat.succ_ne_zero _)) ?_ | refine qq rfl rfl (qr_fieldAddr_row rfl (Nat.succ_ne_zero _)) ?_
                first | refine qq rfl rfl (qr_load_one rfl rfl) ?_ | refine qq rfl rfl (qr_load_pp_one rfl rfl) ?_ | refine qq rfl rfl (qr_load_rp_one rfl (by assumption) rfl) ?_
                refine qq rfl rfl (qr_lookup (enc := intK) (k := e.t) rfl rfl (hm1.2 e.t)) ?_
                refine qq rfl rfl (qr_move rfl) ?_
                refine asplit (fun hg16_7 => ?_) (fun hg16_7 => ?_)
                · refine qs rfl rfl ?_
                  refine qs rfl rfl ?_
                  refine qs rfl rfl ?_
                  first | refine qq rfl rfl (qr_pick_t rfl rfl) ?_ | refine qq rfl rfl (qr_pick_f rfl rfl) ?_ | refine qq rfl rfl (qr_pick_b rfl rfl rfl) ?_
                  refine aops_e rfl (oe_mapUpdate (enc := intK) (k := e.t) rfl rfl rfl ?_)
                  refine aops_nil (thn_n ?_)
                  first
                    | exact ⟨_, hm1.upd (k := e.t) (b := true) (by simp only [htk]; rw [begun_eq, show begunL ((complH (fewH x)).evs.take k) e.t = true from hg16_7]; rfl) (fun t ht => by simp only [htk]; exact begun_ne ht), (ent_sub (.cons _ _ _ rfl (.cons _ _ _ rfl (.cons _ _ _ rfl (.cons _ _ _ rfl (.cons _ _ _ rfl (.cons _ _ _ rfl (.cons _ _ _ rfl (.cons _ _ _ rfl (.cons _ _ _ rfl (.nil)))))))))))⟩
                    | exact ⟨_, hm1.upd (k := e.t) (b := (e.kind == 1)) (by simp only [htk]; rw [begun_eq, show begunL ((complH (fewH x)).evs.take k) e.t = false from hg16_7]; rfl) (fun t ht => by simp only [htk]; exact begun_ne ht), (ent_sub (.cons _ _ _ rfl (.cons _ _ _ rfl (.cons _ _ _ rfl (.cons _ _ _ rfl (.cons _ _ _ rfl (.cons _ _ _ rfl (.cons _ _ _ rfl (.cons _ _ _ rfl (.cons _ _ _ rfl (.nil)))))))))))⟩
                · first | refine qq rfl rfl (qr_fieldAddr rfl (Nat.succ_ne_zero _)) ?_ | refine qq rfl rfl (qr_fieldAddr_pp rfl (Nat.succ_ne_zero _)) ?_ | refine qq rfl rfl (qr_fieldAddr_rp rfl (Nat.succ_ne_zero _)) ?_ | refine qq rfl rfl (qr_fieldAddr_row rfl (Nat.succ_ne_zero _)) ?_
                  first | refine qq rfl rfl (qr_load_one rfl rfl) ?_ | refine qq rfl rfl (qr_load_pp_one rfl rfl) ?_ | refine qq rfl rfl (qr_load_rp_one rfl (by assumption) rfl) ?_
                  refine qq rfl rfl (qr_cmp rfl rfl rfl) ?_
                  first | refine qq rfl rfl (qr_pick_t rfl rfl) ?_ | refine qq rfl rfl (qr_pick_f rfl rfl) ?_ | refine qq rfl rfl (qr_pick_b rfl rfl rfl) ?_
                  refine aops_e rfl (oe_mapUpdate (enc := intK) (k := e.t) rfl rfl rfl ?_)
                  refine aops_nil (thn_n ?_)
                  first
                    | exact ⟨_, hm1.upd (k := e.t) (b := true) (by simp only [htk]; rw [begun_eq, show begunL ((complH (fewH x)).evs.take k) e.t = true from hg16_7]; rfl) (fun t ht => by simp only [htk]; exact begun_ne ht), (ent_sub (.cons _ _ _ rfl (.cons _ _ _ rfl (.cons _ _ _ rfl (.cons _ _ _ rfl (.cons _ _ _ rfl (.cons _ _ _ rfl (.cons _ _ _ rfl (.cons _ _ _ rfl (.cons _ _ _ rfl (.nil)))))))))))⟩
                    | exact ⟨_, hm1.upd (k := e.t) (b := (e.kind == 1)) (by simp only [htk]; rw [begun_eq, show begunL ((complH (fewH x)).evs.take k) e.t = false from hg16_7]; rfl) (fun t ht => by simp only [htk]; exact begun_ne ht), (ent_sub (.cons _ _ _ rfl (.cons _ _ _ rfl (.cons _ _ _ rfl (.cons _ _ _ rfl (.cons _ _ _ rfl (.cons _ _ _ rfl (.cons _ _ _ rfl (.cons _ _ _ rfl (.cons _ _ _ rfl (.nil)))))))))))⟩
              · intro es1' hm1'
                refine aw_region ?_
                refine qq rfl rfl (qr_move rfl) ?_
                first | refine qq rfl rfl (qr_fieldAddr rfl (Nat.succ_ne_zero _)) ?_ | refine qq rfl rfl (qr_fieldAddr_pp rfl (Nat.succ_ne_zero _)) ?_ | refine qq rfl rfl (qr_fieldAddr_rp rfl (Nat.succ_ne_zero _)) ?_ | refine qq rfl rfl (qr_fieldAddr_row rfl (Nat.succ_ne_zero _)) ?_
                first | refine qq rfl rfl (qr_load_one rfl rfl) ?_ | refine qq rfl rfl (qr_load_pp_one rfl rfl) ?_ | refine qq rfl rfl (qr_load_rp_one rfl (by assumption) rfl) ?_
                refine qq rfl rfl (qr_move rfl) ?_
                first | refine qq rfl rfl (qr_fieldAddr rfl (Nat.succ_ne_zero _)) ?_ | refine qq rfl rfl (qr_fieldAddr_pp rfl (Nat.succ_ne_zero _)) ?_ | refine qq rfl rfl (qr_fieldAddr_rp rfl (Nat.succ_ne_zero _)) ?_ | refine qq rfl rfl (qr_fieldAddr_row rfl (Nat.succ_ne_zero _)) ?_
                first | refine qq rfl rfl (qr_load_one rfl rfl) ?_ | refine qq rfl rfl (qr_load_pp_one rfl rfl) ?_ | refine qq rfl rfl (qr_load_rp_one rfl (by assumption) rfl) ?_
                refine qq rfl rfl (qr_lookup (enc := intK) (k := e.t) rfl rfl (hm2.2 e.t)) ?_
                refine qq rfl rfl (qr_move rfl) ?_
                refine asplit (fun hg17_7 => ?_) (fun hg17_7 => ?_)
                · refine qs rfl rfl ?_
                  refine qs rfl rfl ?_
                  refine qs rfl rfl ?_
                  first | refine qq rfl rfl (qr_pick_t rfl rfl) ?_ | refine qq rfl rfl (qr_pick_f rfl rfl) ?_ | refine qq rfl rfl (qr_pick_b rfl rfl rfl) ?_
                  refine qq rfl rfl (qr_move rfl) ?_
                  refine qs rfl rfl ?_
                  refine qs rfl rfl ?_
                  refine qs rfl rfl ?_
                  first | refine qq rfl rfl (qr_pick_t rfl rfl) ?_ | refine qq rfl rfl (qr_pick_f rfl rfl) ?_ | refine qq rfl rfl (qr_pick_b rfl rfl rfl) ?_
                  refine aops_e rfl (oe_mapUpdate (enc := intK) (k := e.t) rfl rfl rfl ?_)
                  refine aops_nil ?_
                  refine inBlk_n ?_
                  refine thn_n ?_
                  refine aw_region ?_
                  refine qq rfl rfl (qr_ari rfl rfl rfl (by omega)) ?_
                  refine qq rfl rfl (qr_move rfl) ?_
                  refine aops_nil (thn_n ?_)
                  exact ⟨(k + 1, es1', _), ⟨by omega, hm1', hm2.upd (k := e.t) (b := true) (by simp only [htk]; rw [over_eq, show overL ((complH (fewH x)).evs.take k) e.t = true from hg17_7]; rfl) (fun t ht => by simp only [htk]; exact over_ne ht)⟩, (ent_trans (ent_drop (h1 := [_])) (ent_sub (.cons _ _ _ rfl (.cons _ _ _ rfl (.cons _ _ _ rfl (.cons _ _ _ rfl (.cons _ _ _ rfl (.cons _ _ _ rfl (.cons _ _ _ rfl (.cons _ _ _ rfl (.nil))))))))))), by simp only; omega⟩
                · first | refine qq rfl rfl (qr_fieldAddr rfl (Nat.succ_ne_zero _)) ?_ | refine qq rfl rfl (qr_fieldAddr_pp rfl (Nat.succ_ne_zero _)) ?_ | refine qq rfl rfl (qr_fieldAddr_rp rfl (Nat.succ_ne_zero _)) ?_ | refine qq rfl rfl (qr_fieldAddr_row rfl (Nat.succ_ne_zero _)) ?_
                  first | refine qq rfl rfl (qr_load_one rfl rfl) ?_ | refine qq rfl rfl (qr_load_pp_one rfl rfl) ?_ | refine qq rfl rfl (qr_load_rp_one rfl (by assumption) rfl) ?_
                  refine qq rfl rfl (qr_cmp rfl rfl rfl) ?_
                  first | refine qq rfl rfl (qr_pick_t rfl rfl) ?_ | refine qq rfl rfl (qr_pick_f rfl rfl) ?_ | refine qq rfl rfl (qr_pick_b rfl rfl rfl) ?_
                  refine qq rfl rfl (qr_move rfl) ?_
                  refine asplit (fun hg17_12 => ?_) (fun hg17_12 => ?_)
                  · refine qs rfl rfl ?_
                    refine qs rfl rfl ?_
                    refine qs rfl rfl ?_
                    first | refine qq rfl rfl (qr_pick_t rfl rfl) ?_ | refine qq rfl rfl (qr_pick_f rfl rfl) ?_ | refine qq rfl rfl (qr_pick_b rfl rfl rfl) ?_
                    refine aops_e rfl (oe_mapUpdate (enc := intK) (k := e.t) rfl rfl rfl ?_)
                    refine aops_nil ?_
                    refine inBlk_n ?_
                    refine thn_n ?_
                    refine aw_region ?_
                    refine qq rfl rfl (qr_ari rfl rfl rfl (by omega)) ?_
                    refine qq rfl rfl (qr_move rfl) ?_
                    refine aops_nil (thn_n ?_)
                    exact ⟨(k + 1, es1', _), ⟨by omega, hm1', hm2.upd (k := e.t) (b := true) (by simp only [htk]; rw [over_eq, show overL ((complH (fewH x)).evs.take k) e.t = false from hg17_7, hg17_12]; rfl) (fun t ht => by simp only [htk]; exact over_ne ht)⟩, (ent_trans (ent_drop (h1 := [_])) (ent_sub (.cons _ _ _ rfl (.cons _ _ _ rfl (.cons _ _ _ rfl (.cons _ _ _ rfl (.cons _ _ _ rfl (.cons _ _ _ rfl (.cons _ _ _ rfl (.cons _ _ _ rfl (.nil))))))))))), by simp only; omega⟩
                  · first | refine qq rfl rfl (qr_fieldAddr rfl (Nat.succ_ne_zero _)) ?_ | refine qq rfl rfl (qr_fieldAddr_pp rfl (Nat.succ_ne_zero _)) ?_ | refine qq rfl rfl (qr_fieldAddr_rp rfl (Nat.succ_ne_zero _)) ?_ | refine qq rfl rfl (qr_fieldAddr_row rfl (Nat.succ_ne_zero _)) ?_
                    first | refine qq rfl rfl (qr_load_one rfl rfl) ?_ | refine qq rfl rfl (qr_load_pp_one rfl rfl) ?_ | refine qq rfl rfl (qr_load_rp_one rfl (by assumption) rfl) ?_
                    refine qq rfl rfl (qr_cmp rfl rfl rfl) ?_
                    first | refine qq rfl rfl (qr_pick_t rfl rfl) ?_ | refine qq rfl rfl (qr_pick_f rfl rfl) ?_ | refine qq rfl rfl (qr_pick_b rfl rfl rfl) ?_
                    refine aops_e rfl (oe_mapUpdate (enc := intK) (k := e.t) rfl rfl rfl ?_)
                    refine aops_nil ?_
                    refine inBlk_n ?_
                    refine thn_n ?_
                    refine aw_region ?_
                    refine qq rfl rfl (qr_ari rfl rfl rfl (by omega)) ?_
                    refine qq rfl rfl (qr_move rfl) ?_
                    refine aops_nil (thn_n ?_)
                    exact ⟨(k + 1, es1', _), ⟨by omega, hm1', hm2.upd (k := e.t) (b := (e.kind == 6)) (by simp only [htk]; rw [over_eq, show overL ((complH (fewH x)).evs.take k) e.t = false from hg17_7, hg17_12]; rfl) (fun t ht => by simp only [htk]; exact over_ne ht)⟩, (ent_trans (ent_drop (h1 := [_])) (ent_sub (.cons _ _ _ rfl (.cons _ _ _ rfl (.cons _ _ _ rfl (.cons _ _ _ rfl (.cons _ _ _ rfl (.cons _ _ _ rfl (.cons _ _ _ rfl (.cons _ _ _ rfl (.nil))))))))))), by simp only; omega⟩
        · obtain rfl : k = (complH (fewH x)).evs.length := by
            have : ¬ k < (complH (fewH x)).evs.length := by simpa using hc60
            omega
          simp only [List.take_length] at hm1 hm2
          refine aw_exit ?_
          refine thn_e ?_
          refine thn_e ?_
          refine inBlk_hit ?_
          refine thn_n ?_
          refine aw_seq ?_
          refine aw_seq ?_
          refine aw_ent (ent_perm (pt1 _ _ _)) ?_
          refine aw_region ?_
          refine qq rfl rfl (qr_move rfl) ?_
          refine aops_e rfl (oe_range_map rfl rfl fun b122 => ?_)
          refine aops_nil (thn_n ?_)
          refine aw_block ?_
          refine aw_loop' (fun sn : List Nat => sn.Nodup ∧ ∀ i ∈ sn, i < es1.length) (fun sn => ⟨[(122, .v (.pointer (some ⟨b122, 0, none⟩))), (8, .v (.map (some b55)))], .mapr b54 (encM intK es1) b122 sn :: .map b55 (encM intK es2) :: .box b6 28 (histC (complH (fewH x))) :: .box b4 28 (histC (complH (fewH x))) :: .box b3 28 (histC (fewH x)) :: .box b1 28 (histC x) :: .glob 0 71 limitsC :: .glob 1 129 firstC :: .glob 2 133 acceptC :: [], []⟩) (fun sn => es1.length - sn.length) [] ⟨.nil, fun i hi => (by cases hi)⟩
            (ent_sub (.cons _ _ _ rfl (.cons _ _ _ rfl (.nil)))) ?_
          rintro sn ⟨hsn, hsl⟩
          refine aw_seq (aw_region ?_)
          refine aops_e rfl (oe_next_map rfl rfl (fun hall => ?_) (fun i hi hni => ?_))
          · refine qq rfl rfl (qr_extract rfl rfl) ?_
            refine aops_nil (thn_n ?_)
            refine aw_seq ?_
            refine aw_cond rfl (fun hc124 => ?_) (fun hc124 => ?_)
            · first | cases hc124 | exact absurd hc124 (by decide) | (exfalso; simp_all; done)
            · refine aw_exit ?_
              refine thn_e ?_
              refine thn_e ?_
              refine inBlk_hit ?_
              refine thn_n ?_
              refine aw_seq (aw_region ?_)
              refine qq rfl rfl (qr_assign rfl) ?_
              refine aops_nil (thn_n ?_)
              refine aw_ret ?_
              exact retq (.cons _ _ _ _ (.tmp _ _ rfl) .nil) (.drop [_, _, _, _, _, _] _ _) ⟨rfl, rfl⟩
          · refine qq rfl rfl (qr_extract rfl rfl) ?_
            refine aops_nil (thn_n ?_)
            refine aw_seq ?_
            refine aw_cond rfl (fun hc124 => ?_) (fun hc124 => ?_)
            · refine aw_skip ?_
              refine thn_n ?_
              refine aw_block ?_
              refine aw_seq (aw_region ?_)
              have hi2 : i < es1.length := by simpa [encM] using hi
              refine qq rfl rfl (qr_entryE (k := intK es1[i].1) (a := bv (begunL (complH (fewH x)).evs es1[i].1)) hi (by simp [encM]) (by have := hm1.at hi2; simpa [encM] using this) rfl) ?_
              refine qq rfl rfl (qr_extract rfl rfl) ?_
              refine qq rfl rfl (qr_extract rfl rfl) ?_
              refine qq rfl rfl (qr_assign rfl) ?_
              refine qq rfl rfl (qr_assign rfl) ?_
              refine aops_nil (thn_n ?_)
              refine aw_seq (aw_region ?_)
              refine qq rfl rfl (qr_move rfl) ?_
              refine qq rfl rfl (qr_move rfl) ?_
              refine asplit (fun hg22_1 => ?_) (fun hg22_1 => ?_)
              · refine qq rfl rfl (qr_move rfl) ?_
                refine qq rfl rfl (qr_move rfl) ?_
                refine qq rfl rfl (qr_lookup (enc := intK) (k := es1[i].1) (av := bv true) rfl rfl (by rw [hm2.2]; exact congrArg bv (compl_ended hc hg22_1))) ?_
                refine qq rfl rfl (qr_not rfl) ?_
                first | refine qq rfl rfl (qr_pick_t rfl rfl) ?_ | refine qq rfl rfl (qr_pick_f rfl rfl) ?_ | refine qq rfl rfl (qr_pick_b rfl rfl rfl) ?_
                refine aops_nil (thn_n ?_)
                refine aw_cond rfl (fun hc134 => ?_) (fun hc134 => ?_)
                · first | cases hc134 | exact absurd hc134 (by decide) | (exfalso; simp_all; done)
                · refine aw_skip ?_
                  refine inBlk_n ?_
                  refine thn_n ?_
                  have hi' : i < es1.length := by simpa [encM] using hi
                  have hnd : (i :: sn).Nodup := List.nodup_cons.2 ⟨hni, hsn⟩
                  have hall : ∀ j ∈ i :: sn, j < es1.length := fun j hj => (List.mem_cons.1 hj).elim (fun q => q ▸ hi') (hsl j)
                  have hlen := seen_len hnd hall
                  exact ⟨i :: sn, ⟨hnd, hall⟩, (ent_sub (.cons _ _ _ rfl (.cons _ _ _ rfl (.nil)))), by simp only [List.length_cons] at hlen ⊢; omega⟩
              · refine qs rfl rfl ?_
                refine qs rfl rfl ?_
                refine qs rfl rfl ?_
                refine qs rfl rfl ?_
                first | refine qq rfl rfl (qr_pick_t rfl rfl) ?_ | refine qq rfl rfl (qr_pick_f rfl rfl) ?_ | refine qq rfl rfl (qr_pick_b rfl rfl rfl) ?_
                refine aops_nil (thn_n ?_)
                refine aw_cond rfl (fun hc134 => ?_) (fun hc134 => ?_)
                · first | cases hc134 | exact absurd hc134 (by decide) | (exfalso; simp_all; done)
                · refine aw_skip ?_
                  refine inBlk_n ?_
                  refine thn_n ?_
                  have hi' : i < es1.length := by simpa [encM] using hi
                  have hnd : (i :: sn).Nodup := List.nodup_cons.2 ⟨hni, hsn⟩
                  have hall : ∀ j ∈ i :: sn, j < es1.length := fun j hj => (List.mem_cons.1 hj).elim (fun q => q ▸ hi') (hsl j)
                  have hlen := seen_len hnd hall
                  exact ⟨i :: sn, ⟨hnd, hall⟩, (ent_sub (.cons _ _ _ rfl (.cons _ _ _ rfl (.nil)))), by simp only [List.length_cons] at hlen ⊢; omega⟩
            · first | cases hc124 | exact absurd hc124 (by decide) | (exfalso; simp_all; done)
end Go.Proofs
