/- The walk of history.shaped. Conditions: none. -/
import Derived.Test.YtmbbjpoljcmhlaaGreatDoorEndsH
set_option linter.unusedSimpArgs false
set_option linter.unusedVariables false
set_option linter.unusedVariables false
set_option linter.unusedSimpArgs false
set_option maxRecDepth 10000
namespace Go.Proofs
open Go Go.Ab
attribute [local irreducible] QR QV OE aops aw dsoup dsoupM dalloc dallocM thn inBlk
open Go.H
theorem shaped (h : Hist) (la : Lim 4611686018427387904 h) : ACall Tryz.prog 76 [.agg (histC h)] [.glob 1 114 limitsC, .glob 2 235 firstC, .glob 3 238 acceptC] (fun r h' => h' = [.glob 1 114 limitsC, .glob 2 235 firstC, .glob 3 238 acceptC] ∧ r = bv (shapedB h)) := by
  refine acall_of_aw Tryz.func76 rfl rfl rfl ?_
  refine rn ?_
  refine aops_e rfl (oe_box rfl rfl rfl fun b1 => ?_)
  refine rn ?_
  refine aw_scope ?_
  refine aw_cut (⟨[(1, .v (.pointer (some ⟨b1, 0, none⟩))), (3, bv (okK h 0))], .box b1 28 (histC h) :: [.glob 1 114 limitsC, .glob 2 235 firstC, .glob 3 238 acceptC], []⟩) ?_ ?_
  · refine rn ?_
    refine asplit (fun hg1_4 => ?_) (fun hg1_4 => ?_)
    · refine rn ?_
      rw [show okK h 0 = _ from sizes_eq h, hg1_4]
      exact (ent_sub (.cons _ _ _ rfl (.cons _ _ _ rfl (.nil))))
    · refine rn ?_
      rw [show okK h 0 = _ from sizes_eq h, hg1_4]
      exact (ent_sub (.cons _ _ _ rfl (.cons _ _ _ rfl (.nil))))
  · refine aw_seq ?_
    refine aw_label ?_
    refine rn0 ?_
    refine aw_cut (⟨[(3, bv (okK h 4)), (1, .v (.pointer (some ⟨b1, 0, none⟩)))], .box b1 28 (histC h) :: [.glob 1 114 limitsC, .glob 2 235 firstC, .glob 3 238 acceptC], []⟩) ?_ ?_
    · refine rn ?_
      refine qv rfl rfl (qv_call rfl rfl (pcall (names _) (Sbs.refl _))) ?_
      refine rn ?_
      refine aw_loop' (fun k : Nat => k ≤ 4) (fun k => ⟨[(29, iv k), (28, .agg (namesC h)), (1, .v (.pointer (some ⟨b1, 0, none⟩))), (3, bv (okK h k))], .box b1 28 (histC h) :: [.glob 1 114 limitsC, .glob 2 235 firstC, .glob 3 238 acceptC], []⟩) (fun k => 4 - k) 0 (by omega)
        (ent_sub (.cons _ _ _ rfl (.cons _ _ _ rfl (.cons _ _ _ rfl (.cons _ _ _ rfl (.nil)))))) ?_
      rintro k hk
      refine rn ?_
      refine aw_cond rfl (fun hc30 => ?_) (fun hc30 => ?_)
      · have hk4 : k < 4 := by simp at hc30; omega
        refine aw_skip ?_
        refine thn_n ?_
        refine aw_seq ?_
        refine aw_block ?_
        refine aw_seq (aw_region ?_)
        refine q1 ?_
        refine qq rfl rfl (qr_index_arr_one rfl rfl (by omega) (by have := nmK_get h hk4; simpa using this)) ?_
        refine rn ?_
        refine aops_e rfl (oe_makeMap (enc := strK) rfl fun b33 => ?_)
        refine rn0 ?_
        refine aw_cut (⟨[(5, strsA (nmK h k)), (3, bv (okj h k 0)), (6, .v (.map (some b33))), (29, iv k), (28, .agg (namesC h)), (1, .v (.pointer (some ⟨b1, 0, none⟩)))], .map b33 (encM strK []) :: .box b1 28 (histC h) :: [.glob 1 114 limitsC, .glob 2 235 firstC, .glob 3 238 acceptC], []⟩) ?_ ?_
        · refine rn ?_
          refine asplit (fun hg6_1 => ?_) (fun hg6_1 => ?_)
          · refine q1 ?_
            refine q1 ?_
            refine q1 ?_
            refine qq rfl rfl (qr_indexAddr_arr rfl rfl (by omega)) ?_
            refine qq rfl rfl (qr_load_one rfl (limitsC_get hk4)) ?_
            refine rn ?_
            rw [okj_eq h k, hg6_1]
            first | exact (ent_sub (.cons _ _ _ rfl (.cons _ _ _ rfl (.cons _ _ _ rfl (.cons _ _ _ rfl (.cons _ _ _ rfl (.cons _ _ _ rfl (.nil)))))))) | (rw [Bool.true_and]; exact (ent_sub (.cons _ _ _ rfl (.cons _ _ _ rfl (.cons _ _ _ rfl (.cons _ _ _ rfl (.cons _ _ _ rfl (.cons _ _ _ rfl (.nil)))))))))
          · refine rn ?_
            rw [okj_eq h k, hg6_1]
            first | exact (ent_sub (.cons _ _ _ rfl (.cons _ _ _ rfl (.cons _ _ _ rfl (.cons _ _ _ rfl (.cons _ _ _ rfl (.cons _ _ _ rfl (.nil)))))))) | (rw [Bool.true_and]; exact (ent_sub (.cons _ _ _ rfl (.cons _ _ _ rfl (.cons _ _ _ rfl (.cons _ _ _ rfl (.cons _ _ _ rfl (.cons _ _ _ rfl (.nil)))))))))
        · refine rn ?_
          refine aw_loop' (fun j : Nat => j ≤ (nmK h k).length ∧ (0 < j → okj h k 0 = true) ∧ freshB [] (nmK h k) = freshB ((nmK h k).take j) ((nmK h k).drop j)) (fun j => ⟨[(45, iv j), (43, strsA (nmK h k)), (44, iv ((nmK h k).map strR).length), (3, bv (okj h k 0)), (6, .v (.map (some b33))), (29, iv k), (28, .agg (namesC h)), (1, .v (.pointer (some ⟨b1, 0, none⟩)))], .map b33 (encM strK (metM ((nmK h k).take j))) :: .box b1 28 (histC h) :: [.glob 1 114 limitsC, .glob 2 235 firstC, .glob 3 238 acceptC], []⟩) (fun j => (nmK h k).length - j) 0 ⟨by omega, by omega, by simp⟩
            (ent_sub (.cons _ _ _ rfl (.cons _ _ _ rfl (.cons _ _ _ rfl (.cons _ _ _ rfl (.cons _ _ _ rfl (.cons _ _ _ rfl (.cons _ _ _ rfl (.cons _ _ _ rfl (.nil)))))))))) ?_
          rintro j ⟨hj, hok, hf⟩
          have hlk := la.nm k
          refine rn ?_
          refine aw_cond rfl (fun hc46 => ?_) (fun hc46 => ?_)
          · have hj2 : j < (nmK h k).length := by simpa using hc46
            have hrow : (strsA (nmK h k)) = .list false 1 ((nmK h k).map strR) := rfl
            have hrow2 : ((nmK h k).map strR)[j]? = some (strR (nmK h k)[j]) := by simp [hj2]
            have hd := List.drop_eq_getElem_cons hj2
            refine aw_skip ?_
            refine rn0 ?_
            refine aw_seq ?_
            refine aw_block ?_
            refine aw_seq (aw_region ?_)
            refine rn0 ?_
            refine aw_seq ?_
            refine aw_cut (⟨[(3, bv (okj h k 0 && wordB (nmK h k)[j] && !memB (nmK h k)[j] ((nmK h k).take j))), (8, sv (nmK h k)[j]), (45, iv j), (43, strsA (nmK h k)), (44, iv ((nmK h k).map strR).length), (6, .v (.map (some b33))), (29, iv k), (28, .agg (namesC h)), (1, .v (.pointer (some ⟨b1, 0, none⟩)))], .map b33 (encM strK (metM ((nmK h k).take j))) :: .box b1 28 (histC h) :: [.glob 1 114 limitsC, .glob 2 235 firstC, .glob 3 238 acceptC], []⟩) ?_ ?_
            · refine rn ?_
              refine asplit (fun hg10_1 => ?_) (fun hg10_1 => ?_)
              · refine rn ?_
                refine qv rfl rfl (qv_call rfl rfl (FCall.qt (FCall.of_fun (word ((nmK h k)[j]))) ((pt3 _ _ _ _ _).trans (.cons _ (pt3 _ _ _ _ _))))) ?_
                refine rn ?_
                refine asplit (fun hg10_5 => ?_) (fun hg10_5 => ?_)
                · refine rn ?_
                  refine qq rfl rfl (qr_lookup (enc := strK) (k := (nmK h k)[j]) rfl rfl (lookM_metD _ _)) ?_
                  refine rn ?_
                  first | (rw [hg10_1, hg10_5]; exact (ent_sub (.cons _ _ _ rfl (.cons _ _ _ rfl (.cons _ _ _ rfl (.cons _ _ _ rfl (.cons _ _ _ rfl (.cons _ _ _ rfl (.cons _ _ _ rfl (.cons _ _ _ rfl (.cons _ _ _ rfl (.nil)))))))))))) | (rw [hg10_1]; exact (ent_sub (.cons _ _ _ rfl (.cons _ _ _ rfl (.cons _ _ _ rfl (.cons _ _ _ rfl (.cons _ _ _ rfl (.cons _ _ _ rfl (.cons _ _ _ rfl (.cons _ _ _ rfl (.cons _ _ _ rfl (.nil))))))))))))
                · refine rn ?_
                  first | (rw [hg10_1, hg10_5]; exact (ent_sub (.cons _ _ _ rfl (.cons _ _ _ rfl (.cons _ _ _ rfl (.cons _ _ _ rfl (.cons _ _ _ rfl (.cons _ _ _ rfl (.cons _ _ _ rfl (.cons _ _ _ rfl (.cons _ _ _ rfl (.nil)))))))))))) | (rw [hg10_1]; exact (ent_sub (.cons _ _ _ rfl (.cons _ _ _ rfl (.cons _ _ _ rfl (.cons _ _ _ rfl (.cons _ _ _ rfl (.cons _ _ _ rfl (.cons _ _ _ rfl (.cons _ _ _ rfl (.cons _ _ _ rfl (.nil))))))))))))
              · refine rn ?_
                first | (rw [hg10_1, hg10_5]; exact (ent_sub (.cons _ _ _ rfl (.cons _ _ _ rfl (.cons _ _ _ rfl (.cons _ _ _ rfl (.cons _ _ _ rfl (.cons _ _ _ rfl (.cons _ _ _ rfl (.cons _ _ _ rfl (.cons _ _ _ rfl (.nil)))))))))))) | (rw [hg10_1]; exact (ent_sub (.cons _ _ _ rfl (.cons _ _ _ rfl (.cons _ _ _ rfl (.cons _ _ _ rfl (.cons _ _ _ rfl (.cons _ _ _ rfl (.cons _ _ _ rfl (.cons _ _ _ rfl (.cons _ _ _ rfl (.nil))))))))))))
            · refine rn ?_
              refine aw_cond rfl (fun hc61 => ?_) (fun hc61 => ?_)
              · have hfl : (okj h k 0 && wordB (nmK h k)[j] && !memB (nmK h k)[j] ((nmK h k).take j)) = false := not_t hc61
                have hbad : okK h 4 = false := ok_bad hk4 (ok_or (hf.trans (by rw [hd])) hfl)
                refine rn ?_
                first
                  | exact (ent_sub (.cons _ _ _ rfl (.cons _ _ _ rfl (.nil))))
                  | (rw [hbad, ← hfl]; exact (ent_trans (ent_drop (h1 := [_])) (ent_sub (.cons _ _ _ rfl (.cons _ _ _ rfl (.nil))))))
              · obtain ⟨hok2, hw, hfresh⟩ := ok_and (not_f hc61)
                refine rn ?_
                refine aops_e rfl (oe_mapUpdate (enc := strK) (k := (nmK h k)[j]) rfl rfl rfl ?_)
                refine rn ?_
                have hu := updM_met ((nmK h k)[j]) ((nmK h k).take j) (memB_f.1 hfresh)
                rw [← List.take_succ_eq_append_getElem hj2] at hu
                exact ⟨j + 1, ⟨by omega, fun _ => hok2, by rw [hf, hd, freshB, hw, List.take_succ_eq_append_getElem hj2]; simp [hfresh]⟩, by simp only [hu, hok2, hw, hfresh, Bool.true_and, Bool.not_false]; exact (ent_sub (.cons _ _ _ rfl (.cons _ _ _ rfl (.cons _ _ _ rfl (.cons _ _ _ rfl (.cons _ _ _ rfl (.cons _ _ _ rfl (.cons _ _ _ rfl (.cons _ _ _ rfl (.nil)))))))))), by omega⟩
          · have hj3 : j = (nmK h k).length := by
              have : (nmK h k).length ≤ j := by simpa using hc46
              omega
            refine rn ?_
            have hend := ok_end (h := h) (k := k) (by rw [hf, hj3, List.drop_length]; rfl)
            exact ⟨k + 1, by omega, by rw [← hend]; exact (ent_trans (ent_drop (h1 := [_])) (ent_sub (.cons _ _ _ rfl (.cons _ _ _ rfl (.cons _ _ _ rfl (.cons _ _ _ rfl (.nil))))))), by omega⟩
      · have hk4 : k = 4 := by simp at hc30; omega
        subst hk4
        refine rn ?_
        first
          | exact (ent_sub (.cons _ _ _ rfl (.cons _ _ _ rfl (.nil))))
          | (rw [hbad, ← hfl]; exact (ent_trans (ent_drop (h1 := [_])) (ent_sub (.cons _ _ _ rfl (.cons _ _ _ rfl (.nil))))))
    · refine rn ?_
      refine aops_e rfl (oe_alloc rfl fun b9 => ?_)
      refine rn ?_
      refine asplit (fun hg16_1 => ?_) (fun hg16_1 => ?_)
      · refine rn ?_
        refine qv rfl rfl (qv_call rfl rfl (FCall.of_fun (allEv h.evs (.fn (.func 135) [] [.v (.pointer (some ⟨b1, 0, none⟩))]) (eventB h) (.box b9 53 [.fn (.func 130) [] [.v (.pointer (some ⟨b1, 0, none⟩))]] :: .box b1 28 (histC h) :: [.glob 1 114 limitsC, .glob 2 235 firstC, .glob 3 238 acceptC]) rfl (fun e he => FCall.qt (FCall.of_acall (fs := []) (cs := [.v (.pointer (some ⟨b1, 0, none⟩))]) (shaped2 h b1 e (la.scans e he))) (pt1 _ _ _)) la.evs))) ?_
        refine rn ?_
        refine asplit (fun hg16_7 => ?_) (fun hg16_7 => ?_)
        · refine rn ?_
          refine qv rfl rfl (qv_call rfl rfl (FCall.of_fun (allOrd h.ords (.fn (.func 138) [] [.v (.pointer (some ⟨b1, 0, none⟩)), .v (.pointer (some ⟨b9, 0, none⟩))]) (ordB h) (.box b9 53 [.fn (.func 130) [] [.v (.pointer (some ⟨b1, 0, none⟩))]] :: .box b1 28 (histC h) :: [.glob 1 114 limitsC, .glob 2 235 firstC, .glob 3 238 acceptC]) rfl (fun e he => FCall.qt (FCall.of_acall (fs := []) (cs := [.v (.pointer (some ⟨b1, 0, none⟩)), .v (.pointer (some ⟨b9, 0, none⟩))]) (shaped3 h b1 b9 e (la.ordts e he))) (pt1 _ _ _)) la.ords))) ?_
          refine rn ?_
          refine asplit (fun hg16_13 => ?_) (fun hg16_13 => ?_)
          · refine rn ?_
            refine qv rfl rfl (qv_call rfl rfl (FCall.of_fun (allMat h.mats (.fn (.func 140) [] [.v (.pointer (some ⟨b1, 0, none⟩)), .v (.pointer (some ⟨b9, 0, none⟩))]) (matB h) (.box b9 53 [.fn (.func 130) [] [.v (.pointer (some ⟨b1, 0, none⟩))]] :: .box b1 28 (histC h) :: [.glob 1 114 limitsC, .glob 2 235 firstC, .glob 3 238 acceptC]) rfl (fun e he => FCall.qt (FCall.of_acall (fs := []) (cs := [.v (.pointer (some ⟨b1, 0, none⟩)), .v (.pointer (some ⟨b9, 0, none⟩))]) (shaped4 h b1 b9 e (la.matts e he))) (pt1 _ _ _)) la.mats))) ?_
            refine rn ?_
            refine asplit (fun hg16_19 => ?_) (fun hg16_19 => ?_)
            · refine rn ?_
              refine qv rfl rfl (qv_call rfl rfl (FCall.of_fun (allWan h.wants (.fn (.func 142) [] [.v (.pointer (some ⟨b1, 0, none⟩))]) (wanB h) (.box b9 53 [.fn (.func 130) [] [.v (.pointer (some ⟨b1, 0, none⟩))]] :: .box b1 28 (histC h) :: [.glob 1 114 limitsC, .glob 2 235 firstC, .glob 3 238 acceptC]) rfl (fun e he => FCall.qt (FCall.of_acall (fs := []) (cs := [.v (.pointer (some ⟨b1, 0, none⟩))]) (shaped5 h b1 e)) (pt1 _ _ _)) la.wants))) ?_
              refine rn ?_
              refine ⟨fun l h => (by cases h), ?_⟩
              exact retq (.cons _ _ _ _ (.tmp _ _ rfl) .nil) (.drop [_, _] _ _) ⟨rfl, congrArg bv (by first | (simp only [shapedB, *, Bool.true_and, Bool.false_and, Bool.and_false, Bool.and_true, Bool.true_or, Bool.or_false, Bool.false_or, Bool.or_true, if_true, if_false, Bool.false_eq_true, Bool.not_true, Bool.not_false]; done) | (simp_all [shapedB]; done))⟩
            · refine rn ?_
              refine ⟨fun l h => (by cases h), ?_⟩
              exact retq (.cons _ _ _ _ (.tmp _ _ rfl) .nil) (.drop [_, _] _ _) ⟨rfl, congrArg bv (by first | (simp only [shapedB, *, Bool.true_and, Bool.false_and, Bool.and_false, Bool.and_true, Bool.true_or, Bool.or_false, Bool.false_or, Bool.or_true, if_true, if_false, Bool.false_eq_true, Bool.not_true, Bool.not_false]; done) | (simp_all [shapedB]; done))⟩
          · refine rn ?_
            refine ⟨fun l h => (by cases h), ?_⟩
            exact retq (.cons _ _ _ _ (.tmp _ _ rfl) .nil) (.drop [_, _] _ _) ⟨rfl, congrArg bv (by first | (simp only [shapedB, *, Bool.true_and, Bool.false_and, Bool.and_false, Bool.and_true, Bool.true_or, Bool.or_false, Bool.false_or, Bool.or_true, if_true, if_false, Bool.false_eq_true, Bool.not_true, Bool.not_false]; done) | (simp_all [shapedB]; done))⟩
        · refine rn ?_
          refine ⟨fun l h => (by cases h), ?_⟩
          exact retq (.cons _ _ _ _ (.tmp _ _ rfl) .nil) (.drop [_, _] _ _) ⟨rfl, congrArg bv (by first | (simp only [shapedB, *, Bool.true_and, Bool.false_and, Bool.and_false, Bool.and_true, Bool.true_or, Bool.or_false, Bool.false_or, Bool.or_true, if_true, if_false, Bool.false_eq_true, Bool.not_true, Bool.not_false]; done) | (simp_all [shapedB]; done))⟩
      · refine rn ?_
        refine ⟨fun l h => (by cases h), ?_⟩
        exact retq (.cons _ _ _ _ (.tmp _ _ rfl) .nil) (.drop [_, _] _ _) ⟨rfl, congrArg bv (by first | (simp only [shapedB, *, Bool.true_and, Bool.false_and, Bool.and_false, Bool.and_true, Bool.true_or, Bool.or_false, Bool.false_or, Bool.or_true, if_true, if_false, Bool.false_eq_true, Bool.not_true, Bool.not_false]; done) | (simp_all [shapedB]; done))⟩
end Go.Proofs
/- The walk of history.spoken, reading. Conditions: none. -/
set_option linter.unusedVariables false
set_option linter.unusedSimpArgs false
set_option maxRecDepth 10000
namespace Go.Proofs
open Go Go.Ab
attribute [local irreducible] QR QV OE aops aw dsoup dsoupM dalloc dallocM thn inBlk
open Go.H
theorem sayR {σ : Type} (step : σ → Nat × Int → Option σ) (ok : Nat × Int → Prop) (IJ : Option σ → List Res → Prop) (y : AV) (hy : ∀ (s : σ) (L : List Res) (sort : Nat) (n : Int) (cells : List AV), ok (sort, n) → IJ (some s) L → FCall Tryz.prog y [iv sort, .pp (iv n :: cells)] L (fun r h' => r = bv (step s (sort, n)).isSome ∧ IJ (step s (sort, n)) h')) (sort : Nat) (n : Int) (hs : ok (sort, n)) (cells : List AV) (bm by_ : Nat) (st : Option σ) (L : List Res) (hI : IJ st L) : ACall Tryz.prog 144 [iv sort, .pp (iv n :: cells), .v (.pointer (some ⟨bm, 0, none⟩)), .v (.pointer (some ⟨by_, 0, none⟩))] (.box bm 4 [bv (st).isSome] :: .box by_ 177 [y] :: L) (fun r h' => ∃ L', IJ (goes step st [(sort, n)]) L' ∧ h' = .box bm 4 [bv (goes step st [(sort, n)]).isSome] :: .box by_ 177 [y] :: L') := by
  refine acall_of_aw Tryz.func144 rfl rfl rfl ?_
  refine rn ?_
  refine asplit (fun hg0_1 => ?_) (fun hg0_1 => ?_)
  · refine rn ?_
    obtain ⟨s, rfl⟩ := Option.isSome_iff_exists.1 hg0_1
    refine aops_e rfl (oe_call rfl rfl (FCall.fr2 (hy s L sort n cells hs hI)) rfl ?_)
    rintro _ _ ⟨L2, rfl, rfl, hI2⟩
    refine rn ?_
    first
      | exact retq_n .nil (.refl _ _) ⟨L2, hI2, rfl⟩
      | (obtain rfl := Option.not_isSome_iff_eq_none.1 (show ¬ st.isSome = true by simp [hg0_1])
         exact retq_n .nil (.refl _ _) ⟨L, hI, rfl⟩)
  · refine rn ?_
    first
      | exact retq_n .nil (.refl _ _) ⟨L2, hI2, rfl⟩
      | (obtain rfl := Option.not_isSome_iff_eq_none.1 (show ¬ st.isSome = true by simp [hg0_1])
         exact retq_n .nil (.refl _ _) ⟨L, hI, rfl⟩)
theorem madeR {σ : Type} (step : σ → Nat × Int → Option σ) (ok : Nat × Int → Prop) (IJ : Option σ → List Res → Prop) (y : AV) (hy : ∀ (s : σ) (L : List Res) (sort : Nat) (n : Int) (cells : List AV), ok (sort, n) → IJ (some s) L → FCall Tryz.prog y [iv sort, .pp (iv n :: cells)] L (fun r h' => r = bv (step s (sort, n)).isSome ∧ IJ (step s (sort, n)) h')) (v : Ver) (hv : ∀ x ∈ madeL v, ok x) (cells : List AV) (bs bm by_ : Nat) (st : Option σ) (L : List Res) (hI : IJ st L) : ACall Tryz.prog 145 [.pp (iv v.t :: iv v.k :: cells), .v (.pointer (some ⟨bs, 0, none⟩))] (.box bs 178 [.fn (.func 144) [] [.v (.pointer (some ⟨bm, 0, none⟩)), .v (.pointer (some ⟨by_, 0, none⟩))]] :: .box bm 4 [bv (st).isSome] :: .box by_ 177 [y] :: L) (fun r h' => ∃ L', IJ (goes step st (madeL v)) L' ∧ h' = .box bs 178 [.fn (.func 144) [] [.v (.pointer (some ⟨bm, 0, none⟩)), .v (.pointer (some ⟨by_, 0, none⟩))]] :: .box bm 4 [bv (goes step st (madeL v)).isSome] :: .box by_ 177 [y] :: L') := by
  refine acall_of_aw Tryz.func145 rfl rfl rfl ?_
  refine rn ?_
  refine aw_cond rfl (fun hc7 => ?_) (fun hc7 => ?_)
  · refine aw_draw 4 rfl ?_
    refine rn ?_
    refine aops_e rfl (oe_call rfl rfl (FCall.fr1 (FCall.of_acall (fs := []) (cs := [.v (.pointer (some ⟨bm, 0, none⟩)), .v (.pointer (some ⟨by_, 0, none⟩))]) (sayR step ok IJ y hy 0 v.t (hv _ (by rw [madeL, if_pos hc7]; simp)) (iv v.k :: cells) bm by_ _ _ hI))) rfl ?_)
    rintro _ _ ⟨_, rfl, L2, hI2, rfl⟩
    refine rn ?_
    first
      | (have hm : madeL v = [(0, v.t)] := by rw [madeL, if_pos hc7]
         rw [hm]; exact retq_n .nil (.refl _ _) ⟨L2, hI2, rfl⟩)
      | (have hm : madeL v = [] := by rw [madeL, if_neg (by rw [hc7]; decide)]
         rw [hm]; exact retq_n .nil (.refl _ _) ⟨L, hI, rfl⟩)
  · refine rn ?_
    first
      | (have hm : madeL v = [(0, v.t)] := by rw [madeL, if_pos hc7]
         rw [hm]; exact retq_n .nil (.refl _ _) ⟨L2, hI2, rfl⟩)
      | (have hm : madeL v = [] := by rw [madeL, if_neg (by rw [hc7]; decide)]
         rw [hm]; exact retq_n .nil (.refl _ _) ⟨L, hI, rfl⟩)
theorem spokenR {σ : Type} (step : σ → Nat × Int → Option σ) (ok : Nat × Int → Prop) (IJ : Option σ → List Res → Prop) (y : AV) (hone : y.cellsOf = some [y]) (hy : ∀ (s : σ) (L : List Res) (sort : Nat) (n : Int) (cells : List AV), ok (sort, n) → IJ (some s) L → FCall Tryz.prog y [iv sort, .pp (iv n :: cells)] L (fun r h' => r = bv (step s (sort, n)).isSome ∧ IJ (step s (sort, n)) h')) (h : Hist) (la : Lim 4611686018427387904 h) (b1 bh : Nat) (hok : ∀ x ∈ spokenL h, ok x) (s0 : σ) (L0 : List Res) (h0 : IJ (some s0) L0) : ACall Tryz.prog 143 [y, .v (.pointer (some ⟨b1, 0, none⟩))] (.box b1 124 [.v (.pointer (some ⟨bh, 0, none⟩))] :: .box bh 28 (histC h) :: L0) (fun r h' => ∃ L', IJ (goes step (some s0) (spokenL h)) L' ∧ h' = .box b1 124 [.v (.pointer (some ⟨bh, 0, none⟩))] :: .box bh 28 (histC h) :: L') := by
  refine acall_of_aw Tryz.func143 rfl rfl rfl ?_
  refine rn ?_
  refine aops_e rfl (oe_box rfl hone rfl fun by_ => ?_)
  refine rn ?_
  refine aops_e rfl (oe_alloc rfl fun bm => ?_)
  refine rn ?_
  refine aops_e rfl (oe_alloc rfl fun bs => ?_)
  refine rn ?_
  refine aw_loop' (fun x : Nat × Option σ × List Res => x.1 ≤ h.evs.length ∧ IJ x.2.1 x.2.2 ∧ Rem step ok x.2.1 (((h.evs.drop x.1).flatMap evL) ++ (h.ords.flatMap ordL ++ (h.mats.flatMap matL ++ h.wants.flatMap wanL))) (goes step (some s0) (spokenL h))) (fun x => ⟨[(22, iv x.1), (21, iv (h.evs.map evR).length), (1, .v (.pointer (some ⟨b1, 0, none⟩))), (4, .v (.pointer (some ⟨bs, 0, none⟩))), (5, .fn (.func 145) [] [.v (.pointer (some ⟨bs, 0, none⟩))])], .box b1 124 [.v (.pointer (some ⟨bh, 0, none⟩))] :: .box bh 28 (histC h) :: .box bs 178 [.fn (.func 144) [] [.v (.pointer (some ⟨bm, 0, none⟩)), .v (.pointer (some ⟨by_, 0, none⟩))]] :: .box bm 4 [bv (x.2.1).isSome] :: .box by_ 177 [y] :: x.2.2, []⟩) (fun x => h.evs.length - x.1) (0, some s0, L0) ⟨by omega, h0, rfl, hok⟩
    (ent_trans (ent_perm ((pt3 _ _ _ _ _).trans (.cons _ (pt3 _ _ _ _ _)))) (ent_sub (.cons _ _ _ rfl (.cons _ _ _ rfl (.cons _ _ _ rfl (.cons _ _ _ rfl (.cons _ _ _ rfl (.nil)))))))) ?_
  rintro ⟨k, st, L⟩ ⟨hk, hI, hF⟩
  simp only at hk hI hF
  refine rn ?_
  refine aw_cond rfl (fun hc23 => ?_) (fun hc23 => ?_)
  · have k2 : k < h.evs.length := by simpa using hc23
    obtain ⟨e, he⟩ : ∃ e, e = h.evs[k] := ⟨_, rfl⟩
    have hrowe : (h.evs.map evR)[k]? = some (evR e) := by rw [he]; simp [k2]
    have hde := List.drop_eq_getElem_cons k2
    rw [hde, ← he] at hF
    simp only [List.flatMap_cons, evL, List.cons_append, List.append_assoc] at hF
    obtain ⟨hx, hF⟩ := hF.cons
    obtain ⟨hkx, hF⟩ := hF.app
    have hle := la.evs
    have hls := la.scans e (by rw [he]; simp)
    refine rn ?_
    refine aw_draw 4 rfl ?_
    refine rn ?_
    refine aops_e rfl (oe_call rfl rfl (FCall.fr3 (FCall.of_acall (fs := []) (cs := [.v (.pointer (some ⟨bm, 0, none⟩)), .v (.pointer (some ⟨by_, 0, none⟩))]) (sayR step ok IJ y hy 0 e.t hx _ bm by_ _ _ hI))) rfl ?_)
    rintro _ _ ⟨_, rfl, L, hI, rfl⟩
    refine rn0 ?_
    refine aw_cutE (fun L => IJ (goes step (goes step st [(0, e.t)]) (kindL e)) L) (fun L => ⟨[(7, .pp (evR e)), (22, iv k), (21, iv (h.evs.map evR).length), (1, .v (.pointer (some ⟨b1, 0, none⟩))), (4, .v (.pointer (some ⟨bs, 0, none⟩))), (5, .fn (.func 145) [] [.v (.pointer (some ⟨bs, 0, none⟩))])], .box b1 124 [.v (.pointer (some ⟨bh, 0, none⟩))] :: .box bh 28 (histC h) :: .box bs 178 [.fn (.func 144) [] [.v (.pointer (some ⟨bm, 0, none⟩)), .v (.pointer (some ⟨by_, 0, none⟩))]] :: .box bm 4 [bv (goes step (goes step st [(0, e.t)]) (kindL e)).isSome] :: .box by_ 177 [y] :: L, []⟩) ?_ ?_
    · refine rn ?_
      refine aw_cond rfl (fun hc40 => ?_) (fun hc40 => ?_)
      · have hkl := kindL_1 (e := e) (by simpa using hc40)
        refine aw_draw 4 rfl ?_
        refine rn ?_
        refine aops_e rfl (oe_call rfl rfl (FCall.fr3 (FCall.of_acall (fs := []) (cs := [.v (.pointer (some ⟨bm, 0, none⟩)), .v (.pointer (some ⟨by_, 0, none⟩))]) (sayR step ok IJ y hy 1 e.s (hkx _ (by rw [hkl]; simp)) _ bm by_ _ _ hI))) rfl ?_)
        rintro _ _ ⟨_, rfl, L, hI, rfl⟩
        refine rn ?_
        refine ⟨L, ?_, ?_⟩
        · show IJ (goes step _ (kindL e)) L
          rw [hkl]; exact hI
        · rw [hkl]; exact (ent_sub (.cons _ _ _ rfl (.cons _ _ _ rfl (.cons _ _ _ rfl (.cons _ _ _ rfl (.cons _ _ _ rfl (.cons _ _ _ rfl (.nil))))))))
      · have hn1 : e.kind ≠ 1 := by simpa using hc40
        refine rn ?_
        refine aw_cond rfl (fun hc47 => ?_) (fun hc47 => ?_)
        · have hk23 : e.kind = 2 ∨ e.kind = 3 := by simp at hc47; omega
          have hkl := kindL_2 hk23
          refine rn ?_
          refine aw_cond rfl (fun hc47 => ?_) (fun hc47 => ?_)
          · have hk23 : e.kind = 2 ∨ e.kind = 3 := by simp at hc47; omega
            have hkl := kindL_2 hk23
            refine rn ?_
            refine aw_draw 4 rfl ?_
            refine rn ?_
            refine aops_e rfl (oe_call rfl rfl (FCall.fr3 (FCall.of_acall (fs := []) (cs := [.v (.pointer (some ⟨bm, 0, none⟩)), .v (.pointer (some ⟨by_, 0, none⟩))]) (sayR step ok IJ y hy 2 e.o (hkx _ (by rw [hkl]; simp)) _ bm by_ _ _ hI))) rfl ?_)
            rintro _ _ ⟨_, rfl, L, hI, rfl⟩
            refine rn ?_
            refine aops_e rfl (oe_call rfl rfl (FCall.fr2 (FCall.of_acall (fs := []) (cs := [.v (.pointer (some ⟨bs, 0, none⟩))]) (madeR step ok IJ y hy e.v (fun x hx => hkx x (by rw [hkl]; simp [hx])) _ bs bm by_ _ _ hI))) rfl ?_)
            rintro _ _ ⟨_, rfl, L, hI, rfl⟩
            refine rn ?_
            refine ⟨L, ?_, ?_⟩
            · show IJ (goes step _ (kindL e)) L
              rw [hkl]; exact hI
            · rw [hkl]; exact (ent_sub (.cons _ _ _ rfl (.cons _ _ _ rfl (.cons _ _ _ rfl (.cons _ _ _ rfl (.cons _ _ _ rfl (.cons _ _ _ rfl (.nil))))))))
          · first | cases hc47 | exact absurd hc47 (by decide) | (exfalso; simp_all; done)
        · have hn23 := hc47
          simp at hn23
          refine rn ?_
          refine aw_cond rfl (fun hc47 => ?_) (fun hc47 => ?_)
          · have hk23 : e.kind = 2 ∨ e.kind = 3 := by simp at hc47; omega
            have hkl := kindL_2 hk23
            refine rn ?_
            refine aw_draw 4 rfl ?_
            refine rn ?_
            refine aops_e rfl (oe_call rfl rfl (FCall.fr3 (FCall.of_acall (fs := []) (cs := [.v (.pointer (some ⟨bm, 0, none⟩)), .v (.pointer (some ⟨by_, 0, none⟩))]) (sayR step ok IJ y hy 2 e.o (hkx _ (by rw [hkl]; simp)) _ bm by_ _ _ hI))) rfl ?_)
            rintro _ _ ⟨_, rfl, L, hI, rfl⟩
            refine rn ?_
            refine aops_e rfl (oe_call rfl rfl (FCall.fr2 (FCall.of_acall (fs := []) (cs := [.v (.pointer (some ⟨bs, 0, none⟩))]) (madeR step ok IJ y hy e.v (fun x hx => hkx x (by rw [hkl]; simp [hx])) _ bs bm by_ _ _ hI))) rfl ?_)
            rintro _ _ ⟨_, rfl, L, hI, rfl⟩
            refine rn ?_
            refine ⟨L, ?_, ?_⟩
            · show IJ (goes step _ (kindL e)) L
              rw [hkl]; exact hI
            · rw [hkl]; exact (ent_sub (.cons _ _ _ rfl (.cons _ _ _ rfl (.cons _ _ _ rfl (.cons _ _ _ rfl (.cons _ _ _ rfl (.cons _ _ _ rfl (.nil))))))))
          · have hn23 := hc47
            simp at hn23
            refine rn ?_
            refine aw_cond rfl (fun hc60 => ?_) (fun hc60 => ?_)
            · have hkl := kindL_4 (e := e) (by simpa using hc60)
              refine aw_draw 4 rfl ?_
              refine rn ?_
              refine aops_e rfl (oe_call rfl rfl (FCall.fr3 (FCall.of_acall (fs := []) (cs := [.v (.pointer (some ⟨bm, 0, none⟩)), .v (.pointer (some ⟨by_, 0, none⟩))]) (sayR step ok IJ y hy 3 e.p (hkx _ (by rw [hkl]; simp)) _ bm by_ _ _ hI))) rfl ?_)
              rintro _ _ ⟨_, rfl, L, hI, rfl⟩
              refine rn ?_
              refine ⟨L, ?_, ?_⟩
              · show IJ (goes step _ (kindL e)) L
                rw [hkl]; exact hI
              · rw [hkl]; exact (ent_sub (.cons _ _ _ rfl (.cons _ _ _ rfl (.cons _ _ _ rfl (.cons _ _ _ rfl (.cons _ _ _ rfl (.cons _ _ _ rfl (.nil))))))))
            · have hn4 : e.kind ≠ 4 := by simpa using hc60
              have hkl := kindL_0 (e := e) hn1 (by omega) (by omega) hn4
              refine rn ?_
              refine ⟨L, ?_, ?_⟩
              · show IJ (goes step _ (kindL e)) L
                rw [hkl]; exact hI
              · rw [hkl]; exact (ent_sub (.cons _ _ _ rfl (.cons _ _ _ rfl (.cons _ _ _ rfl (.cons _ _ _ rfl (.cons _ _ _ rfl (.cons _ _ _ rfl (.nil))))))))
    · rintro L hI
      revert hI hF
      generalize goes step (goes step st [(0, e.t)]) (kindL e) = st2
      intro hF hI
      refine rn ?_
      refine aw_loop' (fun x : Nat × Option σ × List Res => x.1 ≤ e.scan.length ∧ IJ x.2.1 x.2.2 ∧ Rem step ok x.2.1 (((e.scan.drop x.1).flatMap seenL) ++ (((h.evs.drop (k + 1)).flatMap evL) ++ (h.ords.flatMap ordL ++ (h.mats.flatMap matL ++ h.wants.flatMap wanL)))) (goes step (some s0) (spokenL h))) (fun x => ⟨[(72, iv x.1), (71, iv (e.scan.map seenR).length), (7, .pp (evR e)), (22, iv k), (21, iv (h.evs.map evR).length), (1, .v (.pointer (some ⟨b1, 0, none⟩))), (4, .v (.pointer (some ⟨bs, 0, none⟩))), (5, .fn (.func 145) [] [.v (.pointer (some ⟨bs, 0, none⟩))])], .box b1 124 [.v (.pointer (some ⟨bh, 0, none⟩))] :: .box bh 28 (histC h) :: .box bs 178 [.fn (.func 144) [] [.v (.pointer (some ⟨bm, 0, none⟩)), .v (.pointer (some ⟨by_, 0, none⟩))]] :: .box bm 4 [bv (x.2.1).isSome] :: .box by_ 177 [y] :: x.2.2, []⟩) (fun x => e.scan.length - x.1) (0, st2, L) ⟨by omega, hI, hF⟩
        (ent_sub (.cons _ _ _ rfl (.cons _ _ _ rfl (.cons _ _ _ rfl (.cons _ _ _ rfl (.cons _ _ _ rfl (.cons _ _ _ rfl (.cons _ _ _ rfl (.cons _ _ _ rfl (.nil)))))))))) ?_
      rintro ⟨j, st, L⟩ ⟨hj, hI, hF⟩
      simp only at hj hI hF
      refine rn ?_
      refine aw_cond rfl (fun hc73 => ?_) (fun hc73 => ?_)
      · have j2 : j < e.scan.length := by simpa using hc73
        obtain ⟨x, hx⟩ : ∃ x, x = e.scan[j] := ⟨_, rfl⟩
        have hrowx : (e.scan.map seenR)[j]? = some (seenR x) := by rw [hx]; simp [j2]
        have hdx := List.drop_eq_getElem_cons j2
        rw [hdx, ← hx] at hF
        simp only [List.flatMap_cons, seenL, List.cons_append, List.append_assoc] at hF
        obtain ⟨hx, hF⟩ := hF.cons
        obtain ⟨hkx, hF⟩ := hF.app
        refine rn ?_
        refine aw_draw 8 rfl ?_
        refine rn ?_
        refine aops_e rfl (oe_call rfl rfl (FCall.fr3 (FCall.of_acall (fs := []) (cs := [.v (.pointer (some ⟨bm, 0, none⟩)), .v (.pointer (some ⟨by_, 0, none⟩))]) (sayR step ok IJ y hy 2 x.o hx _ bm by_ _ _ hI))) rfl ?_)
        rintro _ _ ⟨_, rfl, L, hI, rfl⟩
        refine rn ?_
        refine aops_e rfl (oe_call rfl rfl (FCall.fr2 (FCall.of_acall (fs := []) (cs := [.v (.pointer (some ⟨bs, 0, none⟩))]) (madeR step ok IJ y hy x.v hkx _ bs bm by_ _ _ hI))) rfl ?_)
        rintro _ _ ⟨_, rfl, L, hI, rfl⟩
        refine rn ?_
        exact ⟨(j + 1, _, L), ⟨by omega, hI, hF⟩, (ent_sub (.cons _ _ _ rfl (.cons _ _ _ rfl (.cons _ _ _ rfl (.cons _ _ _ rfl (.cons _ _ _ rfl (.cons _ _ _ rfl (.cons _ _ _ rfl (.cons _ _ _ rfl (.nil)))))))))), by simp only; omega⟩
      · obtain rfl : j = e.scan.length := by
          have : e.scan.length ≤ j := by simpa using hc73
          omega
        rw [List.drop_length, List.flatMap_nil, List.nil_append] at hF
        refine rn ?_
        exact ⟨(k + 1, _, L), ⟨by omega, hI, hF⟩, (ent_sub (.cons _ _ _ rfl (.cons _ _ _ rfl (.cons _ _ _ rfl (.cons _ _ _ rfl (.cons _ _ _ rfl (.nil))))))), by simp only; omega⟩
  · obtain rfl : k = h.evs.length := by
      have : h.evs.length ≤ k := by simpa using hc23
      omega
    rw [List.drop_length, List.flatMap_nil, List.nil_append] at hF
    refine rn ?_
    refine aw_loop' (fun x : Nat × Option σ × List Res => x.1 ≤ h.ords.length ∧ IJ x.2.1 x.2.2 ∧ Rem step ok x.2.1 (((h.ords.drop x.1).flatMap ordL) ++ (h.mats.flatMap matL ++ h.wants.flatMap wanL)) (goes step (some s0) (spokenL h))) (fun x => ⟨[(100, iv x.1), (99, iv (h.ords.map ordR).length), (1, .v (.pointer (some ⟨b1, 0, none⟩))), (4, .v (.pointer (some ⟨bs, 0, none⟩))), (5, .fn (.func 145) [] [.v (.pointer (some ⟨bs, 0, none⟩))])], .box b1 124 [.v (.pointer (some ⟨bh, 0, none⟩))] :: .box bh 28 (histC h) :: .box bs 178 [.fn (.func 144) [] [.v (.pointer (some ⟨bm, 0, none⟩)), .v (.pointer (some ⟨by_, 0, none⟩))]] :: .box bm 4 [bv (x.2.1).isSome] :: .box by_ 177 [y] :: x.2.2, []⟩) (fun x => h.ords.length - x.1) (0, st, L) ⟨by omega, hI, hF⟩
      (ent_sub (.cons _ _ _ rfl (.cons _ _ _ rfl (.cons _ _ _ rfl (.cons _ _ _ rfl (.cons _ _ _ rfl (.nil))))))) ?_
    rintro ⟨k, st, L⟩ ⟨hk, hI, hF⟩
    simp only at hk hI hF
    refine rn ?_
    refine aw_cond rfl (fun hc101 => ?_) (fun hc101 => ?_)
    · have k2 : k < h.ords.length := by simpa using hc101
      obtain ⟨r, hr⟩ : ∃ r, r = h.ords[k] := ⟨_, rfl⟩
      have hrowr : (h.ords.map ordR)[k]? = some (ordR r) := by rw [hr]; simp [k2]
      have hdr := List.drop_eq_getElem_cons k2
      rw [hdr, ← hr] at hF
      simp only [List.flatMap_cons, ordL, List.cons_append, List.append_assoc] at hF
      obtain ⟨hx, hF⟩ := hF.cons
      have hle := la.ords
      have hls := la.ordts r (by rw [hr]; simp)
      refine rn ?_
      refine aw_draw 8 rfl ?_
      refine rn ?_
      refine aops_e rfl (oe_call rfl rfl (FCall.fr3 (FCall.of_acall (fs := []) (cs := [.v (.pointer (some ⟨bm, 0, none⟩)), .v (.pointer (some ⟨by_, 0, none⟩))]) (sayR step ok IJ y hy 2 r.o hx _ bm by_ _ _ hI))) rfl ?_)
      rintro _ _ ⟨_, rfl, L, hI, rfl⟩
      refine rn ?_
      refine aw_loop' (fun x : Nat × Option σ × List Res => x.1 ≤ r.ts.length ∧ IJ x.2.1 x.2.2 ∧ Rem step ok x.2.1 (((r.ts.drop x.1).map fun t => ((0 : Nat), t)) ++ (((h.ords.drop (k + 1)).flatMap ordL) ++ (h.mats.flatMap matL ++ h.wants.flatMap wanL))) (goes step (some s0) (spokenL h))) (fun x => ⟨[(121, iv x.1), (120, iv (r.ts.map intR).length), (9, iv k), (100, iv k), (99, iv (h.ords.map ordR).length), (1, .v (.pointer (some ⟨b1, 0, none⟩))), (4, .v (.pointer (some ⟨bs, 0, none⟩))), (5, .fn (.func 145) [] [.v (.pointer (some ⟨bs, 0, none⟩))])], .box b1 124 [.v (.pointer (some ⟨bh, 0, none⟩))] :: .box bh 28 (histC h) :: .box bs 178 [.fn (.func 144) [] [.v (.pointer (some ⟨bm, 0, none⟩)), .v (.pointer (some ⟨by_, 0, none⟩))]] :: .box bm 4 [bv (x.2.1).isSome] :: .box by_ 177 [y] :: x.2.2, []⟩) (fun x => r.ts.length - x.1) (0, _, L) ⟨by omega, hI, hF⟩
        (ent_sub (.cons _ _ _ rfl (.cons _ _ _ rfl (.cons _ _ _ rfl (.cons _ _ _ rfl (.cons _ _ _ rfl (.cons _ _ _ rfl (.cons _ _ _ rfl (.cons _ _ _ rfl (.nil)))))))))) ?_
      rintro ⟨j, st, L⟩ ⟨hj, hI, hF⟩
      simp only at hj hI hF
      refine rn ?_
      refine aw_cond rfl (fun hc122 => ?_) (fun hc122 => ?_)
      · have j2 : j < r.ts.length := by simpa using hc122
        obtain ⟨t, ht⟩ : ∃ t, t = r.ts[j] := ⟨_, rfl⟩
        have hrowt : (r.ts.map intR)[j]? = some (intR t) := by rw [ht]; simp [j2]
        have hdt := List.drop_eq_getElem_cons j2
        rw [hdt, ← ht] at hF
        simp only [List.map_cons, List.cons_append] at hF
        obtain ⟨hx, hF⟩ := hF.cons
        refine rn ?_
        refine aw_draw 11 rfl ?_
        refine rn ?_
        refine aops_e rfl (oe_call rfl rfl (FCall.fr3 (FCall.of_acall (fs := []) (cs := [.v (.pointer (some ⟨bm, 0, none⟩)), .v (.pointer (some ⟨by_, 0, none⟩))]) (sayR step ok IJ y hy 0 t hx _ bm by_ _ _ hI))) rfl ?_)
        rintro _ _ ⟨_, rfl, L, hI, rfl⟩
        refine rn ?_
        exact ⟨(j + 1, _, L), ⟨by omega, hI, hF⟩, (ent_sub (.cons _ _ _ rfl (.cons _ _ _ rfl (.cons _ _ _ rfl (.cons _ _ _ rfl (.cons _ _ _ rfl (.cons _ _ _ rfl (.cons _ _ _ rfl (.cons _ _ _ rfl (.nil)))))))))), by simp only; omega⟩
      · obtain rfl : j = r.ts.length := by
          have : r.ts.length ≤ j := by simpa using hc122
          omega
        rw [List.drop_length, List.map_nil, List.nil_append] at hF
        refine rn ?_
        exact ⟨(k + 1, _, L), ⟨by omega, hI, hF⟩, (ent_sub (.cons _ _ _ rfl (.cons _ _ _ rfl (.cons _ _ _ rfl (.cons _ _ _ rfl (.cons _ _ _ rfl (.nil))))))), by simp only; omega⟩
    · obtain rfl : k = h.ords.length := by
        have : h.ords.length ≤ k := by simpa using hc101
        omega
      rw [List.drop_length, List.flatMap_nil, List.nil_append] at hF
      refine rn ?_
      refine aw_loop' (fun x : Nat × Option σ × List Res => x.1 ≤ h.mats.length ∧ IJ x.2.1 x.2.2 ∧ Rem step ok x.2.1 (((h.mats.drop x.1).flatMap matL) ++ h.wants.flatMap wanL) (goes step (some s0) (spokenL h))) (fun x => ⟨[(143, iv x.1), (142, iv (h.mats.map matR).length), (1, .v (.pointer (some ⟨b1, 0, none⟩))), (4, .v (.pointer (some ⟨bs, 0, none⟩))), (5, .fn (.func 145) [] [.v (.pointer (some ⟨bs, 0, none⟩))])], .box b1 124 [.v (.pointer (some ⟨bh, 0, none⟩))] :: .box bh 28 (histC h) :: .box bs 178 [.fn (.func 144) [] [.v (.pointer (some ⟨bm, 0, none⟩)), .v (.pointer (some ⟨by_, 0, none⟩))]] :: .box bm 4 [bv (x.2.1).isSome] :: .box by_ 177 [y] :: x.2.2, []⟩) (fun x => h.mats.length - x.1) (0, st, L) ⟨by omega, hI, hF⟩
        (ent_sub (.cons _ _ _ rfl (.cons _ _ _ rfl (.cons _ _ _ rfl (.cons _ _ _ rfl (.cons _ _ _ rfl (.nil))))))) ?_
      rintro ⟨k, st, L⟩ ⟨hk, hI, hF⟩
      simp only at hk hI hF
      refine rn ?_
      refine aw_cond rfl (fun hc144 => ?_) (fun hc144 => ?_)
      · have k2 : k < h.mats.length := by simpa using hc144
        obtain ⟨r, hr⟩ : ∃ r, r = h.mats[k] := ⟨_, rfl⟩
        have hrowr : (h.mats.map matR)[k]? = some (matR r) := by rw [hr]; simp [k2]
        have hdr := List.drop_eq_getElem_cons k2
        rw [hdr, ← hr] at hF
        simp only [List.flatMap_cons, matL, List.cons_append, List.append_assoc] at hF
        obtain ⟨hx, hF⟩ := hF.cons
        obtain ⟨hx2, hF⟩ := hF.cons
        have hle := la.mats
        have hls := la.matts r (by rw [hr]; simp)
        refine rn ?_
        refine aw_draw 4 rfl ?_
        refine rn ?_
        refine aops_e rfl (oe_call rfl rfl (FCall.fr3 (FCall.of_acall (fs := []) (cs := [.v (.pointer (some ⟨bm, 0, none⟩)), .v (.pointer (some ⟨by_, 0, none⟩))]) (sayR step ok IJ y hy 3 r.p hx _ bm by_ _ _ hI))) rfl ?_)
        rintro _ _ ⟨_, rfl, L, hI, rfl⟩
        refine rn ?_
        refine aw_draw 4 rfl ?_
        refine rn ?_
        refine aops_e rfl (oe_call rfl rfl (FCall.fr3 (FCall.of_acall (fs := []) (cs := [.v (.pointer (some ⟨bm, 0, none⟩)), .v (.pointer (some ⟨by_, 0, none⟩))]) (sayR step ok IJ y hy 2 r.o hx2 _ bm by_ _ _ hI))) rfl ?_)
        rintro _ _ ⟨_, rfl, L, hI, rfl⟩
        refine rn ?_
        refine aw_loop' (fun x : Nat × Option σ × List Res => x.1 ≤ r.ts.length ∧ IJ x.2.1 x.2.2 ∧ Rem step ok x.2.1 (((r.ts.drop x.1).map fun t => ((0 : Nat), t)) ++ (((h.mats.drop (k + 1)).flatMap matL) ++ h.wants.flatMap wanL)) (goes step (some s0) (spokenL h))) (fun x => ⟨[(167, iv x.1), (166, iv (r.ts.map intR).length), (12, .pp (matR r)), (143, iv k), (142, iv (h.mats.map matR).length), (1, .v (.pointer (some ⟨b1, 0, none⟩))), (4, .v (.pointer (some ⟨bs, 0, none⟩))), (5, .fn (.func 145) [] [.v (.pointer (some ⟨bs, 0, none⟩))])], .box b1 124 [.v (.pointer (some ⟨bh, 0, none⟩))] :: .box bh 28 (histC h) :: .box bs 178 [.fn (.func 144) [] [.v (.pointer (some ⟨bm, 0, none⟩)), .v (.pointer (some ⟨by_, 0, none⟩))]] :: .box bm 4 [bv (x.2.1).isSome] :: .box by_ 177 [y] :: x.2.2, []⟩) (fun x => r.ts.length - x.1) (0, _, L) ⟨by omega, hI, hF⟩
          (ent_sub (.cons _ _ _ rfl (.cons _ _ _ rfl (.cons _ _ _ rfl (.cons _ _ _ rfl (.cons _ _ _ rfl (.cons _ _ _ rfl (.cons _ _ _ rfl (.cons _ _ _ rfl (.nil)))))))))) ?_
        rintro ⟨j, st, L⟩ ⟨hj, hI, hF⟩
        simp only at hj hI hF
        refine rn ?_
        refine aw_cond rfl (fun hc168 => ?_) (fun hc168 => ?_)
        · have j2 : j < r.ts.length := by simpa using hc168
          obtain ⟨t, ht⟩ : ∃ t, t = r.ts[j] := ⟨_, rfl⟩
          have hrowt : (r.ts.map intR)[j]? = some (intR t) := by rw [ht]; simp [j2]
          have hdt := List.drop_eq_getElem_cons j2
          rw [hdt, ← ht] at hF
          simp only [List.map_cons, List.cons_append] at hF
          obtain ⟨hx, hF⟩ := hF.cons
          refine rn ?_
          refine aw_draw 7 rfl ?_
          refine rn ?_
          refine aops_e rfl (oe_call rfl rfl (FCall.fr3 (FCall.of_acall (fs := []) (cs := [.v (.pointer (some ⟨bm, 0, none⟩)), .v (.pointer (some ⟨by_, 0, none⟩))]) (sayR step ok IJ y hy 0 t hx _ bm by_ _ _ hI))) rfl ?_)
          rintro _ _ ⟨_, rfl, L, hI, rfl⟩
          refine rn ?_
          exact ⟨(j + 1, _, L), ⟨by omega, hI, hF⟩, (ent_sub (.cons _ _ _ rfl (.cons _ _ _ rfl (.cons _ _ _ rfl (.cons _ _ _ rfl (.cons _ _ _ rfl (.cons _ _ _ rfl (.cons _ _ _ rfl (.cons _ _ _ rfl (.nil)))))))))), by simp only; omega⟩
        · obtain rfl : j = r.ts.length := by
            have : r.ts.length ≤ j := by simpa using hc168
            omega
          rw [List.drop_length, List.map_nil, List.nil_append] at hF
          refine rn ?_
          exact ⟨(k + 1, _, L), ⟨by omega, hI, hF⟩, (ent_sub (.cons _ _ _ rfl (.cons _ _ _ rfl (.cons _ _ _ rfl (.cons _ _ _ rfl (.cons _ _ _ rfl (.nil))))))), by simp only; omega⟩
      · obtain rfl : k = h.mats.length := by
          have : h.mats.length ≤ k := by simpa using hc144
          omega
        rw [List.drop_length, List.flatMap_nil, List.nil_append] at hF
        refine rn ?_
        refine aw_loop' (fun x : Nat × Option σ × List Res => x.1 ≤ h.wants.length ∧ IJ x.2.1 x.2.2 ∧ Rem step ok x.2.1 (((h.wants.drop x.1).flatMap wanL) ++ []) (goes step (some s0) (spokenL h))) (fun x => ⟨[(185, iv x.1), (184, iv (h.wants.map wanR).length), (1, .v (.pointer (some ⟨b1, 0, none⟩))), (4, .v (.pointer (some ⟨bs, 0, none⟩))), (5, .fn (.func 145) [] [.v (.pointer (some ⟨bs, 0, none⟩))])], .box b1 124 [.v (.pointer (some ⟨bh, 0, none⟩))] :: .box bh 28 (histC h) :: .box bs 178 [.fn (.func 144) [] [.v (.pointer (some ⟨bm, 0, none⟩)), .v (.pointer (some ⟨by_, 0, none⟩))]] :: .box bm 4 [bv (x.2.1).isSome] :: .box by_ 177 [y] :: x.2.2, []⟩) (fun x => h.wants.length - x.1) (0, st, L) ⟨by omega, hI, by rw [List.append_nil]; exact hF⟩
          (ent_sub (.cons _ _ _ rfl (.cons _ _ _ rfl (.cons _ _ _ rfl (.cons _ _ _ rfl (.cons _ _ _ rfl (.nil))))))) ?_
        rintro ⟨k, st, L⟩ ⟨hk, hI, hF⟩
        simp only at hk hI hF
        refine rn ?_
        refine aw_cond rfl (fun hc186 => ?_) (fun hc186 => ?_)
        · have k2 : k < h.wants.length := by simpa using hc186
          obtain ⟨r, hr⟩ : ∃ r, r = h.wants[k] := ⟨_, rfl⟩
          have hrowr : (h.wants.map wanR)[k]? = some (wanR r) := by rw [hr]; simp [k2]
          have hdr := List.drop_eq_getElem_cons k2
          rw [hdr, ← hr] at hF
          simp only [List.flatMap_cons, wanL, List.cons_append, List.append_assoc, List.nil_append] at hF
          obtain ⟨hx, hF⟩ := hF.cons
          have hle := la.wants
          refine rn ?_
          refine aw_draw 8 rfl ?_
          refine rn ?_
          refine aops_e rfl (oe_call rfl rfl (FCall.fr3 (FCall.of_acall (fs := []) (cs := [.v (.pointer (some ⟨bm, 0, none⟩)), .v (.pointer (some ⟨by_, 0, none⟩))]) (sayR step ok IJ y hy 1 r.s hx _ bm by_ _ _ hI))) rfl ?_)
          rintro _ _ ⟨_, rfl, L, hI, rfl⟩
          refine rn ?_
          exact ⟨(k + 1, _, L), ⟨by omega, hI, hF⟩, (ent_sub (.cons _ _ _ rfl (.cons _ _ _ rfl (.cons _ _ _ rfl (.cons _ _ _ rfl (.cons _ _ _ rfl (.nil))))))), by simp only; omega⟩
        · obtain rfl : k = h.wants.length := by
            have : h.wants.length ≤ k := by simpa using hc186
            omega
          rw [List.drop_length, List.flatMap_nil, List.nil_append] at hF
          refine rn ?_
          have hF' : st = goes step (some s0) (spokenL h) := hF.fin
          exact retq_n .nil (.trans (.perm ((pt2 _ _ _ _).trans (.cons _ ((pt2 _ _ _ _).trans (.cons _ (pt2 _ _ _ _))))) _) (.drop [_, _, _] _ _)) ⟨L, hF' ▸ hI, rfl⟩
theorem spoken (bh : Nat) (h : List Res) : ACall Tryz.prog 79 [.v (.pointer (some ⟨bh, 0, none⟩))] h (fun r h' => ∃ b1, h' = .box b1 124 [.v (.pointer (some ⟨bh, 0, none⟩))] :: h ∧ r = .fn (.func 143) [] [.v (.pointer (some ⟨b1, 0, none⟩))]) := by
  refine acall_of_aw Tryz.func79 rfl rfl rfl ?_
  refine rn ?_
  refine aops_e rfl (oe_box rfl rfl rfl fun b1 => ?_)
  refine rn ?_
  exact retq (.cons _ _ _ _ (.tmp _ _ rfl) .nil) (.refl _ _) ⟨_, rfl, rfl⟩
end Go.Proofs
/- The walk of history.Check. Conditions: none. -/
set_option linter.unusedVariables false
set_option linter.unusedSimpArgs false
set_option maxRecDepth 10000
namespace Go.Proofs
open Go Go.Ab
attribute [local irreducible] QR QV OE aops aw dsoup dsoupM dalloc dallocM thn inBlk
open Go.H
def IJC (lp : LP) (q b2 b3 : Nat) : Option (List Int) → List Res → Prop
  | some m, L => L = lp .ready none :: .defs q :: .box b3 114 ((m).map iv) :: .box b2 33 [iv 0] :: [.glob 1 114 limitsC, .glob 2 235 firstC, .glob 3 238 acceptC] ∧ m.length = 4
  | none, L => ∃ m : List Int, L = lp .done (some .ret) :: .defs q :: .box b3 114 ((m).map iv) :: .box b2 33 [iv 210] :: [.glob 1 114 limitsC, .glob 2 235 firstC, .glob 3 238 acceptC]
theorem check (h : Hist) (la : Lim 4611686018427387904 h) : ACall Tryz.prog 52 [.agg (histC h)] [.glob 1 114 limitsC, .glob 2 235 firstC, .glob 3 238 acceptC] (fun r h' => h' = [.glob 1 114 limitsC, .glob 2 235 firstC, .glob 3 238 acceptC] ∧ r = iv (checkE h)) := by
  refine acall_of_aw Tryz.func52 rfl rfl rfl ?_
  refine rn ?_
  refine aops_e rfl (oe_box rfl rfl rfl fun b1 => ?_)
  refine aops_e rfl (oe_alloc rfl fun b2 => ?_)
  refine rn ?_
  refine qv rfl rfl (qv_call rfl rfl (FCall.qt (FCall.of_fun (shaped h la)) ((pt2 _ _ _ _).trans (.cons _ ((pt2 _ _ _ _).trans (.cons _ (pt2 _ _ _ _))))))) ?_
  refine rn ?_
  refine aw_cond rfl (fun hc10 => ?_) (fun hc10 => ?_)
  · have hs : shapedB h = false := not_t hc10
    refine rn ?_
    exact retq (.cons _ _ _ _ (.one _ _ _ _ _ _ _ rfl inferInstance inferInstance rfl) .nil) (.drop [_, _] _ _) ⟨rfl, congrArg iv (check_no hs).symm⟩
  · have hs : shapedB h = true := not_f hc10
    refine rn ?_
    refine aops_e rfl (oe_alloc rfl fun b3 => ?_)
    refine rn ?_
    refine aops_e rfl (oe_call rfl rfl (FCall.of_fun (spoken b1 _)) rfl ?_)
    rintro _ _ ⟨b1', rfl, rfl⟩
    refine rn ?_
    refine aw_rf (fun pend h'' => (pend = none ∧ ∃ m : List Int, manyL h = some m ∧ m.length = 4 ∧ h'' = .box b1' 124 [.v (.pointer (some ⟨b1, 0, none⟩))] :: .box b1 28 (histC h) :: .box b3 114 ((m).map iv) :: .box b2 33 [iv 0] :: [.glob 1 114 limitsC, .glob 2 235 firstC, .glob 3 238 acceptC]) ∨ (pend = some .ret ∧ manyL h = none ∧ ∃ m : List Int, h'' = .box b1' 124 [.v (.pointer (some ⟨b1, 0, none⟩))] :: .box b1 28 (histC h) :: .box b3 114 ((m).map iv) :: .box b2 33 [iv 210] :: [.glob 1 114 limitsC, .glob 2 235 firstC, .glob 3 238 acceptC])) rfl (fun fn l q lp hlp => ?_) (fun q h'' hK => ?_) (fun q h'' c hK => ?_)
    · suffices hy : ∀ (s : List Int) (L : List Res) (sort : Nat) (n : Int) (cells : List AV), OkN h (sort, n) → IJC lp q b2 b3 (some s) L → FCall Tryz.prog (yv l) [iv sort, .pp (iv n :: cells)] L (fun r h' => r = bv (manyStep s (sort, n)).isSome ∧ IJC lp q b2 b3 (manyStep s (sort, n)) h') by
        refine ACall.mono (ACall.perm ((pt2 _ _ _ _).trans (.cons _ (pt4 _ _ _ _ _ _))) (spokenR manyStep (OkN h) (IJC lp q b2 b3) (yv l) rfl hy h la b1' b1 (shaped_ok hs) [0, 0, 0, 0] _ ⟨rfl, rfl⟩)) ?_
        rintro _ _ ⟨L', hI, rfl⟩
        cases hm : goes manyStep (some [0, 0, 0, 0]) (spokenL h) with
        | some m =>
          rw [hm] at hI
          obtain ⟨rfl, hl⟩ := hI
          exact ⟨_, _, _, ((pt2 _ _ _ _).trans (.cons _ (pt2 _ _ _ _))), by simp, .inl ⟨rfl, m, hm, hl, rfl⟩⟩
        | none =>
          rw [hm] at hI
          obtain ⟨m, rfl⟩ := hI
          exact ⟨_, _, _, ((pt2 _ _ _ _).trans (.cons _ (pt2 _ _ _ _))), by simp, .inr ⟨rfl, hm, m, rfl⟩⟩
      rintro m _ sort n cells ⟨hs4, hn0, hn1⟩ ⟨rfl, hl⟩
      simp only at hs4 hn0 hn1
      have hnm := la.nm sort
      refine fcall_yl hlp rfl rfl ?_
      refine rn ?_
      refine ⟨[(4, iv sort), (5, .pp (iv n :: cells)), (3, .v (.pointer (some ⟨b3, 0, none⟩))), (2, .v (.pointer (some ⟨b2, 0, none⟩)))], (ent_sub (.cons _ _ _ rfl (.cons _ _ _ rfl (.cons _ _ _ rfl (.cons _ _ _ rfl (.nil)))))), ?_⟩
      refine rn ?_
      refine aw_draw 6 rfl ?_
      refine dq rfl rfl qrA ?_
      refine dq rfl rfl qrA ?_
      refine dq rfl rfl qrA ?_
      refine dq rfl rfl qrA ?_
      refine dq rfl rfl (qr_indexAddr_arr rfl rfl hs4) ?_
      refine dq rfl rfl (qr_load_one rfl (get4 hl hs4)) ?_
      refine rn ?_
      refine aw_cond rfl (fun hc20 => ?_) (fun hc20 => ?_)
      · refine rn ?_
        have hst : manyStep m (sort, n) = none := by rw [manyStep]; exact if_pos (by simpa using hc20)
        exact round_r (.refl _) (by rw [hst]; exact ⟨rfl, _, rfl⟩)
      · refine rn ?_
        refine aw_draw 9 rfl ?_
        refine dq rfl rfl qrA ?_
        refine dq rfl rfl qrA ?_
        refine dq rfl rfl (qr_indexAddr_arr rfl rfl hs4) ?_
        refine dq rfl rfl (qr_load_one rfl (get4 hl hs4)) ?_
        refine rn2 ?_
        refine qq rfl rfl (qr_indexAddr_arr rfl rfl hs4) ?_
        refine aops_e rfl (oe_store rfl rfl rfl rfl (by simp [hl]; omega) ?_)
        refine rn ?_
        have hst : manyStep m (sort, n) = some (m.set sort (max (m.getD sort 0) (n + 1))) := by rw [manyStep]; exact if_neg (by simpa using hc20)
        exact round_n (.refl _) (by rw [hst]; exact ⟨rfl, by rw [← set4 hl hs4]; rfl, by simpa using hl⟩)
    · obtain ⟨_, m, hm, hl, rfl⟩ | ⟨hc, _⟩ := hK
      rotate_left
      · cases hc
      refine rn ?_
      refine qv rfl rfl (qv_call rfl rfl (pcall (names _) (Sbs.refl _))) ?_
      refine rn ?_
      refine aw_loop' (fun k : Nat => k ≤ 4 ∧ ∀ j, j < k → m.getD j 0 = (nmK h j).length) (fun k => ⟨[(33, iv k), (32, .agg (namesC h)), (3, .v (.pointer (some ⟨b3, 0, none⟩))), (2, .v (.pointer (some ⟨b2, 0, none⟩)))], .defs q :: .box b1' 124 [.v (.pointer (some ⟨b1, 0, none⟩))] :: .box b1 28 (histC h) :: .box b3 114 ((m).map iv) :: .box b2 33 [iv 0] :: [.glob 1 114 limitsC, .glob 2 235 firstC, .glob 3 238 acceptC], [q]⟩) (fun k => 4 - k) 0 ⟨by omega, fun j hj => absurd hj (Nat.not_lt_zero j)⟩
        (ent_sub (.cons _ _ _ rfl (.cons _ _ _ rfl (.cons _ _ _ rfl (.cons _ _ _ rfl (.nil)))))) ?_
      rintro k ⟨hk, hz⟩
      refine rn ?_
      refine aw_cond rfl (fun hc34 => ?_) (fun hc34 => ?_)
      · have hk4 : k < 4 := by simp at hc34; omega
        refine aw_skip ?_
        refine thn_n ?_
        refine aw_seq ?_
        refine aw_block ?_
        refine aw_seq (aw_region ?_)
        refine q1 ?_
        refine qq rfl rfl (qr_index_arr_one rfl rfl (by omega) (by have := nmK_get h hk4; simpa using this)) ?_
        refine q1 ?_
        refine q1 ?_
        refine aops_nil (thn_n ?_)
        refine aw_seq (aw_region ?_)
        refine q1 ?_
        refine qq rfl rfl (qr_indexAddr_arr rfl rfl hk4) ?_
        refine qq rfl rfl (qr_load_one rfl (get4 hl hk4)) ?_
        refine rn ?_
        refine aw_cond rfl (fun hc42 => ?_) (fun hc42 => ?_)
        · refine rn ?_
          exact retqd (.refl _) (.cons _ _ _ _ (.one _ _ _ _ _ _ _ rfl inferInstance inferInstance rfl) .nil) (.drop [_, _, _, _] _ _) ⟨rfl, congrArg iv (check_ne hm hk4 (by simpa using hc42)).symm⟩
        · refine rn ?_
          exact ⟨k + 1, ⟨by omega, fun j hj => by
            by_cases hjk : j = k
            · subst hjk; simpa using hc42
            · exact hz j (by omega)⟩, (ent_sub (.cons _ _ _ rfl (.cons _ _ _ rfl (.cons _ _ _ rfl (.cons _ _ _ rfl (.nil)))))), by omega⟩
      · have hk4 : k = 4 := by simp at hc34; omega
        subst hk4
        refine rn ?_
        exact retqd (.refl _) (.cons _ _ _ _ (.one _ _ _ _ _ _ _ rfl inferInstance inferInstance rfl) .nil) (.drop [_, _, _, _] _ _) ⟨rfl, congrArg iv (check_eq hs hm hl hz).symm⟩
    · obtain ⟨hc, _⟩ | ⟨hc, hm, m, rfl⟩ := hK
      · cases hc
      obtain rfl : c = .ret := by simpa using hc
      refine rn ?_
      exact retqd (.refl _) (.cons _ _ _ _ (.one _ _ _ _ _ _ _ rfl inferInstance inferInstance rfl) .nil) (.drop [_, _, _, _] _ _) ⟨rfl, congrArg iv (check_none hm).symm⟩
end Go.Proofs
/- The walks of rules.First, Place, Sound, Writers. Conditions: none. -/
set_option linter.unusedVariables false
set_option linter.unusedSimpArgs false
set_option maxRecDepth 10000
namespace Go.Proofs
open Go Go.Ab
attribute [local irreducible] QR QV OE aops aw dsoup dsoupM dalloc dallocM thn inBlk jsoup jch lsoup
open Go.H
/-- What the rules ask: the functions, aS they are laid. -/
def asksC : List AV := [.any, .fn (.func 235) [] [], .fn (.func 237) [] [], .fn (.func 238) [] [], .fn (.func 239) [] [], .fn (.func 240) [] [], .fn (.func 241) [] [], .fn (.func 242) [] [], .fn (.func 243) [] [], .fn (.func 244) [] [], .fn (.func 245) [] []]
def askF (k : Nat) : AV := asksC.getD k .any
theorem ask_get {k : Nat} (h2 : k ≤ 10) : asksC[k]? = some (askF k) := by
  have : k < asksC.length := by show k < 11; omega
  rw [askF, List.getD_eq_getElem?_getD, List.getElem?_eq_getElem this]; rfl
theorem ask_call (h : Hist) (la : Lim 3000 h) (b : Nat) (G : List Res) {k : Nat} (h1 : 1 ≤ k) (h2 : k ≤ 10) : FCall Tryz.prog (askF k) [.v (.pointer (some ⟨b, 0, none⟩))] (.box b 111 (lookN h) :: G) (fun r h' => h' = G ∧ r = placeV (placeP h k)) := by
  match k, h1, h2 with
  | 1, _, _ => exact FCall.of_acall (fs := []) (cs := []) (rBegin h la b G)
  | 2, _, _ => exact FCall.of_acall (fs := []) (cs := []) (rEnd h la b G)
  | 3, _, _ => exact FCall.of_acall (fs := []) (cs := []) (rCount h la b G)
  | 4, _, _ => exact FCall.of_acall (fs := []) (cs := []) (rWritten h la b G)
  | 5, _, _ => exact FCall.of_acall (fs := []) (cs := []) (rOwn h la b G)
  | 6, _, _ => exact FCall.of_acall (fs := []) (cs := []) (rScan h la b G)
  | 7, _, _ => exact FCall.of_acall (fs := []) (cs := []) (rOrder h la b G)
  | 8, _, _ => exact FCall.of_acall (fs := []) (cs := []) (rMissing h la b G)
  | 9, _, _ => exact FCall.of_acall (fs := []) (cs := []) (rMatch h la b G)
  | 10, _, _ => exact FCall.of_acall (fs := []) (cs := []) (rWant h la b G)
  | k + 11, _, h2 => omega
theorem place_t {o : Option Nat} {i : Int} {b : Bool} (h : placeV o = .tup [iv i, bv b]) : i = natI o ∧ b = o.isSome := by
  cases o with
  | none => simp only [placeV, AV.tup.injEq, List.cons.injEq, AV.v.injEq, Value.int.injEq, Value.bool.injEq, true_and, and_true] at h; exact ⟨h.1.symm, h.2.symm⟩
  | some n => simp only [placeV, AV.tup.injEq, List.cons.injEq, AV.v.injEq, Value.int.injEq, Value.bool.injEq, true_and, and_true] at h; exact ⟨h.1.symm, h.2.symm⟩
theorem may3000 {h : Hist} (hm : mayB h = true) : Lim 3000 h := by
  unfold mayB at hm; simp only [Bool.and_eq_true] at hm; exact shaped_lim hm.1
theorem rFirst (h : Hist) (la : Lim 4611686018427387904 h) : ACall Tryz.prog 16 [.agg (histC h)] [.glob 1 114 limitsC, .glob 2 235 firstC, .glob 3 238 acceptC, .glob 0 104 asksC] (fun r h' => h' = [.glob 1 114 limitsC, .glob 2 235 firstC, .glob 3 238 acceptC, .glob 0 104 asksC] ∧ r = firstAns h) := by
  refine acall_of_aw Tryz.func16 rfl rfl rfl ?_
  refine rn ?_
  refine aops_e rfl (oe_box rfl rfl rfl fun b1 => ?_)
  refine aops_e rfl (oe_alloc rfl fun b2 => ?_)
  refine rn ?_
  refine qv rfl rfl (qv_call rfl rfl (FCall.qt (FCall.of_fun (check h la)) ((pt2 _ _ _ _).trans (.cons _ ((pt2 _ _ _ _).trans (.cons _ (pt2 _ _ _ _))))))) ?_
  refine rn ?_
  refine aw_cond rfl (fun hc12 => ?_) (fun hc12 => ?_)
  · have hm : ¬ mayB h = true := by intro q; rw [checkE, if_pos q] at hc12; cases hc12
    have he : checkE h = 210 := by rw [checkE, if_neg hm]
    refine rn ?_
    exact retq (.cons _ _ _ _ (.agg _ _ _ _ _ _ _ rfl inferInstance inferInstance inferInstance rfl) (.cons _ _ _ _ (.tmp _ _ rfl) (.cons _ _ _ _ (.tmp _ _ rfl) .nil))) (.drop [_, _] _ _) ⟨rfl, by rw [firstAns, if_neg hm, he]; rfl⟩
  · have hm : mayB h = true := check_0.1 (by simpa using hc12)
    have la3 := may3000 hm
    refine rn ?_
    refine aw_while (fun k : Nat => (1 ≤ k ∧ k ≤ 11) ∧ firstIn (placeP h) rules10 = firstIn (placeP h) (rules10.drop (k - 1))) (fun k => ⟨[(6, iv k), (1, .v (.pointer (some ⟨b1, 0, none⟩))), (2, .v (.pointer (some ⟨b2, 0, none⟩)))], (.box b2 32 [iv 0, iv 0] :: .box b1 28 (histC h) :: .glob 1 114 limitsC :: .glob 2 235 firstC :: .glob 3 238 acceptC :: .glob 0 104 asksC :: []), []⟩) (fun k => 11 - k) 1 ⟨by omega, rfl⟩ es ?_
    rintro k ⟨⟨k1, k3⟩, zk⟩
    obtain ⟨pi, pb, hpv⟩ : ∃ i b, placeV (placeP h k) = .tup [iv i, bv b] := place_ib _
    obtain ⟨ei, eb⟩ := place_t hpv
    refine rn ?_
    refine aw_cond rfl (fun hc16 => ?_) (fun hc16 => ?_)
    · have k2 : k ≤ 10 := by have := of_decide_eq_true hc16; omega
      refine aw_skip ?_
      refine rn0 ?_
      refine aw_seq ?_
      refine aw_block ?_
      refine aw_seq ?_
      refine aw_drawX 11 [5, 6] [7, 8, 9, 10] (fun he => he = (.box b2 32 [iv 0, iv 0] :: .box b1 28 (histC h) :: .glob 1 114 limitsC :: .glob 2 235 firstC :: .glob 3 238 acceptC :: .glob 0 104 asksC :: []) ∨ ∃ b, he = .box b 111 (lookN h) :: (.box b2 32 [iv 0, iv 0] :: .box b1 28 (histC h) :: .glob 1 114 limitsC :: .glob 2 235 firstC :: .glob 3 238 acceptC :: .glob 0 104 asksC :: [])) rfl rfl (.inl rfl) ?_
      refine jq rfl (fun he hC => by rcases hC with rfl | ⟨b, rfl⟩ <;> exact qrA) ?_
      refine jq rfl (fun he hC => by rcases hC with rfl | ⟨b, rfl⟩ <;> exact (by exact qr_indexAddr_arr rfl rfl (by show k < 11; omega))) ?_
      refine jq rfl (fun he hC => by rcases hC with rfl | ⟨b, rfl⟩ <;> exact (by exact qr_load_one rfl (show asksC[0 + k * 1]? = some (askF k) by rw [Nat.zero_add, Nat.mul_one]; exact ask_get k2))) ?_
      refine jq rfl (fun he hC => by rcases hC with rfl | ⟨b, rfl⟩ <;> exact qrA) ?_
      refine jq rfl (fun he hC => by rcases hC with rfl | ⟨b, rfl⟩ <;> exact (by exact qr_build (out := lookN h) rfl (by rfl))) ?_
      refine je rfl ?_
      refine je rfl ?_
      refine je rfl ?_
      refine je rfl ?_
      refine je rfl ?_
      refine je rfl ?_
      refine jnil ?_
      refine jce rfl fun u => ?_
      refine oe_box rfl rfl rfl fun b5 => ⟨_, _, rfl, .inr ⟨_, rfl⟩, ?_⟩
      refine jce rfl fun u => ?_
      refine oe_call rfl rfl (ask_call h la3 b5 _ k1 k2) rfl ?_
      rintro _ _ ⟨rfl, rfl⟩
      rw [hpv]
      refine ⟨_, _, rfl, .inl rfl, ?_⟩
      refine jcn ?_
      refine lq rfl rfl (by exact qrA) ?_
      refine lq rfl rfl (by exact qrA) ?_
      refine lq rfl rfl (by exact qrA) ?_
      refine lq rfl rfl (by exact qrA) ?_
      refine ln ?_
      refine rn ?_
      refine aw_cond rfl (fun hc29 => ?_) (fun hc29 => ?_)
      · refine rn ?_
        exact retq (.cons _ _ _ _ (.agg _ _ _ _ _ _ _ rfl inferInstance inferInstance inferInstance rfl) (.cons _ _ _ _ (.tmp _ _ rfl) (.cons _ _ _ _ (.tmp _ _ rfl) .nil))) (.drop [_, _] _ _) ⟨rfl, by
          cases hp : placeP h k with
          | none => rw [hp] at eb; rw [eb] at hc29; cases hc29
          | some n => rw [hp] at ei; subst ei; rw [firstAns, if_pos hm, firstH, first_hit k1 k2 zk hp]; rfl⟩
      · refine rn ?_
        exact ⟨k + 1, ⟨by omega, first_step k1 k2 zk (by cases hp : placeP h k with | none => rfl | some n => rw [hp] at eb; rw [eb] at hc29; cases hc29)⟩, eA, by omega⟩
    · have k2 : 11 ≤ k := by have := of_decide_eq_false hc16; omega
      refine rn ?_
      exact retq (.cons _ _ _ _ (.agg _ _ _ _ _ _ _ rfl inferInstance inferInstance inferInstance rfl) (.cons _ _ _ _ (.tmp _ _ rfl) (.cons _ _ _ _ (.tmp _ _ rfl) .nil))) (.drop [_, _] _ _) ⟨rfl, by rw [firstAns, if_pos hm, firstH, first_over k2 k3 zk]; rfl⟩
theorem rSound (h : Hist) (la : Lim 4611686018427387904 h) : ACall Tryz.prog 17 [.agg (histC h)] [.glob 1 114 limitsC, .glob 2 235 firstC, .glob 3 238 acceptC, .glob 0 104 asksC] (fun r h' => h' = [.glob 1 114 limitsC, .glob 2 235 firstC, .glob 3 238 acceptC, .glob 0 104 asksC] ∧ r = bv (soundB h)) := by
  refine acall_of_aw Tryz.func17 rfl rfl rfl ?_
  refine rn ?_
  refine aops_e rfl (oe_box rfl rfl rfl fun b1 => ?_)
  refine q1 ?_
  refine aops_nil (thn_n ?_)
  refine aw_seq (aw_region ?_)
  obtain ⟨fi, fj, fb, fe, hf, hfb⟩ := firstAns_tup h
  refine rn ?_
  refine qv rfl rfl (qv_call rfl rfl (FCall.qt (FCall.of_fun (rFirst h la)) ((pt1 _ _ _).trans (.cons _ ((pt1 _ _ _).trans (.cons _ ((pt1 _ _ _).trans (.cons _ (pt1 _ _ _))))))))) ?_
  rw [hf]
  refine rn ?_
  refine aops_e rfl (oe_alloc rfl fun b3 => ?_)
  refine rn ?_
  refine asplit (fun hg2_2 => ?_) (fun hg2_2 => ?_)
  · refine rn ?_
    refine rq 2 ?_
    exact ⟨rfl, congrArg bv (by rw [hfb]; simp_all)⟩
  · refine rn ?_
    refine rq 2 ?_
    exact ⟨rfl, congrArg bv (by rw [hfb]; simp_all)⟩
theorem rWritersF (h : Hist) (x : Int) (la : Lim 4611686018427387904 h) : ACall Tryz.prog 23 [.agg (histC h), iv x] [.glob 1 114 limitsC, .glob 2 235 firstC, .glob 3 238 acceptC, .glob 0 104 asksC] (fun r h' => h' = [.glob 1 114 limitsC, .glob 2 235 firstC, .glob 3 238 acceptC, .glob 0 104 asksC] ∧ r = writersW h x) := by
  refine acall_of_aw Tryz.func23 rfl rfl rfl ?_
  refine rn ?_
  refine aops_e rfl (oe_box rfl rfl rfl fun b2 => ?_)
  refine rn ?_
  refine qv rfl rfl (qv_call rfl rfl (FCall.qt (FCall.of_fun (check h la)) ((pt1 _ _ _).trans (.cons _ ((pt1 _ _ _).trans (.cons _ (pt1 _ _ _))))))) ?_
  refine rn ?_
  refine aw_cond rfl (fun hc10 => ?_) (fun hc10 => ?_)
  · have hm : ¬ mayB h = true := by intro q; rw [checkE, if_pos q] at hc10; cases hc10
    have he : checkE h = 210 := by rw [checkE, if_neg hm]
    refine rn ?_
    exact retq (.cons _ _ _ _ (.tmp _ _ rfl) (.cons _ _ _ _ (.tmp _ _ rfl) .nil)) (.trans (.drop [_] _ _) (vent_tup2 (.nil _ _) (.refl _))) ⟨rfl, by rw [writersW, if_neg hm, he]; rfl⟩
  · have hm : mayB h = true := check_0.1 (by simpa using hc10)
    have la3 := may3000 hm
    refine aw_skip ?_
    refine thn_n ?_
    refine aw_seq (aw_region ?_)
    refine q1 ?_
    refine qq rfl rfl (qr_build (out := lookN h) rfl (by rfl)) ?_
    refine aops_e rfl (oe_box rfl rfl rfl fun b14 => ?_)
    refine rn ?_
    refine qv rfl rfl (qv_call rfl rfl (FCall.of_fun (rWriters h la3 b14 x (.box b2 28 (histC h) :: .glob 1 114 limitsC :: .glob 2 235 firstC :: .glob 3 238 acceptC :: .glob 0 104 asksC :: [])))) ?_
    refine rn ?_
    refine rq 2 ?_
    exact ⟨rfl, by rw [writersW, if_pos hm]; rfl⟩
end Go.Proofs
/- The listed table of functions, aS the walk looks at it. Conditions: none. -/
set_option linter.unusedVariables false
set_option maxRecDepth 100000
namespace Go.Proofs.YtmbbjpoljcmhlaaGreatDoor
open Go Go.Ab Go.H
def asksD : DataW Unit := match (Rows.laid_yardarm_rules_asks : DataW Unit) with | .iface _ d => d | d => d
def namesA : List (List UInt8) := match asksD with | .agg ds => ds.map (fun d => match d with | .iface _ (.lit (.string b)) => b | _ => []) | _ => []
def nm (k : Nat) : List UInt8 := namesA.getD (k + 1) []
theorem asksD_out : asksD.funcsOut = .agg (.nil :: (namesA.drop 1).map .held) := by kernel_rfl
theorem glob_any {w : World} {c : Array Value} {T0 : TypeId} {fr : Nat × Nat} {g : Nat} {T : TypeId} {vs : List AV} (hh : w.heap[g]? = some (.cells c T0 fr)) (hl : vs.length = c.size) (h : ∀ j (h1 : j < vs.length) (h2 : j < c.size), Rel w noX vs[j] c[j]) : (Res.glob g T vs).holds w noX :=
  ⟨fun h => h, (Array.getElem?_eq_some_iff.1 hh).1, c, T0, fr, hh, hl, fun j h1 h2 => h j h1 h2⟩
theorem fn_rel (w : World) (f : Nat) : Rel w noX (.fn (.func f) [] []) (.func (.func f) #[] #[]) := .fn _ _ _ _ _ rfl rfl (fun j h => absurd h (Nat.not_lt_zero _)) (fun j h => absurd h (Nat.not_lt_zero _))
def fnA : List Nat := [235, 237, 238, 239, 240, 241, 242, 243, 244, 245]
theorem asks_one (k : Nat) (hk : k < 10) : ∃ b r, namesA[k + 1]? = some (b :: r) ∧ ((List.range Tryz.prog.funcs.size).filter fun f => (Tryz.prog.funcs[f]?).any (·.name.toUTF8.data.toList == b :: r)) = [fnA.getD k 0] ∧ asksC[k + 1]? = some (.fn (.func (fnA.getD k 0)) [] []) := by
  match k, hk with
  | 0, _ => exact ⟨(nm 0).headD 0, (nm 0).tail, by kernel_rfl, by kernel_rfl, by kernel_rfl⟩
  | 1, _ => exact ⟨(nm 1).headD 0, (nm 1).tail, by kernel_rfl, by kernel_rfl, by kernel_rfl⟩
  | 2, _ => exact ⟨(nm 2).headD 0, (nm 2).tail, by kernel_rfl, by kernel_rfl, by kernel_rfl⟩
  | 3, _ => exact ⟨(nm 3).headD 0, (nm 3).tail, by kernel_rfl, by kernel_rfl, by kernel_rfl⟩
  | 4, _ => exact ⟨(nm 4).headD 0, (nm 4).tail, by kernel_rfl, by kernel_rfl, by kernel_rfl⟩
  | 5, _ => exact ⟨(nm 5).headD 0, (nm 5).tail, by kernel_rfl, by kernel_rfl, by kernel_rfl⟩
  | 6, _ => exact ⟨(nm 6).headD 0, (nm 6).tail, by kernel_rfl, by kernel_rfl, by kernel_rfl⟩
  | 7, _ => exact ⟨(nm 7).headD 0, (nm 7).tail, by kernel_rfl, by kernel_rfl, by kernel_rfl⟩
  | 8, _ => exact ⟨(nm 8).headD 0, (nm 8).tail, by kernel_rfl, by kernel_rfl, by kernel_rfl⟩
  | 9, _ => exact ⟨(nm 9).headD 0, (nm 9).tail, by kernel_rfl, by kernel_rfl, by kernel_rfl⟩
theorem glob3 {w : World} (h : laidMetH Tryz.prog laid4 w) : (Res.glob 0 104 asksC).holds w noX := by
  obtain ⟨g, t, cs, fuel, p, hg, ht, hv, hd⟩ := h.funcs (n := "yardarm/rules.asks") (d := asksD) (.tail _ (.tail _ (.head _)))
  obtain rfl := Option.some.inj ((show Tryz.prog.globalNamed "yardarm/rules.asks" = some 0 by kernel_rfl).symm.trans hg)
  obtain rfl := Option.some.inj ((show (Tryz.prog.globals[0]?).map (·.type) = some 104 by kernel_rfl).symm.trans ht)
  rw [asksD_out] at hd
  have c1 : Tryz.prog.cellsOf 103 = 1 := by kernel_rfl
  have c11 : Tryz.prog.cellsOf 104 = 11 := by kernel_rfl
  have hlen : cs.toList.length = 11 := by
    obtain ⟨_, _, _, _, hl, _⟩ := DataW.trod_array Tryz.underlying104 hd
    rw [hl, c11]
  unfold World.var? at hv
  rw [hg] at hv
  simp only [Option.bind_some] at hv
  split at hv
  · rename_i c T0 fr hh
    cases hv
    refine glob_any hh (by rw [show asksC.length = 11 from rfl]; simpa using hlen.symm) fun j h1 h2 => ?_
    cases j with
    | zero => exact .any _
    | succ k =>
      have hk : k < 10 := by have : asksC.length = 11 := rfl; omega
      obtain ⟨b, r, hn, hone, ha⟩ := asks_one k hk
      obtain ⟨f', d, q, e1, e2⟩ := Lib.array_elem Tryz.underlying104 hd (k + 1) (by omega)
      have e1' : d = .held (b :: r) := by
        rw [List.getElem?_cons_succ, List.getElem?_map, List.getElem?_drop, Nat.add_comm 1 k, hn] at e1
        exact (Option.some.inj e1).symm
      subst e1'
      rw [c1, Nat.mul_one, List.drop_eq_getElem_cons (by simpa using h2), List.take_succ_cons, List.take_zero] at e2
      have := func_of_trod (f0 := fnA.getD k 0) Tryz.underlying103 hone e2
      rw [Array.getElem_toList] at this
      rw [this, show asksC[k + 1] = .fn (.func (fnA.getD k 0)) [] [] from Option.some.inj ((List.getElem?_eq_getElem h1).symm.trans ha)]
      exact fn_rel _ _
  · cases hv
theorem laid_hrel4 {W : World} (h : laidMetH Tryz.prog laid4 W) : HRel noX W [.glob 1 114 limitsC, .glob 2 235 firstC, .glob 3 238 acceptC, .glob 0 104 asksC] := by
  obtain ⟨a, b, c, d⟩ := laid_hrel h
  have hO : OO [.glob 1 114 limitsC, .glob 2 235 firstC, .glob 3 238 acceptC] noX = noX := OO_G3
  have hO' : OO [.glob 1 114 limitsC, .glob 2 235 firstC, .glob 3 238 acceptC, .glob 0 104 asksC] noX = noX := by funext b; simp [OO, owns, noX, Res.own]
  refine ⟨by simp [owns, Res.own], fun b hb => by simp [owns, Res.own] at hb, fun b hb => hb.elim, fun r hr => ?_⟩
  rw [hO']
  rw [hO] at d
  simp only [List.mem_cons, List.not_mem_nil, or_false] at hr
  rcases hr with rfl | rfl | rfl | rfl
  · exact d _ (by simp)
  · exact d _ (by simp)
  · exact d _ (by simp)
  · exact glob3 h
theorem OO_G4 : OO [.glob 1 114 limitsC, .glob 2 235 firstC, .glob 3 238 acceptC, .glob 0 104 asksC] noX = noX := by funext b; simp [OO, owns, noX, Res.own]
end Go.Proofs.YtmbbjpoljcmhlaaGreatDoor
/- Contracts in law 15's terms. Conditions: none. -/
set_option linter.unusedVariables false
set_option linter.unusedSimpArgs false
set_option maxRecDepth 10000
namespace Go.Proofs
open Go Go.Ab
attribute [local irreducible] QR QV OE aops aw dsoup dsoupM dalloc dallocM thn inBlk jsoup jch lsoup
open Go.H
theorem soundT (h : Hist) (la : Lim 4611686018427387904 h) (hs : soundB h = true) : ACall Tryz.prog 17 [.agg (histC h)] [.glob 1 114 limitsC, .glob 2 235 firstC, .glob 3 238 acceptC, .glob 0 104 asksC] (fun r h' => h' = [.glob 1 114 limitsC, .glob 2 235 firstC, .glob 3 238 acceptC, .glob 0 104 asksC] ∧ r = bv true) := (rSound h la).mono fun _ _ q => ⟨q.1, by rw [q.2, hs]⟩
theorem writersM (h : Hist) (x : Int) (hm : mayB h = true) : ACall Tryz.prog 23 [.agg (histC h), iv x] [.glob 1 114 limitsC, .glob 2 235 firstC, .glob 3 238 acceptC, .glob 0 104 asksC] (fun r h' => h' = [.glob 1 114 limitsC, .glob 2 235 firstC, .glob 3 238 acceptC, .glob 0 104 asksC] ∧ r = .tup [intsA (writersP h.evs x), iv 0]) :=
  (rWritersF h x ((may3000 hm).mono (by decide))).mono fun _ _ q => ⟨q.1, by rw [q.2, writersW, if_pos hm]⟩
theorem writersE (h : Hist) (x : Int) (hm : mayB (complH h) = true) : ACall Tryz.prog 23 [.agg (histC (complH h)), iv x] [.glob 1 114 limitsC, .glob 2 235 firstC, .glob 3 238 acceptC, .glob 0 104 asksC] (fun r h' => h' = [.glob 1 114 limitsC, .glob 2 235 firstC, .glob 3 238 acceptC, .glob 0 104 asksC] ∧ r = .tup [intsA (writersP h.evs x), iv 0]) :=
  (writersM _ x hm).mono fun _ _ q => ⟨q.1, by rw [q.2, ends_writers]⟩
theorem equalT (l : List Int) (hl : l.length ≤ 4611686018427387904) : ACall Tryz.prog 25 [intsA l, intsA l] [] (fun r h' => h' = [] ∧ r = bv true) :=
  (equalInt l l hl hl).mono fun _ _ q => ⟨q.1, by rw [q.2, eqF_eq intEq_eq]; simp⟩
end Go.Proofs
/- The walks of law 15's cut and few. Conditions: none. -/
set_option linter.unusedVariables false
set_option linter.unusedSimpArgs false
set_option maxRecDepth 10000
namespace Go.Proofs
open Go Go.Ab
attribute [local irreducible] QR QV OE aops aw dsoup dsoupM dalloc dallocM thn inBlk jsoup jch lsoup
open Go.H
theorem cut {full : Bool} (l : List ByteArray) (most : Nat) (hm : most ≤ 1000) : ACall Tryz.prog 64 [.list full 1 (l.map strR), iv most] [] (fun r h' => h' = [] ∧ r = strsA (cutL most l)) := by
  refine acall_of_aw Tryz.func64 rfl rfl rfl ?_
  refine aw_seq (aw_region ?_)
  refine q1 ?_
  refine aops_nil (thn_n ?_)
  refine aw_seq (aw_region ?_)
  refine q1 ?_
  refine q1 ?_
  refine q1 ?_
  refine q1 ?_
  refine qq rfl rfl (qr_minN (l.map strR).length most rfl rfl) ?_
  refine qq rfl rfl (qr_slice_hE (rows' := (l.take most).map strR) rfl rfl (by omega) (by rw [List.length_map]; exact take_min strR l most)) ?_
  refine aops_e rfl (oe_call rfl rfl (FCall.rowS (FCall.of_fun (cloneRowStr _ (by simp; omega) (one_str _)))) rfl ?_)
  rintro _ _ ⟨s, rfl, rfl⟩
  refine rn ?_
  refine aw_loop' (fun k : Nat => k ≤ (l.take most).length) (fun k => ⟨[(17, iv k), (16, iv ((l.take most).map strR).length), (15, .v s.v), (5, .v s.v)], [.row s.v 1 9 ((((l.take most).take k).map cutS).map strR ++ ((l.take most).drop k).map strR)], []⟩) (fun k => (l.take most).length - k) 0 (by omega)
    (by simp only [List.take_zero, List.map_nil, List.nil_append, List.drop_zero]; exact (ent_sub (.cons _ _ _ rfl (.cons _ _ _ rfl (.cons _ _ _ rfl (.cons _ _ _ rfl (.nil))))))) ?_
  intro k hk
  refine rn ?_
  refine aw_cond rfl (fun hc18 => ?_) (fun hc18 => ?_)
  · have hk2 : k < (l.take most).length := by simpa using hc18
    obtain ⟨b, hb⟩ : ∃ b, b = (l.take most)[k] := ⟨_, rfl⟩
    have hd := List.drop_eq_getElem_cons hk2
    rw [← hb] at hd
    have hL := List.length_take_le most l
    have hkl : (((l.take most).take k).map cutS).length = k := by rw [List.length_map, List.length_take]; omega
    have hrow := mid_get (f := strR) (g := strR) (xs := ((l.take most).take k).map cutS) (k := k) hkl hd
    have hk3 : k < ((((l.take most).take k).map cutS).map strR ++ ((l.take most).drop k).map strR).length := by rw [mid_len hkl hk]; exact hk2
    refine aw_skip ?_
    refine thn_n ?_
    refine aw_seq ?_
    refine aw_block ?_
    refine aw_seq (aw_region ?_)
    refine q1 ?_
    refine q1 ?_
    refine qq rfl rfl (qr_load_rp_one rfl hrow rfl) ?_
    refine q1 ?_
    refine q1 ?_
    refine aops_nil (thn_n ?_)
    refine aw_region ?_
    refine q1 ?_
    refine q1 ?_
    refine q1 ?_
    refine q1 ?_
    refine q1 ?_
    refine qq rfl rfl (qr_minN b.size 40 rfl rfl) ?_
    refine qq rfl rfl (qr_slice_string_h rfl rfl (by omega)) ?_
    refine rn ?_
    refine aops_e rfl (oe_store_rp rfl rfl rfl hrow rfl (Nat.le_of_ble_eq_true rfl) ?_)
    refine rn ?_
    have hset := mid_set (f := strR) (g := strR) (l := (l.take most)) (xs := ((l.take most).take k).map cutS) (a := cutS b) (r := (strR b).take 0 ++ [sv (cutS b)] ++ (strR b).drop (0 + 1)) hkl hd rfl
    have hx : ((l.take most).take k).map cutS ++ [cutS b] = ((l.take most).take (k + 1)).map cutS := by rw [List.take_succ_eq_append_getElem hk2, hb]; simp
    rw [hx] at hset
    exact ⟨k + 1, by omega, (by rw [← hset]; exact (ent_sub (.cons _ _ _ rfl (.cons _ _ _ rfl (.cons _ _ _ rfl (.cons _ _ _ rfl (.nil))))))), by omega⟩
  · obtain rfl : k = (l.take most).length := by
      have : ¬ k < (l.take most).length := by simpa using hc18
      omega
    rw [List.take_length, List.drop_length, List.map_nil, List.append_nil]
    refine rn ?_
    exact retq (.cons _ _ _ _ (.tmp _ _ rfl) .nil) vent_freeze ⟨rfl, rfl⟩
set_option maxHeartbeats 4000000 in
theorem few (h : Hist) (la : Lim 4611686018427387904 h) : ACall Tryz.prog 15 [.agg (histC h)] [] (fun r h' => h' = [] ∧ r = .agg (histC (fewA h))) := by
  refine acall_of_aw Tryz.func15 rfl rfl rfl ?_
  refine rn ?_
  refine aops_e rfl (oe_box rfl rfl rfl fun b1 => ?_)
  refine aops_e rfl (oe_alloc rfl fun b2 => ?_)
  refine rn0 ?_
  refine aw_cutE (fun _ : Nat => True) (fun b3 => ⟨[(1, .v (.pointer (some ⟨b1, 0, none⟩))), (2, .v (.pointer (some ⟨b2, 0, none⟩))), (3, .v (.pointer (some ⟨b3, 0, none⟩)))], [.box b3 28 [strsA (cutL 12 h.ts), strsA (cutL 8 h.ss), strsA (cutL 10 h.os), strsA (cutL 6 h.ps), nilA, nilA, nilA, nilA], .box b2 28 histZ, .box b1 28 (histC h)], []⟩) ?_ ?_
  · refine aw_draw 14 rfl ?_
    refine rn ?_
    refine dv rfl rfl (by exact qv_call rfl rfl (pcall (cut h.ts 12 (by decide)) (Sbs.refl _))) ?_
    refine rn ?_
    refine dv rfl rfl (by exact qv_call rfl rfl (pcall (cut h.ss 8 (by decide)) (Sbs.refl _))) ?_
    refine rn ?_
    refine dv rfl rfl (by exact qv_call rfl rfl (pcall (cut h.os 10 (by decide)) (Sbs.refl _))) ?_
    refine rn ?_
    refine dv rfl rfl (by exact qv_call rfl rfl (pcall (cut h.ps 6 (by decide)) (Sbs.refl _))) ?_
    refine rn ?_
    refine dalloc_a rfl fun b3 => ?_
    refine rn ?_
    exact ⟨b3, trivial, (ent_sub (.cons _ _ _ rfl (.cons _ _ _ rfl (.cons _ _ _ rfl (.nil)))))⟩
  · intro b3 _
    refine rn ?_
    refine aw_loop' (fun x : Nat × SV => x.1 ≤ h.evs.length) (fun x => ⟨[(26, iv x.1), (25, iv (h.evs.map evR).length), (24, evsA h.evs), (1, .v (.pointer (some ⟨b1, 0, none⟩))), (2, .v (.pointer (some ⟨b2, 0, none⟩))), (3, .v (.pointer (some ⟨b3, 0, none⟩)))], [.row x.2.v 9 77 (((h.evs.take (min x.1 70)).map cutE2).map evR), .box b3 28 [strsA (cutL 12 h.ts), strsA (cutL 8 h.ss), strsA (cutL 10 h.os), strsA (cutL 6 h.ps), .v x.2.v, nilA, nilA, nilA], .box b2 28 histZ, .box b1 28 (histC h)], []⟩) (fun x => h.evs.length - x.1) (0, nilS) (by simp)
      (ent_trans (ent_nilrow 9 77) (ent_sub (.cons _ _ _ rfl (.cons _ _ _ rfl (.cons _ _ _ rfl (.cons _ _ _ rfl (.cons _ _ _ rfl (.cons _ _ _ rfl (.nil))))))))) ?_
    rintro ⟨k, s⟩ hk
    simp only at hk
    refine rn ?_
    refine aw_cond rfl (fun hc27 => ?_) (fun hc27 => ?_)
    · have hk2 : k < h.evs.length := by simpa using hc27
      obtain ⟨e, he⟩ : ∃ e, e = h.evs[k] := ⟨_, rfl⟩
      have hrow : (h.evs.map evR)[k]? = some (evR e) := by rw [he]; simp [hk2]
      have hle := la.evs
      refine rn ?_
      refine aops_e rfl (oe_alloc rfl fun b5 => ?_)
      refine rn ?_
      refine aw_cond rfl (fun hc32 => ?_) (fun hc32 => ?_)
      · have hlt : k < 70 := by have := hc32; simp at this; omega
        refine aw_seq (aw_region ?_)
        refine q1 ?_
        refine q1 ?_
        refine q1 ?_
        refine q1 ?_
        refine q1 ?_
        refine qq rfl rfl (qr_minN (e.scan.map seenR).length 12 rfl rfl) ?_
        refine qq rfl rfl (qr_slice_hE (rows' := (e.scan.take 12).map seenR) rfl rfl (by omega) (by rw [List.length_map]; exact take_min seenR e.scan 12)) ?_
        refine qv rfl rfl (qv_call rfl rfl (pcall (cloneSeen ((e.scan.take 12).map seenR) (by simp; omega)) (Sbs.refl _))) ?_
        refine rn ?_
        refine qv rfl rfl (qv_buildSlice rfl rfl) ?_
        refine aops_e rfl (oe_append_row rfl rfl (by have := tk_len h.evs k 70; simp at this ⊢; omega) rfl (fun s46 => ?_) (fun r hr => by simp at hr; subst hr; rfl))
        refine aops_slice s46 fun sv hsv => ?_
        subst hsv
        refine rn ?_
        have hx : ((h.evs.take (min (k + 1) 70)).map cutE2).map evR = ((h.evs.take (min k 70)).map cutE2).map evR ++ [evR (cutE2 e)] := by rw [tk_go hk2 hlt he]; simp
        exact ⟨(k + 1, sv), by simp only; omega, (by rw [hx]; exact (ent_trans (ent_drop (h1 := [_])) (ent_sub (.cons _ _ _ rfl (.cons _ _ _ rfl (.cons _ _ _ rfl (.cons _ _ _ rfl (.cons _ _ _ rfl (.cons _ _ _ rfl (.nil)))))))))), by simp only; omega⟩
      · have hlt : ¬ k < 70 := by have := hc32; simp at this; omega
        refine rn ?_
        exact ⟨(k + 1, s), by simp only; omega, (by rw [tk_no hlt]; exact (ent_trans (ent_drop (h1 := [_])) (ent_sub (.cons _ _ _ rfl (.cons _ _ _ rfl (.cons _ _ _ rfl (.cons _ _ _ rfl (.cons _ _ _ rfl (.cons _ _ _ rfl (.nil)))))))))), by simp only; omega⟩
    · obtain rfl : k = h.evs.length := by
        have : ¬ k < h.evs.length := by simpa using hc27
        omega
      obtain ⟨sE, hsE⟩ : ∃ sE : SV, sE = s := ⟨_, rfl⟩
      simp only [tk_end, ← hsE]
      refine rn ?_
      refine aw_loop' (fun x : Nat × SV => x.1 ≤ h.ords.length) (fun x => ⟨[(52, iv x.1), (51, iv (h.ords.map ordR).length), (50, ordsA h.ords), (1, .v (.pointer (some ⟨b1, 0, none⟩))), (2, .v (.pointer (some ⟨b2, 0, none⟩))), (3, .v (.pointer (some ⟨b3, 0, none⟩)))], [.row x.2.v 2 98 (((h.ords.take (min x.1 14)).map cutO2).map ordR), .row sE.v 9 77 (((h.evs.take 70).map cutE2).map evR), .box b3 28 [strsA (cutL 12 h.ts), strsA (cutL 8 h.ss), strsA (cutL 10 h.os), strsA (cutL 6 h.ps), .v sE.v, .v x.2.v, nilA, nilA], .box b2 28 histZ, .box b1 28 (histC h)], []⟩) (fun x => h.ords.length - x.1) (0, nilS) (by simp)
        (ent_trans (ent_nilrow 2 98) (ent_sub (.cons _ _ _ rfl (.cons _ _ _ rfl (.cons _ _ _ rfl (.cons _ _ _ rfl (.cons _ _ _ rfl (.cons _ _ _ rfl (.nil))))))))) ?_
      rintro ⟨k, s⟩ hk
      simp only at hk
      refine rn ?_
      refine aw_cond rfl (fun hc53 => ?_) (fun hc53 => ?_)
      · have hk2 : k < h.ords.length := by simpa using hc53
        obtain ⟨e, he⟩ : ∃ e, e = h.ords[k] := ⟨_, rfl⟩
        have hrow : (h.ords.map ordR)[k]? = some (ordR e) := by rw [he]; simp [hk2]
        have hle := la.ords
        refine rn ?_
        refine aops_e rfl (oe_alloc rfl fun b7 => ?_)
        refine rn ?_
        refine aw_cond rfl (fun hc58 => ?_) (fun hc58 => ?_)
        · have hlt : k < 14 := by have := hc58; simp at this; omega
          refine aw_draw 14 rfl ?_
          refine dq rfl rfl qrA ?_
          refine dq rfl rfl qrA ?_
          refine dq rfl rfl qrA ?_
          refine dq rfl rfl qrA ?_
          refine dq rfl rfl qrA ?_
          refine dq rfl rfl qrA ?_
          refine dq rfl rfl qrA ?_
          refine dq rfl rfl qrA ?_
          refine dq rfl rfl qrA ?_
          refine dq rfl rfl (qr_minN (e.ts.map intR).length 14 rfl rfl) ?_
          refine dq rfl rfl (qr_slice_hE (rows' := (e.ts.take 14).map intR) rfl rfl (by omega) (by rw [List.length_map]; exact take_min intR e.ts 14)) ?_
          refine dv rfl rfl (by exact qv_call rfl rfl (pcall (cloneInt ((e.ts.take 14).map intR) (by simp; omega)) (Sbs.refl _))) ?_
          refine rn ?_
          refine dv rfl rfl (qv_buildSlice rfl rfl) ?_
          refine rn ?_
          refine aops_e rfl (oe_append_row rfl rfl (by have := tk_len h.ords k 14; simp at this ⊢; omega) rfl (fun s73 => ?_) (fun r hr => by simp at hr; subst hr; rfl))
          refine aops_slice s73 fun sv hsv => ?_
          subst hsv
          refine rn ?_
          have hx : ((h.ords.take (min (k + 1) 14)).map cutO2).map ordR = ((h.ords.take (min k 14)).map cutO2).map ordR ++ [ordR (cutO2 e)] := by rw [tk_go hk2 hlt he]; simp
          exact ⟨(k + 1, sv), by simp only; omega, (by rw [hx]; exact (ent_trans (ent_drop (h1 := [_])) (ent_sub (.cons _ _ _ rfl (.cons _ _ _ rfl (.cons _ _ _ rfl (.cons _ _ _ rfl (.cons _ _ _ rfl (.cons _ _ _ rfl (.nil)))))))))), by simp only; omega⟩
        · have hlt : ¬ k < 14 := by have := hc58; simp at this; omega
          refine rn ?_
          exact ⟨(k + 1, s), by simp only; omega, (by rw [tk_no hlt]; exact (ent_trans (ent_drop (h1 := [_])) (ent_sub (.cons _ _ _ rfl (.cons _ _ _ rfl (.cons _ _ _ rfl (.cons _ _ _ rfl (.cons _ _ _ rfl (.cons _ _ _ rfl (.nil)))))))))), by simp only; omega⟩
      · obtain rfl : k = h.ords.length := by
          have : ¬ k < h.ords.length := by simpa using hc53
          omega
        obtain ⟨sO, hsO⟩ : ∃ sO : SV, sO = s := ⟨_, rfl⟩
        simp only [tk_end, ← hsO]
        refine rn ?_
        refine aw_loop' (fun x : Nat × SV => x.1 ≤ h.mats.length) (fun x => ⟨[(79, iv x.1), (78, iv (h.mats.map matR).length), (77, matsA h.mats), (1, .v (.pointer (some ⟨b1, 0, none⟩))), (2, .v (.pointer (some ⟨b2, 0, none⟩))), (3, .v (.pointer (some ⟨b3, 0, none⟩)))], [.row x.2.v 4 91 (((h.mats.take (min x.1 20)).map cutM2).map matR), .row sO.v 2 98 (((h.ords.take 14).map cutO2).map ordR), .row sE.v 9 77 (((h.evs.take 70).map cutE2).map evR), .box b3 28 [strsA (cutL 12 h.ts), strsA (cutL 8 h.ss), strsA (cutL 10 h.os), strsA (cutL 6 h.ps), .v sE.v, .v sO.v, .v x.2.v, nilA], .box b2 28 histZ, .box b1 28 (histC h)], []⟩) (fun x => h.mats.length - x.1) (0, nilS) (by simp)
          (ent_trans (ent_nilrow 4 91) (ent_sub (.cons _ _ _ rfl (.cons _ _ _ rfl (.cons _ _ _ rfl (.cons _ _ _ rfl (.cons _ _ _ rfl (.cons _ _ _ rfl (.nil))))))))) ?_
        rintro ⟨k, s⟩ hk
        simp only at hk
        refine rn ?_
        refine aw_cond rfl (fun hc80 => ?_) (fun hc80 => ?_)
        · have hk2 : k < h.mats.length := by simpa using hc80
          obtain ⟨e, he⟩ : ∃ e, e = h.mats[k] := ⟨_, rfl⟩
          have hrow : (h.mats.map matR)[k]? = some (matR e) := by rw [he]; simp [hk2]
          have hle := la.mats
          refine rn ?_
          refine aops_e rfl (oe_alloc rfl fun b9 => ?_)
          refine rn ?_
          refine aw_cond rfl (fun hc85 => ?_) (fun hc85 => ?_)
          · have hlt : k < 20 := by have := hc85; simp at this; omega
            refine aw_seq (aw_region ?_)
            refine q1 ?_
            refine q1 ?_
            refine q1 ?_
            refine q1 ?_
            refine q1 ?_
            refine qq rfl rfl (qr_minN (e.ts.map intR).length 14 rfl rfl) ?_
            refine qq rfl rfl (qr_slice_hE (rows' := (e.ts.take 14).map intR) rfl rfl (by omega) (by rw [List.length_map]; exact take_min intR e.ts 14)) ?_
            refine qv rfl rfl (qv_call rfl rfl (pcall (cloneInt ((e.ts.take 14).map intR) (by simp; omega)) (Sbs.refl _))) ?_
            refine rn ?_
            refine qv rfl rfl (qv_buildSlice rfl rfl) ?_
            refine aops_e rfl (oe_append_row rfl rfl (by have := tk_len h.mats k 20; simp at this ⊢; omega) rfl (fun s99 => ?_) (fun r hr => by simp at hr; subst hr; rfl))
            refine aops_slice s99 fun sv hsv => ?_
            subst hsv
            refine rn ?_
            have hx : ((h.mats.take (min (k + 1) 20)).map cutM2).map matR = ((h.mats.take (min k 20)).map cutM2).map matR ++ [matR (cutM2 e)] := by rw [tk_go hk2 hlt he]; simp
            exact ⟨(k + 1, sv), by simp only; omega, (by rw [hx]; exact (ent_trans (ent_drop (h1 := [_])) (ent_sub (.cons _ _ _ rfl (.cons _ _ _ rfl (.cons _ _ _ rfl (.cons _ _ _ rfl (.cons _ _ _ rfl (.cons _ _ _ rfl (.nil)))))))))), by simp only; omega⟩
          · have hlt : ¬ k < 20 := by have := hc85; simp at this; omega
            refine rn ?_
            exact ⟨(k + 1, s), by simp only; omega, (by rw [tk_no hlt]; exact (ent_trans (ent_drop (h1 := [_])) (ent_sub (.cons _ _ _ rfl (.cons _ _ _ rfl (.cons _ _ _ rfl (.cons _ _ _ rfl (.cons _ _ _ rfl (.cons _ _ _ rfl (.nil)))))))))), by simp only; omega⟩
        · obtain rfl : k = h.mats.length := by
            have : ¬ k < h.mats.length := by simpa using hc80
            omega
          obtain ⟨sM, hsM⟩ : ∃ sM : SV, sM = s := ⟨_, rfl⟩
          simp only [tk_end, ← hsM]
          refine aw_exit ?_
          refine thn_e ?_
          refine thn_e ?_
          refine inBlk_hit ?_
          refine thn_n ?_
          refine aw_seq (aw_region ?_)
          refine q1 ?_
          refine q1 ?_
          refine q1 ?_
          refine q1 ?_
          refine q1 ?_
          refine qq rfl rfl (qr_minN (h.wants.map wanR).length 12 rfl rfl) ?_
          refine qq rfl rfl (qr_slice_hE (rows' := (h.wants.take 12).map wanR) rfl rfl (by omega) (by rw [List.length_map]; exact take_min wanR h.wants 12)) ?_
          refine qv rfl rfl (qv_call rfl rfl (pcall (cloneWan ((h.wants.take 12).map wanR) (by simp; omega)) (Sbs.refl _))) ?_
          refine rn ?_
          exact retq (.cons _ _ _ _ (.agg _ _ _ _ _ _ _ rfl inferInstance inferInstance inferInstance rfl) .nil) (.trans (vent_freeze_cell [_, _, _, _, _, _] _) (.trans (vent_freeze_cell [_, _, _, _, _] _) (.trans (vent_freeze_cell [_, _, _, _] _) (.drop [_, _, _] _ _)))) ⟨rfl, rfl⟩
end Go.Proofs
/- The walk of law 15's wakes. Conditions: none. -/
set_option linter.unusedVariables false
set_option linter.unusedSimpArgs false
set_option maxRecDepth 10000
namespace Go.Proofs
open Go Go.Ab
attribute [local irreducible] QR QV OE aops aw dsoup dsoupM dalloc dallocM thn inBlk jsoup jch lsoup
open Go.H
theorem smallA  : ACall Tryz.prog 63 [] [] (fun r h' => h' = [] ∧ r = .agg (histC smallH)) := by
  refine acall_of_aw Tryz.func63 rfl rfl rfl ?_
  refine rn ?_
  refine aops_e rfl (oe_alloc rfl fun b0 => ?_)
  refine rn ?_
  refine qv rfl rfl (qv_buildSlice rfl rfl) ?_
  refine qv rfl rfl (qv_buildSlice rfl rfl) ?_
  refine qv rfl rfl (qv_buildSlice rfl rfl) ?_
  refine rn ?_
  refine qv rfl rfl (qv_buildSlice rfl rfl) ?_
  refine rn ?_
  exact retq (.cons _ _ _ _ (.agg _ _ _ _ _ _ _ rfl inferInstance inferInstance inferInstance rfl) .nil) (.trans (.drop1 _ _ _) (.le (Sb.aggs (bs := histC smallH) (by exact ⟨.unfull, .unfull, .unfull, .nil _ _, (.lists (by simp) ⟨⟨.refl _, .refl _, .refl _, .refl _, .refl _, .refl _, .refl _, .refl _, .nil _ _, trivial⟩, ⟨.refl _, .refl _, .refl _, .refl _, .refl _, .refl _, .refl _, .refl _, .nil _ _, trivial⟩, ⟨.refl _, .refl _, .refl _, .refl _, .refl _, .refl _, .refl _, .refl _, .nil _ _, trivial⟩, trivial⟩), .nil _ _, .nil _ _, .nil _ _, trivial⟩)).le)) ⟨rfl, rfl⟩
theorem smallB  : ACall Tryz.prog 63 [] [] (fun r h' => h' = [] ∧ r = .agg [strsA smallH.ts, strsA smallH.ss, strsA smallH.os, strsA [], .list true 9 (smallH.evs.map evR), ordsA [], matsA [], wansA []]) := by
  refine acall_of_aw Tryz.func63 rfl rfl rfl ?_
  refine rn ?_
  refine aops_e rfl (oe_alloc rfl fun b0 => ?_)
  refine rn ?_
  refine qv rfl rfl (qv_buildSlice rfl rfl) ?_
  refine qv rfl rfl (qv_buildSlice rfl rfl) ?_
  refine qv rfl rfl (qv_buildSlice rfl rfl) ?_
  refine rn ?_
  refine qv rfl rfl (qv_buildSlice rfl rfl) ?_
  refine rn ?_
  exact retq (.cons _ _ _ _ (.agg _ _ _ _ _ _ _ rfl inferInstance inferInstance inferInstance rfl) .nil) (.trans (.drop1 _ _ _) (.le (Sb.aggs (bs := [strsA smallH.ts, strsA smallH.ss, strsA smallH.os, strsA [], .list true 9 (smallH.evs.map evR), ordsA [], matsA [], wansA []]) (by exact ⟨.unfull, .unfull, .unfull, .nil _ _, (.lists (by simp) ⟨⟨.refl _, .refl _, .refl _, .refl _, .refl _, .refl _, .refl _, .refl _, .nil _ _, trivial⟩, ⟨.refl _, .refl _, .refl _, .refl _, .refl _, .refl _, .refl _, .refl _, .nil _ _, trivial⟩, ⟨.refl _, .refl _, .refl _, .refl _, .refl _, .refl _, .refl _, .refl _, .nil _ _, trivial⟩, trivial⟩), .nil _ _, .nil _ _, .nil _ _, trivial⟩)).le)) ⟨rfl, rfl⟩
theorem limA : Lim 4611686018427387904 smallH := ⟨by decide, by decide, by decide, by decide, by decide, by decide, by decide, by decide, by decide, by decide, by decide⟩
theorem limB : Lim 4611686018427387904 lateH := ⟨by decide, by decide, by decide, by decide, by decide, by decide, by decide, by decide, by decide, by decide, by decide⟩
theorem firstA : ACall Tryz.prog 16 [.agg (histC smallH)] [.glob 1 114 limitsC, .glob 2 235 firstC, .glob 3 238 acceptC, .glob 0 104 asksC] (fun r h' => h' = [.glob 1 114 limitsC, .glob 2 235 firstC, .glob 3 238 acceptC, .glob 0 104 asksC] ∧ r = .tup [.agg [iv 0, iv 0], bv false, iv 0]) := (rFirst smallH limA).mono fun _ _ q => ⟨q.1, by rw [q.2, v15a]⟩
theorem firstB : ACall Tryz.prog 16 [.agg (histC lateH)] [.glob 1 114 limitsC, .glob 2 235 firstC, .glob 3 238 acceptC, .glob 0 104 asksC] (fun r h' => h' = [.glob 1 114 limitsC, .glob 2 235 firstC, .glob 3 238 acceptC, .glob 0 104 asksC] ∧ r = .tup [.agg [iv 2, iv 3], bv true, iv 0]) := (rFirst lateH limB).mono fun _ _ q => ⟨q.1, by rw [q.2, v15b]⟩
theorem writersA : ACall Tryz.prog 23 [.agg (histC smallH), iv 0] [.glob 1 114 limitsC, .glob 2 235 firstC, .glob 3 238 acceptC, .glob 0 104 asksC] (fun r h' => h' = [.glob 1 114 limitsC, .glob 2 235 firstC, .glob 3 238 acceptC, .glob 0 104 asksC] ∧ r = .tup [intsA [0], iv 0]) := (rWritersF smallH 0 limA).mono fun _ _ q => ⟨q.1, by rw [q.2, v15c]⟩
theorem soundA : ACall Tryz.prog 17 [.agg (histC smallH)] [.glob 1 114 limitsC, .glob 2 235 firstC, .glob 3 238 acceptC, .glob 0 104 asksC] (fun r h' => h' = [.glob 1 114 limitsC, .glob 2 235 firstC, .glob 3 238 acceptC, .glob 0 104 asksC] ∧ r = bv true) := (rSound smallH limA).mono fun _ _ q => ⟨q.1, by rw [q.2, v15d]⟩
theorem equalA : ACall Tryz.prog 25 [.list false 1 ([0].map intR), .list true 1 ([0].map intR)] [] (fun r h' => h' = [] ∧ r = bv true) := (equalInt [0] [0] (by decide) (by decide)).mono fun _ _ q => ⟨q.1, by rw [q.2]; rfl⟩
set_option maxHeartbeats 4000000 in
theorem wakesA  : ACall Tryz.prog 14 [] [.glob 1 114 limitsC, .glob 2 235 firstC, .glob 3 238 acceptC, .glob 0 104 asksC] (fun r h' => h' = [.glob 1 114 limitsC, .glob 2 235 firstC, .glob 3 238 acceptC, .glob 0 104 asksC] ∧ r = bv true) := by
  refine acall_of_aw Tryz.func14 rfl rfl rfl ?_
  refine rn ?_
  refine qv rfl rfl (qv_call rfl rfl (pcall smallA (Sbs.refl _))) ?_
  refine aops_e rfl (oe_alloc rfl fun b1 => ?_)
  refine rn ?_
  refine qv rfl rfl (qv_call rfl rfl (FCall.qt (FCall.of_fun firstA) ((pt1 _ _ _).trans (.cons _ ((pt1 _ _ _).trans (.cons _ ((pt1 _ _ _).trans (.cons _ (pt1 _ _ _))))))))) ?_
  refine rn ?_
  refine aops_e rfl (oe_alloc rfl fun b2 => ?_)
  refine rn ?_
  refine qv rfl rfl (qv_call rfl rfl (pcall smallB (Sbs.refl _))) ?_
  refine aops_e rfl (oe_alloc rfl fun b5 => ?_)
  refine rn ?_
  refine qv rfl rfl (qv_buildSlice rfl rfl) ?_
  refine qv rfl rfl (qv_append rfl rfl (by decide)) ?_
  refine rn ?_
  refine qv rfl rfl (qv_call rfl rfl (FCall.le (FCall.qt (FCall.of_fun firstB) ((pt3 _ _ _ _ _).trans (.cons _ ((pt3 _ _ _ _ _).trans (.cons _ ((pt3 _ _ _ _ _).trans (.cons _ (pt3 _ _ _ _ _)))))))) (Sbs.les (bs := [.agg (histC lateH)]) ⟨.aggs ⟨.refl _, .refl _, .refl _, .refl _, .lists (by simp) ⟨.refl _, .refl _, .refl _, ⟨.refl _, .refl _, .refl _, .refl _, .refl _, .refl _, .refl _, .refl _, .nil _ _, trivial⟩, trivial⟩, .refl _, .refl _, .refl _, trivial⟩, trivial⟩))) ?_
  refine rn ?_
  refine aops_e rfl (oe_alloc rfl fun b6 => ?_)
  refine rn ?_
  refine qv rfl rfl (qv_call rfl rfl (FCall.qt (FCall.of_fun writersA) ((pt4 _ _ _ _ _ _).trans (.cons _ ((pt4 _ _ _ _ _ _).trans (.cons _ ((pt4 _ _ _ _ _ _).trans (.cons _ (pt4 _ _ _ _ _ _))))))))) ?_
  refine rn ?_
  refine qv rfl rfl (qv_call rfl rfl (FCall.qt (FCall.of_fun soundA) ((pt4 _ _ _ _ _ _).trans (.cons _ ((pt4 _ _ _ _ _ _).trans (.cons _ ((pt4 _ _ _ _ _ _).trans (.cons _ (pt4 _ _ _ _ _ _))))))))) ?_
  refine rn ?_
  refine qv rfl rfl (qv_buildSlice rfl rfl) ?_
  refine qv rfl rfl (qv_call rfl rfl (pcall equalA (Sbs.refl _))) ?_
  refine rn ?_
  first | (refine rq 4 ?_; exact ⟨rfl, rfl⟩) | (exfalso; simp_all; done)
end Go.Proofs
/- The walk of history.own. Conditions: none. -/
set_option linter.unusedVariables false
set_option linter.unusedSimpArgs false
set_option maxRecDepth 10000
namespace Go.Proofs
open Go Go.Ab
attribute [local irreducible] QR QV OE aops aw dsoup dsoupM dalloc dallocM thn inBlk
open Go.H
def nmR (n : NV) (h : Hist) (L : List Res) : List Res := .row n.vT.v 1 9 (h.ts.map strR) :: .row n.vS.v 1 9 (h.ss.map strR) :: .row n.vO.v 1 9 (h.os.map strR) :: .row n.vP.v 1 9 (h.ps.map strR) :: L
def ohF (o : OH) (L : List Res) : List Res := .row o.vE.v 9 77 (o.evs.map evRw) :: .row o.vR.v 2 98 (o.ords.map ordRw) :: .row o.vM.v 4 91 (o.mats.map matRw) :: .row o.vW.v 2 102 (o.wants.map wanR) :: (scR 81 o.evs ++ (otR 3 o.ords ++ (mtR 3 o.mats ++ L)))
def ohR (o : OH) : List Res := .row o.vE.v 9 77 (o.evs.map evRw) :: .row o.vR.v 2 98 (o.ords.map ordRw) :: .row o.vM.v 4 91 (o.mats.map matRw) :: .row o.vW.v 2 102 (o.wants.map wanR) :: (scR 81 o.evs ++ (otR 3 o.ords ++ mtR 3 o.mats))
theorem ohF_eq (o : OH) (L : List Res) : ohR o ++ L = ohF o L := by simp [ohR, ohF]
theorem own (h : Hist) (la : Lim 1099511627776 h) : ACall Tryz.prog 77 [.agg (histC h)] [] (fun r h' => ∃ (n : NV) (o : OH), o.hist = h ∧ h' = nmR n h (ohR o) ∧ r = .agg (n.cells ++ o.cells)) := by
  refine acall_of_aw Tryz.func77 rfl rfl rfl ?_
  refine rn ?_
  refine aops_e rfl (oe_box rfl rfl rfl fun b1 => ?_)
  refine aops_e rfl (oe_alloc rfl fun b2 => ?_)
  refine rn0 ?_
  refine aw_cutE (fun _ : SV × SV × SV × SV => True) (fun x => ⟨[(1, .v (.pointer (some ⟨b1, 0, none⟩))), (2, .v (.pointer (some ⟨b2, 0, none⟩)))], .box b2 28 histZ :: .box b1 28 [.v x.1.v, .v x.2.1.v, .v x.2.2.1.v, .v x.2.2.2.v, evsA h.evs, ordsA h.ords, matsA h.mats, wansA h.wants] :: .row x.1.v 1 9 (h.ts.map strR) :: .row x.2.1.v 1 9 (h.ss.map strR) :: .row x.2.2.1.v 1 9 (h.os.map strR) :: .row x.2.2.2.v 1 9 (h.ps.map strR) :: [], []⟩) ?_ ?_
  · refine aw_drawM 13 rfl ?_
    refine rn ?_
    refine mcall (mrow 1 9 (h.ts.map strR)) rfl rfl rfl (mk_row (FCall.of_fun (cloneRowStr _ (by simpa using la.ts) (one_str _)))) ?_
    refine rn ?_
    refine mcall (mrow 1 9 (h.ss.map strR)) rfl rfl rfl (mk_row (FCall.of_fun (cloneRowStr _ (by simpa using la.ss) (one_str _)))) ?_
    refine rn ?_
    refine mcall (mrow 1 9 (h.os.map strR)) rfl rfl rfl (mk_row (FCall.of_fun (cloneRowStr _ (by simpa using la.os) (one_str _)))) ?_
    refine rn ?_
    refine mcall (mrow 1 9 (h.ps.map strR)) rfl rfl rfl (mk_row (FCall.of_fun (cloneRowStr _ (by simpa using la.ps) (one_str _)))) ?_
    refine rn ?_
    refine mnil ⟨.refl _, ?_⟩
    refine rn ?_
    refine mal_row fun s8 => ?_
    refine rn ?_
    refine mal_row fun s11 => ?_
    refine rn ?_
    refine mal_row fun s14 => ?_
    refine rn ?_
    refine mal_row fun s17 => ?_
    refine rn ?_
    exact ⟨(s8, s11, s14, s17), trivial, ent_trans (ent_perm ((pt4 _ _ _ _ _ _).trans (.cons _ ((pt4 _ _ _ _ _ _).trans (.cons _ ((pt3 _ _ _ _ _).trans (.cons _ ((pt2 _ _ _ _).trans (.cons _ (pt1 _ _ _)))))))))) (ent_sub (.cons _ _ _ rfl (.cons _ _ _ rfl (.nil))))⟩
  · rintro ⟨s8, s11, s14, s17⟩ _
    refine aw_cutE (fun _ : SV × SV × SV × SV => True) (fun x => ⟨[(1, .v (.pointer (some ⟨b1, 0, none⟩))), (2, .v (.pointer (some ⟨b2, 0, none⟩)))], .box b2 28 histZ :: .box b1 28 [.v s8.v, .v s11.v, .v s14.v, .v s17.v, .v x.1.v, .v x.2.1.v, .v x.2.2.1.v, .v x.2.2.2.v] :: .row s8.v 1 9 (h.ts.map strR) :: .row s11.v 1 9 (h.ss.map strR) :: .row s14.v 1 9 (h.os.map strR) :: .row s17.v 1 9 (h.ps.map strR) :: .row x.1.v 9 77 (h.evs.map evR) :: .row x.2.1.v 2 98 (h.ords.map ordR) :: .row x.2.2.1.v 4 91 (h.mats.map matR) :: .row x.2.2.2.v 2 102 (h.wants.map wanR) :: [], []⟩) ?_ ?_
    · refine aw_drawM 13 rfl ?_
      refine rn ?_
      refine mcall (mrow 9 77 (h.evs.map evR)) rfl rfl rfl (mk_row (FCall.of_fun (cloneRowEv _ (by simpa using la.evs) (one_ev _)))) ?_
      refine rn ?_
      refine mcall (mrow 2 98 (h.ords.map ordR)) rfl rfl rfl (mk_row (FCall.of_fun (cloneRowOrd _ (by simpa using la.ords) (one_ord _)))) ?_
      refine rn ?_
      refine mcall (mrow 4 91 (h.mats.map matR)) rfl rfl rfl (mk_row (FCall.of_fun (cloneRowMat _ (by simpa using la.mats) (one_mat _)))) ?_
      refine rn ?_
      refine mcall (mrow 2 102 (h.wants.map wanR)) rfl rfl rfl (mk_row (FCall.of_fun (cloneRowWan _ (by simpa using la.wants) (one_wan _)))) ?_
      refine rn ?_
      refine mnil ⟨.refl _, ?_⟩
      refine rn ?_
      refine mal_row fun s24 => ?_
      refine rn ?_
      refine mal_row fun s27 => ?_
      refine rn ?_
      refine mal_row fun s30 => ?_
      refine rn ?_
      refine mal_row fun s33 => ?_
      refine rn ?_
      exact ⟨(s24, s27, s30, s33), trivial, ent_trans (ent_perm ((pt4 _ _ _ _ _ _).trans (.cons _ ((pt4 _ _ _ _ _ _).trans (.cons _ ((pt4 _ _ _ _ _ _).trans (.cons _ ((pt4 _ _ _ _ _ _).trans (.cons _ ((pt4 _ _ _ _ _ _).trans (.cons _ ((pt4 _ _ _ _ _ _).trans (.cons _ ((pt3 _ _ _ _ _).trans (.cons _ ((pt2 _ _ _ _).trans (.cons _ (pt1 _ _ _)))))))))))))))))) (ent_sub (.cons _ _ _ rfl (.cons _ _ _ rfl (.nil))))⟩
    · rintro ⟨s24, s27, s30, s33⟩ _
      refine rn ?_
      refine aw_loop' (fun x : Nat × List (SV × Ev) => x.1 ≤ h.evs.length ∧ x.2.map (·.2) = h.evs.take x.1) (fun x => ⟨[(41, iv x.1), (40, iv (h.evs.map evR).length), (1, .v (.pointer (some ⟨b1, 0, none⟩))), (2, .v (.pointer (some ⟨b2, 0, none⟩)))], .box b2 28 histZ :: .box b1 28 [.v s8.v, .v s11.v, .v s14.v, .v s17.v, .v s24.v, .v s27.v, .v s30.v, .v s33.v] :: .row s8.v 1 9 (h.ts.map strR) :: .row s11.v 1 9 (h.ss.map strR) :: .row s14.v 1 9 (h.os.map strR) :: .row s17.v 1 9 (h.ps.map strR) :: .row s24.v 9 77 (x.2.map evRw ++ (h.evs.drop x.1).map evR) :: .row s27.v 2 98 (h.ords.map ordR) :: .row s30.v 4 91 (h.mats.map matR) :: .row s33.v 2 102 (h.wants.map wanR) :: scR 81 x.2, []⟩) (fun x => h.evs.length - x.1) (0, []) ⟨by omega, rfl⟩
        (ent_sub (.cons _ _ _ rfl (.cons _ _ _ rfl (.cons _ _ _ rfl (.cons _ _ _ rfl (.nil)))))) ?_
      rintro ⟨k, x⟩ ⟨hk, hx⟩
      simp only at hk hx
      have hxl := mid_len2 hx hk
      refine rn ?_
      refine aw_cond rfl (fun hc42 => ?_) (fun hc42 => ?_)
      · have hk2 : k < h.evs.length := by simpa using hc42
        obtain ⟨e, he⟩ : ∃ e, e = h.evs[k] := ⟨_, rfl⟩
        have hd := List.drop_eq_getElem_cons hk2
        rw [← he] at hd
        have hrow : (x.map evRw ++ (h.evs.drop k).map evR)[k]? = some (evR e) := mid_get hxl hd
        have hmem : e ∈ h.evs := by rw [he]; simp
        have hle := la.evs
        have hk3 : k < (x.map evRw ++ (h.evs.drop k).map evR).length := by rw [mid_len hxl hk]; exact hk2
        refine rn ?_
        refine aw_drawM 10 rfl ?_
        refine mq rfl rfl qrA ?_
        refine mq rfl rfl qrA ?_
        refine mq rfl rfl qrA ?_
        refine mq rfl rfl qrA ?_
        refine mq rfl rfl qrA ?_
        refine mq rfl rfl qrA ?_
        refine mq rfl rfl (qr_index_row rfl rfl hk3) ?_
        refine mq rfl rfl qrA ?_
        refine mq rfl rfl (qr_load_rp_one rfl hrow rfl) ?_
        refine mcall (mrow 3 81 (e.scan.map seenR)) rfl rfl rfl (mk_row (FCall.of_fun (cloneRowSeen _ (by simpa using (la.scans e hmem)) (one_seen _)))) ?_
        refine mnil ⟨.refl _, ?_⟩
        refine rn ?_
        refine mal_row fun s53 => ?_
        refine rn2 ?_
        refine qq rfl rfl (qr_index_row rfl rfl hk3) ?_
        refine rn ?_
        refine aops_e rfl (oe_store_rp rfl rfl rfl hrow rfl (Nat.le_of_ble_eq_true rfl) ?_)
        refine rn ?_
        have hset := mid_set (f := evRw) (g := evR) (a := (s53, e)) (r := (evR e).take 8 ++ [.v s53.v] ++ (evR e).drop (8 + 1)) hxl hd rfl
        have htl : scR 81 (x ++ [(s53, e)]) = scR 81 x ++ [.row s53.v 3 81 (e.scan.map seenR)] := by simp [scR]
        exact ⟨(k + 1, x ++ [(s53, e)]), ⟨by omega, mid_snoc hx hk2 he⟩, by simp only [htl]; exact ent_trans (ent_perm (perm_swap [_] _)) (by rw [← hset]; exact (ent_sub (.cons _ _ _ rfl (.cons _ _ _ rfl (.cons _ _ _ rfl (.cons _ _ _ rfl (.nil))))))), by simp only; omega⟩
      · obtain rfl : k = h.evs.length := by
          have : h.evs.length ≤ k := by simpa using hc42
          omega
        rw [List.take_length] at hx
        obtain ⟨E, hE⟩ : ∃ E, E = x := ⟨_, rfl⟩
        rw [← hE] at hx ⊢
        have hxE := hx
        rw [List.drop_length, List.map_nil, List.append_nil]
        refine rn ?_
        refine aw_loop' (fun x : Nat × List (SV × H.Ord) => x.1 ≤ h.ords.length ∧ x.2.map (·.2) = h.ords.take x.1) (fun x => ⟨[(60, iv x.1), (59, iv (h.ords.map ordR).length), (1, .v (.pointer (some ⟨b1, 0, none⟩))), (2, .v (.pointer (some ⟨b2, 0, none⟩)))], .box b2 28 histZ :: .box b1 28 [.v s8.v, .v s11.v, .v s14.v, .v s17.v, .v s24.v, .v s27.v, .v s30.v, .v s33.v] :: .row s8.v 1 9 (h.ts.map strR) :: .row s11.v 1 9 (h.ss.map strR) :: .row s14.v 1 9 (h.os.map strR) :: .row s17.v 1 9 (h.ps.map strR) :: .row s24.v 9 77 (E.map evRw) :: .row s27.v 2 98 (x.2.map ordRw ++ (h.ords.drop x.1).map ordR) :: .row s30.v 4 91 (h.mats.map matR) :: .row s33.v 2 102 (h.wants.map wanR) :: (scR 81 E ++ otR 3 x.2), []⟩) (fun x => h.ords.length - x.1) (0, []) ⟨by omega, rfl⟩
          (by simp only [otR, List.map_nil, List.append_nil]; exact (ent_sub (.cons _ _ _ rfl (.cons _ _ _ rfl (.cons _ _ _ rfl (.cons _ _ _ rfl (.nil))))))) ?_
        rintro ⟨k, x⟩ ⟨hk, hx⟩
        simp only at hk hx
        have hxl := mid_len2 hx hk
        refine rn ?_
        refine aw_cond rfl (fun hc61 => ?_) (fun hc61 => ?_)
        · have hk2 : k < h.ords.length := by simpa using hc61
          obtain ⟨e, he⟩ : ∃ e, e = h.ords[k] := ⟨_, rfl⟩
          have hd := List.drop_eq_getElem_cons hk2
          rw [← he] at hd
          have hrow : (x.map ordRw ++ (h.ords.drop k).map ordR)[k]? = some (ordR e) := mid_get hxl hd
          have hmem : e ∈ h.ords := by rw [he]; simp
          have hle := la.ords
          have hk3 : k < (x.map ordRw ++ (h.ords.drop k).map ordR).length := by rw [mid_len hxl hk]; exact hk2
          refine rn ?_
          refine aw_drawM 10 rfl ?_
          refine mq rfl rfl qrA ?_
          refine mq rfl rfl qrA ?_
          refine mq rfl rfl qrA ?_
          refine mq rfl rfl qrA ?_
          refine mq rfl rfl qrA ?_
          refine mq rfl rfl qrA ?_
          refine mq rfl rfl (qr_index_row rfl rfl hk3) ?_
          refine mq rfl rfl qrA ?_
          refine mq rfl rfl (qr_load_rp_one rfl hrow rfl) ?_
          refine mcall (mrow 1 3 (e.ts.map intR)) rfl rfl rfl (mk_row (FCall.of_fun (cloneRowInt _ (by simpa using (la.ordts e hmem)) (one_int _)))) ?_
          refine mnil ⟨.refl _, ?_⟩
          refine rn ?_
          refine mal_row fun s72 => ?_
          refine rn2 ?_
          refine qq rfl rfl (qr_index_row rfl rfl hk3) ?_
          refine rn ?_
          refine aops_e rfl (oe_store_rp rfl rfl rfl hrow rfl (Nat.le_of_ble_eq_true rfl) ?_)
          refine rn ?_
          have hset := mid_set (f := ordRw) (g := ordR) (a := (s72, e)) (r := (ordR e).take 1 ++ [.v s72.v] ++ (ordR e).drop (1 + 1)) hxl hd rfl
          have htl : ∀ L : List Res, L ++ otR 3 (x ++ [(s72, e)]) = (L ++ otR 3 x) ++ [.row s72.v 1 3 (e.ts.map intR)] := by simp [otR]
          exact ⟨(k + 1, x ++ [(s72, e)]), ⟨by omega, mid_snoc hx hk2 he⟩, by simp only [htl]; exact ent_trans (ent_perm (perm_swap [_] _)) (by rw [← hset]; exact (ent_sub (.cons _ _ _ rfl (.cons _ _ _ rfl (.cons _ _ _ rfl (.cons _ _ _ rfl (.nil))))))), by simp only; omega⟩
        · obtain rfl : k = h.ords.length := by
            have : h.ords.length ≤ k := by simpa using hc61
            omega
          rw [List.take_length] at hx
          obtain ⟨O, hO⟩ : ∃ O, O = x := ⟨_, rfl⟩
          rw [← hO] at hx ⊢
          have hxO := hx
          rw [List.drop_length, List.map_nil, List.append_nil]
          refine rn ?_
          refine aw_loop' (fun x : Nat × List (SV × Mat) => x.1 ≤ h.mats.length ∧ x.2.map (·.2) = h.mats.take x.1) (fun x => ⟨[(79, iv x.1), (78, iv (h.mats.map matR).length), (1, .v (.pointer (some ⟨b1, 0, none⟩))), (2, .v (.pointer (some ⟨b2, 0, none⟩)))], .box b2 28 histZ :: .box b1 28 [.v s8.v, .v s11.v, .v s14.v, .v s17.v, .v s24.v, .v s27.v, .v s30.v, .v s33.v] :: .row s8.v 1 9 (h.ts.map strR) :: .row s11.v 1 9 (h.ss.map strR) :: .row s14.v 1 9 (h.os.map strR) :: .row s17.v 1 9 (h.ps.map strR) :: .row s24.v 9 77 (E.map evRw) :: .row s27.v 2 98 (O.map ordRw) :: .row s30.v 4 91 (x.2.map matRw ++ (h.mats.drop x.1).map matR) :: .row s33.v 2 102 (h.wants.map wanR) :: (scR 81 E ++ (otR 3 O ++ mtR 3 x.2)), []⟩) (fun x => h.mats.length - x.1) (0, []) ⟨by omega, rfl⟩
            (by simp only [mtR, List.map_nil, List.append_nil]; exact (ent_sub (.cons _ _ _ rfl (.cons _ _ _ rfl (.cons _ _ _ rfl (.cons _ _ _ rfl (.nil))))))) ?_
          rintro ⟨k, x⟩ ⟨hk, hx⟩
          simp only at hk hx
          have hxl := mid_len2 hx hk
          refine rn ?_
          refine aw_cond rfl (fun hc80 => ?_) (fun hc80 => ?_)
          · have hk2 : k < h.mats.length := by simpa using hc80
            obtain ⟨e, he⟩ : ∃ e, e = h.mats[k] := ⟨_, rfl⟩
            have hd := List.drop_eq_getElem_cons hk2
            rw [← he] at hd
            have hrow : (x.map matRw ++ (h.mats.drop k).map matR)[k]? = some (matR e) := mid_get hxl hd
            have hmem : e ∈ h.mats := by rw [he]; simp
            have hle := la.mats
            have hk3 : k < (x.map matRw ++ (h.mats.drop k).map matR).length := by rw [mid_len hxl hk]; exact hk2
            refine rn ?_
            refine aw_drawM 10 rfl ?_
            refine mq rfl rfl qrA ?_
            refine mq rfl rfl qrA ?_
            refine mq rfl rfl qrA ?_
            refine mq rfl rfl qrA ?_
            refine mq rfl rfl qrA ?_
            refine mq rfl rfl qrA ?_
            refine mq rfl rfl (qr_index_row rfl rfl hk3) ?_
            refine mq rfl rfl qrA ?_
            refine mq rfl rfl (qr_load_rp_one rfl hrow rfl) ?_
            refine mcall (mrow 1 3 (e.ts.map intR)) rfl rfl rfl (mk_row (FCall.of_fun (cloneRowInt _ (by simpa using (la.matts e hmem)) (one_int _)))) ?_
            refine mnil ⟨.refl _, ?_⟩
            refine rn ?_
            refine mal_row fun s91 => ?_
            refine rn2 ?_
            refine qq rfl rfl (qr_index_row rfl rfl hk3) ?_
            refine rn ?_
            refine aops_e rfl (oe_store_rp rfl rfl rfl hrow rfl (Nat.le_of_ble_eq_true rfl) ?_)
            refine rn ?_
            have hset := mid_set (f := matRw) (g := matR) (a := (s91, e)) (r := (matR e).take 3 ++ [.v s91.v] ++ (matR e).drop (3 + 1)) hxl hd rfl
            have htl : ∀ L L2 : List Res, L ++ (L2 ++ mtR 3 (x ++ [(s91, e)])) = (L ++ (L2 ++ mtR 3 x)) ++ [.row s91.v 1 3 (e.ts.map intR)] := by simp [mtR]
            exact ⟨(k + 1, x ++ [(s91, e)]), ⟨by omega, mid_snoc hx hk2 he⟩, by simp only [htl]; exact ent_trans (ent_perm (perm_swap [_] _)) (by rw [← hset]; exact (ent_sub (.cons _ _ _ rfl (.cons _ _ _ rfl (.cons _ _ _ rfl (.cons _ _ _ rfl (.nil))))))), by simp only; omega⟩
          · obtain rfl : k = h.mats.length := by
              have : h.mats.length ≤ k := by simpa using hc80
              omega
            rw [List.take_length] at hx
            obtain ⟨M, hM⟩ : ∃ M, M = x := ⟨_, rfl⟩
            rw [← hM] at hx ⊢
            have hxM := hx
            rw [List.drop_length, List.map_nil, List.append_nil]
            refine rn ?_
            exact retq (.cons _ _ _ _ (.agg _ _ _ _ _ _ _ rfl inferInstance inferInstance inferInstance rfl) .nil) (.drop [_, _] _ _) ⟨⟨s8, s11, s14, s17⟩, ⟨s24, s27, s30, s33, h.ts, h.ss, h.os, h.ps, E, O, M, h.wants⟩, by simp only [OH.hist, hxE, hxO, hxM], rfl, rfl⟩
end Go.Proofs
/- The walk of history.spoken, writing. Conditions: none. -/
set_option linter.unusedVariables false
set_option linter.unusedSimpArgs false
set_option maxRecDepth 10000
namespace Go.Proofs
open Go Go.Ab
attribute [local irreducible] QR QV OE aops aw dsoup dsoupM dalloc dallocM thn inBlk
open Go.H
end Go.Proofs
