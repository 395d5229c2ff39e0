/- The walk of the reference's first. Conditions: none. -/
import Derived.Test.YtdbfjfphfbcgiaaGreatDoorPlaceH
set_option linter.unusedSimpArgs false
set_option linter.unusedVariables false
set_option linter.unusedVariables false
set_option linter.unusedSimpArgs false
set_option maxRecDepth 10000
namespace Go.Proofs
open Go Go.Ab
attribute [local irreducible] QR QV OE aops aw dsoup dsoupM dalloc dallocM thn inBlk
open Go.H
theorem ref2First (s : ByteArray) : ACall Tryz.prog 202 [sv s] [] (fun r h' => h' = [] ∧ r = .tup [.v (.int .i32 (firstR s).1), iv (firstR s).2]) := by
  refine acall_of_aw Tryz.func202 rfl rfl rfl ?_
  refine rn ?_
  refine aops_e rfl (oe_range_str rfl rfl fun b8 => ?_)
  refine rn ?_
  refine aw_loop' (fun x : Unit => True) (fun x => ⟨[(8, .v (.pointer (some ⟨b8, 0, none⟩))), (0, sv s), (2, .v (.int .i32 0)), (3, iv 0)], [.obj b8 (.stringIter s 0)], []⟩) (fun x => 0) () trivial
    (ent_sub (.cons _ _ _ rfl (.cons _ _ _ rfl (.cons _ _ _ rfl (.cons _ _ _ rfl (.nil)))))) ?_
  rintro _ _
  refine aw_seq (aw_region ?_)
  refine aops_e rfl (oe_next_str rfl rfl (fun hp => ?_) (fun hp => ?_))
  · refine rn ?_
    refine aw_cond rfl (fun hc10 => ?_) (fun hc10 => ?_)
    · first | cases hc10 | exact absurd hc10 (by decide) | (exfalso; simp_all; done)
    · refine rn ?_
      exact retq (.cons _ _ _ _ (.tmp _ _ rfl) (.cons _ _ _ _ (.tmp _ _ rfl) .nil)) (.drop1 _ _ _) ⟨rfl, by first | (rw [firstR, if_pos hp]; rfl) | (rw [firstR, if_neg (by omega)]; split <;> first | rfl | (exfalso; simp_all; done) | (exfalso; simp_all; omega))⟩
  · refine rn ?_
    refine aw_cond rfl (fun hc10 => ?_) (fun hc10 => ?_)
    · refine rn ?_
      refine aw_cond rfl (fun hc14 => ?_) (fun hc14 => ?_)
      · exact absurd hc14 (by decide)
      · refine aw_skip ?_
        refine thn_n ?_
        refine aw_seq (aw_region ?_)
        refine q1 ?_
        refine qq rfl rfl (qr_convert_str rfl) ?_
        refine rn ?_
        refine asplit (fun hg6_2 => ?_) (fun hg6_2 => ?_)
        · refine rn ?_
          refine asplit (fun hg6_6 => ?_) (fun hg6_6 => ?_)
          · refine rn ?_
            refine aw_cond rfl (fun hc29 => ?_) (fun hc29 => ?_)
            · refine rn ?_
              exact retq (.cons _ _ _ _ (.tmp _ _ rfl) (.cons _ _ _ _ (.tmp _ _ rfl) .nil)) (.drop1 _ _ _) ⟨rfl, by first | (rw [firstR, if_pos hp]; rfl) | (rw [firstR, if_neg (by omega)]; split <;> first | rfl | (exfalso; simp_all; done) | (exfalso; simp_all; omega))⟩
            · first | cases hc29 | exact absurd hc29 (by decide) | (exfalso; simp_all; done)
          · refine q1 ?_
            refine qq rfl rfl (qr_slice_string_h (k := 3) rfl rfl (by have := hg6_6; simp at this; omega)) ?_
            refine rn ?_
            refine aw_cond rfl (fun hc29 => ?_) (fun hc29 => ?_)
            · refine rn ?_
              exact retq (.cons _ _ _ _ (.tmp _ _ rfl) (.cons _ _ _ _ (.tmp _ _ rfl) .nil)) (.drop1 _ _ _) ⟨rfl, by first | (rw [firstR, if_pos hp]; rfl) | (rw [firstR, if_neg (by omega)]; split <;> first | rfl | (exfalso; simp_all; done) | (exfalso; simp_all; omega))⟩
            · refine rn ?_
              exact retq (.cons _ _ _ _ (.tmp _ _ rfl) (.cons _ _ _ _ (.tmp _ _ rfl) .nil)) (.drop1 _ _ _) ⟨rfl, by first | (rw [firstR, if_pos hp]; rfl) | (rw [firstR, if_neg (by omega)]; split <;> first | rfl | (exfalso; simp_all; done) | (exfalso; simp_all; omega))⟩
        · refine rn ?_
          refine aw_cond rfl (fun hc29 => ?_) (fun hc29 => ?_)
          · first | cases hc29 | exact absurd hc29 (by decide) | (exfalso; simp_all; done)
          · refine rn ?_
            exact retq (.cons _ _ _ _ (.tmp _ _ rfl) (.cons _ _ _ _ (.tmp _ _ rfl) .nil)) (.drop1 _ _ _) ⟨rfl, by first | (rw [firstR, if_pos hp]; rfl) | (rw [firstR, if_neg (by omega)]; split <;> first | rfl | (exfalso; simp_all; done) | (exfalso; simp_all; omega))⟩
    · first | cases hc10 | exact absurd hc10 (by decide) | (exfalso; simp_all; done)
end Go.Proofs
/- The walks of the reference's Word and RightNames. Conditions: none. -/
set_option linter.unusedVariables false
set_option linter.unusedSimpArgs false
set_option maxRecDepth 10000
namespace Go.Proofs
open Go Go.Ab
attribute [local irreducible] QR QV OE aops aw dsoup dsoupM dalloc dallocM thn inBlk
open Go.H
theorem ref2FirstN (s : ByteArray) (c n : Int) (h : firstR s = (c, n)) : ACall Tryz.prog 202 [sv s] [] (fun r h' => h' = [] ∧ r = .tup [.v (.int .i32 c), iv n]) :=
  (ref2First s).mono fun _ _ q => ⟨q.1, by rw [q.2, h]⟩
theorem ref2Word (s : ByteArray) : ACall Tryz.prog 163 [sv s] [] (fun r h' => h' = [] ∧ r = bv (wordB s)) := by
  refine acall_of_aw Tryz.func163 rfl rfl rfl ?_
  refine rn ?_
  refine asplit (fun hg1_2 => ?_) (fun hg1_2 => ?_)
  · refine rn ?_
    refine aw_ct rfl ?_
    refine rn ?_
    refine rq 0 ?_
    exact ⟨rfl, congrArg bv (by first | (rw [wordB_eq, ← emptyL, hg1_2]; rfl) | (rw [wordB_eq, decide_eq_false (show ¬ (s.size : Int) ≤ 24 by simp at hc12; omega), Bool.and_false]; rfl))⟩
  · refine rn ?_
    refine aw_cond rfl (fun hc12 => ?_) (fun hc12 => ?_)
    · refine rn ?_
      refine rq 0 ?_
      exact ⟨rfl, congrArg bv (by first | (rw [wordB_eq, ← emptyL, hg1_2]; rfl) | (rw [wordB_eq, decide_eq_false (show ¬ (s.size : Int) ≤ 24 by simp at hc12; omega), Bool.and_false]; rfl))⟩
    · have hlen : s.size ≤ 24 := by simp at hc12; omega
      refine rn ?_
      refine aw_while (fun i : Nat => wordR s 0 = wordR s i ∧ i ≤ 48) (fun i => ⟨[(3, iv i), (0, sv s)], [], []⟩) (fun i => s.size - i) 0 ⟨rfl, by omega⟩ es ?_
      rintro i ⟨hz, hi⟩
      refine rn ?_
      refine aw_cond rfl (fun hc16 => ?_) (fun hc16 => ?_)
      · have h1 : i < s.size := by simpa using hc16
        refine aw_skip ?_
        refine thn_n ?_
        refine aw_block ?_
        refine aw_seq (aw_region ?_)
        refine q1 ?_
        refine q1 ?_
        refine qq rfl rfl (qr_slice_string_l (k := i) rfl rfl (by omega)) ?_
        obtain ⟨c, n, hw, hn1, hn4⟩ := firstR_w h1
        refine qv rfl rfl (qv_call rfl rfl (pcall (ref2FirstN _ c n hw) (Sbs.refl _))) ?_
        refine rn ?_
        refine qv rfl rfl (qv_call rfl rfl (pcall (ref2Letter _) (Sbs.refl _))) ?_
        refine rn ?_
        refine asplit (fun hg6_3 => ?_) (fun hg6_3 => ?_)
        · refine rn ?_
          refine asplit (fun hg6_6 => ?_) (fun hg6_6 => ?_)
          · refine rn ?_
            refine aw_ct rfl ?_
            refine rn ?_
            refine rq 0 ?_
            exact ⟨rfl, congrArg bv (by rw [wordB_eq, hz, wordR_stop h1 hw (by simpa using hg6_3) (by first | exact .inl (by simpa using hg6_6) | exact .inr (by simpa using hc35)), Bool.and_false])⟩
          · refine rn ?_
            refine qv rfl rfl (qv_call rfl rfl (pcall (ref2Digit _) (Sbs.refl _))) ?_
            refine rn ?_
            refine aw_cond rfl (fun hc35 => ?_) (fun hc35 => ?_)
            · refine rn ?_
              refine rq 0 ?_
              exact ⟨rfl, congrArg bv (by rw [wordB_eq, hz, wordR_stop h1 hw (by simpa using hg6_3) (by first | exact .inl (by simpa using hg6_6) | exact .inr (by simpa using hc35)), Bool.and_false])⟩
            · refine rn ?_
              exact ⟨i + n, ⟨hz.trans (wordR_go h1 hw hn1 (.inr ⟨by simpa using hg6_6, by simpa using hc35⟩)), by omega⟩, eA, by omega⟩
        · refine rn ?_
          first | (refine qv rfl rfl (qv_call rfl rfl (pcall (ref2Digit _) (Sbs.refl _))) ?_) | refine qs rfl rfl ?_ | skip
          refine rn ?_
          refine aw_cf rfl ?_
          refine rn ?_
          exact ⟨i + n, ⟨hz.trans (wordR_go h1 hw hn1 (.inl (by simpa using hg6_3))), by omega⟩, eA, by omega⟩
      · have h1 : ¬ i < s.size := by simpa using hc16
        refine rn ?_
        refine rq 0 ?_
        exact ⟨rfl, congrArg bv (by rw [wordB_eq, ← emptyL, hg1_2, hz, wordR_end h1, decide_eq_true (show (s.size : Int) ≤ 24 by omega)]; rfl)⟩
theorem refRightNames (l : List ByteArray) (most : Nat) (hl : l.length ≤ 4611686018427387904) : ACall Tryz.prog 119 [strsA l, iv most] [] (fun r h' => h' = [] ∧ r = bv (namesB most l)) := by
  refine acall_of_aw Tryz.func119 rfl rfl rfl ?_
  refine rn ?_
  refine aw_rng (l.length) (fun k : Nat => freshB [] l = freshB (l.take k) (l.drop k)) (fun k => [(11, iv k)]) [(0, _), (1, _), (9, _), (10, _)] rfl ?_
  intro k lk zk
  refine rn ?_
  refine aw_cond rfl (fun hc12 => ?_) (fun hc12 => ?_)
  · have hk := ltMap hc12
    have rk := atRow (f := strR) hk
    refine rn ?_
    refine qv rfl rfl (qv_call rfl rfl (pcall (ref2Word _) (Sbs.refl _))) ?_
    refine rn ?_
    refine aw_cond rfl (fun hc18 => ?_) (fun hc18 => ?_)
    · refine rn ?_
      refine rq 0 ?_
      exact ⟨rfl, congrArg bv (by rw [namesB, fresh_w hk zk (by simpa using hc18), Bool.and_false])⟩
    · refine aw_skip ?_
      refine thn_n ?_
      refine aw_seq (aw_region ?_)
      refine q1 ?_
      refine q1 ?_
      refine qq rfl rfl (qr_slice_h (k := k) rfl rfl (by simp; omega)) ?_
      rw [← List.map_take]
      refine rn ?_
      refine aw_rng ((l.take k).length) (fun j : Nat => (l.take k).all (fun t => !(l[k].toList == t.toList)) = ((l.take k).drop j).all (fun t => !(l[k].toList == t.toList))) (fun j => [(23, iv j)]) [(0, _), (1, _), (6, _), (9, _), (10, _), (11, _), (21, _), (22, _)] rfl ?_
      intro j lj zj
      refine rn ?_
      refine aw_cond rfl (fun hc24 => ?_) (fun hc24 => ?_)
      · have hj := ltMap hc24
        have rj := atRow (f := strR) hj
        have bj : (l.take k).length ≤ 4611686018427387904 := by simp; omega
        refine rn ?_
        refine aw_cond rfl (fun hc29 => ?_) (fun hc29 => ?_)
        · refine rn ?_
          refine rq 0 ?_
          exact ⟨rfl, congrArg bv (by rw [namesB, fresh_m hk zk (allF hj (by simpa using hc29)), Bool.and_false])⟩
        · refine rn ?_
          exact ⟨hj, allT hj zj (by simpa using hc29), eA⟩
      · have qj := geMap hc24 lj
        have aj := allE qj zj
        refine rn ?_
        exact ⟨hk, fresh_step hk zk (by simpa using hc18) aj, eA⟩
  · have qk := geMap hc12 lk
    refine rn ?_
    refine rq 0 ?_
    exact ⟨rfl, congrArg bv (by rw [namesB, fresh_e qk zk]; simp)⟩
end Go.Proofs
/- The walk of the reference's Shaped. Conditions: none. -/
set_option linter.unusedVariables false
set_option linter.unusedSimpArgs false
set_option maxRecDepth 10000
namespace Go.Proofs
open Go Go.Ab
attribute [local irreducible] QR QV OE aops aw dsoup dsoupM dalloc dallocM thn inBlk
open Go.H
theorem refRightEvE (h : Hist) (e : Ev) (hl : e.scan.length ≤ 4611686018427387904) : ACall Tryz.prog 120 [.agg (histC h), .agg (evR e)] [] (fun r h' => h' = [] ∧ r = bv (eventB h e)) :=
  (refRightEv h e hl).mono fun _ _ q => ⟨q.1, by rw [q.2, rightEv_eq]⟩
theorem refShaped (h : Hist) (la : Lim 4611686018427387904 h) : ACall Tryz.prog 71 [.agg (histC h)] [] (fun r h' => h' = [] ∧ r = bv (shapedB h)) := by
  refine acall_of_aw Tryz.func71 rfl rfl rfl ?_
  refine rn ?_
  refine aops_e rfl (oe_box rfl rfl rfl fun b1 => ?_)
  refine rn ?_
  refine qv rfl rfl (qv_call rfl rfl (pcall (refRightNames h.ts 300 la.ts) (Sbs.refl _))) ?_
  refine rn ?_
  refine asplit (fun hg1_4 => ?_) (fun hg1_4 => ?_)
  · refine rn ?_
    refine aw_ct rfl ?_
    refine rn ?_
    refine rq 1 ?_
    exact ⟨rfl, congrArg bv (by rw [shaped_fn (by simp_all)])⟩
  · refine rn ?_
    refine qv rfl rfl (qv_call rfl rfl (pcall (refRightNames h.ss 60 la.ss) (Sbs.refl _))) ?_
    refine rn ?_
    refine asplit (fun hg1_10 => ?_) (fun hg1_10 => ?_)
    · refine rn ?_
      refine aw_ct rfl ?_
      refine rn ?_
      refine rq 1 ?_
      exact ⟨rfl, congrArg bv (by rw [shaped_fn (by simp_all)])⟩
    · refine rn ?_
      refine qv rfl rfl (qv_call rfl rfl (pcall (refRightNames h.os 300 la.os) (Sbs.refl _))) ?_
      refine rn ?_
      refine asplit (fun hg1_16 => ?_) (fun hg1_16 => ?_)
      · refine rn ?_
        refine aw_ct rfl ?_
        refine rn ?_
        refine rq 1 ?_
        exact ⟨rfl, congrArg bv (by rw [shaped_fn (by simp_all)])⟩
      · refine rn ?_
        refine qv rfl rfl (qv_call rfl rfl (pcall (refRightNames h.ps 60 la.ps) (Sbs.refl _))) ?_
        refine rn ?_
        refine aw_cond rfl (fun hc32 => ?_) (fun hc32 => ?_)
        · refine rn ?_
          refine rq 1 ?_
          exact ⟨rfl, congrArg bv (by rw [shaped_fn (by simp_all)])⟩
        · refine rn ?_
          refine aw_rng (h.evs.length) (fun i : Nat => h.evs.all (eventB h) = (h.evs.drop i).all (eventB h)) (fun i => [(36, iv i)]) [(1, _), (34, _), (35, _)] rfl ?_
          intro i li zi
          refine rn ?_
          refine aw_cond rfl (fun hc37 => ?_) (fun hc37 => ?_)
          · have hi := ltMap hc37
            have ri := atRow (f := evR) hi
            have bi := la.evs
            have si := la.scans h.evs[i] (List.getElem_mem hi)
            refine rn ?_
            refine aops_e rfl (oe_alloc rfl fun b4 => ?_)
            refine rn ?_
            refine qv rfl rfl (qv_call rfl rfl (pcall (refRightEvE h h.evs[i] si) (Sbs.refl _))) ?_
            refine rn ?_
            refine aw_cond rfl (fun hc43 => ?_) (fun hc43 => ?_)
            · refine rn ?_
              refine rq 2 ?_
              exact ⟨rfl, congrArg bv (by rw [shaped_fe (allF hi (by simpa using hc43))])⟩
            · refine rn ?_
              exact ⟨hi, allT hi zi (by simpa using hc43), eA⟩
          · have qi := geMap hc37 li
            have ai := allE qi zi
            refine rn ?_
            refine aw_rng (h.ords.length) (fun j : Nat => h.ords.all (ordB h) = (h.ords.drop j).all (ordB h)) (fun j => [(48, iv j)]) [(1, _), (46, _), (47, _)] rfl ?_
            intro j lj zj
            refine rn ?_
            refine aw_cond rfl (fun hc49 => ?_) (fun hc49 => ?_)
            · have hj := ltMap hc49
              have rj := atRow (f := ordR) hj
              have bj := la.ords
              have sj := la.ordts h.ords[j] (List.getElem_mem hj)
              refine rn ?_
              refine aops_e rfl (oe_alloc rfl fun b6 => ?_)
              refine rn ?_
              refine qv rfl rfl (qv_call rfl rfl (pcall (refIs _ _) (Sbs.refl _))) ?_
              refine rn ?_
              refine asplit (fun hg12_7 => ?_) (fun hg12_7 => ?_)
              · refine rn ?_
                refine aw_ct rfl ?_
                refine rn ?_
                refine rq 2 ?_
                exact ⟨rfl, congrArg bv (by rw [shaped_fo (allF hj (by rw [ordB_eq]; simp_all))])⟩
              · refine rn ?_
                refine qv rfl rfl (qv_call rfl rfl (pcall (refTs h h.ords[j].ts sj) (Sbs.refl _))) ?_
                refine rn ?_
                refine aw_cond rfl (fun hc65 => ?_) (fun hc65 => ?_)
                · refine rn ?_
                  refine rq 2 ?_
                  exact ⟨rfl, congrArg bv (by rw [shaped_fo (allF hj (by rw [ordB_eq]; simp_all))])⟩
                · refine rn ?_
                  exact ⟨hj, allT hj zj (by rw [ordB_eq]; simp_all), eA⟩
            · have qj := geMap hc49 lj
              have aj := allE qj zj
              refine rn ?_
              refine aw_rng (h.mats.length) (fun k : Nat => h.mats.all (matB h) = (h.mats.drop k).all (matB h)) (fun k => [(70, iv k)]) [(1, _), (68, _), (69, _)] rfl ?_
              intro k lk zk
              refine rn ?_
              refine aw_cond rfl (fun hc71 => ?_) (fun hc71 => ?_)
              · have hk := ltMap hc71
                have rk := atRow (f := matR) hk
                have bk := la.mats
                have sk := la.matts h.mats[k] (List.getElem_mem hk)
                refine rn ?_
                refine aops_e rfl (oe_alloc rfl fun b8 => ?_)
                refine rn ?_
                refine qv rfl rfl (qv_call rfl rfl (pcall (refIs _ _) (Sbs.refl _))) ?_
                refine rn ?_
                refine asplit (fun hg18_7 => ?_) (fun hg18_7 => ?_)
                · refine rn ?_
                  refine aw_ct rfl ?_
                  refine rn ?_
                  refine rq 2 ?_
                  exact ⟨rfl, congrArg bv (by rw [shaped_fm (allF hk (by rw [matB_eq]; simp_all))])⟩
                · refine rn ?_
                  refine qv rfl rfl (qv_call rfl rfl (pcall (refIs _ _) (Sbs.refl _))) ?_
                  refine rn ?_
                  refine asplit (fun hg18_16 => ?_) (fun hg18_16 => ?_)
                  · refine rn ?_
                    refine aw_ct rfl ?_
                    refine rn ?_
                    refine rq 2 ?_
                    exact ⟨rfl, congrArg bv (by rw [shaped_fm (allF hk (by rw [matB_eq]; simp_all))])⟩
                  · refine rn ?_
                    refine qv rfl rfl (qv_call rfl rfl (pcall (refTs h h.mats[k].ts sk) (Sbs.refl _))) ?_
                    refine rn ?_
                    refine aw_cond rfl (fun hc96 => ?_) (fun hc96 => ?_)
                    · refine rn ?_
                      refine rq 2 ?_
                      exact ⟨rfl, congrArg bv (by rw [shaped_fm (allF hk (by rw [matB_eq]; simp_all))])⟩
                    · refine rn ?_
                      exact ⟨hk, allT hk zk (by rw [matB_eq]; simp_all), eA⟩
              · have qk := geMap hc71 lk
                have ak := allE qk zk
                refine rn ?_
                refine aw_rng (h.wants.length) (fun m : Nat => h.wants.all (wanB h) = (h.wants.drop m).all (wanB h)) (fun m => [(101, iv m)]) [(1, _), (99, _), (100, _)] rfl ?_
                intro m lm zm
                refine rn ?_
                refine aw_cond rfl (fun hc102 => ?_) (fun hc102 => ?_)
                · have hm := ltMap hc102
                  have rm := atRow (f := wanR) hm
                  have bm := la.wants
                  refine rn ?_
                  refine aops_e rfl (oe_alloc rfl fun b10 => ?_)
                  refine rn ?_
                  refine qv rfl rfl (qv_call rfl rfl (pcall (refIs _ _) (Sbs.refl _))) ?_
                  refine rn ?_
                  refine asplit (fun hg24_7 => ?_) (fun hg24_7 => ?_)
                  · refine rn ?_
                    refine aw_ct rfl ?_
                    refine rn ?_
                    refine rq 2 ?_
                    exact ⟨rfl, congrArg bv (by rw [shaped_fw (allF hm (by rw [wanB_eq]; simp_all))])⟩
                  · refine rn ?_
                    refine qv rfl rfl (qv_call rfl rfl (pcall (refIs _ _) (Sbs.refl _))) ?_
                    refine rn ?_
                    refine aw_cond rfl (fun hc117 => ?_) (fun hc117 => ?_)
                    · refine rn ?_
                      refine rq 2 ?_
                      exact ⟨rfl, congrArg bv (by rw [shaped_fw (allF hm (by rw [wanB_eq]; simp_all))])⟩
                    · refine rn ?_
                      exact ⟨hm, allT hm zm (by rw [wanB_eq]; simp_all), eA⟩
                · have qm := geMap hc102 lm
                  have am := allE qm zm
                  refine rn ?_
                  refine asplit (fun hg27_4 => ?_) (fun hg27_4 => ?_)
                  · refine rn ?_
                    refine asplit (fun hg27_10 => ?_) (fun hg27_10 => ?_)
                    · refine rn ?_
                      refine asplit (fun hg27_16 => ?_) (fun hg27_16 => ?_)
                      · refine rn ?_
                        refine rq 1 ?_
                        exact ⟨rfl, congrArg bv (by rw [shaped_is (by simp_all) (by simp_all) (by simp_all) (by simp_all) ai aj ak am]; first | (simp_all; done) | (simp_all; intros; omega))⟩
                      · refine rn ?_
                        refine rq 1 ?_
                        exact ⟨rfl, congrArg bv (by rw [shaped_is (by simp_all) (by simp_all) (by simp_all) (by simp_all) ai aj ak am]; first | (simp_all; done) | (simp_all; intros; omega))⟩
                    · refine rn ?_
                      refine rq 1 ?_
                      exact ⟨rfl, congrArg bv (by rw [shaped_is (by simp_all) (by simp_all) (by simp_all) (by simp_all) ai aj ak am]; first | (simp_all; done) | (simp_all; intros; omega))⟩
                  · refine rn ?_
                    refine rq 1 ?_
                    exact ⟨rfl, congrArg bv (by rw [shaped_is (by simp_all) (by simp_all) (by simp_all) (by simp_all) ai aj ak am]; first | (simp_all; done) | (simp_all; intros; omega))⟩
end Go.Proofs
/- The walks of the reference's first and made. Conditions: none. -/
set_option linter.unusedVariables false
set_option linter.unusedSimpArgs false
set_option maxRecDepth 10000
namespace Go.Proofs
open Go Go.Ab
attribute [local irreducible] QR QV OE aops aw dsoup dsoupM dalloc dallocM thn inBlk
open Go.H
theorem ref11First (s : SV) (l : List Int) (n : Int) (hl : l.length ≤ 1000000000) : ACall Tryz.prog 122 [.v s.v, iv n] [.row s.v 1 3 (l.map intR)] (fun r h' => ∃ s' : SV, h' = [.row s'.v 1 3 ((addF l n).map intR)] ∧ r = .v s'.v) := by
  refine acall_of_aw Tryz.func122 rfl rfl rfl ?_
  refine rn ?_
  refine qv rfl rfl (qv_call rfl rfl (FCall.lend (R := fun x => x = iv (atI n 0 l)) (FCall.of_fun (refAt (f := false) l n (by omega))) (fun r hr => by rw [hr]; rfl) (.refl _ _) ⟨ble_row, .refl _ _, trivial⟩)) ?_
  refine rn ?_
  refine aw_cond rfl (fun hc8 => ?_) (fun hc8 => ?_)
  · refine rn ?_
    refine rq 0 ?_
    exact ⟨s, by rw [addF, if_pos (by simpa using hc8)]; rfl, rfl⟩
  · refine rn ?_
    refine qv rfl rfl (qv_buildSlice rfl rfl) ?_
    refine aops_e rfl (oe_append_row rfl rfl (by simp; omega) rfl (fun s13 => ?_) (fun r hr => by simp at hr; subst hr; rfl))
    refine aops_slice s13 fun sv hsv => ?_
    subst hsv
    refine rn ?_
    refine rq 0 ?_
    exact ⟨sv, by rw [addF, if_neg (by simpa using hc8), List.map_append]; rfl, rfl⟩
theorem ref11Made (s : SV) (l : List Int) (v : Ver) (hl : l.length ≤ 1000000000) : ACall Tryz.prog 123 [.v s.v, .agg (verR v)] [.row s.v 1 3 (l.map intR)] (fun r h' => ∃ s' : SV, h' = [.row s'.v 1 3 ((addV l v).map intR)] ∧ r = .v s'.v) := by
  refine acall_of_aw Tryz.func123 rfl rfl rfl ?_
  refine rn ?_
  refine aops_e rfl (oe_box rfl rfl rfl fun b3 => ?_)
  refine rn ?_
  refine aw_cond rfl (fun hc7 => ?_) (fun hc7 => ?_)
  · refine rn ?_
    refine rq 1 ?_
    exact ⟨s, by rw [addV, if_pos (by simpa using hc7)]; rfl, rfl⟩
  · refine rn ?_
    refine aops_e rfl (oe_call rfl rfl (fcall_row (FCall.of_fun (ref11First s l v.t hl))) rfl ?_)
    rintro _ _ ⟨s', rfl, rfl⟩
    refine rn ?_
    refine rq 1 ?_
    exact ⟨s', by rw [addV, if_neg (by simpa using hc7)]; rfl, rfl⟩
end Go.Proofs
/- The walk of the reference's Spoken. Conditions: none. -/
set_option linter.unusedVariables false
set_option linter.unusedSimpArgs false
set_option maxRecDepth 10000
namespace Go.Proofs
open Go Go.Ab
attribute [local irreducible] QR QV OE aops aw dsoup dsoupM dalloc dallocM thn inBlk
open Go.H
set_option maxHeartbeats 4000000 in
theorem refSpoken (h : Hist) (la : Lim 3000 h) : ACall Tryz.prog 72 [.agg (histC h)] [] (fun r h' => h' = [] ∧ r = .agg [intsA (spokenF h 0), intsA (spokenF h 1), intsA (spokenF h 2), intsA (spokenF h 3)]) := by
  refine acall_of_aw Tryz.func72 rfl rfl rfl ?_
  refine rn ?_
  refine aops_e rfl (oe_box rfl rfl rfl fun b1 => ?_)
  refine aops_e rfl (oe_alloc rfl fun b2 => ?_)
  refine rn ?_
  refine aops_e rfl (oe_alloc rfl fun b3 => ?_)
  refine rn ?_
  refine aw_rng4 h.evs.length (fun k s0 s1 s2 s3 => ⟨[(21, iv k), (1, .v (.pointer (some ⟨b1, 0, none⟩))), (2, .v (.pointer (some ⟨b2, 0, none⟩))), (3, .v (.pointer (some ⟨b3, 0, none⟩))), (19, evsA h.evs), (20, iv (h.evs.map evR).length)], [.row s0.v 1 3 (((spE h k) 0).map intR), .row s1.v 1 3 (((spE h k) 1).map intR), .row s2.v 1 3 (((spE h k) 2).map intR), .row s3.v 1 3 (((spE h k) 3).map intR), .box b3 110 [.v s0.v, .v s1.v, .v s2.v, .v s3.v], .box b2 110 [.v (.slice none 0 0), .v (.slice none 0 0), .v (.slice none 0 0), .v (.slice none 0 0)], .box b1 28 (histC h)], []⟩) (⟨none, 0, 0⟩) (⟨none, 0, 0⟩) (⟨none, 0, 0⟩) (⟨none, 0, 0⟩) (ent_trans (ent_nilrow 1 3) (ent_trans (ent_nilrow 1 3) (ent_trans (ent_nilrow 1 3) (ent_trans (ent_nilrow 1 3) es)))) ?_
  intro k s0 s1 s2 s3 lk
  refine rn ?_
  refine aw_cond rfl (fun hc22 => ?_) (fun hc22 => ?_)
  · have hk := ltMap hc22
    have rk := atRow (f := evR) hk
    have bd := bdE la k lk
    have ls := la.scans h.evs[k] (List.getElem_mem hk)
    have le := la.evs
    refine rn ?_
    refine aops_e rfl (oe_alloc rfl fun b5 => ?_)
    refine rn ?_
    refine qq rfl rfl (qr_indexAddr_int rfl rfl (by decide) (by decide)) ?_
    refine rn ?_
    refine aops_e rfl (oe_call rfl rfl (fcall_row (FCall.of_fun (ref11First _ _ _ (by have := bd 0; omega)))) rfl ?_)
    rintro _ _ ⟨s', rfl, rfl⟩
    refine qq rfl rfl (qr_indexAddr_int rfl rfl (by decide) (by decide)) ?_
    refine rn0 ?_
    refine aw_cut4 (fun s0 s1 s2 s3 => ⟨[(5, .v (.pointer (some ⟨b5, 0, none⟩))), (21, iv k), (20, iv (h.evs.map evR).length), (19, evsA h.evs), (1, .v (.pointer (some ⟨b1, 0, none⟩))), (2, .v (.pointer (some ⟨b2, 0, none⟩))), (3, .v (.pointer (some ⟨b3, 0, none⟩)))], [.box b5 72 (evR h.evs[k]), .row s0.v 1 3 (((stepK (stepF (spE h k) (0, h.evs[k].t)) h.evs[k]) 0).map intR), .row s1.v 1 3 (((stepK (stepF (spE h k) (0, h.evs[k].t)) h.evs[k]) 1).map intR), .row s2.v 1 3 (((stepK (stepF (spE h k) (0, h.evs[k].t)) h.evs[k]) 2).map intR), .row s3.v 1 3 (((stepK (stepF (spE h k) (0, h.evs[k].t)) h.evs[k]) 3).map intR), .box b3 110 [.v s0.v, .v s1.v, .v s2.v, .v s3.v], .box b2 110 [.v (.slice none 0 0), .v (.slice none 0 0), .v (.slice none 0 0), .v (.slice none 0 0)], .box b1 28 (histC h)], []⟩) ?_ ?_
    · refine rn ?_
      refine aw_cond rfl (fun hc33 => ?_) (fun hc33 => ?_)
      · refine rn ?_
        refine qq rfl rfl (qr_indexAddr_int rfl rfl (by decide) (by decide)) ?_
        refine rn ?_
        refine aops_e rfl (oe_call rfl rfl (fcall_row (FCall.of_fun (ref11First _ _ _ (by have := bd 1; omega)))) rfl ?_)
        rintro _ _ ⟨s', rfl, rfl⟩
        refine qq rfl rfl (qr_indexAddr_int rfl rfl (by decide) (by decide)) ?_
        refine rn ?_
        exact ⟨_, _, _, _, by unfold stepK; first | (rw [if_pos (by simpa using hc33)]; exact eA) | (rw [if_neg (by simpa using hc33), if_pos (by simp at hc33; simp_all)]; exact eA) | (rw [if_neg (by simpa using hc33), if_neg (by simp at hc33; simp_all), if_pos (by simpa using hc56)]; exact eA) | (rw [if_neg (by simpa using hc33), if_neg (by simp at hc33; simp_all), if_neg (by simpa using hc56)]; exact eA)⟩
      · refine rn ?_
        refine aw_cond rfl (fun hc41 => ?_) (fun hc41 => ?_)
        · refine rn ?_
          refine aw_cond rfl (fun hc41 => ?_) (fun hc41 => ?_)
          · refine rn ?_
            refine qq rfl rfl (qr_indexAddr_int rfl rfl (by decide) (by decide)) ?_
            refine rn ?_
            refine aops_e rfl (oe_call rfl rfl (fcall_row (FCall.of_fun (ref11First _ _ _ (by have := bd 2; omega)))) rfl ?_)
            rintro _ _ ⟨s', rfl, rfl⟩
            refine qq rfl rfl (qr_indexAddr_int rfl rfl (by decide) (by decide)) ?_
            refine rn ?_
            refine qq rfl rfl (qr_indexAddr_int rfl rfl (by decide) (by decide)) ?_
            refine rn ?_
            refine aops_e rfl (oe_call rfl rfl (fcall_row (FCall.of_fun (ref11Made _ _ _ (by have := (bd.f (0, h.evs[k].t)) 0; exact Nat.le_trans this (by omega))))) rfl ?_)
            rintro _ _ ⟨s', rfl, rfl⟩
            refine qq rfl rfl (qr_indexAddr_int rfl rfl (by decide) (by decide)) ?_
            refine rn ?_
            exact ⟨_, _, _, _, by unfold stepK; first | (rw [if_pos (by simpa using hc33)]; exact eA) | (rw [if_neg (by simpa using hc33), if_pos (by simp at hc33; simp_all)]; exact eA) | (rw [if_neg (by simpa using hc33), if_neg (by simp at hc33; simp_all), if_pos (by simpa using hc56)]; exact eA) | (rw [if_neg (by simpa using hc33), if_neg (by simp at hc33; simp_all), if_neg (by simpa using hc56)]; exact eA)⟩
          · first | cases hc41 | exact absurd hc41 (by decide) | (exfalso; simp_all; done)
        · refine rn ?_
          refine aw_cond rfl (fun hc41 => ?_) (fun hc41 => ?_)
          · refine rn ?_
            refine qq rfl rfl (qr_indexAddr_int rfl rfl (by decide) (by decide)) ?_
            refine rn ?_
            refine aops_e rfl (oe_call rfl rfl (fcall_row (FCall.of_fun (ref11First _ _ _ (by have := bd 2; omega)))) rfl ?_)
            rintro _ _ ⟨s', rfl, rfl⟩
            refine qq rfl rfl (qr_indexAddr_int rfl rfl (by decide) (by decide)) ?_
            refine rn ?_
            refine qq rfl rfl (qr_indexAddr_int rfl rfl (by decide) (by decide)) ?_
            refine rn ?_
            refine aops_e rfl (oe_call rfl rfl (fcall_row (FCall.of_fun (ref11Made _ _ _ (by have := (bd.f (0, h.evs[k].t)) 0; exact Nat.le_trans this (by omega))))) rfl ?_)
            rintro _ _ ⟨s', rfl, rfl⟩
            refine qq rfl rfl (qr_indexAddr_int rfl rfl (by decide) (by decide)) ?_
            refine rn ?_
            exact ⟨_, _, _, _, by unfold stepK; first | (rw [if_pos (by simpa using hc33)]; exact eA) | (rw [if_neg (by simpa using hc33), if_pos (by simp at hc33; simp_all)]; exact eA) | (rw [if_neg (by simpa using hc33), if_neg (by simp at hc33; simp_all), if_pos (by simpa using hc56)]; exact eA) | (rw [if_neg (by simpa using hc33), if_neg (by simp at hc33; simp_all), if_neg (by simpa using hc56)]; exact eA)⟩
          · refine rn ?_
            refine aw_cond rfl (fun hc56 => ?_) (fun hc56 => ?_)
            · refine rn ?_
              refine qq rfl rfl (qr_indexAddr_int rfl rfl (by decide) (by decide)) ?_
              refine rn ?_
              refine aops_e rfl (oe_call rfl rfl (fcall_row (FCall.of_fun (ref11First _ _ _ (by have := bd 3; omega)))) rfl ?_)
              rintro _ _ ⟨s', rfl, rfl⟩
              refine qq rfl rfl (qr_indexAddr_int rfl rfl (by decide) (by decide)) ?_
              refine rn ?_
              exact ⟨_, _, _, _, by unfold stepK; first | (rw [if_pos (by simpa using hc33)]; exact eA) | (rw [if_neg (by simpa using hc33), if_pos (by simp at hc33; simp_all)]; exact eA) | (rw [if_neg (by simpa using hc33), if_neg (by simp at hc33; simp_all), if_pos (by simpa using hc56)]; exact eA) | (rw [if_neg (by simpa using hc33), if_neg (by simp at hc33; simp_all), if_neg (by simpa using hc56)]; exact eA)⟩
            · refine rn ?_
              exact ⟨_, _, _, _, by unfold stepK; first | (rw [if_pos (by simpa using hc33)]; exact eA) | (rw [if_neg (by simpa using hc33), if_pos (by simp at hc33; simp_all)]; exact eA) | (rw [if_neg (by simpa using hc33), if_neg (by simp at hc33; simp_all), if_pos (by simpa using hc56)]; exact eA) | (rw [if_neg (by simpa using hc33), if_neg (by simp at hc33; simp_all), if_neg (by simpa using hc56)]; exact eA)⟩
    · intro s0 s1 s2 s3
      refine rn ?_
      refine aw_rng4 h.evs[k].scan.length (fun j s0 s1 s2 s3 => ⟨[(67, iv j), (1, .v (.pointer (some ⟨b1, 0, none⟩))), (2, .v (.pointer (some ⟨b2, 0, none⟩))), (3, .v (.pointer (some ⟨b3, 0, none⟩))), (19, evsA h.evs), (20, iv (h.evs.map evR).length), (21, iv k), (65, seensA h.evs[k].scan), (66, iv (h.evs[k].scan.map seenR).length)], [.box b5 72 (evR h.evs[k]), .row s0.v 1 3 ((((h.evs[k].scan.take j).foldl stepS (stepK (stepF (spE h k) (0, h.evs[k].t)) h.evs[k])) 0).map intR), .row s1.v 1 3 ((((h.evs[k].scan.take j).foldl stepS (stepK (stepF (spE h k) (0, h.evs[k].t)) h.evs[k])) 1).map intR), .row s2.v 1 3 ((((h.evs[k].scan.take j).foldl stepS (stepK (stepF (spE h k) (0, h.evs[k].t)) h.evs[k])) 2).map intR), .row s3.v 1 3 ((((h.evs[k].scan.take j).foldl stepS (stepK (stepF (spE h k) (0, h.evs[k].t)) h.evs[k])) 3).map intR), .box b3 110 [.v s0.v, .v s1.v, .v s2.v, .v s3.v], .box b2 110 [.v (.slice none 0 0), .v (.slice none 0 0), .v (.slice none 0 0), .v (.slice none 0 0)], .box b1 28 (histC h)], []⟩) _ _ _ _ (es) ?_
      intro j s0 s1 s2 s3 lj
      refine rn ?_
      refine aw_cond rfl (fun hc68 => ?_) (fun hc68 => ?_)
      · have hj := ltMap hc68
        have rj := atRow (f := seenR) hj
        have bj := Bd.fold (c := 2) (l := h.evs[k].scan.take j) (fun s _ L n h => h.s s) ((bd.f (0, h.evs[k].t)).k h.evs[k])
        have bl : (h.evs[k].scan.take j).length ≤ 3000 := by rw [List.length_take]; omega
        refine rn ?_
        refine aops_e rfl (oe_alloc rfl fun b7 => ?_)
        refine rn ?_
        refine qq rfl rfl (qr_indexAddr_int rfl rfl (by decide) (by decide)) ?_
        refine rn ?_
        refine aops_e rfl (oe_call rfl rfl (fcall_row (FCall.of_fun (ref11First _ _ _ (by have := bj 2; omega)))) rfl ?_)
        rintro _ _ ⟨s', rfl, rfl⟩
        refine qq rfl rfl (qr_indexAddr_int rfl rfl (by decide) (by decide)) ?_
        refine rn ?_
        refine qq rfl rfl (qr_indexAddr_int rfl rfl (by decide) (by decide)) ?_
        refine rn ?_
        refine aops_e rfl (oe_call rfl rfl (fcall_row (FCall.of_fun (ref11Made _ _ _ (by have := bj 0; omega)))) rfl ?_)
        rintro _ _ ⟨s', rfl, rfl⟩
        refine qq rfl rfl (qr_indexAddr_int rfl rfl (by decide) (by decide)) ?_
        refine rn ?_
        have e : (h.evs[k].scan.take (j + 1)).foldl stepS (stepK (stepF (spE h k) (0, h.evs[k].t)) h.evs[k]) = stepS ((h.evs[k].scan.take j).foldl stepS (stepK (stepF (spE h k) (0, h.evs[k].t)) h.evs[k])) h.evs[k].scan[j] := foldTake _ _ hj
        exact ⟨hj, _, _, _, _, by simp only [e]; exact eA⟩
      · have qj := geMap hc68 lj
        refine rn ?_
        have e : spE h (k + 1) = (h.evs[k].scan.take j).foldl stepS (stepK (stepF (spE h k) (0, h.evs[k].t)) h.evs[k]) := by rw [spE, foldTake _ _ hk, H.stepE, foldEnd _ _ qj]; rfl
        exact ⟨hk, _, _, _, _, by simp only [e]; exact eA⟩
  · have qk := geMap hc22 lk
    refine rn ?_
    refine aw_rng4 h.ords.length (fun k s0 s1 s2 s3 => ⟨[(88, iv k), (1, .v (.pointer (some ⟨b1, 0, none⟩))), (2, .v (.pointer (some ⟨b2, 0, none⟩))), (3, .v (.pointer (some ⟨b3, 0, none⟩))), (86, ordsA h.ords), (87, iv (h.ords.map ordR).length)], [.row s0.v 1 3 (((spO h k) 0).map intR), .row s1.v 1 3 (((spO h k) 1).map intR), .row s2.v 1 3 (((spO h k) 2).map intR), .row s3.v 1 3 (((spO h k) 3).map intR), .box b3 110 [.v s0.v, .v s1.v, .v s2.v, .v s3.v], .box b2 110 [.v (.slice none 0 0), .v (.slice none 0 0), .v (.slice none 0 0), .v (.slice none 0 0)], .box b1 28 (histC h)], []⟩) _ _ _ _ (by rw [show spO h 0 = spE h k from (foldEnd stepE noR qk).symm]; exact es) ?_
    intro k s0 s1 s2 s3 lk
    refine rn ?_
    refine aw_cond rfl (fun hc89 => ?_) (fun hc89 => ?_)
    · have hk := ltMap hc89
      have rk := atRow (f := ordR) hk
      have bd := bdO la k lk
      have ls := la.ordts h.ords[k] (List.getElem_mem hk)
      have le := la.ords
      refine rn ?_
      refine aops_e rfl (oe_alloc rfl fun b9 => ?_)
      refine rn ?_
      refine qq rfl rfl (qr_indexAddr_int rfl rfl (by decide) (by decide)) ?_
      refine rn ?_
      refine aops_e rfl (oe_call rfl rfl (fcall_row (FCall.of_fun (ref11First _ _ _ (by have := bd 2; omega)))) rfl ?_)
      rintro _ _ ⟨s', rfl, rfl⟩
      refine qq rfl rfl (qr_indexAddr_int rfl rfl (by decide) (by decide)) ?_
      refine rn ?_
      refine aw_rng4 h.ords[k].ts.length (fun j s0 s1 s2 s3 => ⟨[(101, iv j), (1, .v (.pointer (some ⟨b1, 0, none⟩))), (2, .v (.pointer (some ⟨b2, 0, none⟩))), (3, .v (.pointer (some ⟨b3, 0, none⟩))), (86, ordsA h.ords), (87, iv (h.ords.map ordR).length), (88, iv k), (99, intsA h.ords[k].ts), (100, iv (h.ords[k].ts.map intR).length)], [.box b9 96 (ordR h.ords[k]), .row s0.v 1 3 ((((h.ords[k].ts.take j).foldl addT (stepF (spO h k) (2, h.ords[k].o))) 0).map intR), .row s1.v 1 3 ((((h.ords[k].ts.take j).foldl addT (stepF (spO h k) (2, h.ords[k].o))) 1).map intR), .row s2.v 1 3 ((((h.ords[k].ts.take j).foldl addT (stepF (spO h k) (2, h.ords[k].o))) 2).map intR), .row s3.v 1 3 ((((h.ords[k].ts.take j).foldl addT (stepF (spO h k) (2, h.ords[k].o))) 3).map intR), .box b3 110 [.v s0.v, .v s1.v, .v s2.v, .v s3.v], .box b2 110 [.v (.slice none 0 0), .v (.slice none 0 0), .v (.slice none 0 0), .v (.slice none 0 0)], .box b1 28 (histC h)], []⟩) _ _ _ _ (es) ?_
      intro j s0 s1 s2 s3 lj
      refine rn ?_
      refine aw_cond rfl (fun hc102 => ?_) (fun hc102 => ?_)
      · have hj := ltMap hc102
        have rj := atRow (f := intR) hj
        have bj := Bd.fold (c := 1) (l := h.ords[k].ts.take j) (fun s _ L n h => h.t s) (bd.f (2, h.ords[k].o))
        have bl : (h.ords[k].ts.take j).length ≤ 3000 := by rw [List.length_take]; omega
        refine rn ?_
        refine qq rfl rfl (qr_indexAddr_int rfl rfl (by decide) (by decide)) ?_
        refine rn ?_
        refine aops_e rfl (oe_call rfl rfl (fcall_row (FCall.of_fun (ref11First _ _ _ (by have := bj 0; omega)))) rfl ?_)
        rintro _ _ ⟨s', rfl, rfl⟩
        refine qq rfl rfl (qr_indexAddr_int rfl rfl (by decide) (by decide)) ?_
        refine rn ?_
        have e : (h.ords[k].ts.take (j + 1)).foldl addT (stepF (spO h k) (2, h.ords[k].o)) = addT ((h.ords[k].ts.take j).foldl addT (stepF (spO h k) (2, h.ords[k].o))) h.ords[k].ts[j] := foldTake _ _ hj
        exact ⟨hj, _, _, _, _, by simp only [e]; exact eA⟩
      · have qj := geMap hc102 lj
        refine rn ?_
        have e : spO h (k + 1) = (h.ords[k].ts.take j).foldl addT (stepF (spO h k) (2, h.ords[k].o)) := by rw [spO, foldTake _ _ hk, stepO, foldEnd _ _ qj]; rfl
        exact ⟨hk, _, _, _, _, by simp only [e]; exact eA⟩
    · have qk := geMap hc89 lk
      refine rn ?_
      refine aw_rng4 h.mats.length (fun k s0 s1 s2 s3 => ⟨[(115, iv k), (1, .v (.pointer (some ⟨b1, 0, none⟩))), (2, .v (.pointer (some ⟨b2, 0, none⟩))), (3, .v (.pointer (some ⟨b3, 0, none⟩))), (113, matsA h.mats), (114, iv (h.mats.map matR).length)], [.row s0.v 1 3 (((spM h k) 0).map intR), .row s1.v 1 3 (((spM h k) 1).map intR), .row s2.v 1 3 (((spM h k) 2).map intR), .row s3.v 1 3 (((spM h k) 3).map intR), .box b3 110 [.v s0.v, .v s1.v, .v s2.v, .v s3.v], .box b2 110 [.v (.slice none 0 0), .v (.slice none 0 0), .v (.slice none 0 0), .v (.slice none 0 0)], .box b1 28 (histC h)], []⟩) _ _ _ _ (by rw [show spM h 0 = spO h k from (foldEnd stepO _ qk).symm]; exact es) ?_
      intro k s0 s1 s2 s3 lk
      refine rn ?_
      refine aw_cond rfl (fun hc116 => ?_) (fun hc116 => ?_)
      · have hk := ltMap hc116
        have rk := atRow (f := matR) hk
        have bd := bdM la k lk
        have ls := la.matts h.mats[k] (List.getElem_mem hk)
        have le := la.mats
        refine rn ?_
        refine aops_e rfl (oe_alloc rfl fun b13 => ?_)
        refine rn ?_
        refine qq rfl rfl (qr_indexAddr_int rfl rfl (by decide) (by decide)) ?_
        refine rn ?_
        refine aops_e rfl (oe_call rfl rfl (fcall_row (FCall.of_fun (ref11First _ _ _ (by have := bd 3; omega)))) rfl ?_)
        rintro _ _ ⟨s', rfl, rfl⟩
        refine qq rfl rfl (qr_indexAddr_int rfl rfl (by decide) (by decide)) ?_
        refine rn ?_
        refine qq rfl rfl (qr_indexAddr_int rfl rfl (by decide) (by decide)) ?_
        refine rn ?_
        refine aops_e rfl (oe_call rfl rfl (fcall_row (FCall.of_fun (ref11First _ _ _ (by have := bd 2; omega)))) rfl ?_)
        rintro _ _ ⟨s', rfl, rfl⟩
        refine qq rfl rfl (qr_indexAddr_int rfl rfl (by decide) (by decide)) ?_
        refine rn ?_
        refine aw_rng4 h.mats[k].ts.length (fun j s0 s1 s2 s3 => ⟨[(134, iv j), (1, .v (.pointer (some ⟨b1, 0, none⟩))), (2, .v (.pointer (some ⟨b2, 0, none⟩))), (3, .v (.pointer (some ⟨b3, 0, none⟩))), (113, matsA h.mats), (114, iv (h.mats.map matR).length), (115, iv k), (132, intsA h.mats[k].ts), (133, iv (h.mats[k].ts.map intR).length)], [.box b13 87 (matR h.mats[k]), .row s0.v 1 3 ((((h.mats[k].ts.take j).foldl addT (stepF (stepF (spM h k) (3, h.mats[k].p)) (2, h.mats[k].o))) 0).map intR), .row s1.v 1 3 ((((h.mats[k].ts.take j).foldl addT (stepF (stepF (spM h k) (3, h.mats[k].p)) (2, h.mats[k].o))) 1).map intR), .row s2.v 1 3 ((((h.mats[k].ts.take j).foldl addT (stepF (stepF (spM h k) (3, h.mats[k].p)) (2, h.mats[k].o))) 2).map intR), .row s3.v 1 3 ((((h.mats[k].ts.take j).foldl addT (stepF (stepF (spM h k) (3, h.mats[k].p)) (2, h.mats[k].o))) 3).map intR), .box b3 110 [.v s0.v, .v s1.v, .v s2.v, .v s3.v], .box b2 110 [.v (.slice none 0 0), .v (.slice none 0 0), .v (.slice none 0 0), .v (.slice none 0 0)], .box b1 28 (histC h)], []⟩) _ _ _ _ (es) ?_
        intro j s0 s1 s2 s3 lj
        refine rn ?_
        refine aw_cond rfl (fun hc135 => ?_) (fun hc135 => ?_)
        · have hj := ltMap hc135
          have rj := atRow (f := intR) hj
          have bj := Bd.fold (c := 1) (l := h.mats[k].ts.take j) (fun s _ L n h => h.t s) ((bd.f (3, h.mats[k].p)).f (2, h.mats[k].o))
          have bl : (h.mats[k].ts.take j).length ≤ 3000 := by rw [List.length_take]; omega
          refine rn ?_
          refine qq rfl rfl (qr_indexAddr_int rfl rfl (by decide) (by decide)) ?_
          refine rn ?_
          refine aops_e rfl (oe_call rfl rfl (fcall_row (FCall.of_fun (ref11First _ _ _ (by have := bj 0; omega)))) rfl ?_)
          rintro _ _ ⟨s', rfl, rfl⟩
          refine qq rfl rfl (qr_indexAddr_int rfl rfl (by decide) (by decide)) ?_
          refine rn ?_
          have e : (h.mats[k].ts.take (j + 1)).foldl addT (stepF (stepF (spM h k) (3, h.mats[k].p)) (2, h.mats[k].o)) = addT ((h.mats[k].ts.take j).foldl addT (stepF (stepF (spM h k) (3, h.mats[k].p)) (2, h.mats[k].o))) h.mats[k].ts[j] := foldTake _ _ hj
          exact ⟨hj, _, _, _, _, by simp only [e]; exact eA⟩
        · have qj := geMap hc135 lj
          refine rn ?_
          have e : spM h (k + 1) = (h.mats[k].ts.take j).foldl addT (stepF (stepF (spM h k) (3, h.mats[k].p)) (2, h.mats[k].o)) := by rw [spM, foldTake _ _ hk, stepM, foldEnd _ _ qj]; rfl
          exact ⟨hk, _, _, _, _, by simp only [e]; exact eA⟩
      · have qk := geMap hc116 lk
        refine rn ?_
        refine aw_rng4 h.wants.length (fun k s0 s1 s2 s3 => ⟨[(148, iv k), (2, .v (.pointer (some ⟨b2, 0, none⟩))), (3, .v (.pointer (some ⟨b3, 0, none⟩))), (146, wansA h.wants), (147, iv (h.wants.map wanR).length)], [.row s0.v 1 3 (((spW h k) 0).map intR), .row s1.v 1 3 (((spW h k) 1).map intR), .row s2.v 1 3 (((spW h k) 2).map intR), .row s3.v 1 3 (((spW h k) 3).map intR), .box b3 110 [.v s0.v, .v s1.v, .v s2.v, .v s3.v], .box b2 110 [.v (.slice none 0 0), .v (.slice none 0 0), .v (.slice none 0 0), .v (.slice none 0 0)], .box b1 28 (histC h)], []⟩) _ _ _ _ (by rw [show spW h 0 = spM h k from (foldEnd stepM _ qk).symm]; exact es) ?_
        intro k s0 s1 s2 s3 lk
        refine rn ?_
        refine aw_cond rfl (fun hc149 => ?_) (fun hc149 => ?_)
        · have hk := ltMap hc149
          have rk := atRow (f := wanR) hk
          have bd := bdW la k lk
          have le := la.wants
          refine rn ?_
          refine aops_e rfl (oe_alloc rfl fun b17 => ?_)
          refine rn ?_
          refine qq rfl rfl (qr_indexAddr_int rfl rfl (by decide) (by decide)) ?_
          refine rn ?_
          refine aops_e rfl (oe_call rfl rfl (fcall_row (FCall.of_fun (ref11First _ _ _ (by have := bd 1; omega)))) rfl ?_)
          rintro _ _ ⟨s', rfl, rfl⟩
          refine qq rfl rfl (qr_indexAddr_int rfl rfl (by decide) (by decide)) ?_
          refine rn ?_
          have e : spW h (k + 1) = stepW (spW h k) h.wants[k] := foldTake _ _ hk
          exact ⟨hk, _, _, _, _, by simp only [e]; exact eA⟩
        · have qk := geMap hc149 lk
          refine rn ?_
          exact retq (.cons _ _ _ _ (.agg _ _ _ _ _ _ _ rfl inferInstance inferInstance inferInstance rfl) .nil) (.trans (vent_freeze_cell [] _) (.trans (vent_freeze_cell [_] _) (.trans (vent_freeze_cell [_, _] _) (.trans (vent_freeze_cell [_, _, _] _) (.drop [_, _, _] _ _))))) ⟨rfl, by rw [← show spW h k = spokenF h from foldEnd _ _ qk]; rfl⟩
end Go.Proofs
/- The walk of the reference's Right. Conditions: none. -/
set_option linter.unusedVariables false
set_option linter.unusedSimpArgs false
set_option maxRecDepth 10000
namespace Go.Proofs
open Go Go.Ab
attribute [local irreducible] QR QV OE aops aw dsoup dsoupM dalloc dallocM thn inBlk
open Go.H
theorem refRight (h : Hist) (la : Lim 4611686018427387904 h) : ACall Tryz.prog 18 [.agg (histC h)] [] (fun r h' => h' = [] ∧ r = bv (rightB h)) := by
  refine acall_of_aw Tryz.func18 rfl rfl rfl ?_
  refine rn ?_
  refine aops_e rfl (oe_box rfl rfl rfl fun b1 => ?_)
  refine rn ?_
  refine qv rfl rfl (qv_call rfl rfl (pcall (refShaped h la) (Sbs.refl _))) ?_
  refine rn ?_
  refine aw_cond rfl (fun hc10 => ?_) (fun hc10 => ?_)
  · refine rn ?_
    refine rq 1 ?_
    exact ⟨rfl, congrArg bv (by rw [right_s (by simpa using hc10)])⟩
  · have hs : shapedB h = true := by simpa using hc10
    have la3 := shaped_lim hs
    refine rn ?_
    refine qv rfl rfl (qv_call rfl rfl (pcall (refSpoken h la3) (Sbs.refl _))) ?_
    refine rn ?_
    refine aw_rng (4) (fun k : Nat => ∀ j, j < k → okS h j = true) (fun k => [(13, iv k)]) [(1, _), (12, _)] (fun j hj => by omega) ?_
    intro k lk zk
    refine rn ?_
    refine aw_cond rfl (fun hc14 => ?_) (fun hc14 => ?_)
    · have hk : k < 4 := by simp at hc14; omega
      have r0 := sp_at h hk
      have r1 := many_at h hk
      have bl := spoken_len la3 k
      refine rn ?_
      refine aw_cond rfl (fun hc35 => ?_) (fun hc35 => ?_)
      · refine rn ?_
        refine rq 1 ?_
        exact ⟨rfl, congrArg bv (by rw [right_f hk]; rw [okS, beq_eq_false_iff_ne.2 (by simp at hc35; omega), Bool.false_and])⟩
      · have hlen : (spokenF h k).length = (nmK h k).length := by simp at hc35; omega
        refine rn ?_
        refine aw_rng ((spokenF h k).length) (fun i : Nat => uptoF 0 (spokenF h k) = uptoF i ((spokenF h k).drop i)) (fun i => [(38, iv i)]) [(1, _), (12, _), (13, _), (36, _), (37, _)] rfl ?_
        intro i li zi
        refine rn ?_
        refine aw_cond rfl (fun hc39 => ?_) (fun hc39 => ?_)
        · have hi := ltMap hc39
          have ri := atRow (f := intR) hi
          refine rn ?_
          refine aw_cond rfl (fun hc45 => ?_) (fun hc45 => ?_)
          · refine rn ?_
            refine rq 1 ?_
            exact ⟨rfl, congrArg bv (by rw [right_f hk]; rw [okS, upto_f hi zi (by simp at hc45; omega), Bool.and_false])⟩
          · refine rn ?_
            exact ⟨hi, upto_step hi zi (by simp at hc45; omega), eA⟩
        · have qi := geMap hc39 li
          refine rn ?_
          exact ⟨hk, fun j hj => (Nat.lt_or_ge j k).elim (zk j) (fun q => by
            obtain rfl : j = k := by omega
            rw [okS, hlen, upto_e qi zi]; simp), eA⟩
    · have qk : k = 4 := by simp at hc14; omega
      subst qk
      refine rn ?_
      refine rq 1 ?_
      exact ⟨rfl, congrArg bv (by rw [right_t hs zk])⟩
theorem refRightM (h : Hist) (la : Lim 4611686018427387904 h) : ACall Tryz.prog 18 [.agg (histC h)] [] (fun r h' => h' = [] ∧ r = bv (mayB h)) :=
  (refRight h la).mono fun _ _ q => ⟨q.1, by rw [q.2, rightB_eq]⟩
end Go.Proofs
/- The walk of RulesFirst. Conditions: none. -/
set_option linter.unusedVariables false
set_option linter.unusedSimpArgs false
set_option maxRecDepth 10000
namespace Go.Proofs
open Go Go.Ab
attribute [local irreducible] QR QV OE aops aw dsoup dsoupM dalloc dallocM thn inBlk jsoup jch lsoup
open Go.H
theorem placeX (h : Hist) (k : Nat) (hm : mayB h = true) (h1 : 1 ≤ k) (h2 : k ≤ 10) (o : Option Nat) (hp : placeP h k = o) : ACall Tryz.prog 21 [.agg (histC h), iv k] [.glob 1 112 limitsC, .glob 2 234 firstC, .glob 3 237 acceptC, .glob 0 102 asksC] (fun r h' => h' = [.glob 1 112 limitsC, .glob 2 234 firstC, .glob 3 237 acceptC, .glob 0 102 asksC] ∧ r = .tup [iv (natI o), bv o.isSome, iv 0]) :=
  (rPlace h k ((may3000 hm).mono (by decide))).mono fun _ _ q => ⟨q.1, by
    have c : mayB h = true ∧ (1 : Int) ≤ k ∧ (k : Int) ≤ 10 := ⟨hm, by omega, by omega⟩
    rw [q.2, placeW, placeI, if_pos c, ruleE, if_pos hm, if_pos c.2, Int.toNat_natCast, hp]⟩
theorem rightV (h : Hist) (la : Lim 4611686018427387904 h) (b : Bool) (hm : mayB h = b) : ACall Tryz.prog 18 [.agg (histC h)] [] (fun r h' => h' = [] ∧ r = bv b) := (refRightM h la).mono fun _ _ q => ⟨q.1, by rw [q.2, hm]⟩
theorem same15 (h : Hist) (la : Lim 4611686018427387904 h) : ACall Tryz.prog 20 [.agg (histC h), .agg (histC h)] [] (fun r h' => h' = [] ∧ r = bv true) := (refSame h h la la).mono fun _ _ q => ⟨q.1, by rw [q.2, sameB_self]⟩
end Go.Proofs
/- The walk of RulesPlaces. Conditions: none. -/
set_option linter.unusedVariables false
set_option linter.unusedSimpArgs false
set_option maxRecDepth 10000
namespace Go.Proofs
open Go Go.Ab
attribute [local irreducible] QR QV OE aops aw dsoup dsoupM dalloc dallocM thn inBlk jsoup jch lsoup
open Go.H
theorem qr_isB {P : Program} {h : List Res} {f : Operand → Option AV} {o : Oper} {b c : Bool} (hq : QR P h f o (.v (.bool b))) (e : b = c) : QR P h f o (.v (.bool c)) := by subst e; exact hq
theorem natI_max (o : Option Nat) : natI o = max (placeJ o) 0 := by cases o <;> simp [natI, placeJ] <;> omega
theorem natI_J (o : Option Nat) : (natI o != max (placeJ o) 0) = false := by rw [natI_max]; simp
theorem isSome_J (o : Option Nat) : (o.isSome != decide (placeJ o ≥ 0)) = false := by cases o <;> simp [placeJ]
theorem tri12 {p : Prop} (k : Nat) (hk : k < 12) (a : k = 0 → p) (b : 1 ≤ k → k ≤ 10 → p) (c : k = 11 → p) : p := by
  rcases (by omega : k = 0 ∨ (1 ≤ k ∧ k ≤ 10) ∨ k = 11) with q | ⟨q, r⟩ | q
  · exact a q
  · exact b q r
  · exact c q
theorem pl_not (h : Hist) (k : Nat) (la : Lim 4611686018427387904 h) (hm : ¬ mayB h = true) : ACall Tryz.prog 21 [.agg (histC h), iv k] [.glob 1 112 limitsC, .glob 2 234 firstC, .glob 3 237 acceptC, .glob 0 102 asksC] (fun r h' => h' = [.glob 1 112 limitsC, .glob 2 234 firstC, .glob 3 237 acceptC, .glob 0 102 asksC] ∧ r = .tup [iv 0, bv false, iv 210]) := (rPlace h k la).mono fun _ _ q => ⟨q.1, by rw [q.2, placeW, placeI, if_neg (fun c => hm c.1), ruleE, if_neg hm]; rfl⟩
theorem pl_out (h : Hist) (k : Nat) (hm : mayB h = true) (hk : ¬ (1 ≤ k ∧ k ≤ 10)) : ACall Tryz.prog 21 [.agg (histC h), iv k] [.glob 1 112 limitsC, .glob 2 234 firstC, .glob 3 237 acceptC, .glob 0 102 asksC] (fun r h' => h' = [.glob 1 112 limitsC, .glob 2 234 firstC, .glob 3 237 acceptC, .glob 0 102 asksC] ∧ r = .tup [iv 0, bv false, iv 250]) := (rPlace h k ((may3000 hm).mono (by decide))).mono fun _ _ q => ⟨q.1, by rw [q.2, placeW, placeI, if_neg (fun c => hk ⟨by omega, by omega⟩), ruleE, if_pos hm, if_neg (fun c => hk ⟨by omega, by omega⟩)]; rfl⟩
theorem pl_in (h : Hist) (k : Nat) (hm : mayB h = true) (h1 : 1 ≤ k) (h2 : k ≤ 10) : ACall Tryz.prog 21 [.agg (histC h), iv k] [.glob 1 112 limitsC, .glob 2 234 firstC, .glob 3 237 acceptC, .glob 0 102 asksC] (fun r h' => h' = [.glob 1 112 limitsC, .glob 2 234 firstC, .glob 3 237 acceptC, .glob 0 102 asksC] ∧ r = .tup [iv (natI (placeR h k)), bv (placeR h k).isSome, iv 0]) := placeX h k hm h1 h2 _ (place_eq hm k)
theorem wr_not (h : Hist) (x : Int) (la : Lim 4611686018427387904 h) (hm : ¬ mayB h = true) : ACall Tryz.prog 23 [.agg (histC h), iv x] [.glob 1 112 limitsC, .glob 2 234 firstC, .glob 3 237 acceptC, .glob 0 102 asksC] (fun r h' => h' = [.glob 1 112 limitsC, .glob 2 234 firstC, .glob 3 237 acceptC, .glob 0 102 asksC] ∧ r = .tup [intsA [], iv 210]) := (rWritersF h x la).mono fun _ _ q => ⟨q.1, by rw [q.2, writersW, if_neg hm]⟩
theorem wr_may (h : Hist) (x : Int) (hm : mayB h = true) : ACall Tryz.prog 23 [.agg (histC h), iv x] [.glob 1 112 limitsC, .glob 2 234 firstC, .glob 3 237 acceptC, .glob 0 102 asksC] (fun r h' => h' = [.glob 1 112 limitsC, .glob 2 234 firstC, .glob 3 237 acceptC, .glob 0 102 asksC] ∧ r = .tup [intsA (writersR h x), iv 0]) := (rWritersF h x ((may3000 hm).mono (by decide))).mono fun _ _ q => ⟨q.1, by rw [q.2, writersW, if_pos hm, writers_may hm]⟩
theorem eq_ints (l : List Int) (hl : l.length ≤ 4611686018427387904) : ACall Tryz.prog 25 [intsA l, intsA l] [] (fun r h' => h' = [] ∧ r = bv true) := (equalInt l l hl hl).mono fun _ _ q => ⟨q.1, by rw [q.2, eqF_eq intEq_eq]; simp⟩
set_option maxHeartbeats 4000000 in
theorem rpN (x : Hist) (l : List Int) (la : Lim 4611686018427387904 x) (hl : l.length ≤ 4611686018427387904) (hm : ¬ mayB (fewA x) = true) : ACall Tryz.prog 4 [.agg (histC x), intsA l] [.glob 1 112 limitsC, .glob 2 234 firstC, .glob 3 237 acceptC, .glob 0 102 asksC] (fun r h' => h' = [.glob 1 112 limitsC, .glob 2 234 firstC, .glob 3 237 acceptC, .glob 0 102 asksC] ∧ r = bv true) := by
  refine acall_of_aw Tryz.func4 rfl rfl rfl ?_
  refine rn ?_
  refine aops_e rfl (oe_box rfl rfl rfl fun b2 => ?_)
  refine rn ?_
  refine qv rfl rfl (qv_call rfl rfl (FCall.qt (FCall.of_fun wakesA) ((pt1 _ _ _).trans (.cons _ ((pt1 _ _ _).trans (.cons _ ((pt1 _ _ _).trans (.cons _ (pt1 _ _ _))))))))) ?_
  refine rn ?_
  refine aw_cond rfl (fun hc20 => ?_) (fun hc20 => ?_)
  · exact absurd hc20 (by decide)
  · refine rn ?_
    refine qv rfl rfl (qv_call rfl rfl (pcall (few x la) (Sbs.refl _))) ?_
    refine aops_e rfl (oe_alloc rfl fun b5 => ?_)
    refine rn ?_
    refine qv rfl rfl (qv_call rfl rfl (pcall (rightV (fewA x) ((fewA_lim x).mono (by decide)) false (Bool.eq_false_iff.2 hm)) (Sbs.refl _))) ?_
    refine rn ?_
    refine aw_while (fun k : Nat => k ≤ 12) (fun k => ⟨[(25, iv k), (1, intsA l), (2, .v (.pointer (some ⟨b2, 0, none⟩))), (5, .v (.pointer (some ⟨b5, 0, none⟩))), (6, bv false)], (.box b5 28 (histC (fewA x)) :: .box b2 28 (histC x) :: .glob 1 112 limitsC :: .glob 2 234 firstC :: .glob 3 237 acceptC :: .glob 0 102 asksC :: []), []⟩) (fun k => 12 - k) 0 (by omega) es ?_
    rintro k k3
    refine rn ?_
    refine aw_cond rfl (fun hc26 => ?_) (fun hc26 => ?_)
    · have hk : k < 12 := by have := of_decide_eq_true hc26; omega
      refine rn ?_
      refine qv rfl rfl (qv_call rfl rfl (FCall.qt (FCall.of_fun (pl_not (fewA x) k ((fewA_lim x).mono (by decide)) hm)) ((pt2 _ _ _ _).trans (.cons _ ((pt2 _ _ _ _).trans (.cons _ ((pt2 _ _ _ _).trans (.cons _ (pt2 _ _ _ _))))))))) ?_
      refine rn ?_
      refine aw_cond rfl (fun hc35 => ?_) (fun hc35 => ?_)
      · exact absurd hc35 (by decide)
      · refine rn ?_
        refine aw_cond rfl (fun hc59 => ?_) (fun hc59 => ?_)
        · first | cases hc59 | exact absurd hc59 (by decide) | (exfalso; simp_all; done)
        · refine rn ?_
          exact ⟨k + 1, by omega, eA, by omega⟩
    · refine rn ?_
      refine aw_rng (l.length) (fun j : Nat => True) (fun j => [(63, iv j)]) [(2, _), (5, _), (6, _), (61, _), (62, _)] trivial ?_
      intro j lj _
      refine rn ?_
      refine aw_cond rfl (fun hc64 => ?_) (fun hc64 => ?_)
      · have hj := ltMap hc64
        have rj := atRow (f := intR) hj
        refine rn ?_
        refine aw_cond rfl (fun hc69 => ?_) (fun hc69 => ?_)
        · refine rn ?_
          refine aw_draw 3 rfl ?_
          refine rn ?_
          refine dv rfl rfl (by exact qv_call rfl rfl (pcall (few x la) (Sbs.refl _))) ?_
          refine rn ?_
          refine qv rfl rfl (qv_call rfl rfl (pcall (same15 (fewA x) ((fewA_lim x).mono (by decide))) (Sbs.refl _))) ?_
          refine rn ?_
          refine rq 2 ?_
          exact ⟨rfl, rfl⟩
        · refine rn ?_
          refine qv rfl rfl (qv_call rfl rfl (FCall.qt (FCall.of_fun (wr_not (fewA x) l[j] ((fewA_lim x).mono (by decide)) hm)) ((pt2 _ _ _ _).trans (.cons _ ((pt2 _ _ _ _).trans (.cons _ ((pt2 _ _ _ _).trans (.cons _ (pt2 _ _ _ _))))))))) ?_
          refine rn ?_
          refine aw_cond rfl (fun hc76 => ?_) (fun hc76 => ?_)
          · exact absurd hc76 (by decide)
          · refine rn ?_
            refine qv rfl rfl (qv_call rfl rfl (pcall (eq_ints [] (by decide)) (by exact ⟨.refl _, .nil _ _, trivial⟩))) ?_
            refine rn ?_
            refine aw_cond rfl (fun hc88 => ?_) (fun hc88 => ?_)
            · first | cases hc88 | exact absurd hc88 (by decide) | (exfalso; simp_all; done)
            · refine rn ?_
              exact ⟨hj, trivial, eA⟩
      · have qj := geMap hc64 lj
        refine rn ?_
        refine aw_draw 3 rfl ?_
        refine rn ?_
        refine dv rfl rfl (by exact qv_call rfl rfl (pcall (few x la) (Sbs.refl _))) ?_
        refine rn ?_
        refine qv rfl rfl (qv_call rfl rfl (pcall (same15 (fewA x) ((fewA_lim x).mono (by decide))) (Sbs.refl _))) ?_
        refine rn ?_
        refine rq 2 ?_
        exact ⟨rfl, rfl⟩
set_option maxHeartbeats 4000000 in
theorem rpO (x : Hist) (l : List Int) (la : Lim 4611686018427387904 x) (hl : l.length ≤ 4611686018427387904) (hm : mayB (fewA x) = true) : ACall Tryz.prog 4 [.agg (histC x), intsA l] [.glob 1 112 limitsC, .glob 2 234 firstC, .glob 3 237 acceptC, .glob 0 102 asksC] (fun r h' => h' = [.glob 1 112 limitsC, .glob 2 234 firstC, .glob 3 237 acceptC, .glob 0 102 asksC] ∧ r = bv true) := by
  refine acall_of_aw Tryz.func4 rfl rfl rfl ?_
  refine rn ?_
  refine aops_e rfl (oe_box rfl rfl rfl fun b2 => ?_)
  refine rn ?_
  refine qv rfl rfl (qv_call rfl rfl (FCall.qt (FCall.of_fun wakesA) ((pt1 _ _ _).trans (.cons _ ((pt1 _ _ _).trans (.cons _ ((pt1 _ _ _).trans (.cons _ (pt1 _ _ _))))))))) ?_
  refine rn ?_
  refine aw_cond rfl (fun hc20 => ?_) (fun hc20 => ?_)
  · exact absurd hc20 (by decide)
  · refine rn ?_
    refine qv rfl rfl (qv_call rfl rfl (pcall (few x la) (Sbs.refl _))) ?_
    refine aops_e rfl (oe_alloc rfl fun b5 => ?_)
    refine rn ?_
    refine qv rfl rfl (qv_call rfl rfl (pcall (rightV (fewA x) ((fewA_lim x).mono (by decide)) true hm) (Sbs.refl _))) ?_
    refine rn ?_
    refine aw_while (fun k : Nat => k ≤ 12) (fun k => ⟨[(25, iv k), (1, intsA l), (2, .v (.pointer (some ⟨b2, 0, none⟩))), (5, .v (.pointer (some ⟨b5, 0, none⟩))), (6, bv true)], (.box b5 28 (histC (fewA x)) :: .box b2 28 (histC x) :: .glob 1 112 limitsC :: .glob 2 234 firstC :: .glob 3 237 acceptC :: .glob 0 102 asksC :: []), []⟩) (fun k => 12 - k) 0 (by omega) es ?_
    rintro k k3
    refine rn ?_
    refine aw_cond rfl (fun hc26 => ?_) (fun hc26 => ?_)
    · have hk : k < 12 := by have := of_decide_eq_true hc26; omega
      refine aw_skip ?_
      refine thn_n ?_
      refine aw_seq ?_
      refine aw_block ?_
      refine aw_seq (aw_region ?_)
      refine q1 ?_
      refine q1 ?_
      refine aops_nil (thn_n ?_)
      refine aw_seq (aw_region ?_)
      refine q1 ?_
      refine q1 ?_
      refine tri12 k hk (fun q => qv rfl rfl (qv_call rfl rfl (FCall.qt (FCall.of_fun (pl_out (fewA x) k hm (by omega))) ((pt2 _ _ _ _).trans (.cons _ ((pt2 _ _ _ _).trans (.cons _ ((pt2 _ _ _ _).trans (.cons _ (pt2 _ _ _ _))))))))) ?_) (fun k1 k2 => qv rfl rfl (qv_call rfl rfl (FCall.qt (FCall.of_fun (pl_in (fewA x) k hm k1 k2)) ((pt2 _ _ _ _).trans (.cons _ ((pt2 _ _ _ _).trans (.cons _ ((pt2 _ _ _ _).trans (.cons _ (pt2 _ _ _ _))))))))) ?_) (fun q => qv rfl rfl (qv_call rfl rfl (FCall.qt (FCall.of_fun (pl_out (fewA x) k hm (by omega))) ((pt2 _ _ _ _).trans (.cons _ ((pt2 _ _ _ _).trans (.cons _ ((pt2 _ _ _ _).trans (.cons _ (pt2 _ _ _ _))))))))) ?_)
      · refine rn ?_
        refine aw_cond rfl (fun hc35 => ?_) (fun hc35 => ?_)
        · refine aw_seq (aw_region ?_)
          refine q1 ?_
          refine aops_nil (thn_n ?_)
          refine aw_seq (aw_region ?_)
          refine q1 ?_
          first | refine qq rfl rfl (qr_cmp (c := true) rfl rfl (congrArg some (decide_eq_true (by omega)))) ?_ | refine qq rfl rfl (qr_cmp (c := false) rfl rfl (congrArg some (decide_eq_false (by omega)))) ?_
          refine rn ?_
          refine aw_cond rfl (fun hc41 => ?_) (fun hc41 => ?_)
          · first | cases hc41 | exact absurd hc41 (by decide) | (exfalso; simp_all; done)
          · refine aw_skip ?_
            refine thn_n ?_
            refine aw_seq (aw_region ?_)
            refine q1 ?_
            refine q1 ?_
            refine q1 ?_
            refine q1 ?_
            refine q1 ?_
            refine q1 ?_
            refine q1 ?_
            refine qq rfl rfl (qr_isB (c := false) (qr_nebool rfl rfl) (by first | exact isSome_J _ | decide)) ?_
            refine q1 ?_
            refine q1 ?_
            refine q1 ?_
            refine q1 ?_
            refine q1 ?_
            refine qq rfl rfl (qr_cmp (c := false) rfl rfl (congrArg some (by first | exact natI_J _ | decide))) ?_
            refine rn ?_
            refine aw_cond rfl (fun hc59 => ?_) (fun hc59 => ?_)
            · first | cases hc59 | exact absurd hc59 (by decide) | (exfalso; simp_all; done)
            · refine rn ?_
              exact ⟨k + 1, by omega, eA, by omega⟩
        · exact absurd hc35 (by decide)
      · refine rn ?_
        refine aw_cond rfl (fun hc35 => ?_) (fun hc35 => ?_)
        · refine aw_seq (aw_region ?_)
          refine q1 ?_
          refine aops_nil (thn_n ?_)
          refine aw_seq (aw_region ?_)
          refine q1 ?_
          first | refine qq rfl rfl (qr_cmp (c := true) rfl rfl (congrArg some (decide_eq_true (by omega)))) ?_ | refine qq rfl rfl (qr_cmp (c := false) rfl rfl (congrArg some (decide_eq_false (by omega)))) ?_
          refine q1 ?_
          refine q1 ?_
          first | refine qq rfl rfl (qr_cmp (c := true) rfl rfl (congrArg some (decide_eq_true (by omega)))) ?_ | refine qq rfl rfl (qr_cmp (c := false) rfl rfl (congrArg some (decide_eq_false (by omega)))) ?_
          refine rn ?_
          refine aw_cond rfl (fun hc41 => ?_) (fun hc41 => ?_)
          · refine rn ?_
            refine qv rfl rfl (qv_call rfl rfl (pcall (refPlace (fewA x) k k1 k2 ((fewA_lim x).mono (by decide))) (Sbs.refl _))) ?_
            refine q1 ?_
            refine q1 ?_
            refine aops_nil (thn_n ?_)
            refine aw_seq (aw_region ?_)
            refine q1 ?_
            refine q1 ?_
            refine q1 ?_
            refine q1 ?_
            refine q1 ?_
            refine q1 ?_
            refine q1 ?_
            refine qq rfl rfl (qr_isB (c := false) (qr_nebool rfl rfl) (by first | exact isSome_J _ | decide)) ?_
            refine q1 ?_
            refine q1 ?_
            refine q1 ?_
            refine q1 ?_
            refine q1 ?_
            refine qq rfl rfl (qr_cmp (c := false) rfl rfl (congrArg some (by first | exact natI_J _ | decide))) ?_
            refine rn ?_
            refine aw_cond rfl (fun hc59 => ?_) (fun hc59 => ?_)
            · first | cases hc59 | exact absurd hc59 (by decide) | (exfalso; simp_all; done)
            · refine rn ?_
              exact ⟨k + 1, by omega, eA, by omega⟩
          · first | cases hc41 | exact absurd hc41 (by decide) | (exfalso; simp_all; done)
        · exact absurd hc35 (by decide)
      · refine rn ?_
        refine aw_cond rfl (fun hc35 => ?_) (fun hc35 => ?_)
        · refine aw_seq (aw_region ?_)
          refine q1 ?_
          refine aops_nil (thn_n ?_)
          refine aw_seq (aw_region ?_)
          refine q1 ?_
          first | refine qq rfl rfl (qr_cmp (c := true) rfl rfl (congrArg some (decide_eq_true (by omega)))) ?_ | refine qq rfl rfl (qr_cmp (c := false) rfl rfl (congrArg some (decide_eq_false (by omega)))) ?_
          refine q1 ?_
          refine q1 ?_
          first | refine qq rfl rfl (qr_cmp (c := true) rfl rfl (congrArg some (decide_eq_true (by omega)))) ?_ | refine qq rfl rfl (qr_cmp (c := false) rfl rfl (congrArg some (decide_eq_false (by omega)))) ?_
          refine rn ?_
          refine aw_cond rfl (fun hc41 => ?_) (fun hc41 => ?_)
          · first | cases hc41 | exact absurd hc41 (by decide) | (exfalso; simp_all; done)
          · refine aw_skip ?_
            refine thn_n ?_
            refine aw_seq (aw_region ?_)
            refine q1 ?_
            refine q1 ?_
            refine q1 ?_
            refine q1 ?_
            refine q1 ?_
            refine q1 ?_
            refine q1 ?_
            refine qq rfl rfl (qr_isB (c := false) (qr_nebool rfl rfl) (by first | exact isSome_J _ | decide)) ?_
            refine q1 ?_
            refine q1 ?_
            refine q1 ?_
            refine q1 ?_
            refine q1 ?_
            refine qq rfl rfl (qr_cmp (c := false) rfl rfl (congrArg some (by first | exact natI_J _ | decide))) ?_
            refine rn ?_
            refine aw_cond rfl (fun hc59 => ?_) (fun hc59 => ?_)
            · first | cases hc59 | exact absurd hc59 (by decide) | (exfalso; simp_all; done)
            · refine rn ?_
              exact ⟨k + 1, by omega, eA, by omega⟩
        · exact absurd hc35 (by decide)
    · refine rn ?_
      refine aw_rng (l.length) (fun j : Nat => True) (fun j => [(63, iv j)]) [(2, _), (5, _), (6, _), (61, _), (62, _)] trivial ?_
      intro j lj _
      refine rn ?_
      refine aw_cond rfl (fun hc64 => ?_) (fun hc64 => ?_)
      · have hj := ltMap hc64
        have rj := atRow (f := intR) hj
        refine rn ?_
        refine aw_cond rfl (fun hc69 => ?_) (fun hc69 => ?_)
        · refine rn ?_
          refine aw_draw 3 rfl ?_
          refine rn ?_
          refine dv rfl rfl (by exact qv_call rfl rfl (pcall (few x la) (Sbs.refl _))) ?_
          refine rn ?_
          refine qv rfl rfl (qv_call rfl rfl (pcall (same15 (fewA x) ((fewA_lim x).mono (by decide))) (Sbs.refl _))) ?_
          refine rn ?_
          refine rq 2 ?_
          exact ⟨rfl, rfl⟩
        · refine rn ?_
          refine qv rfl rfl (qv_call rfl rfl (FCall.qt (FCall.of_fun (wr_may (fewA x) l[j] hm)) ((pt2 _ _ _ _).trans (.cons _ ((pt2 _ _ _ _).trans (.cons _ ((pt2 _ _ _ _).trans (.cons _ (pt2 _ _ _ _))))))))) ?_
          refine rn ?_
          refine aw_cond rfl (fun hc76 => ?_) (fun hc76 => ?_)
          · refine rn ?_
            refine qv rfl rfl (qv_call rfl rfl (pcall (refWriters (fewA x) l[j] ((fewA_lim x).mono (by decide))) (Sbs.refl _))) ?_
            refine rn ?_
            refine qv rfl rfl (qv_call rfl rfl (pcall (eq_ints (writersR (fewA x) l[j]) (Nat.le_trans (writersR_le _ _) (Nat.le_trans (fewA_lim x).ts (by decide)))) (Sbs.refl _))) ?_
            refine rn ?_
            refine aw_cond rfl (fun hc88 => ?_) (fun hc88 => ?_)
            · first | cases hc88 | exact absurd hc88 (by decide) | (exfalso; simp_all; done)
            · refine rn ?_
              exact ⟨hj, trivial, eA⟩
          · exact absurd hc76 (by decide)
      · have qj := geMap hc64 lj
        refine rn ?_
        refine aw_draw 3 rfl ?_
        refine rn ?_
        refine dv rfl rfl (by exact qv_call rfl rfl (pcall (few x la) (Sbs.refl _))) ?_
        refine rn ?_
        refine qv rfl rfl (qv_call rfl rfl (pcall (same15 (fewA x) ((fewA_lim x).mono (by decide))) (Sbs.refl _))) ?_
        refine rn ?_
        refine rq 2 ?_
        exact ⟨rfl, rfl⟩
theorem rulesPlaces (x : Hist) (l : List Int) (la : Lim 4611686018427387904 x) (hl : l.length ≤ 4611686018427387904) : ACall Tryz.prog 4 [.agg (histC x), intsA l] [.glob 1 112 limitsC, .glob 2 234 firstC, .glob 3 237 acceptC, .glob 0 102 asksC] (fun r h' => h' = [.glob 1 112 limitsC, .glob 2 234 firstC, .glob 3 237 acceptC, .glob 0 102 asksC] ∧ r = bv true) := by
  by_cases hm : mayB (fewA x) = true
  · exact rpO x l la hl hm
  · exact rpN x l la hl hm
end Go.Proofs
