/- The walk of the reference's Shaped. Conditions: none. -/
import Derived.Test.YtdbfjfphfbcgiaaGreatDoorMRankH
set_option linter.unusedSectionVars false
set_option linter.unusedSimpArgs false
set_option linter.unusedVariables false
set_option linter.unusedVariables false
set_option linter.unusedSimpArgs false
set_option maxRecDepth 10000
namespace Go.Proofs
open Go Go.Ab
attribute [local irreducible] QR QV OE aops aw dsoup dsoupM dalloc dallocM thn inBlk
open Go.H
theorem refRightEvE (h : Hist) (e : Ev) (hl : e.scan.length ≤ 4611686018427387904) : ACall Tryz.prog 120 [.agg (histC h), .agg (evR e)] [] (fun r h' => h' = [] ∧ r = bv (eventB h e)) :=
  (refRightEv h e hl).mono fun _ _ q => ⟨q.1, by rw [q.2, rightEv_eq]⟩
theorem refShaped (h : Hist) (la : Lim 4611686018427387904 h) : ACall Tryz.prog 71 [.agg (histC h)] [] (fun r h' => h' = [] ∧ r = bv (shapedB h)) := by
  refine acall_of_aw Tryz.func71 rfl rfl rfl ?_
  refine rn ?_
  refine aops_e rfl (oe_box rfl rfl rfl fun b1 => ?_)
  refine rn ?_
  refine qv rfl rfl (qv_call rfl rfl (pcall (refRightNames h.ts 300 la.ts) (Sbs.refl _))) ?_
  refine rn ?_
  refine asplit (fun hg1_4 => ?_) (fun hg1_4 => ?_)
  · refine rn ?_
    refine aw_ct rfl ?_
    refine rn ?_
    refine rq 1 ?_
    exact ⟨rfl, congrArg bv (by rw [shaped_fn (by simp_all)])⟩
  · refine rn ?_
    refine qv rfl rfl (qv_call rfl rfl (pcall (refRightNames h.ss 60 la.ss) (Sbs.refl _))) ?_
    refine rn ?_
    refine asplit (fun hg1_10 => ?_) (fun hg1_10 => ?_)
    · refine rn ?_
      refine aw_ct rfl ?_
      refine rn ?_
      refine rq 1 ?_
      exact ⟨rfl, congrArg bv (by rw [shaped_fn (by simp_all)])⟩
    · refine rn ?_
      refine qv rfl rfl (qv_call rfl rfl (pcall (refRightNames h.os 300 la.os) (Sbs.refl _))) ?_
      refine rn ?_
      refine asplit (fun hg1_16 => ?_) (fun hg1_16 => ?_)
      · refine rn ?_
        refine aw_ct rfl ?_
        refine rn ?_
        refine rq 1 ?_
        exact ⟨rfl, congrArg bv (by rw [shaped_fn (by simp_all)])⟩
      · refine rn ?_
        refine qv rfl rfl (qv_call rfl rfl (pcall (refRightNames h.ps 60 la.ps) (Sbs.refl _))) ?_
        refine rn ?_
        refine aw_cond rfl (fun hc32 => ?_) (fun hc32 => ?_)
        · refine rn ?_
          refine rq 1 ?_
          exact ⟨rfl, congrArg bv (by rw [shaped_fn (by simp_all)])⟩
        · refine rn ?_
          refine aw_rng (h.evs.length) (fun i : Nat => h.evs.all (eventB h) = (h.evs.drop i).all (eventB h)) (fun i => [(36, iv i)]) [(1, _), (34, _), (35, _)] rfl ?_
          intro i li zi
          refine rn ?_
          refine aw_cond rfl (fun hc37 => ?_) (fun hc37 => ?_)
          · have hi := ltMap hc37
            have ri := atRow (f := evR) hi
            have bi := la.evs
            have si := la.scans h.evs[i] (List.getElem_mem hi)
            refine rn ?_
            refine aops_e rfl (oe_alloc rfl fun b4 => ?_)
            refine rn ?_
            refine qv rfl rfl (qv_call rfl rfl (pcall (refRightEvE h h.evs[i] si) (Sbs.refl _))) ?_
            refine rn ?_
            refine aw_cond rfl (fun hc43 => ?_) (fun hc43 => ?_)
            · refine rn ?_
              refine rq 2 ?_
              exact ⟨rfl, congrArg bv (by rw [shaped_fe (allF hi (by simpa using hc43))])⟩
            · refine rn ?_
              exact ⟨hi, allT hi zi (by simpa using hc43), eA⟩
          · have qi := geMap hc37 li
            have ai := allE qi zi
            refine rn ?_
            refine aw_rng (h.ords.length) (fun j : Nat => h.ords.all (ordB h) = (h.ords.drop j).all (ordB h)) (fun j => [(48, iv j)]) [(1, _), (46, _), (47, _)] rfl ?_
            intro j lj zj
            refine rn ?_
            refine aw_cond rfl (fun hc49 => ?_) (fun hc49 => ?_)
            · have hj := ltMap hc49
              have rj := atRow (f := ordR) hj
              have bj := la.ords
              have sj := la.ordts h.ords[j] (List.getElem_mem hj)
              refine rn ?_
              refine aops_e rfl (oe_alloc rfl fun b6 => ?_)
              refine rn ?_
              refine qv rfl rfl (qv_call rfl rfl (pcall (refIs _ _) (Sbs.refl _))) ?_
              refine rn ?_
              refine asplit (fun hg12_7 => ?_) (fun hg12_7 => ?_)
              · refine rn ?_
                refine aw_ct rfl ?_
                refine rn ?_
                refine rq 2 ?_
                exact ⟨rfl, congrArg bv (by rw [shaped_fo (allF hj (by rw [ordB_eq]; simp_all))])⟩
              · refine rn ?_
                refine qv rfl rfl (qv_call rfl rfl (pcall (refTs h h.ords[j].ts sj) (Sbs.refl _))) ?_
                refine rn ?_
                refine aw_cond rfl (fun hc65 => ?_) (fun hc65 => ?_)
                · refine rn ?_
                  refine rq 2 ?_
                  exact ⟨rfl, congrArg bv (by rw [shaped_fo (allF hj (by rw [ordB_eq]; simp_all))])⟩
                · refine rn ?_
                  exact ⟨hj, allT hj zj (by rw [ordB_eq]; simp_all), eA⟩
            · have qj := geMap hc49 lj
              have aj := allE qj zj
              refine rn ?_
              refine aw_rng (h.mats.length) (fun k : Nat => h.mats.all (matB h) = (h.mats.drop k).all (matB h)) (fun k => [(70, iv k)]) [(1, _), (68, _), (69, _)] rfl ?_
              intro k lk zk
              refine rn ?_
              refine aw_cond rfl (fun hc71 => ?_) (fun hc71 => ?_)
              · have hk := ltMap hc71
                have rk := atRow (f := matR) hk
                have bk := la.mats
                have sk := la.matts h.mats[k] (List.getElem_mem hk)
                refine rn ?_
                refine aops_e rfl (oe_alloc rfl fun b8 => ?_)
                refine rn ?_
                refine qv rfl rfl (qv_call rfl rfl (pcall (refIs _ _) (Sbs.refl _))) ?_
                refine rn ?_
                refine asplit (fun hg18_7 => ?_) (fun hg18_7 => ?_)
                · refine rn ?_
                  refine aw_ct rfl ?_
                  refine rn ?_
                  refine rq 2 ?_
                  exact ⟨rfl, congrArg bv (by rw [shaped_fm (allF hk (by rw [matB_eq]; simp_all))])⟩
                · refine rn ?_
                  refine qv rfl rfl (qv_call rfl rfl (pcall (refIs _ _) (Sbs.refl _))) ?_
                  refine rn ?_
                  refine asplit (fun hg18_16 => ?_) (fun hg18_16 => ?_)
                  · refine rn ?_
                    refine aw_ct rfl ?_
                    refine rn ?_
                    refine rq 2 ?_
                    exact ⟨rfl, congrArg bv (by rw [shaped_fm (allF hk (by rw [matB_eq]; simp_all))])⟩
                  · refine rn ?_
                    refine qv rfl rfl (qv_call rfl rfl (pcall (refTs h h.mats[k].ts sk) (Sbs.refl _))) ?_
                    refine rn ?_
                    refine aw_cond rfl (fun hc96 => ?_) (fun hc96 => ?_)
                    · refine rn ?_
                      refine rq 2 ?_
                      exact ⟨rfl, congrArg bv (by rw [shaped_fm (allF hk (by rw [matB_eq]; simp_all))])⟩
                    · refine rn ?_
                      exact ⟨hk, allT hk zk (by rw [matB_eq]; simp_all), eA⟩
              · have qk := geMap hc71 lk
                have ak := allE qk zk
                refine rn ?_
                refine aw_rng (h.wants.length) (fun m : Nat => h.wants.all (wanB h) = (h.wants.drop m).all (wanB h)) (fun m => [(101, iv m)]) [(1, _), (99, _), (100, _)] rfl ?_
                intro m lm zm
                refine rn ?_
                refine aw_cond rfl (fun hc102 => ?_) (fun hc102 => ?_)
                · have hm := ltMap hc102
                  have rm := atRow (f := wanR) hm
                  have bm := la.wants
                  refine rn ?_
                  refine aops_e rfl (oe_alloc rfl fun b10 => ?_)
                  refine rn ?_
                  refine qv rfl rfl (qv_call rfl rfl (pcall (refIs _ _) (Sbs.refl _))) ?_
                  refine rn ?_
                  refine asplit (fun hg24_7 => ?_) (fun hg24_7 => ?_)
                  · refine rn ?_
                    refine aw_ct rfl ?_
                    refine rn ?_
                    refine rq 2 ?_
                    exact ⟨rfl, congrArg bv (by rw [shaped_fw (allF hm (by rw [wanB_eq]; simp_all))])⟩
                  · refine rn ?_
                    refine qv rfl rfl (qv_call rfl rfl (pcall (refIs _ _) (Sbs.refl _))) ?_
                    refine rn ?_
                    refine aw_cond rfl (fun hc117 => ?_) (fun hc117 => ?_)
                    · refine rn ?_
                      refine rq 2 ?_
                      exact ⟨rfl, congrArg bv (by rw [shaped_fw (allF hm (by rw [wanB_eq]; simp_all))])⟩
                    · refine rn ?_
                      exact ⟨hm, allT hm zm (by rw [wanB_eq]; simp_all), eA⟩
                · have qm := geMap hc102 lm
                  have am := allE qm zm
                  refine rn ?_
                  refine asplit (fun hg27_4 => ?_) (fun hg27_4 => ?_)
                  · refine rn ?_
                    refine asplit (fun hg27_10 => ?_) (fun hg27_10 => ?_)
                    · refine rn ?_
                      refine asplit (fun hg27_16 => ?_) (fun hg27_16 => ?_)
                      · refine rn ?_
                        refine rq 1 ?_
                        exact ⟨rfl, congrArg bv (by rw [shaped_is (by simp_all) (by simp_all) (by simp_all) (by simp_all) ai aj ak am]; first | (simp_all; done) | (simp_all; intros; omega))⟩
                      · refine rn ?_
                        refine rq 1 ?_
                        exact ⟨rfl, congrArg bv (by rw [shaped_is (by simp_all) (by simp_all) (by simp_all) (by simp_all) ai aj ak am]; first | (simp_all; done) | (simp_all; intros; omega))⟩
                    · refine rn ?_
                      refine rq 1 ?_
                      exact ⟨rfl, congrArg bv (by rw [shaped_is (by simp_all) (by simp_all) (by simp_all) (by simp_all) ai aj ak am]; first | (simp_all; done) | (simp_all; intros; omega))⟩
                  · refine rn ?_
                    refine rq 1 ?_
                    exact ⟨rfl, congrArg bv (by rw [shaped_is (by simp_all) (by simp_all) (by simp_all) (by simp_all) ai aj ak am]; first | (simp_all; done) | (simp_all; intros; omega))⟩
end Go.Proofs
/- The walks of the reference's first and made. Conditions: none. -/
set_option linter.unusedVariables false
set_option linter.unusedSimpArgs false
set_option maxRecDepth 10000
namespace Go.Proofs
open Go Go.Ab
attribute [local irreducible] QR QV OE aops aw dsoup dsoupM dalloc dallocM thn inBlk
open Go.H
theorem ref11First (s : SV) (l : List Int) (n : Int) (hl : l.length ≤ 1000000000) : ACall Tryz.prog 122 [.v s.v, iv n] [.row s.v 1 3 (l.map intR)] (fun r h' => ∃ s' : SV, h' = [.row s'.v 1 3 ((addF l n).map intR)] ∧ r = .v s'.v) := by
  refine acall_of_aw Tryz.func122 rfl rfl rfl ?_
  refine rn ?_
  refine qv rfl rfl (qv_call rfl rfl (FCall.lend (R := fun x => x = iv (atI n 0 l)) (FCall.of_fun (refAt (f := false) l n (by omega))) (fun r hr => by rw [hr]; rfl) (.refl _ _) ⟨ble_row, .refl _ _, trivial⟩)) ?_
  refine rn ?_
  refine aw_cond rfl (fun hc8 => ?_) (fun hc8 => ?_)
  · refine rn ?_
    refine rq 0 ?_
    exact ⟨s, by rw [addF, if_pos (by simpa using hc8)]; rfl, rfl⟩
  · refine rn ?_
    refine qv rfl rfl (qv_buildSlice rfl rfl) ?_
    refine aops_e rfl (oe_append_row rfl rfl (by simp; omega) rfl (fun s13 => ?_) (fun r hr => by simp at hr; subst hr; rfl))
    refine aops_slice s13 fun sv hsv => ?_
    subst hsv
    refine rn ?_
    refine rq 0 ?_
    exact ⟨sv, by rw [addF, if_neg (by simpa using hc8), List.map_append]; rfl, rfl⟩
theorem ref11Made (s : SV) (l : List Int) (v : Ver) (hl : l.length ≤ 1000000000) : ACall Tryz.prog 123 [.v s.v, .agg (verR v)] [.row s.v 1 3 (l.map intR)] (fun r h' => ∃ s' : SV, h' = [.row s'.v 1 3 ((addV l v).map intR)] ∧ r = .v s'.v) := by
  refine acall_of_aw Tryz.func123 rfl rfl rfl ?_
  refine rn ?_
  refine aops_e rfl (oe_box rfl rfl rfl fun b3 => ?_)
  refine rn ?_
  refine aw_cond rfl (fun hc7 => ?_) (fun hc7 => ?_)
  · refine rn ?_
    refine rq 1 ?_
    exact ⟨s, by rw [addV, if_pos (by simpa using hc7)]; rfl, rfl⟩
  · refine rn ?_
    refine aops_e rfl (oe_call rfl rfl (fcall_row (FCall.of_fun (ref11First s l v.t hl))) rfl ?_)
    rintro _ _ ⟨s', rfl, rfl⟩
    refine rn ?_
    refine rq 1 ?_
    exact ⟨s', by rw [addV, if_neg (by simpa using hc7)]; rfl, rfl⟩
end Go.Proofs
/- The walk of the reference's Spoken. Conditions: none. -/
set_option linter.unusedVariables false
set_option linter.unusedSimpArgs false
set_option maxRecDepth 10000
namespace Go.Proofs
open Go Go.Ab
attribute [local irreducible] QR QV OE aops aw dsoup dsoupM dalloc dallocM thn inBlk
open Go.H
set_option maxHeartbeats 4000000 in
theorem refSpoken (h : Hist) (la : Lim 3000 h) : ACall Tryz.prog 72 [.agg (histC h)] [] (fun r h' => h' = [] ∧ r = .agg [intsA (spokenF h 0), intsA (spokenF h 1), intsA (spokenF h 2), intsA (spokenF h 3)]) := by
  refine acall_of_aw Tryz.func72 rfl rfl rfl ?_
  refine rn ?_
  refine aops_e rfl (oe_box rfl rfl rfl fun b1 => ?_)
  refine aops_e rfl (oe_alloc rfl fun b2 => ?_)
  refine rn ?_
  refine aops_e rfl (oe_alloc rfl fun b3 => ?_)
  refine rn ?_
  refine aw_rng4 h.evs.length (fun k s0 s1 s2 s3 => ⟨[(21, iv k), (1, .v (.pointer (some ⟨b1, 0, none⟩))), (2, .v (.pointer (some ⟨b2, 0, none⟩))), (3, .v (.pointer (some ⟨b3, 0, none⟩))), (19, evsA h.evs), (20, iv (h.evs.map evR).length)], [.row s0.v 1 3 (((spE h k) 0).map intR), .row s1.v 1 3 (((spE h k) 1).map intR), .row s2.v 1 3 (((spE h k) 2).map intR), .row s3.v 1 3 (((spE h k) 3).map intR), .box b3 110 [.v s0.v, .v s1.v, .v s2.v, .v s3.v], .box b2 110 [.v (.slice none 0 0), .v (.slice none 0 0), .v (.slice none 0 0), .v (.slice none 0 0)], .box b1 28 (histC h)], []⟩) (⟨none, 0, 0⟩) (⟨none, 0, 0⟩) (⟨none, 0, 0⟩) (⟨none, 0, 0⟩) (ent_trans (ent_nilrow 1 3) (ent_trans (ent_nilrow 1 3) (ent_trans (ent_nilrow 1 3) (ent_trans (ent_nilrow 1 3) es)))) ?_
  intro k s0 s1 s2 s3 lk
  refine rn ?_
  refine aw_cond rfl (fun hc22 => ?_) (fun hc22 => ?_)
  · have hk := ltMap hc22
    have rk := atRow (f := evR) hk
    have bd := bdE la k lk
    have ls := la.scans h.evs[k] (List.getElem_mem hk)
    have le := la.evs
    refine rn ?_
    refine aops_e rfl (oe_alloc rfl fun b5 => ?_)
    refine rn ?_
    refine qq rfl rfl (qr_indexAddr_int rfl rfl (by decide) (by decide)) ?_
    refine rn ?_
    refine aops_e rfl (oe_call rfl rfl (fcall_row (FCall.of_fun (ref11First _ _ _ (by have := bd 0; omega)))) rfl ?_)
    rintro _ _ ⟨s', rfl, rfl⟩
    refine qq rfl rfl (qr_indexAddr_int rfl rfl (by decide) (by decide)) ?_
    refine rn0 ?_
    refine aw_cut4 (fun s0 s1 s2 s3 => ⟨[(5, .v (.pointer (some ⟨b5, 0, none⟩))), (21, iv k), (20, iv (h.evs.map evR).length), (19, evsA h.evs), (1, .v (.pointer (some ⟨b1, 0, none⟩))), (2, .v (.pointer (some ⟨b2, 0, none⟩))), (3, .v (.pointer (some ⟨b3, 0, none⟩)))], [.box b5 72 (evR h.evs[k]), .row s0.v 1 3 (((stepK (stepF (spE h k) (0, h.evs[k].t)) h.evs[k]) 0).map intR), .row s1.v 1 3 (((stepK (stepF (spE h k) (0, h.evs[k].t)) h.evs[k]) 1).map intR), .row s2.v 1 3 (((stepK (stepF (spE h k) (0, h.evs[k].t)) h.evs[k]) 2).map intR), .row s3.v 1 3 (((stepK (stepF (spE h k) (0, h.evs[k].t)) h.evs[k]) 3).map intR), .box b3 110 [.v s0.v, .v s1.v, .v s2.v, .v s3.v], .box b2 110 [.v (.slice none 0 0), .v (.slice none 0 0), .v (.slice none 0 0), .v (.slice none 0 0)], .box b1 28 (histC h)], []⟩) ?_ ?_
    · refine rn ?_
      refine aw_cond rfl (fun hc33 => ?_) (fun hc33 => ?_)
      · refine rn ?_
        refine qq rfl rfl (qr_indexAddr_int rfl rfl (by decide) (by decide)) ?_
        refine rn ?_
        refine aops_e rfl (oe_call rfl rfl (fcall_row (FCall.of_fun (ref11First _ _ _ (by have := bd 1; omega)))) rfl ?_)
        rintro _ _ ⟨s', rfl, rfl⟩
        refine qq rfl rfl (qr_indexAddr_int rfl rfl (by decide) (by decide)) ?_
        refine rn ?_
        exact ⟨_, _, _, _, by unfold stepK; first | (rw [if_pos (by simpa using hc33)]; exact eA) | (rw [if_neg (by simpa using hc33), if_pos (by simp at hc33; simp_all)]; exact eA) | (rw [if_neg (by simpa using hc33), if_neg (by simp at hc33; simp_all), if_pos (by simpa using hc56)]; exact eA) | (rw [if_neg (by simpa using hc33), if_neg (by simp at hc33; simp_all), if_neg (by simpa using hc56)]; exact eA)⟩
      · refine rn ?_
        refine aw_cond rfl (fun hc41 => ?_) (fun hc41 => ?_)
        · refine rn ?_
          refine aw_cond rfl (fun hc41 => ?_) (fun hc41 => ?_)
          · refine rn ?_
            refine qq rfl rfl (qr_indexAddr_int rfl rfl (by decide) (by decide)) ?_
            refine rn ?_
            refine aops_e rfl (oe_call rfl rfl (fcall_row (FCall.of_fun (ref11First _ _ _ (by have := bd 2; omega)))) rfl ?_)
            rintro _ _ ⟨s', rfl, rfl⟩
            refine qq rfl rfl (qr_indexAddr_int rfl rfl (by decide) (by decide)) ?_
            refine rn ?_
            refine qq rfl rfl (qr_indexAddr_int rfl rfl (by decide) (by decide)) ?_
            refine rn ?_
            refine aops_e rfl (oe_call rfl rfl (fcall_row (FCall.of_fun (ref11Made _ _ _ (by have := (bd.f (0, h.evs[k].t)) 0; exact Nat.le_trans this (by omega))))) rfl ?_)
            rintro _ _ ⟨s', rfl, rfl⟩
            refine qq rfl rfl (qr_indexAddr_int rfl rfl (by decide) (by decide)) ?_
            refine rn ?_
            exact ⟨_, _, _, _, by unfold stepK; first | (rw [if_pos (by simpa using hc33)]; exact eA) | (rw [if_neg (by simpa using hc33), if_pos (by simp at hc33; simp_all)]; exact eA) | (rw [if_neg (by simpa using hc33), if_neg (by simp at hc33; simp_all), if_pos (by simpa using hc56)]; exact eA) | (rw [if_neg (by simpa using hc33), if_neg (by simp at hc33; simp_all), if_neg (by simpa using hc56)]; exact eA)⟩
          · first | cases hc41 | exact absurd hc41 (by decide) | (exfalso; simp_all; done)
        · refine rn ?_
          refine aw_cond rfl (fun hc41 => ?_) (fun hc41 => ?_)
          · refine rn ?_
            refine qq rfl rfl (qr_indexAddr_int rfl rfl (by decide) (by decide)) ?_
            refine rn ?_
            refine aops_e rfl (oe_call rfl rfl (fcall_row (FCall.of_fun (ref11First _ _ _ (by have := bd 2; omega)))) rfl ?_)
            rintro _ _ ⟨s', rfl, rfl⟩
            refine qq rfl rfl (qr_indexAddr_int rfl rfl (by decide) (by decide)) ?_
            refine rn ?_
            refine qq rfl rfl (qr_indexAddr_int rfl rfl (by decide) (by decide)) ?_
            refine rn ?_
            refine aops_e rfl (oe_call rfl rfl (fcall_row (FCall.of_fun (ref11Made _ _ _ (by have := (bd.f (0, h.evs[k].t)) 0; exact Nat.le_trans this (by omega))))) rfl ?_)
            rintro _ _ ⟨s', rfl, rfl⟩
            refine qq rfl rfl (qr_indexAddr_int rfl rfl (by decide) (by decide)) ?_
            refine rn ?_
            exact ⟨_, _, _, _, by unfold stepK; first | (rw [if_pos (by simpa using hc33)]; exact eA) | (rw [if_neg (by simpa using hc33), if_pos (by simp at hc33; simp_all)]; exact eA) | (rw [if_neg (by simpa using hc33), if_neg (by simp at hc33; simp_all), if_pos (by simpa using hc56)]; exact eA) | (rw [if_neg (by simpa using hc33), if_neg (by simp at hc33; simp_all), if_neg (by simpa using hc56)]; exact eA)⟩
          · refine rn ?_
            refine aw_cond rfl (fun hc56 => ?_) (fun hc56 => ?_)
            · refine rn ?_
              refine qq rfl rfl (qr_indexAddr_int rfl rfl (by decide) (by decide)) ?_
              refine rn ?_
              refine aops_e rfl (oe_call rfl rfl (fcall_row (FCall.of_fun (ref11First _ _ _ (by have := bd 3; omega)))) rfl ?_)
              rintro _ _ ⟨s', rfl, rfl⟩
              refine qq rfl rfl (qr_indexAddr_int rfl rfl (by decide) (by decide)) ?_
              refine rn ?_
              exact ⟨_, _, _, _, by unfold stepK; first | (rw [if_pos (by simpa using hc33)]; exact eA) | (rw [if_neg (by simpa using hc33), if_pos (by simp at hc33; simp_all)]; exact eA) | (rw [if_neg (by simpa using hc33), if_neg (by simp at hc33; simp_all), if_pos (by simpa using hc56)]; exact eA) | (rw [if_neg (by simpa using hc33), if_neg (by simp at hc33; simp_all), if_neg (by simpa using hc56)]; exact eA)⟩
            · refine rn ?_
              exact ⟨_, _, _, _, by unfold stepK; first | (rw [if_pos (by simpa using hc33)]; exact eA) | (rw [if_neg (by simpa using hc33), if_pos (by simp at hc33; simp_all)]; exact eA) | (rw [if_neg (by simpa using hc33), if_neg (by simp at hc33; simp_all), if_pos (by simpa using hc56)]; exact eA) | (rw [if_neg (by simpa using hc33), if_neg (by simp at hc33; simp_all), if_neg (by simpa using hc56)]; exact eA)⟩
    · intro s0 s1 s2 s3
      refine rn ?_
      refine aw_rng4 h.evs[k].scan.length (fun j s0 s1 s2 s3 => ⟨[(67, iv j), (1, .v (.pointer (some ⟨b1, 0, none⟩))), (2, .v (.pointer (some ⟨b2, 0, none⟩))), (3, .v (.pointer (some ⟨b3, 0, none⟩))), (19, evsA h.evs), (20, iv (h.evs.map evR).length), (21, iv k), (65, seensA h.evs[k].scan), (66, iv (h.evs[k].scan.map seenR).length)], [.box b5 72 (evR h.evs[k]), .row s0.v 1 3 ((((h.evs[k].scan.take j).foldl stepS (stepK (stepF (spE h k) (0, h.evs[k].t)) h.evs[k])) 0).map intR), .row s1.v 1 3 ((((h.evs[k].scan.take j).foldl stepS (stepK (stepF (spE h k) (0, h.evs[k].t)) h.evs[k])) 1).map intR), .row s2.v 1 3 ((((h.evs[k].scan.take j).foldl stepS (stepK (stepF (spE h k) (0, h.evs[k].t)) h.evs[k])) 2).map intR), .row s3.v 1 3 ((((h.evs[k].scan.take j).foldl stepS (stepK (stepF (spE h k) (0, h.evs[k].t)) h.evs[k])) 3).map intR), .box b3 110 [.v s0.v, .v s1.v, .v s2.v, .v s3.v], .box b2 110 [.v (.slice none 0 0), .v (.slice none 0 0), .v (.slice none 0 0), .v (.slice none 0 0)], .box b1 28 (histC h)], []⟩) _ _ _ _ (es) ?_
      intro j s0 s1 s2 s3 lj
      refine rn ?_
      refine aw_cond rfl (fun hc68 => ?_) (fun hc68 => ?_)
      · have hj := ltMap hc68
        have rj := atRow (f := seenR) hj
        have bj := Bd.fold (c := 2) (l := h.evs[k].scan.take j) (fun s _ L n h => h.s s) ((bd.f (0, h.evs[k].t)).k h.evs[k])
        have bl : (h.evs[k].scan.take j).length ≤ 3000 := by rw [List.length_take]; omega
        refine rn ?_
        refine aops_e rfl (oe_alloc rfl fun b7 => ?_)
        refine rn ?_
        refine qq rfl rfl (qr_indexAddr_int rfl rfl (by decide) (by decide)) ?_
        refine rn ?_
        refine aops_e rfl (oe_call rfl rfl (fcall_row (FCall.of_fun (ref11First _ _ _ (by have := bj 2; omega)))) rfl ?_)
        rintro _ _ ⟨s', rfl, rfl⟩
        refine qq rfl rfl (qr_indexAddr_int rfl rfl (by decide) (by decide)) ?_
        refine rn ?_
        refine qq rfl rfl (qr_indexAddr_int rfl rfl (by decide) (by decide)) ?_
        refine rn ?_
        refine aops_e rfl (oe_call rfl rfl (fcall_row (FCall.of_fun (ref11Made _ _ _ (by have := bj 0; omega)))) rfl ?_)
        rintro _ _ ⟨s', rfl, rfl⟩
        refine qq rfl rfl (qr_indexAddr_int rfl rfl (by decide) (by decide)) ?_
        refine rn ?_
        have e : (h.evs[k].scan.take (j + 1)).foldl stepS (stepK (stepF (spE h k) (0, h.evs[k].t)) h.evs[k]) = stepS ((h.evs[k].scan.take j).foldl stepS (stepK (stepF (spE h k) (0, h.evs[k].t)) h.evs[k])) h.evs[k].scan[j] := foldTake _ _ hj
        exact ⟨hj, _, _, _, _, by simp only [e]; exact eA⟩
      · have qj := geMap hc68 lj
        refine rn ?_
        have e : spE h (k + 1) = (h.evs[k].scan.take j).foldl stepS (stepK (stepF (spE h k) (0, h.evs[k].t)) h.evs[k]) := by rw [spE, foldTake _ _ hk, H.stepE, foldEnd _ _ qj]; rfl
        exact ⟨hk, _, _, _, _, by simp only [e]; exact eA⟩
  · have qk := geMap hc22 lk
    refine rn ?_
    refine aw_rng4 h.ords.length (fun k s0 s1 s2 s3 => ⟨[(88, iv k), (1, .v (.pointer (some ⟨b1, 0, none⟩))), (2, .v (.pointer (some ⟨b2, 0, none⟩))), (3, .v (.pointer (some ⟨b3, 0, none⟩))), (86, ordsA h.ords), (87, iv (h.ords.map ordR).length)], [.row s0.v 1 3 (((spO h k) 0).map intR), .row s1.v 1 3 (((spO h k) 1).map intR), .row s2.v 1 3 (((spO h k) 2).map intR), .row s3.v 1 3 (((spO h k) 3).map intR), .box b3 110 [.v s0.v, .v s1.v, .v s2.v, .v s3.v], .box b2 110 [.v (.slice none 0 0), .v (.slice none 0 0), .v (.slice none 0 0), .v (.slice none 0 0)], .box b1 28 (histC h)], []⟩) _ _ _ _ (by rw [show spO h 0 = spE h k from (foldEnd stepE noR qk).symm]; exact es) ?_
    intro k s0 s1 s2 s3 lk
    refine rn ?_
    refine aw_cond rfl (fun hc89 => ?_) (fun hc89 => ?_)
    · have hk := ltMap hc89
      have rk := atRow (f := ordR) hk
      have bd := bdO la k lk
      have ls := la.ordts h.ords[k] (List.getElem_mem hk)
      have le := la.ords
      refine rn ?_
      refine aops_e rfl (oe_alloc rfl fun b9 => ?_)
      refine rn ?_
      refine qq rfl rfl (qr_indexAddr_int rfl rfl (by decide) (by decide)) ?_
      refine rn ?_
      refine aops_e rfl (oe_call rfl rfl (fcall_row (FCall.of_fun (ref11First _ _ _ (by have := bd 2; omega)))) rfl ?_)
      rintro _ _ ⟨s', rfl, rfl⟩
      refine qq rfl rfl (qr_indexAddr_int rfl rfl (by decide) (by decide)) ?_
      refine rn ?_
      refine aw_rng4 h.ords[k].ts.length (fun j s0 s1 s2 s3 => ⟨[(101, iv j), (1, .v (.pointer (some ⟨b1, 0, none⟩))), (2, .v (.pointer (some ⟨b2, 0, none⟩))), (3, .v (.pointer (some ⟨b3, 0, none⟩))), (86, ordsA h.ords), (87, iv (h.ords.map ordR).length), (88, iv k), (99, intsA h.ords[k].ts), (100, iv (h.ords[k].ts.map intR).length)], [.box b9 96 (ordR h.ords[k]), .row s0.v 1 3 ((((h.ords[k].ts.take j).foldl addT (stepF (spO h k) (2, h.ords[k].o))) 0).map intR), .row s1.v 1 3 ((((h.ords[k].ts.take j).foldl addT (stepF (spO h k) (2, h.ords[k].o))) 1).map intR), .row s2.v 1 3 ((((h.ords[k].ts.take j).foldl addT (stepF (spO h k) (2, h.ords[k].o))) 2).map intR), .row s3.v 1 3 ((((h.ords[k].ts.take j).foldl addT (stepF (spO h k) (2, h.ords[k].o))) 3).map intR), .box b3 110 [.v s0.v, .v s1.v, .v s2.v, .v s3.v], .box b2 110 [.v (.slice none 0 0), .v (.slice none 0 0), .v (.slice none 0 0), .v (.slice none 0 0)], .box b1 28 (histC h)], []⟩) _ _ _ _ (es) ?_
      intro j s0 s1 s2 s3 lj
      refine rn ?_
      refine aw_cond rfl (fun hc102 => ?_) (fun hc102 => ?_)
      · have hj := ltMap hc102
        have rj := atRow (f := intR) hj
        have bj := Bd.fold (c := 1) (l := h.ords[k].ts.take j) (fun s _ L n h => h.t s) (bd.f (2, h.ords[k].o))
        have bl : (h.ords[k].ts.take j).length ≤ 3000 := by rw [List.length_take]; omega
        refine rn ?_
        refine qq rfl rfl (qr_indexAddr_int rfl rfl (by decide) (by decide)) ?_
        refine rn ?_
        refine aops_e rfl (oe_call rfl rfl (fcall_row (FCall.of_fun (ref11First _ _ _ (by have := bj 0; omega)))) rfl ?_)
        rintro _ _ ⟨s', rfl, rfl⟩
        refine qq rfl rfl (qr_indexAddr_int rfl rfl (by decide) (by decide)) ?_
        refine rn ?_
        have e : (h.ords[k].ts.take (j + 1)).foldl addT (stepF (spO h k) (2, h.ords[k].o)) = addT ((h.ords[k].ts.take j).foldl addT (stepF (spO h k) (2, h.ords[k].o))) h.ords[k].ts[j] := foldTake _ _ hj
        exact ⟨hj, _, _, _, _, by simp only [e]; exact eA⟩
      · have qj := geMap hc102 lj
        refine rn ?_
        have e : spO h (k + 1) = (h.ords[k].ts.take j).foldl addT (stepF (spO h k) (2, h.ords[k].o)) := by rw [spO, foldTake _ _ hk, stepO, foldEnd _ _ qj]; rfl
        exact ⟨hk, _, _, _, _, by simp only [e]; exact eA⟩
    · have qk := geMap hc89 lk
      refine rn ?_
      refine aw_rng4 h.mats.length (fun k s0 s1 s2 s3 => ⟨[(115, iv k), (1, .v (.pointer (some ⟨b1, 0, none⟩))), (2, .v (.pointer (some ⟨b2, 0, none⟩))), (3, .v (.pointer (some ⟨b3, 0, none⟩))), (113, matsA h.mats), (114, iv (h.mats.map matR).length)], [.row s0.v 1 3 (((spM h k) 0).map intR), .row s1.v 1 3 (((spM h k) 1).map intR), .row s2.v 1 3 (((spM h k) 2).map intR), .row s3.v 1 3 (((spM h k) 3).map intR), .box b3 110 [.v s0.v, .v s1.v, .v s2.v, .v s3.v], .box b2 110 [.v (.slice none 0 0), .v (.slice none 0 0), .v (.slice none 0 0), .v (.slice none 0 0)], .box b1 28 (histC h)], []⟩) _ _ _ _ (by rw [show spM h 0 = spO h k from (foldEnd stepO _ qk).symm]; exact es) ?_
      intro k s0 s1 s2 s3 lk
      refine rn ?_
      refine aw_cond rfl (fun hc116 => ?_) (fun hc116 => ?_)
      · have hk := ltMap hc116
        have rk := atRow (f := matR) hk
        have bd := bdM la k lk
        have ls := la.matts h.mats[k] (List.getElem_mem hk)
        have le := la.mats
        refine rn ?_
        refine aops_e rfl (oe_alloc rfl fun b13 => ?_)
        refine rn ?_
        refine qq rfl rfl (qr_indexAddr_int rfl rfl (by decide) (by decide)) ?_
        refine rn ?_
        refine aops_e rfl (oe_call rfl rfl (fcall_row (FCall.of_fun (ref11First _ _ _ (by have := bd 3; omega)))) rfl ?_)
        rintro _ _ ⟨s', rfl, rfl⟩
        refine qq rfl rfl (qr_indexAddr_int rfl rfl (by decide) (by decide)) ?_
        refine rn ?_
        refine qq rfl rfl (qr_indexAddr_int rfl rfl (by decide) (by decide)) ?_
        refine rn ?_
        refine aops_e rfl (oe_call rfl rfl (fcall_row (FCall.of_fun (ref11First _ _ _ (by have := bd 2; omega)))) rfl ?_)
        rintro _ _ ⟨s', rfl, rfl⟩
        refine qq rfl rfl (qr_indexAddr_int rfl rfl (by decide) (by decide)) ?_
        refine rn ?_
        refine aw_rng4 h.mats[k].ts.length (fun j s0 s1 s2 s3 => ⟨[(134, iv j), (1, .v (.pointer (some ⟨b1, 0, none⟩))), (2, .v (.pointer (some ⟨b2, 0, none⟩))), (3, .v (.pointer (some ⟨b3, 0, none⟩))), (113, matsA h.mats), (114, iv (h.mats.map matR).length), (115, iv k), (132, intsA h.mats[k].ts), (133, iv (h.mats[k].ts.map intR).length)], [.box b13 87 (matR h.mats[k]), .row s0.v 1 3 ((((h.mats[k].ts.take j).foldl addT (stepF (stepF (spM h k) (3, h.mats[k].p)) (2, h.mats[k].o))) 0).map intR), .row s1.v 1 3 ((((h.mats[k].ts.take j).foldl addT (stepF (stepF (spM h k) (3, h.mats[k].p)) (2, h.mats[k].o))) 1).map intR), .row s2.v 1 3 ((((h.mats[k].ts.take j).foldl addT (stepF (stepF (spM h k) (3, h.mats[k].p)) (2, h.mats[k].o))) 2).map intR), .row s3.v 1 3 ((((h.mats[k].ts.take j).foldl addT (stepF (stepF (spM h k) (3, h.mats[k].p)) (2, h.mats[k].o))) 3).map intR), .box b3 110 [.v s0.v, .v s1.v, .v s2.v, .v s3.v], .box b2 110 [.v (.slice none 0 0), .v (.slice none 0 0), .v (.slice none 0 0), .v (.slice none 0 0)], .box b1 28 (histC h)], []⟩) _ _ _ _ (es) ?_
        intro j s0 s1 s2 s3 lj
        refine rn ?_
        refine aw_cond rfl (fun hc135 => ?_) (fun hc135 => ?_)
        · have hj := ltMap hc135
          have rj := atRow (f := intR) hj
          have bj := Bd.fold (c := 1) (l := h.mats[k].ts.take j) (fun s _ L n h => h.t s) ((bd.f (3, h.mats[k].p)).f (2, h.mats[k].o))
          have bl : (h.mats[k].ts.take j).length ≤ 3000 := by rw [List.length_take]; omega
          refine rn ?_
          refine qq rfl rfl (qr_indexAddr_int rfl rfl (by decide) (by decide)) ?_
          refine rn ?_
          refine aops_e rfl (oe_call rfl rfl (fcall_row (FCall.of_fun (ref11First _ _ _ (by have := bj 0; omega)))) rfl ?_)
          rintro _ _ ⟨s', rfl, rfl⟩
          refine qq rfl rfl (qr_indexAddr_int rfl rfl (by decide) (by decide)) ?_
          refine rn ?_
          have e : (h.mats[k].ts.take (j + 1)).foldl addT (stepF (stepF (spM h k) (3, h.mats[k].p)) (2, h.mats[k].o)) = addT ((h.mats[k].ts.take j).foldl addT (stepF (stepF (spM h k) (3, h.mats[k].p)) (2, h.mats[k].o))) h.mats[k].ts[j] := foldTake _ _ hj
          exact ⟨hj, _, _, _, _, by simp only [e]; exact eA⟩
        · have qj := geMap hc135 lj
          refine rn ?_
          have e : spM h (k + 1) = (h.mats[k].ts.take j).foldl addT (stepF (stepF (spM h k) (3, h.mats[k].p)) (2, h.mats[k].o)) := by rw [spM, foldTake _ _ hk, stepM, foldEnd _ _ qj]; rfl
          exact ⟨hk, _, _, _, _, by simp only [e]; exact eA⟩
      · have qk := geMap hc116 lk
        refine rn ?_
        refine aw_rng4 h.wants.length (fun k s0 s1 s2 s3 => ⟨[(148, iv k), (2, .v (.pointer (some ⟨b2, 0, none⟩))), (3, .v (.pointer (some ⟨b3, 0, none⟩))), (146, wansA h.wants), (147, iv (h.wants.map wanR).length)], [.row s0.v 1 3 (((spW h k) 0).map intR), .row s1.v 1 3 (((spW h k) 1).map intR), .row s2.v 1 3 (((spW h k) 2).map intR), .row s3.v 1 3 (((spW h k) 3).map intR), .box b3 110 [.v s0.v, .v s1.v, .v s2.v, .v s3.v], .box b2 110 [.v (.slice none 0 0), .v (.slice none 0 0), .v (.slice none 0 0), .v (.slice none 0 0)], .box b1 28 (histC h)], []⟩) _ _ _ _ (by rw [show spW h 0 = spM h k from (foldEnd stepM _ qk).symm]; exact es) ?_
        intro k s0 s1 s2 s3 lk
        refine rn ?_
        refine aw_cond rfl (fun hc149 => ?_) (fun hc149 => ?_)
        · have hk := ltMap hc149
          have rk := atRow (f := wanR) hk
          have bd := bdW la k lk
          have le := la.wants
          refine rn ?_
          refine aops_e rfl (oe_alloc rfl fun b17 => ?_)
          refine rn ?_
          refine qq rfl rfl (qr_indexAddr_int rfl rfl (by decide) (by decide)) ?_
          refine rn ?_
          refine aops_e rfl (oe_call rfl rfl (fcall_row (FCall.of_fun (ref11First _ _ _ (by have := bd 1; omega)))) rfl ?_)
          rintro _ _ ⟨s', rfl, rfl⟩
          refine qq rfl rfl (qr_indexAddr_int rfl rfl (by decide) (by decide)) ?_
          refine rn ?_
          have e : spW h (k + 1) = stepW (spW h k) h.wants[k] := foldTake _ _ hk
          exact ⟨hk, _, _, _, _, by simp only [e]; exact eA⟩
        · have qk := geMap hc149 lk
          refine rn ?_
          exact retq (.cons _ _ _ _ (.agg _ _ _ _ _ _ _ rfl inferInstance inferInstance inferInstance rfl) .nil) (.trans (vent_freeze_cell [] _) (.trans (vent_freeze_cell [_] _) (.trans (vent_freeze_cell [_, _] _) (.trans (vent_freeze_cell [_, _, _] _) (.drop [_, _, _] _ _))))) ⟨rfl, by rw [← show spW h k = spokenF h from foldEnd _ _ qk]; rfl⟩
end Go.Proofs
/- The walk of the reference's Right. Conditions: none. -/
set_option linter.unusedVariables false
set_option linter.unusedSimpArgs false
set_option maxRecDepth 10000
namespace Go.Proofs
open Go Go.Ab
attribute [local irreducible] QR QV OE aops aw dsoup dsoupM dalloc dallocM thn inBlk
open Go.H
theorem refRight (h : Hist) (la : Lim 4611686018427387904 h) : ACall Tryz.prog 18 [.agg (histC h)] [] (fun r h' => h' = [] ∧ r = bv (rightB h)) := by
  refine acall_of_aw Tryz.func18 rfl rfl rfl ?_
  refine rn ?_
  refine aops_e rfl (oe_box rfl rfl rfl fun b1 => ?_)
  refine rn ?_
  refine qv rfl rfl (qv_call rfl rfl (pcall (refShaped h la) (Sbs.refl _))) ?_
  refine rn ?_
  refine aw_cond rfl (fun hc10 => ?_) (fun hc10 => ?_)
  · refine rn ?_
    refine rq 1 ?_
    exact ⟨rfl, congrArg bv (by rw [right_s (by simpa using hc10)])⟩
  · have hs : shapedB h = true := by simpa using hc10
    have la3 := shaped_lim hs
    refine rn ?_
    refine qv rfl rfl (qv_call rfl rfl (pcall (refSpoken h la3) (Sbs.refl _))) ?_
    refine rn ?_
    refine aw_rng (4) (fun k : Nat => ∀ j, j < k → okS h j = true) (fun k => [(13, iv k)]) [(1, _), (12, _)] (fun j hj => by omega) ?_
    intro k lk zk
    refine rn ?_
    refine aw_cond rfl (fun hc14 => ?_) (fun hc14 => ?_)
    · have hk : k < 4 := by simp at hc14; omega
      have r0 := sp_at h hk
      have r1 := many_at h hk
      have bl := spoken_len la3 k
      refine rn ?_
      refine aw_cond rfl (fun hc35 => ?_) (fun hc35 => ?_)
      · refine rn ?_
        refine rq 1 ?_
        exact ⟨rfl, congrArg bv (by rw [right_f hk]; rw [okS, beq_eq_false_iff_ne.2 (by simp at hc35; omega), Bool.false_and])⟩
      · have hlen : (spokenF h k).length = (nmK h k).length := by simp at hc35; omega
        refine rn ?_
        refine aw_rng ((spokenF h k).length) (fun i : Nat => uptoF 0 (spokenF h k) = uptoF i ((spokenF h k).drop i)) (fun i => [(38, iv i)]) [(1, _), (12, _), (13, _), (36, _), (37, _)] rfl ?_
        intro i li zi
        refine rn ?_
        refine aw_cond rfl (fun hc39 => ?_) (fun hc39 => ?_)
        · have hi := ltMap hc39
          have ri := atRow (f := intR) hi
          refine rn ?_
          refine aw_cond rfl (fun hc45 => ?_) (fun hc45 => ?_)
          · refine rn ?_
            refine rq 1 ?_
            exact ⟨rfl, congrArg bv (by rw [right_f hk]; rw [okS, upto_f hi zi (by simp at hc45; omega), Bool.and_false])⟩
          · refine rn ?_
            exact ⟨hi, upto_step hi zi (by simp at hc45; omega), eA⟩
        · have qi := geMap hc39 li
          refine rn ?_
          exact ⟨hk, fun j hj => (Nat.lt_or_ge j k).elim (zk j) (fun q => by
            obtain rfl : j = k := by omega
            rw [okS, hlen, upto_e qi zi]; simp), eA⟩
    · have qk : k = 4 := by simp at hc14; omega
      subst qk
      refine rn ?_
      refine rq 1 ?_
      exact ⟨rfl, congrArg bv (by rw [right_t hs zk])⟩
theorem refRightM (h : Hist) (la : Lim 4611686018427387904 h) : ACall Tryz.prog 18 [.agg (histC h)] [] (fun r h' => h' = [] ∧ r = bv (mayB h)) :=
  (refRight h la).mono fun _ _ q => ⟨q.1, by rw [q.2, rightB_eq]⟩
end Go.Proofs
/- The walks of the reference's Check, Final, Sees, Sights. Conditions: none. -/
set_option linter.unusedVariables false
set_option linter.unusedSimpArgs false
set_option maxRecDepth 10000
namespace Go.Proofs
open Go Go.Ab
attribute [local irreducible] QR QV OE aops aw dsoup dsoupM dalloc dallocM thn inBlk jsoup jch lsoup
open Go.H
theorem isI_eq (a b : Int) : (decide (a ≥ 0) && decide (a < b)) = decide (0 ≤ a ∧ a < b) := by
  rw [Bool.eq_iff_iff]; simp only [Bool.and_eq_true, decide_eq_true_eq, ge_iff_le]
theorem all_snoc {α : Type} {l : List α} {q : α → Bool} {k : Nat} (hk : k < l.length) : (l.take (k + 1)).all q = ((l.take k).all q && q l[k]) := by
  rw [List.take_succ_eq_append_getElem hk, List.all_append, List.all_cons, List.all_nil, Bool.and_true]
theorem refSound (h : Hist) (la : Lim 4611686018427387904 h) : ACall Tryz.prog 84 [.agg (histC h)] [] (fun r h' => h' = [] ∧ r = bv (soundB h)) := by
  refine acall_of_aw Tryz.func84 rfl rfl rfl ?_
  refine rn ?_
  refine aops_e rfl (oe_box rfl rfl rfl fun b1 => ?_)
  refine rn ?_
  refine qv rfl rfl (qv_call rfl rfl (pcall (refRightM h la) (Sbs.refl _))) ?_
  refine rn ?_
  refine aw_cond rfl (fun hc7 => ?_) (fun hc7 => ?_)
  · have hm : mayB h = false := by simpa using hc7
    refine rn ?_
    refine rq 1 ?_
    exact ⟨rfl, congrArg bv (by rw [soundB, hm]; rfl)⟩
  · have hm : mayB h = true := by simpa using hc7
    refine rn ?_
    refine qv rfl rfl (qv_call rfl rfl (pcall (refFirst15 h ((may3000 hm).mono (by decide))) (Sbs.refl _))) ?_
    obtain ⟨bi, bj, be⟩ := brk_two (firstIn (placeR h) rules10)
    rw [be]
    refine rn ?_
    refine aops_e rfl (oe_alloc rfl fun b3 => ?_)
    refine rn ?_
    refine rq 2 ?_
    exact ⟨rfl, congrArg bv (by rw [soundB, hm, show firstH h = firstIn (placeR h) rules10 from first_eq hm]; cases firstIn (placeR h) rules10 <;> rfl)⟩
end Go.Proofs
/- The walk of the index's Begun. Conditions: none. -/
set_option linter.unusedVariables false
set_option linter.unusedSimpArgs false
set_option maxRecDepth 10000
namespace Go.Proofs
open Go Go.Ab
attribute [local irreducible] QR QV OE aops aw dsoup dsoupM dalloc dallocM thn inBlk jsoup jch lsoup
open Go.H
end Go.Proofs
/- The walks of the reference's Committed, Begun, Line, Installed, Next, Rank. Conditions: none. -/
set_option linter.unusedVariables false
set_option linter.unusedSimpArgs false
set_option maxRecDepth 10000
namespace Go.Proofs
open Go Go.Ab
attribute [local irreducible] QR QV OE aops aw dsoup dsoupM dalloc dallocM thn inBlk jsoup jch lsoup
open Go.H
theorem insR_hit {h : Hist} {x : Int} {k : Nat} (hk : k < h.ords.length) (hx : (h.ords[k].o == x) = true) (hz : ((h.ords.take k).all fun o : Ord => !(o.o == x)) = true) : insR h x = h.ords[k].ts := by
  have : h.ords.find? (fun o => o.o == x) = some h.ords[k] := by
    rw [List.find?_eq_some_iff_getElem]
    exact ⟨hx, k, hk, rfl, fun j hj => by have := List.all_eq_true.1 hz h.ords[j] (mem_take_lt (by omega) hj); exact this⟩
  rw [insR, this]
theorem insR_no {h : Hist} {x : Int} (hz : (h.ords.all fun o : Ord => !(o.o == x)) = true) : insR h x = writersR h x := by
  have : h.ords.find? (fun o => o.o == x) = none := by
    rw [List.find?_eq_none]; intro s hs q
    have := List.all_eq_true.1 hz s hs
    rw [q] at this; cases this
  rw [insR, this]
theorem insR_le {h : Hist} {N : Nat} (la : Lim N h) (x : Int) : (insR h x).length ≤ N := by
  unfold insR
  split
  · rename_i o ho; exact la.ordts o (List.mem_of_find?_eq_some ho)
  · exact Nat.le_trans (writersR_le _ _) la.ts
theorem refInst16 (h : Hist) (la : Lim 1000000 h) (x : Int) : ACall Tryz.prog 44 [.agg (histC h), iv x] [] (fun r h' => h' = [] ∧ r = intsA (insR h x)) := by
  refine acall_of_aw Tryz.func44 rfl rfl rfl ?_
  have bo := la.ords
  refine rn ?_
  refine aops_e rfl (oe_box rfl rfl rfl fun b2 => ?_)
  refine rn ?_
  refine aw_rng (h.ords.length) (fun k : Nat => ((h.ords.take k).all fun o : Ord => !(o.o == x)) = true) (fun k => [(10, iv k)]) [(1, _), (2, _), (8, _), (9, _)] rfl ?_
  intro k lk zk
  refine rn ?_
  refine aw_cond rfl (fun hc11 => ?_) (fun hc11 => ?_)
  · have hk := ltMap hc11
    have rk := atRow (f := ordR) hk
    refine rn ?_
    refine aops_e rfl (oe_alloc rfl fun b6 => ?_)
    refine rn ?_
    refine aw_cond rfl (fun hc17 => ?_) (fun hc17 => ?_)
    · refine rn ?_
      refine rq 2 ?_
      exact ⟨rfl, by rw [insR_hit hk hc17 zk]; rfl⟩
    · refine rn ?_
      exact ⟨hk, by rw [all_snoc hk, zk, hc17]; rfl, eA⟩
  · have qk := geMap hc11 lk
    rw [qk, List.take_length] at zk
    refine rn ?_
    refine qv rfl rfl (qv_call rfl rfl (pcall (refWriters h x la) (Sbs.refl _))) ?_
    refine rn ?_
    refine rq 1 ?_
    exact ⟨rfl, by rw [insR_no zk]; rfl⟩
end Go.Proofs
/- The walks of the reference 17. Conditions: none. -/
set_option linter.unusedVariables false
set_option linter.unusedSimpArgs false
set_option maxRecDepth 10000
namespace Go.Proofs
open Go Go.Ab
attribute [local irreducible] QR QV OE aops aw dsoup dsoupM dalloc dallocM thn inBlk jsoup jch lsoup
open Go.H
theorem at_ge0 (n : Int) (l : List Int) : decide (atI n 0 l ≥ 0) = l.contains n := by
  have := at_lt0 n l
  cases hc : l.contains n with
  | true => rw [hc] at this; have := of_decide_eq_false this; exact decide_eq_true (by omega)
  | false => rw [hc] at this; have := of_decide_eq_true this; exact decide_eq_false (by omega)
theorem mq_f1 {p x : Int} {m : Mat} (h : (m.p != p) = true) : matQ p x m = false := by
  have : (m.p == p) = false := by simpa using h
  rw [matQ, this]; rfl
theorem mq_f2 {p x : Int} {m : Mat} (h : (m.o != x) = true) : matQ p x m = false := by
  have : (m.o == x) = false := by simpa using h
  rw [matQ, this, Bool.and_false]
theorem mq_t {p x : Int} {m : Mat} (h1 : (m.p != p) = false) (h2 : (m.o != x) = false) : matQ p x m = true := by
  rw [matQ, Bool.and_eq_true]; exact ⟨by simpa using h1, by simpa using h2⟩
theorem mf_hit {h : Hist} {p x : Int} {k : Nat} (hk : k < h.mats.length) (hq : matQ p x h.mats[k] = true) (hz : ((h.mats.take k).all fun m => !matQ p x m) = true) : matF h p x = some h.mats[k] := by
  rw [matF, List.find?_eq_some_iff_getElem]
  exact ⟨hq, k, hk, rfl, fun j hj => by have := List.all_eq_true.1 hz h.mats[j] (mem_take_lt (by omega) hj); exact this⟩
theorem mf_no {h : Hist} {p x : Int} (hz : (h.mats.all fun m => !matQ p x m) = true) : matF h p x = none := by
  rw [matF, List.find?_eq_none]; intro s hs q
  have := List.all_eq_true.1 hz s hs
  rw [q] at this; cases this
theorem chR_y {f : Nat → Bool} {k : Nat} (h : (f (k + 1) != f k) = true) : chR f (k + 1) = chR f k ++ [((k + 1 : Nat) : Int)] := by rw [chR, if_pos (by simpa using h)]
theorem chR_n {f : Nat → Bool} {k : Nat} (h : (f (k + 1) != f k) = false) : chR f (k + 1) = chR f k := by rw [chR, if_neg (by simpa using h)]; simp
theorem refMatches17 (h : Hist) (la : Lim 1000000 h) (p x n : Int) (h0 : 0 ≤ n) (h1 : n ≤ (insR h x).length) : ACall Tryz.prog 58 [.agg (histC h), iv p, iv x, iv n] [] (fun r h' => h' = [] ∧ r = bv (mtcR h p x n)) := by
  refine acall_of_aw Tryz.func58 rfl rfl rfl ?_
  have lm := la.mats
  have lI := insR_le la x
  refine rn ?_
  refine aops_e rfl (oe_box rfl rfl rfl fun b4 => ?_)
  refine rn ?_
  refine aw_rng (h.mats.length) (fun k : Nat => ((h.mats.take k).all fun m => !matQ p x m) = true) (fun k => [(14, iv k)]) [(1, _), (2, _), (3, _), (4, _), (12, _), (13, _)] rfl ?_
  intro k lk zk
  refine rn ?_
  refine aw_cond rfl (fun hc15 => ?_) (fun hc15 => ?_)
  · have hk := ltMap hc15
    have rk := atRow (f := matR) hk
    have lT := la.matts h.mats[k] (List.getElem_mem hk)
    refine rn ?_
    refine aops_e rfl (oe_alloc rfl fun b10 => ?_)
    refine rn ?_
    refine asplit (fun hg4_4 => ?_) (fun hg4_4 => ?_)
    · refine rn ?_
      refine aw_ct rfl ?_
      have hq : matQ p x h.mats[k] = false := by first | exact mq_f1 hg4_4 | exact mq_f2 hc27
      refine rn ?_
      exact ⟨hk, by rw [all_snoc hk, zk, hq]; rfl, eA⟩
    · refine rn ?_
      refine aw_cond rfl (fun hc27 => ?_) (fun hc27 => ?_)
      · have hq : matQ p x h.mats[k] = false := by first | exact mq_f1 hg4_4 | exact mq_f2 hc27
        refine rn ?_
        exact ⟨hk, by rw [all_snoc hk, zk, hq]; rfl, eA⟩
      · have hq : matQ p x h.mats[k] = true := mq_t hg4_4 hc27
        have hf := mf_hit hk hq zk
        refine rn ?_
        refine aw_cond rfl (fun hc29 => ?_) (fun hc29 => ?_)
        · have hn : n = 0 := eq_of_beq hc29
          refine rn ?_
          refine rq 2 ?_
          exact ⟨rfl, congrArg bv (by rw [mtcR, hf, mtM, if_pos hn])⟩
        · have hn : n ≠ 0 := beq_eq_false_iff_ne.1 hc29
          obtain ⟨a, ha, ea⟩ : ∃ a : Nat, a < (insR h x).length ∧ n = (a : Int) + 1 := ⟨(n - 1).toNat, by omega, by omega⟩
          subst ea
          have ra := atRow (f := intR) ha
          refine rn ?_
          refine aw_draw 9 rfl ?_
          refine rn ?_
          refine dv rfl rfl (by exact qv_call rfl rfl (pcall (refInst16 h la x) (Sbs.refl _))) ?_
          refine dq rfl rfl qrA ?_
          refine dq rfl rfl (qr_as (qr_ari rfl rfl rfl (by omega)) (show iv ((a : Int) + 1 - 1) = iv (a : Int) by rw [Int.add_sub_cancel])) ?_
          refine rn ?_
          refine qv rfl rfl (qv_call rfl rfl (pcall (refAt h.mats[k].ts (insR h x)[a] (Nat.le_trans lT (by decide))) (Sbs.refl _))) ?_
          refine rn ?_
          refine rq 2 ?_
          exact ⟨rfl, congrArg bv (by rw [at_ge0, mtcR, hf, mtM, if_neg (by omega), Int.add_sub_cancel, Int.toNat_natCast, List.getElem?_eq_getElem ha]; rfl)⟩
  · have qk := geMap hc15 lk
    rw [qk, List.take_length] at zk
    refine rn ?_
    refine rq 1 ?_
    exact ⟨rfl, congrArg bv (by rw [mtcR, mf_no zk]; rfl)⟩
theorem refChanges17 (h : Hist) (la : Lim 1000000 h) (p x : Int) : ACall Tryz.prog 57 [.agg (histC h), iv p, iv x] [] (fun r h' => h' = [] ∧ r = intsA (chR (fun k : Nat => mtcR h p x (k : Int)) (insR h x).length)) := by
  refine acall_of_aw Tryz.func57 rfl rfl rfl ?_
  have lI := insR_le la x
  refine rn ?_
  refine aops_e rfl (oe_box rfl rfl rfl fun b3 => ?_)
  refine rn ?_
  refine aw_rng1 (insR h x).length (fun k s => ⟨[(8, iv ((k : Int) + 1)), (7, .v s.v), (1, iv p), (2, iv x), (3, .v (.pointer (some ⟨b3, 0, none⟩)))], .row s.v 1 3 ((chR (fun k : Nat => mtcR h p x (k : Int)) k).map intR) :: .box b3 28 (histC h) :: [], []⟩) ⟨none, 0, 0⟩ (ent_trans (ent_nilrow 1 3) es) ?_
  intro k s lk
  refine rn ?_
  refine qv rfl rfl (qv_call rfl rfl (pcall (refInst16 h la x) (Sbs.refl _))) ?_
  refine rn ?_
  refine aw_cond rfl (fun hc14 => ?_) (fun hc14 => ?_)
  · have hk : k < (insR h x).length := by have q := of_decide_eq_true hc14; rw [List.length_map] at q; omega
    have hcs : ((k + 1 : Nat) : Int) = (k : Int) + 1 := by omega
    refine rn ?_
    refine aw_draw 10 rfl ?_
    refine rn ?_
    refine dv rfl rfl (by exact qv_call rfl rfl (pcall (refMatches17 h la p x ((k : Int) + 1) (by omega) (by omega)) (Sbs.refl _))) ?_
    refine dq rfl rfl qrA ?_
    refine dq rfl rfl qrA ?_
    refine dq rfl rfl qrA ?_
    refine dq rfl rfl qrA ?_
    refine dq rfl rfl (qr_as (qr_ari rfl rfl rfl (by omega)) (show iv ((k : Int) + 1 - 1) = iv (k : Int) by rw [Int.add_sub_cancel])) ?_
    refine rn ?_
    refine qv rfl rfl (qv_call rfl rfl (pcall (refMatches17 h la p x (k : Int) (by omega) (by omega)) (Sbs.refl _))) ?_
    refine qq rfl rfl (qr_nebool rfl rfl) ?_
    refine rn ?_
    refine aw_cond rfl (fun hc28 => ?_) (fun hc28 => ?_)
    · refine rn ?_
      refine qv rfl rfl (qv_buildSlice rfl rfl) ?_
      refine aops_e rfl (oe_append_row rfl rfl (by simp only [List.length_map, List.length_cons, List.length_nil]; have := chR_len (fun k : Nat => mtcR h p x (k : Int)) k; omega) rfl (fun s32 => ?_) (one_int [(k : Int) + 1]))
      refine aops_slice s32 fun sv hsv => ?_
      subst hsv
      refine q1 ?_
      refine aops_nil ?_
      refine inBlk_n ?_
      refine thn_n ?_
      refine aw_region ?_
      refine q1 ?_
      refine qq rfl rfl (qr_ari rfl rfl rfl (by omega)) ?_
      refine rn ?_
      first | exact ⟨hk, sv, by rw [chR_y (f := fun k : Nat => mtcR h p x (k : Int)) (by rw [hcs]; exact hc28), List.map_append, hcs]; exact eA⟩ | exact ⟨hk, s, by rw [chR_n (f := fun k : Nat => mtcR h p x (k : Int)) (by rw [hcs]; exact hc28), hcs]; exact eA⟩
    · refine aw_skip ?_
      refine inBlk_n ?_
      refine thn_n ?_
      refine aw_region ?_
      refine q1 ?_
      refine qq rfl rfl (qr_ari rfl rfl rfl (by omega)) ?_
      refine rn ?_
      first | exact ⟨hk, sv, by rw [chR_y (f := fun k : Nat => mtcR h p x (k : Int)) (by rw [hcs]; exact hc28), List.map_append, hcs]; exact eA⟩ | exact ⟨hk, s, by rw [chR_n (f := fun k : Nat => mtcR h p x (k : Int)) (by rw [hcs]; exact hc28), hcs]; exact eA⟩
  · have qk : k = (insR h x).length := by have q := of_decide_eq_false hc14; rw [List.length_map] at q; omega
    refine rn ?_
    exact retq (.cons _ _ _ _ (.tmp _ _ rfl) .nil) (.trans vent_freeze (.drop [_] _ _)) ⟨rfl, by rw [qk]; rfl⟩
theorem refuses17 (h : Hist) (la : Lim 4611686018427387904 h) : ACall Tryz.prog 53 [.agg (histC h)] [] (fun r h' => h' = [] ∧ r = iv (checkI h)) := by
  refine acall_of_aw Tryz.func53 rfl rfl rfl ?_
  refine rn ?_
  refine aops_e rfl (oe_box rfl rfl rfl fun b1 => ?_)
  refine rn ?_
  refine qv rfl rfl (qv_call rfl rfl (pcall (refRightM h la) (Sbs.refl _))) ?_
  refine rn ?_
  refine aw_cond rfl (fun hc3 => ?_) (fun hc3 => ?_)
  · have hm : mayB h = false := by simpa using hc3
    refine rn ?_
    refine rq 1 ?_
    exact ⟨rfl, by rw [checkI, hm]; rfl⟩
  · have hm : mayB h = true := by simpa using hc3
    refine rn ?_
    refine qv rfl rfl (qv_call rfl rfl (pcall (refSound h la) (Sbs.refl _))) ?_
    refine rn ?_
    refine aw_cond rfl (fun hc7 => ?_) (fun hc7 => ?_)
    · refine rn ?_
      refine rq 1 ?_
      exact ⟨rfl, by rw [checkI, hm, if_pos rfl, if_neg (by simpa using hc7)]; rfl⟩
    · refine rn ?_
      refine rq 1 ?_
      exact ⟨rfl, by rw [checkI, hm, if_pos rfl, if_pos (by simpa using hc7)]; rfl⟩
end Go.Proofs
/- The walks of match's is, find. Conditions: none. -/
set_option linter.unusedVariables false
set_option linter.unusedSimpArgs false
set_option maxRecDepth 10000
namespace Go.Proofs
open Go Go.Ab
attribute [local irreducible] QR QV OE aops aw dsoup dsoupM dalloc dallocM thn inBlk jsoup jch lsoup
open Go.H
theorem nz_t {a : Int} (h : (a != 0) = true) : a ≠ 0 := by simpa using h
theorem nz_f {a : Int} (h : (a != 0) = false) : a = 0 := by simpa using h
theorem nd_t {p : Prop} [Decidable p] (h : (!decide p) = true) : ¬ p := by simpa using h
theorem nd_f {p : Prop} [Decidable p] (h : (!decide p) = false) : p := by simpa using h
theorem fx_hit {l : List Mat} {q : Mat → Bool} (hc : decide (fidx q 0 l < 0) = false) : ∃ k, ∃ hk : k < l.length, fidx q 0 l = (k : Int) ∧ l.find? q = some l[k] := by
  have := fidx_find q l 0
  cases hf : l.find? q with
  | none => rw [hf] at this; simp only at this; rw [this] at hc; exact absurd hc (by decide)
  | some o =>
    rw [hf] at this
    obtain ⟨k, hk, e, eo, _⟩ := this
    exact ⟨k, hk, by rw [e, Nat.zero_add], by rw [eo]⟩
theorem fx_no {l : List Mat} {q : Mat → Bool} (hc : decide (fidx q 0 l < 0) = true) : l.find? q = none := by
  have := fidx_find q l 0
  cases hf : l.find? q with
  | none => rfl
  | some o =>
    rw [hf] at this
    obtain ⟨k, hk, e, eo, _⟩ := this
    rw [e] at hc
    have := of_decide_eq_true hc
    omega
theorem matD_len {h : Hist} {N : Nat} (la : Lim N h) (p x : Int) : (matD h p x).ts.length ≤ N := by
  rw [matD, matF]
  cases hf : h.mats.find? (matQ p x) with
  | none => exact Nat.zero_le _
  | some m => exact la.matts m (List.mem_of_find?_eq_some hf)
def tabL (h : Hist) (p o : Int) : List Bool := if tabE h p o = 0 then tabP h p o else []
theorem matIs (a b : Int) : ACall Tryz.prog 113 [iv a, iv b] [] (fun r h' => h' = [] ∧ r = bv (decide (0 ≤ a ∧ a < b))) := by
  refine acall_of_aw Tryz.func113 rfl rfl rfl ?_
  refine rn ?_
  refine asplit (fun hg1_2 => ?_) (fun hg1_2 => ?_)
  · refine rn ?_
    refine rq 0 ?_
    exact ⟨rfl, by rw [← isI_eq, hg1_2]; rfl⟩
  · refine rn ?_
    refine rq 0 ?_
    exact ⟨rfl, by rw [← isI_eq, hg1_2]; rfl⟩
theorem matT1 (m : Mat) (p x : Int) (b2 b3 : Nat) (G : List Res) : ACall Tryz.prog 160 [.agg (matR m), .v (.pointer (some ⟨b2, 0, none⟩)), .v (.pointer (some ⟨b3, 0, none⟩))] (.box b2 3 [iv p] :: .box b3 3 [iv x] :: G) (fun r h' => h' = (.box b2 3 [iv p] :: .box b3 3 [iv x] :: G) ∧ r = bv (matQ p x m)) := by
  refine acall_of_aw Tryz.func160 rfl rfl rfl ?_
  refine rn ?_
  refine aops_e rfl (oe_box rfl rfl rfl fun b3 => ?_)
  refine rn ?_
  refine asplit (fun hg1_4 => ?_) (fun hg1_4 => ?_)
  · refine rn ?_
    refine rq 1 ?_
    exact ⟨rfl, congrArg bv (by unfold matQ; first | rfl | (simp_all; done))⟩
  · refine rn ?_
    refine rq 1 ?_
    exact ⟨rfl, congrArg bv (by unfold matQ; first | rfl | (simp_all; done))⟩
theorem matFind (l : List Mat) (fv : AV) (q : Mat → Bool) (G : List Res) (hp : ∀ a ∈ l, FCall Tryz.prog fv [.agg (matR a)] G (fun r h' => h' = G ∧ r = bv (q a))) (hl : l.length ≤ 4611686018427387904) : ACall Tryz.prog 159 [matsA l, fv] G (fun r h' => h' = G ∧ r = .tup [.agg (matR ((l.find? q).getD mat0)), bv (l.find? q).isSome]) := by
  refine acall_of_aw Tryz.func159 rfl rfl rfl ?_
  refine rn ?_
  refine aops_e rfl (oe_alloc rfl fun b4 => ?_)
  refine rn ?_
  refine qv rfl rfl (qv_call rfl rfl (FCall.qt (h2 := [_]) (FCall.of_fun (indexFuncMat l _ q G hp hl)) (perm_swap [_] _))) ?_
  refine rn ?_
  refine aw_cond rfl (fun hc11 => ?_) (fun hc11 => ?_)
  · have hn := fx_no hc11
    refine aw_seq (aw_region ?_)
    refine qq rfl rfl (qr_weak (fun w O v hr => Sb.rel (Sb.aggs (bs := matR mat0) (by exact ⟨.refl _, .refl _, .refl _, .nil _ _, trivial⟩)) hr) (qr_load_all rfl rfl)) ?_
    refine rn ?_
    exact retq (.cons _ _ _ _ (.agg _ _ _ _ _ _ _ rfl inferInstance inferInstance inferInstance rfl) (.cons _ _ _ _ (.tmp _ _ rfl) .nil)) (.drop [_] _ _) ⟨rfl, by rw [hn]; rfl⟩
  · obtain ⟨k, hk, ek, hx⟩ := fx_hit hc11
    have rk := atRow (f := matR) hk
    rw [ek]
    refine rn ?_
    exact retq (.cons _ _ _ _ (.agg _ _ _ _ _ _ _ rfl inferInstance inferInstance inferInstance rfl) (.cons _ _ _ _ (.tmp _ _ rfl) .nil)) (.drop [_] _ _) ⟨rfl, by rw [hx]; rfl⟩
end Go.Proofs
/- The walks of match's table, Matches. Conditions: none. -/
set_option linter.unusedVariables false
set_option linter.unusedSimpArgs false
set_option maxRecDepth 10000
namespace Go.Proofs
open Go Go.Ab
attribute [local irreducible] QR QV OE aops aw dsoup dsoupM dalloc dallocM thn inBlk jsoup jch lsoup
open Go.H
theorem tb_e {h : Hist} {p x : Int} (he : insE h x ≠ 0) : tabE h p x = insE h x ∧ tabE h p x ≠ 0 := by
  have : tabE h p x = insE h x := by rw [tabE, if_neg he]
  exact ⟨this, by rw [this]; exact he⟩
theorem tb_n {h : Hist} {p x : Int} (hi : insE h x = 0) (hp : ¬ (0 ≤ p ∧ p < ((h.ps.map strR).length : Int))) : tabE h p x = 2 ∧ tabE h p x ≠ 0 := by
  rw [List.length_map] at hp
  have : tabE h p x = 2 := by rw [tabE, if_pos hi, if_neg hp]
  exact ⟨this, by rw [this]; decide⟩
theorem tb_y {h : Hist} {p x : Int} (hi : insE h x = 0) (hp : 0 ≤ p ∧ p < ((h.ps.map strR).length : Int)) : tabE h p x = 0 := by
  rw [List.length_map] at hp
  rw [tabE, if_pos hi, if_pos hp]
theorem tab_next {b : Bool} {l : List Int} {q : Int → Bool} {k : Nat} (hk : k < l.length) : (b :: (l.take (k + 1)).map q).map boolR = (b :: (l.take k).map q).map boolR ++ [[bv (q l[k])]] := by
  rw [List.take_succ_eq_append_getElem hk, List.map_append, ← List.cons_append, List.map_append]; rfl
set_option maxHeartbeats 4000000 in
theorem matTabR (h : Hist) (la : Lim 4611686018427387904 h) (p x : Int) : ACall Tryz.prog 112 [.agg (histC h), iv p, iv x] (.glob 1 112 limitsC :: .glob 2 234 firstC :: .glob 3 237 acceptC :: .glob 0 102 asksC :: []) (fun r h' => ∃ s : SV, h' = .row s.v 1 4 ((tabL h p x).map boolR) :: .glob 1 112 limitsC :: .glob 2 234 firstC :: .glob 3 237 acceptC :: .glob 0 102 asksC :: [] ∧ r = .tup [.v s.v, iv (tabE h p x)]) := by
  refine acall_of_aw Tryz.func112 rfl rfl rfl ?_
  refine rn ?_
  refine aops_e rfl (oe_box rfl rfl rfl fun b3 => ?_)
  refine aops_e rfl (oe_box rfl rfl rfl fun b4 => ?_)
  refine aops_e rfl (oe_box rfl rfl rfl fun b5 => ?_)
  refine rn ?_
  refine qv rfl rfl (qv_call rfl rfl (FCall.qt (FCall.of_fun (ixInst h la x)) ((pt3 _ _ _ _ _).trans (.cons _ ((pt3 _ _ _ _ _).trans (.cons _ ((pt3 _ _ _ _ _).trans (.cons _ (pt3 _ _ _ _ _))))))))) ?_
  refine rn ?_
  refine aw_cond rfl (fun hc21 => ?_) (fun hc21 => ?_)
  · have he := tb_e (p := p) (nz_t hc21)
    refine rn ?_
    exact retq (.cons _ _ _ _ (.tmp _ _ rfl) (.cons _ _ _ _ (.tmp _ _ rfl) .nil)) (.trans (.drop [_, _, _] _ _) (vent_nilrow 1 4 _)) ⟨⟨none, 0, 0⟩, by rw [tabL, if_neg (he.2)]; rfl, by rw [he.1]; rfl⟩
  · have hi : insE h x = 0 := nz_f hc21
    refine rn ?_
    refine qv rfl rfl (qv_call rfl rfl (pcall (matIs p (h.ps.map strR).length) (Sbs.refl _))) ?_
    refine rn ?_
    refine aw_cond rfl (fun hc25 => ?_) (fun hc25 => ?_)
    · have he := tb_n (p := p) hi (nd_t hc25)
      refine rn ?_
      exact retq (.cons _ _ _ _ (.tmp _ _ rfl) (.cons _ _ _ _ (.tmp _ _ rfl) .nil)) (.trans (.drop [_, _, _] _ _) (vent_nilrow 1 4 _)) ⟨⟨none, 0, 0⟩, by rw [tabL, if_neg (he.2)]; rfl, by rw [he.1]; rfl⟩
    · have he : tabE h p x = 0 := tb_y hi (nd_f hc25)
      have lA := chk_lim (tab_0.1 he).1
      have lM := matD_len la p x
      have lI : (insP h x).length ≤ 3000 := by rw [tab_ins he]; exact insR_le lA x
      refine rn ?_
      refine qv rfl rfl (qv_call rfl rfl (FCall.of_fun (matFind h.mats _ (matQ p x) _ (fun a _ => FCall.qt (FCall.of_acall (fs := []) (cs := [.v (.pointer (some ⟨b4, 0, none⟩)), .v (.pointer (some ⟨b5, 0, none⟩))]) (matT1 a p x b4 b5 (.box b3 28 (histC h) :: .glob 1 112 limitsC :: .glob 2 234 firstC :: .glob 3 237 acceptC :: .glob 0 102 asksC :: []))) (pt1 _ _ _)) la.mats))) ?_
      refine rn ?_
      refine aops_e rfl (oe_alloc rfl fun b10 => ?_)
      refine rn ?_
      refine aops_e rfl (oe_buildRow (rows := (((matD h p x).first :: ((insP h x).take 0).map (fun t => (matD h p x).ts.contains t)).map boolR)) rfl rfl rfl fun s41 => ?_)
      refine aops_slice s41 fun sv0 hsv0 => ?_
      subst hsv0
      refine rn ?_
      have hii : onE (askE h x h.os.length) (insP h x) = insP h x := by rw [show askE h x h.os.length = 0 from hi]; rfl
      rw [hii]
      refine rn ?_
      refine aw_rng1 (insP h x).length (fun k s => ⟨[(44, iv k), (12, .v s.v), (10, .v (.pointer (some ⟨b10, 0, none⟩))), (42, intsA (insP h x)), (43, iv ((insP h x).map intR).length)], .row s.v 1 4 (((matD h p x).first :: ((insP h x).take k).map (fun t => (matD h p x).ts.contains t)).map boolR) :: .box b10 87 (matR (matD h p x)) :: .box b5 3 [iv x] :: .box b4 3 [iv p] :: .box b3 28 (histC h) :: .glob 1 112 limitsC :: .glob 2 234 firstC :: .glob 3 237 acceptC :: .glob 0 102 asksC :: [], []⟩) sv0 es ?_
      intro k s lk
      refine rn ?_
      refine aw_cond rfl (fun hc45 => ?_) (fun hc45 => ?_)
      · have hk := ltMap hc45
        have rk := atRow (f := intR) hk
        refine rn ?_
        refine qv rfl rfl (qv_call rfl rfl (pcall (containsI (matD h p x).ts (insP h x)[k] lM) (Sbs.refl _))) ?_
        refine qv rfl rfl (qv_buildSlice rfl rfl) ?_
        refine aops_e rfl (oe_append_row rfl rfl (by simp only [List.length_map, List.length_cons, List.length_nil]; have := List.length_take_le k (insP h x); omega) rfl (fun s54 => ?_) (one_bool [(matD h p x).ts.contains (insP h x)[k]]))
        refine aops_slice s54 fun sv hsv => ?_
        subst hsv
        refine rn ?_
        exact ⟨hk, sv, by rw [tab_next hk]; exact eA⟩
      · have qk := geMap hc45 lk
        refine rn ?_
        exact retq (.cons _ _ _ _ (.tmp _ _ rfl) (.cons _ _ _ _ (.tmp _ _ rfl) .nil)) (.trans (.perm ((pt1 _ _ _).trans (.cons _ ((pt1 _ _ _).trans (.cons _ ((pt1 _ _ _).trans (.cons _ (pt1 _ _ _))))))) _) (.drop [_, _, _, _] _ _)) ⟨s, by rw [tabL, if_pos he, tabP, tabQ, qk, List.take_length], by rw [he]; rfl⟩
theorem matTab (h : Hist) (la : Lim 4611686018427387904 h) (p x : Int) : ACall Tryz.prog 112 [.agg (histC h), iv p, iv x] (.glob 1 112 limitsC :: .glob 2 234 firstC :: .glob 3 237 acceptC :: .glob 0 102 asksC :: []) (fun r h' => h' = .glob 1 112 limitsC :: .glob 2 234 firstC :: .glob 3 237 acceptC :: .glob 0 102 asksC :: [] ∧ r = .tup [boolsA (tabL h p x), iv (tabE h p x)]) :=
  (matTabR h la p x).ventR (by rintro _ _ ⟨s, rfl, rfl⟩; exact ⟨_, _, vent_freeze_tup [] [_], rfl, rfl⟩)
theorem matMatches (h : Hist) (la : Lim 4611686018427387904 h) (p x n : Int) : ACall Tryz.prog 54 [.agg (histC h), iv p, iv x, iv n] (.glob 1 112 limitsC :: .glob 2 234 firstC :: .glob 3 237 acceptC :: .glob 0 102 asksC :: []) (fun r h' => h' = .glob 1 112 limitsC :: .glob 2 234 firstC :: .glob 3 237 acceptC :: .glob 0 102 asksC :: [] ∧ r = .tup [bv (mtB h p x n), iv (mtE h p x n)]) := by
  refine acall_of_aw Tryz.func54 rfl rfl rfl ?_
  refine rn ?_
  refine aops_e rfl (oe_box rfl rfl rfl fun b4 => ?_)
  refine rn ?_
  refine qv rfl rfl (qv_call rfl rfl (FCall.qt (FCall.of_fun (matTab h la p x)) ((pt1 _ _ _).trans (.cons _ ((pt1 _ _ _).trans (.cons _ ((pt1 _ _ _).trans (.cons _ (pt1 _ _ _))))))))) ?_
  refine rn ?_
  refine aw_cond rfl (fun hc19 => ?_) (fun hc19 => ?_)
  · obtain ⟨q1, q2, _⟩ := mt_e (h := h) (p := p) (x := x) (r := n) (nz_t hc19)
    refine rn ?_
    refine rq 1 ?_
    exact ⟨rfl, by rw [q1, q2]; rfl⟩
  · have he : tabE h p x = 0 := nz_f hc19
    have hl : tabL h p x = tabP h p x := by rw [tabL, if_pos he]
    rw [hl]
    refine rn ?_
    refine qv rfl rfl (qv_call rfl rfl (pcall (matIs n ((tabP h p x).map boolR).length) (Sbs.refl _))) ?_
    refine rn ?_
    refine aw_cond rfl (fun hc23 => ?_) (fun hc23 => ?_)
    · obtain ⟨q1, q2⟩ := mt_r (r := n) he (by have q := nd_t hc23; rw [List.length_map] at q; exact q)
      refine rn ?_
      refine rq 1 ?_
      exact ⟨rfl, by rw [q1, q2]; rfl⟩
    · have q := nd_f hc23
      rw [List.length_map] at q
      obtain ⟨a, rfl⟩ := Int.eq_ofNat_of_zero_le q.1
      have ha : a < (tabP h p x).length := by omega
      obtain ⟨q1, q2⟩ := mt_y he ha
      have ra := atRow (f := boolR) ha
      refine rn ?_
      refine rq 1 ?_
      exact ⟨rfl, by rw [q1, q2]; rfl⟩
end Go.Proofs
/- Structs of numbers that are the same. Conditions: none. -/
set_option linter.unusedVariables false
namespace Go.Ab
open Go
section
variable {P : Program} {h : List Res} {f : Operand → Option AV} {dst : Option Tmp} {ty : TypeId} {pos : String} {after : Array Edge} {guard : Option (Nat × Bool)} {x y : Operand}
end
end Go.Ab
/- The walks of law 15's cut and few. Conditions: none. -/
set_option linter.unusedVariables false
set_option linter.unusedSimpArgs false
set_option maxRecDepth 10000
namespace Go.Proofs
open Go Go.Ab
attribute [local irreducible] QR QV OE aops aw dsoup dsoupM dalloc dallocM thn inBlk jsoup jch lsoup
open Go.H
theorem cut {full : Bool} (l : List ByteArray) (most : Nat) (hm : most ≤ 1000) : ACall Tryz.prog 67 [.list full 1 (l.map strR), iv most] [] (fun r h' => h' = [] ∧ r = strsA (cutL most l)) := by
  refine acall_of_aw Tryz.func67 rfl rfl rfl ?_
  refine aw_seq (aw_region ?_)
  refine q1 ?_
  refine aops_nil (thn_n ?_)
  refine aw_seq (aw_region ?_)
  refine q1 ?_
  refine q1 ?_
  refine q1 ?_
  refine q1 ?_
  refine qq rfl rfl (qr_minN (l.map strR).length most rfl rfl) ?_
  refine qq rfl rfl (qr_slice_hE (rows' := (l.take most).map strR) rfl rfl (by omega) (by rw [List.length_map]; exact take_min strR l most)) ?_
  refine aops_e rfl (oe_call rfl rfl (FCall.rowS (FCall.of_fun (cloneRowStr _ (by simp; omega) (one_str _)))) rfl ?_)
  rintro _ _ ⟨s, rfl, rfl⟩
  refine rn ?_
  refine aw_loop' (fun k : Nat => k ≤ (l.take most).length) (fun k => ⟨[(17, iv k), (16, iv ((l.take most).map strR).length), (15, .v s.v), (5, .v s.v)], [.row s.v 1 9 ((((l.take most).take k).map cutS).map strR ++ ((l.take most).drop k).map strR)], []⟩) (fun k => (l.take most).length - k) 0 (by omega)
    (by simp only [List.take_zero, List.map_nil, List.nil_append, List.drop_zero]; exact (ent_sub (.cons _ _ _ rfl (.cons _ _ _ rfl (.cons _ _ _ rfl (.cons _ _ _ rfl (.nil))))))) ?_
  intro k hk
  refine rn ?_
  refine aw_cond rfl (fun hc18 => ?_) (fun hc18 => ?_)
  · have hk2 : k < (l.take most).length := by simpa using hc18
    obtain ⟨b, hb⟩ : ∃ b, b = (l.take most)[k] := ⟨_, rfl⟩
    have hd := List.drop_eq_getElem_cons hk2
    rw [← hb] at hd
    have hL := List.length_take_le most l
    have hkl : (((l.take most).take k).map cutS).length = k := by rw [List.length_map, List.length_take]; omega
    have hrow := mid_get (f := strR) (g := strR) (xs := ((l.take most).take k).map cutS) (k := k) hkl hd
    have hk3 : k < ((((l.take most).take k).map cutS).map strR ++ ((l.take most).drop k).map strR).length := by rw [mid_len hkl hk]; exact hk2
    refine aw_skip ?_
    refine thn_n ?_
    refine aw_seq ?_
    refine aw_block ?_
    refine aw_seq (aw_region ?_)
    refine q1 ?_
    refine q1 ?_
    refine qq rfl rfl (qr_load_rp_one rfl hrow rfl) ?_
    refine q1 ?_
    refine q1 ?_
    refine aops_nil (thn_n ?_)
    refine aw_region ?_
    refine q1 ?_
    refine q1 ?_
    refine q1 ?_
    refine q1 ?_
    refine q1 ?_
    refine qq rfl rfl (qr_minN b.size 40 rfl rfl) ?_
    refine qq rfl rfl (qr_slice_string_h rfl rfl (by omega)) ?_
    refine rn ?_
    refine aops_e rfl (oe_store_rp rfl rfl rfl hrow rfl (Nat.le_of_ble_eq_true rfl) ?_)
    refine rn ?_
    have hset := mid_set (f := strR) (g := strR) (l := (l.take most)) (xs := ((l.take most).take k).map cutS) (a := cutS b) (r := (strR b).take 0 ++ [sv (cutS b)] ++ (strR b).drop (0 + 1)) hkl hd rfl
    have hx : ((l.take most).take k).map cutS ++ [cutS b] = ((l.take most).take (k + 1)).map cutS := by rw [List.take_succ_eq_append_getElem hk2, hb]; simp
    rw [hx] at hset
    exact ⟨k + 1, by omega, (by rw [← hset]; exact (ent_sub (.cons _ _ _ rfl (.cons _ _ _ rfl (.cons _ _ _ rfl (.cons _ _ _ rfl (.nil))))))), by omega⟩
  · obtain rfl : k = (l.take most).length := by
      have : ¬ k < (l.take most).length := by simpa using hc18
      omega
    rw [List.take_length, List.drop_length, List.map_nil, List.append_nil]
    refine rn ?_
    exact retq (.cons _ _ _ _ (.tmp _ _ rfl) .nil) vent_freeze ⟨rfl, rfl⟩
end Go.Proofs
/- The walk of law 15's wakes. Conditions: none. -/
set_option linter.unusedVariables false
set_option linter.unusedSimpArgs false
set_option maxRecDepth 10000
namespace Go.Proofs
open Go Go.Ab
attribute [local irreducible] QR QV OE aops aw dsoup dsoupM dalloc dallocM thn inBlk jsoup jch lsoup
open Go.H
end Go.Proofs
/- The walk of the reference's Same. Conditions: none. -/
set_option linter.unusedVariables false
set_option linter.unusedSimpArgs false
set_option maxRecDepth 10000
namespace Go.Proofs
open Go Go.Ab
attribute [local irreducible] QR QV OE aops aw dsoup dsoupM dalloc dallocM thn inBlk
open Go.H
theorem refNamesD {f g : Bool} (l m : List ByteArray) (hl : l.length ≤ 4611686018427387904) (hm : m.length ≤ 4611686018427387904) : ACall Tryz.prog 73 [.list f 1 (l.map strR), .list g 1 (m.map strR)] [] (fun r h' => h' = [] ∧ r = bv (decide (l = m))) :=
  (refNames l m hl hm).mono (fun r h' q => ⟨q.1, by rw [q.2, eqF_eq strEq_eq]⟩)
theorem refNumbersD {f g : Bool} (l m : List Int) (hl : l.length ≤ 4611686018427387904) (hm : m.length ≤ 4611686018427387904) : ACall Tryz.prog 75 [.list f 1 (l.map intR), .list g 1 (m.map intR)] [] (fun r h' => h' = [] ∧ r = bv (decide (l = m))) :=
  (refNumbers l m hl hm).mono (fun r h' q => ⟨q.1, by rw [q.2, eqF_eq intEq_eq]⟩)
theorem refEventD (a b : Ev) (ha : a.scan.length ≤ 4611686018427387904) (hb : b.scan.length ≤ 4611686018427387904) : ACall Tryz.prog 74 [.agg (evR a), .agg (evR b)] [] (fun r h' => h' = [] ∧ r = bv (decide (a = b))) :=
  (refEvent a b ha hb).mono (fun r h' q => ⟨q.1, by rw [q.2, evEq_eq]⟩)
theorem sameB_f {a b : Hist} (h : a ≠ b) : sameB a b = false := by
  cases q : sameB a b with
  | false => rfl
  | true => exact absurd ((sameB_iff a b).1 q) h
theorem sameB_t {a b : Hist} (h : a = b) : sameB a b = true := (sameB_iff a b).2 h
set_option maxHeartbeats 4000000 in
theorem refSame (a b : Hist) (la : Lim 4611686018427387904 a) (lb : Lim 4611686018427387904 b) : ACall Tryz.prog 20 [.agg (histC a), .agg (histC b)] [] (fun r h' => h' = [] ∧ r = bv (sameB a b)) := by
  refine acall_of_aw Tryz.func20 rfl rfl rfl ?_
  refine rn ?_
  refine aops_e rfl (oe_box rfl rfl rfl fun b2 => ?_)
  refine aops_e rfl (oe_box rfl rfl rfl fun b3 => ?_)
  refine rn ?_
  refine qv rfl rfl (qv_call rfl rfl (pcall (refNamesD a.ts b.ts la.ts lb.ts) (Sbs.refl _))) ?_
  refine rn ?_
  refine asplit (fun hg1_6 => ?_) (fun hg1_6 => ?_)
  · refine rn ?_
    refine aw_ct rfl ?_
    refine rn ?_
    exact retq (.cons _ _ _ _ (.tmp _ _ rfl) .nil) (.drop [_, _] _ _) ⟨rfl, congrArg bv (Eq.symm (sameB_f fun q => by subst q; simp_all))⟩
  · refine rn ?_
    refine qv rfl rfl (qv_call rfl rfl (pcall (refNamesD a.ss b.ss la.ss lb.ss) (Sbs.refl _))) ?_
    refine rn ?_
    refine asplit (fun hg1_14 => ?_) (fun hg1_14 => ?_)
    · refine rn ?_
      refine aw_ct rfl ?_
      refine rn ?_
      exact retq (.cons _ _ _ _ (.tmp _ _ rfl) .nil) (.drop [_, _] _ _) ⟨rfl, congrArg bv (Eq.symm (sameB_f fun q => by subst q; simp_all))⟩
    · refine rn ?_
      refine qv rfl rfl (qv_call rfl rfl (pcall (refNamesD a.os b.os la.os lb.os) (Sbs.refl _))) ?_
      refine rn ?_
      refine asplit (fun hg1_22 => ?_) (fun hg1_22 => ?_)
      · refine rn ?_
        refine aw_ct rfl ?_
        refine rn ?_
        exact retq (.cons _ _ _ _ (.tmp _ _ rfl) .nil) (.drop [_, _] _ _) ⟨rfl, congrArg bv (Eq.symm (sameB_f fun q => by subst q; simp_all))⟩
      · refine rn ?_
        refine qv rfl rfl (qv_call rfl rfl (pcall (refNamesD a.ps b.ps la.ps lb.ps) (Sbs.refl _))) ?_
        refine rn ?_
        refine asplit (fun hg1_30 => ?_) (fun hg1_30 => ?_)
        · refine rn ?_
          refine aw_ct rfl ?_
          refine rn ?_
          exact retq (.cons _ _ _ _ (.tmp _ _ rfl) .nil) (.drop [_, _] _ _) ⟨rfl, congrArg bv (Eq.symm (sameB_f fun q => by subst q; simp_all))⟩
        · refine rn ?_
          refine asplit (fun hg1_39 => ?_) (fun hg1_39 => ?_)
          · refine rn ?_
            refine aw_ct rfl ?_
            refine rn ?_
            exact retq (.cons _ _ _ _ (.tmp _ _ rfl) .nil) (.drop [_, _] _ _) ⟨rfl, congrArg bv (Eq.symm (sameB_f fun q => by subst q; simp_all))⟩
          · refine rn ?_
            refine asplit (fun hg1_48 => ?_) (fun hg1_48 => ?_)
            · refine rn ?_
              refine aw_ct rfl ?_
              refine rn ?_
              exact retq (.cons _ _ _ _ (.tmp _ _ rfl) .nil) (.drop [_, _] _ _) ⟨rfl, congrArg bv (Eq.symm (sameB_f fun q => by subst q; simp_all))⟩
            · refine rn ?_
              refine asplit (fun hg1_57 => ?_) (fun hg1_57 => ?_)
              · refine rn ?_
                refine aw_ct rfl ?_
                refine rn ?_
                exact retq (.cons _ _ _ _ (.tmp _ _ rfl) .nil) (.drop [_, _] _ _) ⟨rfl, congrArg bv (Eq.symm (sameB_f fun q => by subst q; simp_all))⟩
              · refine rn ?_
                refine aw_cond rfl (fun hc78 => ?_) (fun hc78 => ?_)
                · refine rn ?_
                  exact retq (.cons _ _ _ _ (.tmp _ _ rfl) .nil) (.drop [_, _] _ _) ⟨rfl, congrArg bv (Eq.symm (sameB_f fun q => by subst q; simp_all))⟩
                · have Ets : a.ts = b.ts := by simp_all
                  have Ess : a.ss = b.ss := by simp_all
                  have Eos : a.os = b.os := by simp_all
                  have Eps : a.ps = b.ps := by simp_all
                  have Levs : a.evs.length = b.evs.length := by simp at *; omega
                  have Lords : a.ords.length = b.ords.length := by simp at *; omega
                  have Lmats : a.mats.length = b.mats.length := by simp at *; omega
                  have Lwants : a.wants.length = b.wants.length := by simp at *; omega
                  refine rn ?_
                  refine aw_loop' (fun k : Nat => k ≤ a.evs.length ∧ a.evs.take k = b.evs.take k) (fun k => ⟨[(82, iv k), (81, iv (a.evs.map evR).length), (2, .v (.pointer (some ⟨b2, 0, none⟩))), (3, .v (.pointer (some ⟨b3, 0, none⟩)))], [.box b3 28 (histC b), .box b2 28 (histC a)], []⟩) (fun k => a.evs.length - k) 0 ⟨Nat.zero_le _, by simp⟩
                    (ent_sub (.cons _ _ _ rfl (.cons _ _ _ rfl (.cons _ _ _ rfl (.cons _ _ _ rfl (.nil)))))) ?_
                  rintro k ⟨hk, ht⟩
                  refine rn ?_
                  refine aw_cond rfl (fun hc83 => ?_) (fun hc83 => ?_)
                  · have hbig := la.evs
                    have hk2 : k < a.evs.length := by simpa using hc83
                    have hk3 : k < b.evs.length := by omega
                    obtain ⟨x, hx0⟩ : ∃ x, x = a.evs[k] := ⟨_, rfl⟩
                    obtain ⟨y, hy0⟩ : ∃ y, y = b.evs[k] := ⟨_, rfl⟩
                    have hrow1 : (a.evs.map evR)[k]? = some (evR x) := by rw [hx0]; simp [hk2]
                    have hrow2 : (b.evs.map evR)[k]? = some (evR y) := by rw [hy0]; simp [hk3]
                    refine rn ?_
                    refine aw_draw 10 rfl ?_
                    refine rn ?_
                    refine qv rfl rfl (qv_call rfl rfl (pcall (refEventD x y (la.scans _ (by rw [hx0]; exact List.getElem_mem _)) (lb.scans _ (by rw [hy0]; exact List.getElem_mem _))) (Sbs.refl _))) ?_
                    refine rn ?_
                    refine aw_cond rfl (fun hc96 => ?_) (fun hc96 => ?_)
                    · have hne : x ≠ y := by clear hx0 hy0 hrow1 hrow2 ht; intro q; subst q; simp_all
                      refine rn ?_
                      exact retq (.cons _ _ _ _ (.tmp _ _ rfl) .nil) (.drop [_, _] _ _) ⟨rfl, congrArg bv (Eq.symm (sameB_f fun q => by subst q; exact hne (hx0.trans hy0.symm)))⟩
                    · have hxy : x = y := by simpa using hc96
                      refine rn ?_
                      exact ⟨k + 1, ⟨by omega, by rw [List.take_succ_eq_append_getElem hk2, List.take_succ_eq_append_getElem hk3, ht, ← hx0, ← hy0, hxy]⟩, (ent_sub (.cons _ _ _ rfl (.cons _ _ _ rfl (.cons _ _ _ rfl (.cons _ _ _ rfl (.nil)))))), by omega⟩
                  · have hk2 : ¬ k < a.evs.length := by simpa using hc83
                    have Eevs : a.evs = b.evs := by
                      have hk3 : k = a.evs.length := by omega
                      rw [hk3, List.take_length] at ht
                      rw [ht, Levs, List.take_length]
                    clear ht hk
                    refine rn ?_
                    refine aw_loop' (fun k : Nat => k ≤ a.ords.length ∧ a.ords.take k = b.ords.take k) (fun k => ⟨[(101, iv k), (100, iv (a.ords.map ordR).length), (99, ordsA a.ords), (2, .v (.pointer (some ⟨b2, 0, none⟩))), (3, .v (.pointer (some ⟨b3, 0, none⟩)))], [.box b3 28 (histC b), .box b2 28 (histC a)], []⟩) (fun k => a.ords.length - k) 0 ⟨Nat.zero_le _, by simp⟩
                      (ent_sub (.cons _ _ _ rfl (.cons _ _ _ rfl (.cons _ _ _ rfl (.cons _ _ _ rfl (.cons _ _ _ rfl (.nil))))))) ?_
                    rintro k ⟨hk, ht⟩
                    refine rn ?_
                    refine aw_cond rfl (fun hc102 => ?_) (fun hc102 => ?_)
                    · have hbig := la.ords
                      have hk2 : k < a.ords.length := by simpa using hc102
                      have hk3 : k < b.ords.length := by omega
                      obtain ⟨x, hx0⟩ : ∃ x, x = a.ords[k] := ⟨_, rfl⟩
                      obtain ⟨y, hy0⟩ : ∃ y, y = b.ords[k] := ⟨_, rfl⟩
                      have hrow1 : (a.ords.map ordR)[k]? = some (ordR x) := by rw [hx0]; simp [hk2]
                      have hrow2 : (b.ords.map ordR)[k]? = some (ordR y) := by rw [hy0]; simp [hk3]
                      refine rn ?_
                      refine aops_e rfl (oe_alloc rfl fun b7 => ?_)
                      refine rn ?_
                      refine aops_e rfl (oe_alloc rfl fun b8 => ?_)
                      refine rn ?_
                      refine asplit (fun hg13_5 => ?_) (fun hg13_5 => ?_)
                      · refine rn ?_
                        refine aw_ct rfl ?_
                        have hne : x ≠ y := by clear hx0 hy0 hrow1 hrow2 ht; intro q; subst q; simp_all
                        refine rn ?_
                        exact retq (.cons _ _ _ _ (.tmp _ _ rfl) .nil) (.drop [_, _, _, _] _ _) ⟨rfl, congrArg bv (Eq.symm (sameB_f fun q => by subst q; exact hne (hx0.trans hy0.symm)))⟩
                      · refine rn ?_
                        refine qv rfl rfl (qv_call rfl rfl (pcall (refNumbersD x.ts y.ts (la.ordts _ (by rw [hx0]; exact List.getElem_mem _)) (lb.ordts _ (by rw [hy0]; exact List.getElem_mem _))) (Sbs.refl _))) ?_
                        refine rn ?_
                        refine aw_cond rfl (fun hc123 => ?_) (fun hc123 => ?_)
                        · have hne : x ≠ y := by clear hx0 hy0 hrow1 hrow2 ht; intro q; subst q; simp_all
                          refine rn ?_
                          exact retq (.cons _ _ _ _ (.tmp _ _ rfl) .nil) (.drop [_, _, _, _] _ _) ⟨rfl, congrArg bv (Eq.symm (sameB_f fun q => by subst q; exact hne (hx0.trans hy0.symm)))⟩
                        · have hxy : x = y := by clear hx0 hy0 hrow1 hrow2 ht; cases x; cases y; simp_all
                          refine rn ?_
                          exact ⟨k + 1, ⟨by omega, by rw [List.take_succ_eq_append_getElem hk2, List.take_succ_eq_append_getElem hk3, ht, ← hx0, ← hy0, hxy]⟩, (ent_trans (ent_drop (h1 := [_, _])) (ent_sub (.cons _ _ _ rfl (.cons _ _ _ rfl (.cons _ _ _ rfl (.cons _ _ _ rfl (.cons _ _ _ rfl (.nil)))))))), by omega⟩
                    · have hk2 : ¬ k < a.ords.length := by simpa using hc102
                      have Eords : a.ords = b.ords := by
                        have hk3 : k = a.ords.length := by omega
                        rw [hk3, List.take_length] at ht
                        rw [ht, Lords, List.take_length]
                      clear ht hk
                      refine rn ?_
                      refine aw_loop' (fun k : Nat => k ≤ a.mats.length ∧ a.mats.take k = b.mats.take k) (fun k => ⟨[(128, iv k), (127, iv (a.mats.map matR).length), (126, matsA a.mats), (2, .v (.pointer (some ⟨b2, 0, none⟩))), (3, .v (.pointer (some ⟨b3, 0, none⟩)))], [.box b3 28 (histC b), .box b2 28 (histC a)], []⟩) (fun k => a.mats.length - k) 0 ⟨Nat.zero_le _, by simp⟩
                        (ent_sub (.cons _ _ _ rfl (.cons _ _ _ rfl (.cons _ _ _ rfl (.cons _ _ _ rfl (.cons _ _ _ rfl (.nil))))))) ?_
                      rintro k ⟨hk, ht⟩
                      refine rn ?_
                      refine aw_cond rfl (fun hc129 => ?_) (fun hc129 => ?_)
                      · have hbig := la.mats
                        have hk2 : k < a.mats.length := by simpa using hc129
                        have hk3 : k < b.mats.length := by omega
                        obtain ⟨x, hx0⟩ : ∃ x, x = a.mats[k] := ⟨_, rfl⟩
                        obtain ⟨y, hy0⟩ : ∃ y, y = b.mats[k] := ⟨_, rfl⟩
                        have hrow1 : (a.mats.map matR)[k]? = some (matR x) := by rw [hx0]; simp [hk2]
                        have hrow2 : (b.mats.map matR)[k]? = some (matR y) := by rw [hy0]; simp [hk3]
                        refine rn ?_
                        refine aops_e rfl (oe_alloc rfl fun b10 => ?_)
                        refine rn ?_
                        refine aops_e rfl (oe_alloc rfl fun b11 => ?_)
                        refine rn ?_
                        refine asplit (fun hg20_5 => ?_) (fun hg20_5 => ?_)
                        · refine rn ?_
                          refine aw_ct rfl ?_
                          have hne : x ≠ y := by clear hx0 hy0 hrow1 hrow2 ht; intro q; subst q; simp_all
                          refine rn ?_
                          exact retq (.cons _ _ _ _ (.tmp _ _ rfl) .nil) (.drop [_, _, _, _] _ _) ⟨rfl, congrArg bv (Eq.symm (sameB_f fun q => by subst q; exact hne (hx0.trans hy0.symm)))⟩
                        · refine rn ?_
                          refine asplit (fun hg20_12 => ?_) (fun hg20_12 => ?_)
                          · refine rn ?_
                            refine aw_ct rfl ?_
                            have hne : x ≠ y := by clear hx0 hy0 hrow1 hrow2 ht; intro q; subst q; simp_all
                            refine rn ?_
                            exact retq (.cons _ _ _ _ (.tmp _ _ rfl) .nil) (.drop [_, _, _, _] _ _) ⟨rfl, congrArg bv (Eq.symm (sameB_f fun q => by subst q; exact hne (hx0.trans hy0.symm)))⟩
                          · refine rn ?_
                            refine asplit (fun hg20_19 => ?_) (fun hg20_19 => ?_)
                            · refine rn ?_
                              refine aw_ct rfl ?_
                              have hne : x ≠ y := by clear hx0 hy0 hrow1 hrow2 ht; intro q; subst q; simp_all
                              refine rn ?_
                              exact retq (.cons _ _ _ _ (.tmp _ _ rfl) .nil) (.drop [_, _, _, _] _ _) ⟨rfl, congrArg bv (Eq.symm (sameB_f fun q => by subst q; exact hne (hx0.trans hy0.symm)))⟩
                            · refine rn ?_
                              refine qv rfl rfl (qv_call rfl rfl (pcall (refNumbersD x.ts y.ts (la.matts _ (by rw [hx0]; exact List.getElem_mem _)) (lb.matts _ (by rw [hy0]; exact List.getElem_mem _))) (Sbs.refl _))) ?_
                              refine rn ?_
                              refine aw_cond rfl (fun hc164 => ?_) (fun hc164 => ?_)
                              · have hne : x ≠ y := by clear hx0 hy0 hrow1 hrow2 ht; intro q; subst q; simp_all
                                refine rn ?_
                                exact retq (.cons _ _ _ _ (.tmp _ _ rfl) .nil) (.drop [_, _, _, _] _ _) ⟨rfl, congrArg bv (Eq.symm (sameB_f fun q => by subst q; exact hne (hx0.trans hy0.symm)))⟩
                              · have hxy : x = y := by clear hx0 hy0 hrow1 hrow2 ht; cases x; cases y; simp_all
                                refine rn ?_
                                exact ⟨k + 1, ⟨by omega, by rw [List.take_succ_eq_append_getElem hk2, List.take_succ_eq_append_getElem hk3, ht, ← hx0, ← hy0, hxy]⟩, (ent_trans (ent_drop (h1 := [_, _])) (ent_sub (.cons _ _ _ rfl (.cons _ _ _ rfl (.cons _ _ _ rfl (.cons _ _ _ rfl (.cons _ _ _ rfl (.nil)))))))), by omega⟩
                      · have hk2 : ¬ k < a.mats.length := by simpa using hc129
                        have Emats : a.mats = b.mats := by
                          have hk3 : k = a.mats.length := by omega
                          rw [hk3, List.take_length] at ht
                          rw [ht, Lmats, List.take_length]
                        clear ht hk
                        refine rn ?_
                        refine aw_loop' (fun k : Nat => k ≤ a.wants.length ∧ a.wants.take k = b.wants.take k) (fun k => ⟨[(169, iv k), (168, iv (a.wants.map wanR).length), (2, .v (.pointer (some ⟨b2, 0, none⟩))), (3, .v (.pointer (some ⟨b3, 0, none⟩)))], [.box b3 28 (histC b), .box b2 28 (histC a)], []⟩) (fun k => a.wants.length - k) 0 ⟨Nat.zero_le _, by simp⟩
                          (ent_sub (.cons _ _ _ rfl (.cons _ _ _ rfl (.cons _ _ _ rfl (.cons _ _ _ rfl (.nil)))))) ?_
                        rintro k ⟨hk, ht⟩
                        refine rn ?_
                        refine aw_cond rfl (fun hc170 => ?_) (fun hc170 => ?_)
                        · have hbig := la.wants
                          have hk2 : k < a.wants.length := by simpa using hc170
                          have hk3 : k < b.wants.length := by omega
                          obtain ⟨x, hx0⟩ : ∃ x, x = a.wants[k] := ⟨_, rfl⟩
                          obtain ⟨y, hy0⟩ : ∃ y, y = b.wants[k] := ⟨_, rfl⟩
                          have hrow1 : (a.wants.map wanR)[k]? = some (wanR x) := by rw [hx0]; simp [hk2]
                          have hrow2 : (b.wants.map wanR)[k]? = some (wanR y) := by rw [hy0]; simp [hk3]
                          refine rn ?_
                          refine aw_draw 10 rfl ?_
                          refine rn ?_
                          refine aw_cond rfl (fun hc182 => ?_) (fun hc182 => ?_)
                          · have hne : x ≠ y := by clear hx0 hy0 hrow1 hrow2 ht; intro q; subst q; simp_all
                            refine rn ?_
                            exact retq (.cons _ _ _ _ (.tmp _ _ rfl) .nil) (.drop [_, _] _ _) ⟨rfl, congrArg bv (Eq.symm (sameB_f fun q => by subst q; exact hne (hx0.trans hy0.symm)))⟩
                          · have hxy : x = y := by clear hx0 hy0 hrow1 hrow2 ht; cases x; cases y; simp_all
                            refine rn ?_
                            exact ⟨k + 1, ⟨by omega, by rw [List.take_succ_eq_append_getElem hk2, List.take_succ_eq_append_getElem hk3, ht, ← hx0, ← hy0, hxy]⟩, (ent_sub (.cons _ _ _ rfl (.cons _ _ _ rfl (.cons _ _ _ rfl (.cons _ _ _ rfl (.nil)))))), by omega⟩
                        · have hk2 : ¬ k < a.wants.length := by simpa using hc170
                          have Ewants : a.wants = b.wants := by
                            have hk3 : k = a.wants.length := by omega
                            rw [hk3, List.take_length] at ht
                            rw [ht, Lwants, List.take_length]
                          clear ht hk
                          refine rn ?_
                          exact retq (.cons _ _ _ _ (.tmp _ _ rfl) .nil) (.drop [_, _] _ _) ⟨rfl, congrArg bv (Eq.symm (sameB_t (by cases a; cases b; simp_all)))⟩
end Go.Proofs
/- The walk of RulesFirst. Conditions: none. -/
set_option linter.unusedVariables false
set_option linter.unusedSimpArgs false
set_option maxRecDepth 10000
namespace Go.Proofs
open Go Go.Ab
attribute [local irreducible] QR QV OE aops aw dsoup dsoupM dalloc dallocM thn inBlk jsoup jch lsoup
open Go.H
end Go.Proofs
/- The walk of RulesPlaces. Conditions: none. -/
set_option linter.unusedVariables false
set_option linter.unusedSimpArgs false
set_option maxRecDepth 10000
namespace Go.Proofs
open Go Go.Ab
attribute [local irreducible] QR QV OE aops aw dsoup dsoupM dalloc dallocM thn inBlk jsoup jch lsoup
open Go.H
theorem qr_isB {P : Program} {h : List Res} {f : Operand → Option AV} {o : Oper} {b c : Bool} (hq : QR P h f o (.v (.bool b))) (e : b = c) : QR P h f o (.v (.bool c)) := by subst e; exact hq
end Go.Proofs
/- The walks of the changes, slices.Collect, Changes. Conditions: none. -/
set_option linter.unusedVariables false
set_option linter.unusedSimpArgs false
set_option maxRecDepth 10000
namespace Go.Proofs
open Go Go.Ab
attribute [local irreducible] QR QV OE aops aw dsoup dsoupM dalloc dallocM thn inBlk jsoup jch lsoup
open Go.H
def gatD {α : Type} (d : Nat → Option α) : Nat → List α
  | 0 => []
  | k + 1 => gatD d k ++ (d k).toList
theorem gatD_n {α : Type} {d : Nat → Option α} {k : Nat} (h : d k = none) : gatD d (k + 1) = gatD d k := by rw [gatD, h]; simp
theorem gatD_y {α : Type} {d : Nat → Option α} {k : Nat} {a : α} (h : d k = some a) : gatD d (k + 1) = gatD d k ++ [a] := by rw [gatD, h]; rfl
theorem gatD_len {α : Type} (d : Nat → Option α) : ∀ n, (gatD d n).length ≤ n
  | 0 => by simp [gatD]
  | n + 1 => by
    have := gatD_len d n
    rw [gatD, List.length_append]
    cases d n <;> simp <;> omega
def chD (l : List Bool) (k : Nat) : Option Int := if 0 < k ∧ l[k]? ≠ l[k - 1]? then some (k : Int) else none
theorem chD_gat (l : List Bool) : ∀ n, gatD (chD l) n = chgK l n
  | 0 => rfl
  | n + 1 => by
    rw [gatD, chgK, chD_gat l n, chD]
    split <;> rfl
theorem chD_0 {l : List Bool} {k : Nat} (h : decide ((k : Int) > 0) = false) : chD l k = none := by
  have := of_decide_eq_false h
  rw [chD, if_neg (by omega)]
theorem chD_y {l : List Bool} {k : Nat} (h : decide ((k : Int) > 0) = true) (hk : k < l.length) (hb : (l[k] != l[k - 1]'(by omega)) = true) : chD l k = some (k : Int) := by
  have := of_decide_eq_true h
  rw [chD, if_pos ⟨by omega, by rw [List.getElem?_eq_getElem hk, List.getElem?_eq_getElem (by omega)]; intro e; injection e with e; rw [e] at hb; simp at hb⟩]
theorem chD_n {l : List Bool} {k : Nat} (hk : k < l.length) (hb : (l[k] != l[k - 1]'(by omega)) = false) : chD l k = none := by
  rw [chD, if_neg (by rintro ⟨_, q⟩; apply q; rw [List.getElem?_eq_getElem hk, List.getElem?_eq_getElem (by omega)]; congr 1; simpa using hb)]
theorem ch_pre {k : Nat} (h : decide ((k : Int) > 0) = true) : ((k : Int) - 1).toNat = k - 1 ∧ 0 ≤ (k : Int) - 1 := by
  have := of_decide_eq_true h
  omega
theorem row_pre {l : List Bool} {k : Nat} (h : decide ((k : Int) > 0) = true) (hk : k < l.length) : (l.map boolR)[((k : Int) - 1).toNat]? = some (boolR (l[k - 1]'(by omega))) := by
  rw [(ch_pre h).1, List.getElem?_map, List.getElem?_eq_getElem (by omega)]; rfl
set_option maxHeartbeats 4000000 in
theorem mxChg1 (l : List Bool) (hl : l.length ≤ 1000000) (b1 : Nat) (y : AV) (I : Nat → SV → List Res) (x0 : SV) (hy : ∀ k x a, k < l.length → chD l k = some a → FCall Tryz.prog y [iv a] (.box b1 153 [boolsA l] :: I k x) (fun r h' => ∃ x', r = bv true ∧ h' = .box b1 153 [boolsA l] :: I (k + 1) x')) (hs : ∀ k x, k < l.length → chD l k = none → I (k + 1) x = I k x) : ACall Tryz.prog 162 [y, .v (.pointer (some ⟨b1, 0, none⟩))] (.box b1 153 [boolsA l] :: I 0 x0) (fun r h' => ∃ x, h' = I l.length x) := by
  refine acall_of_aw Tryz.func162 rfl rfl rfl ?_
  refine rn ?_
  refine aw_rngX l.length (fun _ _ => True) (fun k (x : SV) => ⟨[(6, iv k), (0, y), (1, .v (.pointer (some ⟨b1, 0, none⟩))), (5, iv (l.map boolR).length)], .box b1 153 [boolsA l] :: I k x, []⟩) x0 trivial es ?_
  intro k x lk _
  refine rn ?_
  refine aw_cond rfl (fun hc7 => ?_) (fun hc7 => ?_)
  · have hk := ltMap hc7
    have rk := atRow (f := boolR) hk
    refine rn ?_
    refine aw_draw 17 rfl ?_
    refine rn ?_
    refine dsplit (fun hg3_2 => ?_) (fun hg3_2 => ?_)
    · refine dq rfl rfl qrA ?_
      refine dq rfl rfl qrA ?_
      refine dq rfl rfl qrA ?_
      refine dq rfl rfl qrA ?_
      refine dq rfl rfl qrA ?_
      refine dq rfl rfl qrA ?_
      refine dq rfl rfl (qr_ari rfl rfl rfl (by omega)) ?_
      refine dq rfl rfl (qr_index_int rfl rfl (ch_pre hg3_2).2 (row_pre hg3_2 hk)) ?_
      refine dq rfl rfl qrA ?_
      refine dq rfl rfl (qr_isB (c := l[k] != l[k - 1]'(by omega)) (qr_nebool rfl rfl) rfl) ?_
      refine rn ?_
      refine dsplit (fun hg3_14 => ?_) (fun hg3_14 => ?_)
      · refine rn ?_
        refine aops_e rfl (oe_call rfl rfl (hy k x _ hk (chD_y hg3_2 hk (by exact hg3_14))) rfl ?_)
        rintro _ _ ⟨x', rfl, rfl⟩
        refine rn ?_
        refine aw_cond rfl (fun hc28 => ?_) (fun hc28 => ?_)
        · refine rn ?_
          exact absurd hc28 (by simp)
        · refine rn ?_
          first | exact ⟨hk, x', trivial, eA⟩ | exact ⟨hk, x, trivial, by rw [hs k x hk (chD_n hk (by exact hg3_14))]; exact eA⟩ | exact ⟨hk, x, trivial, by rw [hs k x hk (chD_0 hg3_2)]; exact eA⟩
      · refine rn ?_
        refine aw_cf rfl ?_
        refine rn ?_
        first | exact ⟨hk, x', trivial, eA⟩ | exact ⟨hk, x, trivial, by rw [hs k x hk (chD_n hk (by exact hg3_14))]; exact eA⟩ | exact ⟨hk, x, trivial, by rw [hs k x hk (chD_0 hg3_2)]; exact eA⟩
    · refine rn ?_
      refine aw_cf rfl ?_
      refine rn ?_
      first | exact ⟨hk, x', trivial, eA⟩ | exact ⟨hk, x, trivial, by rw [hs k x hk (chD_n hk (by exact hg3_14))]; exact eA⟩ | exact ⟨hk, x, trivial, by rw [hs k x hk (chD_0 hg3_2)]; exact eA⟩
  · have qk := geMap hc7 lk
    subst qk
    refine rn ?_
    exact retq_n .nil (.drop [_] _ _) ⟨x, rfl⟩
theorem mxChg (l : List Bool) (W : List Res) : ACall Tryz.prog 115 [boolsA l] W (fun r h' => ∃ b1, h' = .box b1 153 [boolsA l] :: W ∧ r = .fn (.func 162) [] [.v (.pointer (some ⟨b1, 0, none⟩))]) := by
  refine acall_of_aw Tryz.func115 rfl rfl rfl ?_
  refine rn ?_
  refine aops_e rfl (oe_box rfl rfl rfl fun b1 => ?_)
  refine rn ?_
  exact retq (.cons _ _ _ _ (.tmp _ _ rfl) .nil) (.refl _ _) ⟨_, rfl, rfl⟩
set_option maxHeartbeats 4000000 in
theorem appSeqI (f : FuncId) [Go.Ab.Enters Tryz.prog f] (cs : List AV) (w1 : Res) (n : Nat) (hn : n ≤ 1000000) (d : Nat → Option (Int)) (W : List Res) (hseq : ∀ (y : AV) (I : Nat → SV → List Res) (x0 : SV), (∀ k x a, k < n → d k = some a → FCall Tryz.prog y [iv a] (w1 :: I k x) (fun r h' => ∃ x', r = bv true ∧ h' = w1 :: I (k + 1) x')) → (∀ k x, k < n → d k = none → I (k + 1) x = I k x) → ACall Tryz.prog f (y :: cs) (w1 :: I 0 x0) (fun _ h' => ∃ x, h' = I n x)) : ACall Tryz.prog 161 [.v (.slice none 0 0), .fn (.func f) [] cs] (w1 :: W) (fun r h' => ∃ s : SV, h' = .row s.v 1 3 ((gatD d n).map intR) :: W ∧ r = .v s.v) := by
  refine acall_of_aw Tryz.func161 rfl rfl rfl ?_
  refine rn ?_
  refine aops_e rfl (oe_box rfl rfl rfl fun b2 => ?_)
  refine rn ?_
  refine aw_ent (s' := ⟨[(6, .fn (.func f) [] cs), (2, .v (.pointer (some ⟨b2, 0, none⟩)))], w1 :: .box b2 40 [.v (⟨none, 0, 0⟩ : SV).v] :: .row (⟨none, 0, 0⟩ : SV).v 1 3 ((gatD d 0).map intR) :: W, []⟩) (ent_trans (ent_trans (ent_nilrow 1 3) (ent_perm ((pt2 _ _ _ _).trans (.cons _ (pt1 _ _ _))))) es) ?_
  refine aw_rf (fun pend h'' => pend = none ∧ ∃ s : SV, h'' = .box b2 40 [.v s.v] :: .row s.v 1 3 ((gatD d n).map intR) :: W) rfl (fun fn l q lp hlp => ?_) (fun q h'' hK => ?_) (fun q h'' c hK => ?_)
  · suffices hy : ∀ k (s : SV) a, k < n → d k = some a → FCall Tryz.prog (yv l) [iv a] (w1 :: lp .ready none :: .defs q :: .box b2 40 [.v s.v] :: .row s.v 1 3 ((gatD d k).map intR) :: W) (fun r h' => ∃ s' : SV, r = bv true ∧ h' = w1 :: lp .ready none :: .defs q :: .box b2 40 [.v s'.v] :: .row s'.v 1 3 ((gatD d (k + 1)).map intR) :: W) by
      refine ACall.mono (ACall.perm (pt2 _ _ _ _) (hseq (yv l) (fun k (s : SV) => lp .ready none :: .defs q :: .box b2 40 [.v s.v] :: .row s.v 1 3 ((gatD d k).map intR) :: W) ⟨none, 0, 0⟩ hy (fun k s hk hn => by rw [gatD_n hn]))) ?_
      rintro _ _ ⟨s, rfl⟩
      exact ⟨none, .ready, _, .refl _, by simp, rfl, s, rfl⟩
    intro k s a hk hd
    refine FCall.perm (pt1 _ _ _) (FCall.ventE ?_)
    refine fcall_yl2 hlp rfl rfl ?_
    refine rn ?_
    refine ⟨[(5, iv a), (2, .v (.pointer (some ⟨b2, 0, none⟩)))], w1 :: .defs q :: .box b2 40 [.v s.v] :: .row s.v 1 3 ((gatD d k).map intR) :: W, es, ?_⟩
    refine rn ?_
    refine qv rfl rfl (qv_buildSlice rfl rfl) ?_
    refine aops_e rfl (oe_append_row rfl rfl (by simp only [List.length_map, List.length_cons, List.length_nil]; have := gatD_len d k; omega) rfl (fun s11 => ?_) (one_int [a]))
    refine aops_slice s11 fun sv hsv => ?_
    subst hsv
    refine rn ?_
    exact round_n (.refl _) ⟨_, _, .perm (pt1 _ _ _) _, sv, rfl, by rw [gatD_y hd, List.map_append]; rfl⟩
  · obtain ⟨_, s, rfl⟩ := hK
    refine rn ?_
    exact retqd (.refl _) (.cons _ _ _ _ (.tmp _ _ rfl) .nil) (.drop1 _ _ _) ⟨s, rfl, rfl⟩
  · obtain ⟨hc, _⟩ := hK
    exact absurd hc (by simp)
theorem collectI (f : FuncId) [Go.Ab.Enters Tryz.prog f] (cs : List AV) (w1 : Res) (n : Nat) (hn : n ≤ 1000000) (d : Nat → Option (Int)) (W : List Res) (hseq : ∀ (y : AV) (I : Nat → SV → List Res) (x0 : SV), (∀ k x a, k < n → d k = some a → FCall Tryz.prog y [iv a] (w1 :: I k x) (fun r h' => ∃ x', r = bv true ∧ h' = w1 :: I (k + 1) x')) → (∀ k x, k < n → d k = none → I (k + 1) x = I k x) → ACall Tryz.prog f (y :: cs) (w1 :: I 0 x0) (fun _ h' => ∃ x, h' = I n x)) : ACall Tryz.prog 114 [.fn (.func f) [] cs] (w1 :: W) (fun r h' => ∃ s : SV, h' = .row s.v 1 3 ((gatD d n).map intR) :: W ∧ r = .v s.v) := by
  refine acall_of_aw Tryz.func114 rfl rfl rfl ?_
  refine rn ?_
  refine aops_e rfl (oe_call rfl rfl (FCall.of_fun (appSeqI f cs w1 n hn d W hseq)) rfl ?_)
  rintro _ _ ⟨s, rfl, rfl⟩
  refine rn ?_
  exact retq (.cons _ _ _ _ (.tmp _ _ rfl) .nil) (.refl _ _) ⟨s, rfl, rfl⟩
theorem tabP_le {h : Hist} {N : Nat} (la : Lim N h) {p x : Int} (he : tabE h p x = 0) : (tabP h p x).length ≤ 1000000 := by
  have lA := chk_lim (tab_0.1 he).1
  have := insR_le lA x
  rw [tab_len, tab_ins he]; omega
theorem matChgR (h : Hist) (la : Lim 4611686018427387904 h) (p x : Int) : ACall Tryz.prog 55 [.agg (histC h), iv p, iv x] (.glob 1 112 limitsC :: .glob 2 234 firstC :: .glob 3 237 acceptC :: .glob 0 102 asksC :: []) (fun r h' => ∃ s : SV, h' = .row s.v 1 3 ((chL h p x).map intR) :: .glob 1 112 limitsC :: .glob 2 234 firstC :: .glob 3 237 acceptC :: .glob 0 102 asksC :: [] ∧ r = .tup [.v s.v, iv (tabE h p x)]) := by
  refine acall_of_aw Tryz.func55 rfl rfl rfl ?_
  refine rn ?_
  refine aops_e rfl (oe_box rfl rfl rfl fun b3 => ?_)
  refine rn ?_
  refine qv rfl rfl (qv_call rfl rfl (FCall.qt (FCall.of_fun (matTab h la p x)) ((pt1 _ _ _).trans (.cons _ ((pt1 _ _ _).trans (.cons _ ((pt1 _ _ _).trans (.cons _ (pt1 _ _ _))))))))) ?_
  refine rn ?_
  refine aw_cond rfl (fun hc18 => ?_) (fun hc18 => ?_)
  · have he := mt_e (h := h) (p := p) (x := x) (r := 0) (nz_t hc18)
    refine rn ?_
    exact retq (.cons _ _ _ _ (.tmp _ _ rfl) (.cons _ _ _ _ (.tmp _ _ rfl) .nil)) (.trans (.drop [_] _ _) (vent_nilrow 1 3 _)) ⟨⟨none, 0, 0⟩, by rw [he.2.2]; rfl, rfl⟩
  · have he : tabE h p x = 0 := nz_f hc18
    have hl : tabL h p x = tabP h p x := by rw [tabL, if_pos he]
    have lt := tabP_le la he
    rw [hl]
    refine rn ?_
    refine aops_e rfl (oe_call rfl rfl (FCall.of_fun (mxChg (tabP h p x) _)) rfl ?_)
    rintro _ _ ⟨b1, rfl, rfl⟩
    refine aops_e rfl (oe_call rfl rfl (FCall.of_fun (collectI 162 [.v (.pointer (some ⟨b1, 0, none⟩))] _ (tabP h p x).length lt (chD (tabP h p x)) _ (fun y I x0 hy hs => mxChg1 (tabP h p x) lt b1 y I x0 hy hs))) rfl ?_)
    rintro _ _ ⟨s, rfl, rfl⟩
    refine rn ?_
    exact retq (.cons _ _ _ _ (.tmp _ _ rfl) (.cons _ _ _ _ (.tmp _ _ rfl) .nil)) (.trans (.perm (pt1 _ _ _) _) (.drop [_] _ _)) ⟨s, by rw [chL, if_pos he, chgP, chD_gat], by rw [he]; rfl⟩
theorem matChg (h : Hist) (la : Lim 4611686018427387904 h) (p x : Int) : ACall Tryz.prog 55 [.agg (histC h), iv p, iv x] (.glob 1 112 limitsC :: .glob 2 234 firstC :: .glob 3 237 acceptC :: .glob 0 102 asksC :: []) (fun r h' => h' = .glob 1 112 limitsC :: .glob 2 234 firstC :: .glob 3 237 acceptC :: .glob 0 102 asksC :: [] ∧ r = .tup [intsA (chL h p x), iv (tabE h p x)]) :=
  (matChgR h la p x).ventR (by rintro _ _ ⟨s, rfl, rfl⟩; exact ⟨_, _, vent_freeze_tup [] [_], rfl, rfl⟩)
end Go.Proofs
/- The walks of match's event, Set, Seen. Conditions: none. -/
set_option linter.unusedVariables false
set_option linter.unusedSimpArgs false
set_option maxRecDepth 10000
namespace Go.Proofs
open Go Go.Ab
attribute [local irreducible] QR QV OE aops aw dsoup dsoupM dalloc dallocM thn inBlk jsoup jch lsoup
open Go.H
def ev0 : Ev := ⟨0, 0, 0, 0, 0, ⟨0, 0⟩, 0, []⟩
def evA (h : Hist) (n : Int) : Ev := if askE h n h.evs.length = 0 then evD h.evs n else ev0
def setL (h : Hist) (n : Int) : List Seen := if sightE h n = 0 then setP h (evD h.evs n) n.toNat else []
theorem tri3c {p : Prop} (c d : Prop) [Decidable c] [Decidable d] (x : c → d → p) (y : c → ¬ d → p) (z : ¬ c → p) : p := if h : c then (if k : d then x h k else y h k) else z h
theorem ev_at {h : Hist} {n : Int} (he : askE h n h.evs.length = 0) : ∃ a : Nat, ∃ ha : a < h.evs.length, n = a ∧ evA h n = h.evs[a] ∧ checkI h = 0 := by
  obtain ⟨hs, n0, n1⟩ := ask_0 he
  obtain ⟨a, rfl⟩ := Int.eq_ofNat_of_zero_le n0
  exact ⟨a, by omega, rfl, by rw [evA, if_pos he, evD_at (by omega)], checkI_0.2 hs⟩
theorem ev_no {h : Hist} {n : Int} (he : askE h n h.evs.length ≠ 0) : evA h n = ev0 := by rw [evA, if_neg he]
theorem st_x {h : Hist} {a : Nat} (ha : a < h.evs.length) (hc : checkI h = 0) (h4 : h.evs[a].kind = 4) : sightE h a = 0 ∧ setL h a = setP h h.evs[a] a := by
  have := (sg_y hc ha h4).1
  exact ⟨this, by rw [setL, this, if_pos rfl, evD_at ha, Int.toNat_natCast]⟩
theorem st_n {h : Hist} {n : Int} (hc : checkI h = 0) (hn : ¬ (0 ≤ n ∧ n < h.evs.length ∧ (evD h.evs n).kind = 4)) : sightE h n = 2 ∧ setL h n = [] := by
  have := (sg_n hc hn).1
  exact ⟨this, by rw [setL, this]; rfl⟩
theorem st_z {h : Hist} {n : Int} (he : askE h n h.evs.length ≠ 0) : sightE h n = askE h n h.evs.length ∧ setL h n = [] := by
  by_cases hc : checkI h = 0
  · have hn : ¬ (0 ≤ n ∧ n < (h.evs.length : Int)) := fun q => he (ask_y hc q)
    obtain ⟨a, b⟩ := st_n (h := h) (n := n) hc (fun q => hn ⟨q.1, q.2.1⟩)
    exact ⟨by rw [a, ask_a hc hn], b⟩
  · have := (sg_c (n := n) hc).1
    exact ⟨by rw [this, ask_c hc], by rw [setL, this, if_neg hc]⟩
theorem ev_k {h : Hist} {n : Int} (he : askE h n h.evs.length = 0) : evA h n = evD h.evs n := by rw [evA, if_pos he]
theorem matEvent (h : Hist) (la : Lim 4611686018427387904 h) (n : Int) : ACall Tryz.prog 117 [.agg (histC h), iv n] (.glob 1 112 limitsC :: .glob 2 234 firstC :: .glob 3 237 acceptC :: .glob 0 102 asksC :: []) (fun r h' => h' = .glob 1 112 limitsC :: .glob 2 234 firstC :: .glob 3 237 acceptC :: .glob 0 102 asksC :: [] ∧ r = .tup [.agg (evR (evA h n)), iv (askE h n h.evs.length)]) := by
  refine acall_of_aw Tryz.func117 rfl rfl rfl ?_
  refine rn ?_
  refine aops_e rfl (oe_box rfl rfl rfl fun b2 => ?_)
  refine aops_e rfl (oe_alloc rfl fun b4 => ?_)
  refine rn ?_
  refine qv rfl rfl (qv_call rfl rfl (FCall.qt (FCall.of_fun (ixComm h la)) ((pt2 _ _ _ _).trans (.cons _ ((pt2 _ _ _ _).trans (.cons _ ((pt2 _ _ _ _).trans (.cons _ (pt2 _ _ _ _))))))))) ?_
  refine rn ?_
  refine aw_cond rfl (fun hc14 => ?_) (fun hc14 => ?_)
  · have he : askE h n h.evs.length = checkI h := ask_c (nz_t hc14)
    have hn : askE h n h.evs.length ≠ 0 := by rw [he]; exact nz_t hc14
    refine aw_seq (aw_region ?_)
    refine qq rfl rfl (qr_weak (fun w O v hr => Sb.rel (Sb.aggs (bs := evR ev0) (by exact ⟨.refl _, .refl _, .refl _, .refl _, .refl _, .refl _, .refl _, .refl _, .nil _ _, trivial⟩)) hr) (qr_build (out := [iv 0, iv 0, iv 0, iv 0, iv 0, iv 0, iv 0, iv 0, .v (.slice none 0 0)]) rfl (by rfl))) ?_
    refine rn ?_
    exact retq (.cons _ _ _ _ (.agg _ _ _ _ _ _ _ rfl inferInstance inferInstance inferInstance rfl) (.cons _ _ _ _ (.tmp _ _ rfl) .nil)) (.drop [_, _] _ _) ⟨rfl, by rw [ev_no hn, he]; rfl⟩
  · have hc := nz_f hc14
    refine rn ?_
    refine qv rfl rfl (qv_call rfl rfl (pcall (matIs n (h.evs.map evR).length) (Sbs.refl _))) ?_
    refine rn ?_
    refine aw_cond rfl (fun hc22 => ?_) (fun hc22 => ?_)
    · have he : askE h n h.evs.length = 2 := ask_a hc (by have q := nd_t hc22; rw [List.length_map] at q; exact q)
      have hn : askE h n h.evs.length ≠ 0 := by rw [he]; decide
      refine aw_seq (aw_region ?_)
      refine qq rfl rfl (qr_weak (fun w O v hr => Sb.rel (Sb.aggs (bs := evR ev0) (by exact ⟨.refl _, .refl _, .refl _, .refl _, .refl _, .refl _, .refl _, .refl _, .nil _ _, trivial⟩)) hr) (qr_build (out := [iv 0, iv 0, iv 0, iv 0, iv 0, iv 0, iv 0, iv 0, .v (.slice none 0 0)]) rfl (by rfl))) ?_
      refine rn ?_
      exact retq (.cons _ _ _ _ (.agg _ _ _ _ _ _ _ rfl inferInstance inferInstance inferInstance rfl) (.cons _ _ _ _ (.tmp _ _ rfl) .nil)) (.drop [_, _] _ _) ⟨rfl, by rw [ev_no hn, he]; rfl⟩
    · have q := nd_f hc22
      rw [List.length_map] at q
      have he := ask_y hc q
      obtain ⟨a, ha, rfl, ea, _⟩ := ev_at he
      have ra := atRow (f := evR) ha
      refine aw_skip ?_
      refine thn_n ?_
      refine aw_seq (aw_region ?_)
      refine q1 ?_
      refine q1 ?_
      refine q1 ?_
      refine qq rfl rfl (qr_index_int rfl rfl q.1 ra) ?_
      refine rn ?_
      exact retq (.cons _ _ _ _ (.agg _ _ _ _ _ _ _ rfl inferInstance inferInstance inferInstance rfl) (.cons _ _ _ _ (.tmp _ _ rfl) .nil)) (.drop [_, _] _ _) ⟨rfl, by rw [ea, he]; rfl⟩
set_option maxHeartbeats 4000000 in
theorem matSetR (h : Hist) (la : Lim 4611686018427387904 h) (n : Int) : ACall Tryz.prog 61 [.agg (histC h), iv n] (.glob 1 112 limitsC :: .glob 2 234 firstC :: .glob 3 237 acceptC :: .glob 0 102 asksC :: []) (fun r h' => ∃ s : SV, h' = .row s.v 3 76 ((setL h n).map seenR) :: .glob 1 112 limitsC :: .glob 2 234 firstC :: .glob 3 237 acceptC :: .glob 0 102 asksC :: [] ∧ r = .tup [.v s.v, iv (sightE h n)]) := by
  refine acall_of_aw Tryz.func61 rfl rfl rfl ?_
  refine rn ?_
  refine aops_e rfl (oe_box rfl rfl rfl fun b2 => ?_)
  refine rn ?_
  refine aw_scope ?_
  refine rn ?_
  refine qv rfl rfl (qv_call rfl rfl (FCall.qt (FCall.of_fun (matEvent h la n)) ((pt1 _ _ _).trans (.cons _ ((pt1 _ _ _).trans (.cons _ ((pt1 _ _ _).trans (.cons _ (pt1 _ _ _))))))))) ?_
  refine rn ?_
  refine aops_e rfl (oe_alloc rfl fun b6 => ?_)
  first | refine aops_e rfl (oe_store_all rfl rfl rfl ?_) | refine aops_e rfl (oe_store rfl rfl rfl rfl (Nat.le_of_ble_eq_true rfl) ?_)
  refine q1 ?_
  refine aops_nil (thn_n ?_)
  refine aw_seq ?_
  refine aw_seq (aw_region ?_)
  refine q1 ?_
  refine tri3c (askE h n h.evs.length = 0) ((evA h n).kind = 4) (fun hc h4 => qq rfl rfl (qr_cmp (c := true) rfl rfl (congrArg some (by rw [hc]; rfl))) ?_) (fun hc h4 => qq rfl rfl (qr_cmp (c := true) rfl rfl (congrArg some (by rw [hc]; rfl))) ?_) (fun hc => qq rfl rfl (qr_cmp (c := false) rfl rfl (congrArg some (by simpa using hc))) ?_)
  · refine q1 ?_
    refine q1 ?_
    refine q1 ?_
    refine qq rfl rfl (by first | exact qr_cmp (c := false) rfl rfl (congrArg some (by rw [h4]; rfl)) | exact qr_cmp (c := true) rfl rfl (congrArg some (by simpa using h4))) ?_
    refine rn ?_
    refine aw_cond rfl (fun hc29 => ?_) (fun hc29 => ?_)
    · first | cases hc29 | exact absurd hc29 (by decide) | (exfalso; simp_all; done)
    · refine aw_skip ?_
      refine thn_n ?_
      refine aw_seq ?_
      refine aw_seq (aw_region ?_)
      refine q1 ?_
      refine qq rfl rfl (by first | exact qr_cmp (c := false) rfl rfl (congrArg some (by rw [hc]; rfl)) | exact qr_cmp (c := true) rfl rfl rfl | exact qr_cmp (c := true) rfl rfl (congrArg some (by simpa using hc))) ?_
      refine rn ?_
      refine aw_cond rfl (fun hc31 => ?_) (fun hc31 => ?_)
      · first | cases hc31 | exact absurd hc31 (by decide) | (exfalso; simp_all; done)
      · refine aw_skip ?_
        refine rn0 ?_
        refine aw_seq ?_
        obtain ⟨a, ha, rfl, ea, hk0⟩ := ev_at hc
        rw [ea] at h4
        rw [ea]
        obtain ⟨hse, hsl⟩ := st_x ha hk0 h4
        have lA := chk_lim hk0
        have be := lA.evs
        have bs := lA.scans h.evs[a] (List.getElem_mem ha)
        refine rn ?_
        refine aops_e rfl (oe_makeMap (enc := intK) rfl fun rm => ?_)
        refine rn ?_
        refine aw_range h.evs.length (fun k => k ≤ a) (fun k => ⟨[(37, iv k), (1, iv (a : Int)), (2, .v (.pointer (some ⟨b2, 0, none⟩))), (6, .v (.pointer (some ⟨b6, 0, none⟩))), (8, mpv rm), (35, evsA h.evs), (36, iv (h.evs.map evR).length)], .map rm (encM intK (mapA verA (ownM (h.evs.take k) h.evs[a].t))) :: .box b6 72 (evR h.evs[a]) :: .box b2 28 (histC h) :: .glob 1 112 limitsC :: .glob 2 234 firstC :: .glob 3 237 acceptC :: .glob 0 102 asksC :: [], []⟩) (Nat.zero_le _) es ?_
        intro k lk ka
        refine rn ?_
        refine aw_cond rfl (fun hc38 => ?_) (fun hc38 => ?_)
        · have hk := ltMap hc38
          have rk := atRow (f := evR) hk
          refine rn ?_
          refine aops_e rfl (oe_alloc rfl fun b10 => ?_)
          refine rn ?_
          refine aw_cond rfl (fun hc42 => ?_) (fun hc42 => ?_)
          · obtain rfl : a = k := by have := eq_of_beq hc42; omega
            refine rn ?_
            refine aw_range h.evs[a].scan.length (fun _ => True) (fun j => ⟨[(66, iv j), (2, .v (.pointer (some ⟨b2, 0, none⟩))), (8, mpv rm), (64, seensA h.evs[a].scan), (65, iv (h.evs[a].scan.map seenR).length)], .map rm (encM intK (mapA verA (scnM (ownM (h.evs.take a) h.evs[a].t) (h.evs[a].scan.take j)))) :: .box b6 72 (evR h.evs[a]) :: .box b2 28 (histC h) :: .glob 1 112 limitsC :: .glob 2 234 firstC :: .glob 3 237 acceptC :: .glob 0 102 asksC :: [], []⟩) trivial eA ?_
            intro j lj _
            refine rn ?_
            refine aw_cond rfl (fun hc67 => ?_) (fun hc67 => ?_)
            · have hj := ltMap hc67
              have rj := atRow (f := seenR) hj
              refine rn ?_
              refine aops_e rfl (oe_alloc rfl fun b12 => ?_)
              refine rn ?_
              refine aops_e rfl (oe_mapUpdT (g := verA) (enc := intK) (k := h.evs[a].scan[j].o) (v := h.evs[a].scan[j].v) rfl rfl rfl ?_)
              refine rn ?_
              exact ⟨hj, trivial, by rw [scnM_s hj]; exact eA⟩
            · have qj := geMap hc67 lj
              subst qj
              rw [List.take_length]
              refine rn ?_
              refine aw_rng1 h.os.length (fun k s => ⟨[(79, iv k), (13, .v s.v), (8, mpv rm), (78, iv (h.os.map strR).length)], .row s.v 3 76 (((upR k).map fun x : Int => (⟨x, ownV h.evs h.evs[a].t a h.evs[a].scan x⟩ : Seen)).map seenR) :: .map rm (encM intK (mapA verA (scnM (ownM (h.evs.take a) h.evs[a].t) h.evs[a].scan))) :: .box b6 72 (evR h.evs[a]) :: .box b2 28 (histC h) :: .glob 1 112 limitsC :: .glob 2 234 firstC :: .glob 3 237 acceptC :: .glob 0 102 asksC :: [], []⟩) ⟨none, 0, 0⟩ (ent_trans (ent_nilrow 3 76) es) ?_
              intro k s lk
              refine rn ?_
              refine aw_cond rfl (fun hc80 => ?_) (fun hc80 => ?_)
              · have hk : k < h.os.length := by have q := of_decide_eq_true hc80; rw [List.length_map] at q; omega
                have bo := lA.os
                have hv := own_get (l := h.evs) (t := h.evs[a].t) (x := (k : Int)) h.evs[a].scan (Nat.le_of_lt ha)
                refine aw_skip ?_
                refine thn_n ?_
                refine aw_seq ?_
                refine aw_block ?_
                refine aw_seq (aw_region ?_)
                refine q1 ?_
                refine q1 ?_
                refine aops_nil (thn_n ?_)
                refine aw_seq (aw_region ?_)
                refine q1 ?_
                refine qq rfl rfl (qr_build (out := [iv (k : Int), iv 0, iv 0]) rfl (by rfl)) ?_
                refine aops_e rfl (oe_alloc rfl fun b15 => ?_)
                first | refine aops_e rfl (oe_store_all rfl rfl rfl ?_) | refine aops_e rfl (oe_store rfl rfl rfl rfl (Nat.le_of_ble_eq_true rfl) ?_)
                refine aops_nil (thn_n ?_)
                refine aw_seq ?_
                refine aw_seq (aw_region ?_)
                refine q1 ?_
                refine q1 ?_
                refine qq rfl rfl (qr_lookT (g := verA) (enc := intK) (k := (k : Int)) (⟨0, 0⟩ : Ver) rfl rfl) ?_
                rw [hv]
                generalize hV : ownV h.evs h.evs[a].t a h.evs[a].scan (k : Int) = V
                refine aops_e rfl (oe_alloc rfl fun b16 => ?_)
                first | refine aops_e rfl (oe_store_all rfl rfl rfl ?_) | refine aops_e rfl (oe_store rfl rfl rfl rfl (Nat.le_of_ble_eq_true rfl) ?_)
                refine aops_nil (thn_n ?_)
                refine aw_seq (aw_region ?_)
                refine q1 ?_
                refine qq rfl rfl (qr_build (out := [iv 0, iv 0]) rfl (by rfl)) ?_
                refine rn ?_
                refine aw_cond rfl (fun hc89 => ?_) (fun hc89 => ?_)
                · refine rn ?_
                  refine qv rfl rfl (qv_buildSlice rfl rfl) ?_
                  refine aops_e rfl (oe_append_row rfl rfl (by simp only [List.length_map, upR, List.length_range, List.length_cons, List.length_nil]; omega) rfl (fun s95 => ?_) (by first | exact one_seen [(⟨(k : Int), V⟩ : Seen)] | exact one_seen [(⟨(k : Int), ⟨0, 0⟩⟩ : Seen)]))
                  refine aops_slice s95 fun sv hsv => ?_
                  subst hsv
                  refine rn ?_
                  exact ⟨hk, sv, by rw [upR_s, List.map_append, List.map_append, List.map_singleton, List.map_singleton, hV]; exact eA⟩
                · have hv0 : V = ⟨0, 0⟩ := eq_of_beq (by rw [← ver_list]; simpa using hc89)
                  subst hv0
                  refine rn ?_
                  refine qv rfl rfl (qv_buildSlice rfl rfl) ?_
                  refine aops_e rfl (oe_append_row rfl rfl (by simp only [List.length_map, upR, List.length_range, List.length_cons, List.length_nil]; omega) rfl (fun s95 => ?_) (by first | exact one_seen [(⟨(k : Int), V⟩ : Seen)] | exact one_seen [(⟨(k : Int), ⟨0, 0⟩⟩ : Seen)]))
                  refine aops_slice s95 fun sv hsv => ?_
                  subst hsv
                  refine rn ?_
                  exact ⟨hk, sv, by rw [upR_s, List.map_append, List.map_append, List.map_singleton, List.map_singleton, hV]; exact eA⟩
              · have qk : k = h.os.length := by have q := of_decide_eq_false hc80; rw [List.length_map] at q; omega
                subst qk
                refine rn ?_
                refine ⟨fun l h => (by cases h), ?_⟩
                exact retq (.cons _ _ _ _ (.tmp _ _ rfl) (.cons _ _ _ _ (.tmp _ _ rfl) .nil)) (.trans (.perm ((pt1 _ _ _).trans (.cons _ ((pt1 _ _ _).trans (.cons _ (pt1 _ _ _))))) _) (.drop [_, _, _] _ _)) ⟨s, by rw [hsl]; rfl, by rw [hse]; rfl⟩
          · have hka : k < a := by have := beq_eq_false_iff_ne.1 hc42; omega
            refine rn ?_
            refine asplit (fun hg11_5 => ?_) (fun hg11_5 => ?_)
            · refine rn ?_
              refine aw_cond rfl (fun hc46 => ?_) (fun hc46 => ?_)
              · have hw : (h.evs[k].t == h.evs[a].t && h.evs[k].kind == 2) = true := by first | (rw [hg11_5]; exact hc46) | (rw [Bool.and_eq_true]; exact ⟨hg11_5, hc46⟩)
                refine rn ?_
                refine aops_e rfl (oe_mapUpdT (g := verA) (enc := intK) (k := h.evs[k].o) (v := h.evs[k].v) rfl rfl rfl ?_)
                refine rn ?_
                first | exact ⟨hk, hka, by rw [ownM_y hk hw]; exact eA⟩ | exact ⟨hk, hka, by rw [ownM_n hk hw]; exact eA⟩
              · have hw : (h.evs[k].t == h.evs[a].t && h.evs[k].kind == 2) = false := by first | (rw [hg11_5, hc46]; rfl) | (rw [hg11_5]; rfl)
                refine rn ?_
                first | exact ⟨hk, hka, by rw [ownM_y hk hw]; exact eA⟩ | exact ⟨hk, hka, by rw [ownM_n hk hw]; exact eA⟩
            · refine rn ?_
              refine aw_cond rfl (fun hc46 => ?_) (fun hc46 => ?_)
              · first | cases hc46 | exact absurd hc46 (by decide) | (exfalso; simp_all; done)
              · have hw : (h.evs[k].t == h.evs[a].t && h.evs[k].kind == 2) = false := by first | (rw [hg11_5, hc46]; rfl) | (rw [hg11_5]; rfl)
                refine rn ?_
                first | exact ⟨hk, hka, by rw [ownM_y hk hw]; exact eA⟩ | exact ⟨hk, hka, by rw [ownM_n hk hw]; exact eA⟩
        · exfalso; have qk := geMap hc38 lk; omega
  · refine q1 ?_
    refine q1 ?_
    refine q1 ?_
    refine qq rfl rfl (by first | exact qr_cmp (c := false) rfl rfl (congrArg some (by rw [h4]; rfl)) | exact qr_cmp (c := true) rfl rfl (congrArg some (by simpa using h4))) ?_
    refine rn ?_
    refine aw_cond rfl (fun hc29 => ?_) (fun hc29 => ?_)
    · refine aw_region ?_
      refine q1 ?_
      refine aops_nil (thn_n ?_)
      refine aw_seq ?_
      refine aw_seq (aw_region ?_)
      refine q1 ?_
      refine qq rfl rfl (by first | exact qr_cmp (c := false) rfl rfl (congrArg some (by rw [hc]; rfl)) | exact qr_cmp (c := true) rfl rfl rfl | exact qr_cmp (c := true) rfl rfl (congrArg some (by simpa using hc))) ?_
      refine rn ?_
      refine aw_cond rfl (fun hc31 => ?_) (fun hc31 => ?_)
      · refine rn ?_
        refine ⟨fun l h => (by cases h), ?_⟩
        exact retq (.cons _ _ _ _ (.tmp _ _ rfl) (.cons _ _ _ _ (.tmp _ _ rfl) .nil)) (.trans (.drop [_, _] _ _) (vent_nilrow 3 76 _)) ⟨⟨none, 0, 0⟩, by first | (rw [(st_z hc).2]; rfl) | (obtain ⟨a, ha, rfl, ea, hk0⟩ := ev_at hc; rw [(st_n hk0 (by rw [← ev_k hc]; exact fun q => h4 q.2.2)).2]; rfl), by first | (rw [(st_z hc).1]; rfl) | (obtain ⟨a, ha, rfl, ea, hk0⟩ := ev_at hc; rw [(st_n hk0 (by rw [← ev_k hc]; exact fun q => h4 q.2.2)).1]; rfl)⟩
      · first | cases hc31 | exact absurd hc31 (by decide) | (exfalso; simp_all; done)
    · first | cases hc29 | exact absurd hc29 (by decide) | (exfalso; simp_all; done)
  · refine rn ?_
    refine aw_cond rfl (fun hc29 => ?_) (fun hc29 => ?_)
    · first | cases hc29 | exact absurd hc29 (by decide) | (exfalso; simp_all; done)
    · refine aw_skip ?_
      refine thn_n ?_
      refine aw_seq ?_
      refine aw_seq (aw_region ?_)
      refine q1 ?_
      refine qq rfl rfl (by first | exact qr_cmp (c := false) rfl rfl (congrArg some (by rw [hc]; rfl)) | exact qr_cmp (c := true) rfl rfl rfl | exact qr_cmp (c := true) rfl rfl (congrArg some (by simpa using hc))) ?_
      refine rn ?_
      refine aw_cond rfl (fun hc31 => ?_) (fun hc31 => ?_)
      · refine rn ?_
        refine ⟨fun l h => (by cases h), ?_⟩
        exact retq (.cons _ _ _ _ (.tmp _ _ rfl) (.cons _ _ _ _ (.tmp _ _ rfl) .nil)) (.trans (.drop [_, _] _ _) (vent_nilrow 3 76 _)) ⟨⟨none, 0, 0⟩, by first | (rw [(st_z hc).2]; rfl) | (obtain ⟨a, ha, rfl, ea, hk0⟩ := ev_at hc; rw [(st_n hk0 (by rw [← ev_k hc]; exact fun q => h4 q.2.2)).2]; rfl), by first | (rw [(st_z hc).1]; rfl) | (obtain ⟨a, ha, rfl, ea, hk0⟩ := ev_at hc; rw [(st_n hk0 (by rw [← ev_k hc]; exact fun q => h4 q.2.2)).1]; rfl)⟩
      · first | cases hc31 | exact absurd hc31 (by decide) | (exfalso; simp_all; done)
theorem matSet (h : Hist) (la : Lim 4611686018427387904 h) (n : Int) : ACall Tryz.prog 61 [.agg (histC h), iv n] (.glob 1 112 limitsC :: .glob 2 234 firstC :: .glob 3 237 acceptC :: .glob 0 102 asksC :: []) (fun r h' => h' = .glob 1 112 limitsC :: .glob 2 234 firstC :: .glob 3 237 acceptC :: .glob 0 102 asksC :: [] ∧ r = .tup [seensA (setL h n), iv (sightE h n)]) :=
  (matSetR h la n).ventR (by rintro _ _ ⟨s, rfl, rfl⟩; exact ⟨_, _, vent_freeze_tup [] [_], rfl, rfl⟩)
end Go.Proofs
/- The walks of the index's Rank, Next. Conditions: none. -/
set_option linter.unusedVariables false
set_option linter.unusedSimpArgs false
set_option maxRecDepth 10000
namespace Go.Proofs
open Go Go.Ab
attribute [local irreducible] QR QV OE aops aw dsoup dsoupM dalloc dallocM thn inBlk jsoup jch lsoup
open Go.H
end Go.Proofs
/- The walk of history.own. Conditions: none. -/
set_option linter.unusedVariables false
set_option linter.unusedSimpArgs false
set_option maxRecDepth 10000
namespace Go.Proofs
open Go Go.Ab
attribute [local irreducible] QR QV OE aops aw dsoup dsoupM dalloc dallocM thn inBlk
open Go.H
end Go.Proofs
/- The walk of law 16's own. Conditions: none. -/
set_option linter.unusedVariables false
set_option linter.unusedSimpArgs false
set_option maxRecDepth 10000
namespace Go.Proofs
open Go Go.Ab
attribute [local irreducible] QR QV OE aops aw dsoup dsoupM dalloc dallocM thn inBlk jsoup jch lsoup
open Go.H
end Go.Proofs
/- The walk of law 16's wakes. Conditions: none. -/
set_option linter.unusedVariables false
set_option linter.unusedSimpArgs false
set_option maxRecDepth 10000
namespace Go.Proofs
open Go Go.Ab
attribute [local irreducible] QR QV OE aops aw dsoup dsoupM dalloc dallocM thn inBlk jsoup jch lsoup
open Go.H
theorem eqA (l : List Int) (hl : l.length ≤ 4611686018427387904) : ACall Tryz.prog 25 [.list false 1 (l.map intR), .list true 1 (l.map intR)] [] (fun r h' => h' = [] ∧ r = bv true) := (equalInt l l hl hl).mono fun _ _ q => ⟨q.1, by rw [q.2, eqF_eq intEq_eq]; simp⟩
end Go.Proofs
/- The walk of IndexSees. Conditions: none. -/
set_option linter.unusedVariables false
set_option linter.unusedSimpArgs false
set_option maxRecDepth 10000
namespace Go.Proofs
open Go Go.Ab
attribute [local irreducible] QR QV OE aops aw dsoup dsoupM dalloc dallocM thn inBlk jsoup jch lsoup
open Go.H
theorem eqI (l : List Int) (hl : l.length ≤ 4611686018427387904) : ACall Tryz.prog 25 [intsA l, intsA l] [] (fun r h' => h' = [] ∧ r = bv true) := (equalInt l l hl hl).mono fun _ _ q => ⟨q.1, by rw [q.2, eqF_eq intEq_eq]; simp⟩
theorem same16 (h : Hist) (la : Lim 4611686018427387904 h) : ACall Tryz.prog 20 [.agg (histC h), .agg (histC h)] [] (fun r h' => h' = [] ∧ r = bv true) := (refSame h h la la).mono fun _ _ q => ⟨q.1, by rw [q.2, sameB_self]⟩
end Go.Proofs
/- The walks of law 17's small, wakes. Conditions: none. -/
set_option linter.unusedVariables false
set_option linter.unusedSimpArgs false
set_option maxRecDepth 10000
namespace Go.Proofs
open Go Go.Ab
attribute [local irreducible] QR QV OE aops aw dsoup dsoupM dalloc dallocM thn inBlk jsoup jch lsoup
open Go.H
theorem mxE_y {k : Nat} (h : k = 2) : mxE (k + 1) = mxE k ++ [mxB k] ++ [mxS k] ++ [mxW k, mxC k] := by rw [mxE, if_pos h]; simp
theorem mxE_n {k : Nat} (h : k ≠ 2) : mxE (k + 1) = mxE k ++ [mxB k] ++ [mxW k, mxC k] := by rw [mxE, if_neg h]; simp
theorem mxE_len : ∀ k, (mxE k).length ≤ 4 * k
  | 0 => by simp [mxE]
  | k + 1 => by
    have := mxE_len k
    by_cases h : k = 2
    · rw [mxE_y h]; simp; omega
    · rw [mxE_n h]; simp; omega
theorem limM : Lim 4611686018427387904 mxH := ⟨by decide, by decide, by decide, by decide, by decide, by decide, by decide, by decide, by decide, by decide, by decide⟩
theorem mxS7 : setL mxH 7 = [⟨0, ⟨0, 1⟩⟩] ∧ sightE mxH 7 = 0 := by
  obtain ⟨a, b⟩ := st_x (h := mxH) (a := 7) (by decide) mx_check (by decide)
  exact ⟨b.trans mx_set, a⟩
set_option maxHeartbeats 4000000 in
theorem smallM  : ACall Tryz.prog 110 [] [] (fun r h' => h' = [] ∧ r = .agg (histC mxH)) := by
  refine acall_of_aw Tryz.func110 rfl rfl rfl ?_
  refine rn ?_
  refine aops_e rfl (oe_alloc rfl fun b0 => ?_)
  refine rn ?_
  refine qv rfl rfl (qv_buildSlice rfl rfl) ?_
  refine qv rfl rfl (qv_buildSlice rfl rfl) ?_
  refine qv rfl rfl (qv_buildSlice rfl rfl) ?_
  refine qv rfl rfl (qv_buildSlice rfl rfl) ?_
  refine rn ?_
  refine aops_e rfl (oe_alloc rfl fun b1 => ?_)
  refine rn ?_
  refine aw_rng1 3 (fun k s => ⟨[(8, iv k), (0, .v (.pointer (some ⟨b0, 0, none⟩))), (1, .v (.pointer (some ⟨b1, 0, none⟩)))], .row s.v 9 72 ((mxE k).map evR) :: .box b1 28 [.list true 1 ([bt1, bt2, bt3].map strR), .list true 1 ([bS].map strR), .list true 1 ([bX].map strR), .list true 1 ([bP].map strR), .v s.v, .v (.slice none 0 0), .v (.slice none 0 0), .v (.slice none 0 0)] :: .box b0 28 histZ :: [], []⟩) ⟨none, 0, 0⟩ (ent_trans (ent_nilrow 9 72) es) ?_
  intro k s lk
  refine rn ?_
  refine aw_cond rfl (fun hc9 => ?_) (fun hc9 => ?_)
  · have hk : k < 3 := by have q := of_decide_eq_true hc9; omega
    refine aw_skip ?_
    refine thn_n ?_
    refine aw_seq ?_
    refine aw_block ?_
    refine aw_seq (aw_region ?_)
    refine q1 ?_
    refine q1 ?_
    refine aops_nil (thn_n ?_)
    refine aw_seq (aw_region ?_)
    refine q1 ?_
    refine q1 ?_
    refine q1 ?_
    refine qq rfl rfl (qr_weak (fun w O v hr => Sb.rel (Sb.aggs (bs := evR (mxB k)) (by exact ⟨.refl _, .refl _, .refl _, .refl _, .refl _, .refl _, .refl _, .refl _, .nil _ _, trivial⟩)) hr) (qr_build (out := [iv 1, iv k, iv 0, iv 4, iv 0, iv 0, iv 0, iv 0, .v (.slice none 0 0)]) rfl (by rfl))) ?_
    refine qv rfl rfl (qv_buildSlice rfl rfl) ?_
    refine aops_e rfl (oe_append_row rfl rfl (by simp only [List.length_map, List.length_append, List.length_cons, List.length_nil]; have := mxE_len k; omega) rfl (fun s16 => ?_) (one_ev [mxB k]))
    refine aops_slice s16 fun s16v hs16 => ?_
    subst hs16
    refine rn ?_
    refine aw_cond rfl (fun hc19 => ?_) (fun hc19 => ?_)
    · have k2 : k = 2 := by have := eq_of_beq hc19; omega
      refine aw_region ?_
      refine q1 ?_
      refine q1 ?_
      refine q1 ?_
      refine qq rfl rfl (qr_build (out := [iv 0, iv 1]) rfl (by rfl)) ?_
      refine qq rfl rfl (qr_build (out := [iv 0, iv 0, iv 1]) rfl (by rfl)) ?_
      refine qv rfl rfl (qv_buildSlice rfl rfl) ?_
      refine qq rfl rfl (qr_weak (fun w O v hr => Sb.rel (Sb.aggs (bs := evR (mxS k)) (by exact ⟨.refl _, .refl _, .refl _, .refl _, .refl _, .refl _, .refl _, .refl _, .unfull, trivial⟩)) hr) (qr_build (out := [iv 4, iv k, iv 0, iv 0, iv 0, iv 0, iv 0, iv 0, .list true 3 [[iv 0, iv 0, iv 1]]]) rfl (by rfl))) ?_
      refine qv rfl rfl (qv_buildSlice rfl rfl) ?_
      refine aops_e rfl (oe_append_row rfl rfl (by simp only [List.length_map, List.length_append, List.length_cons, List.length_nil]; have := mxE_len k; omega) rfl (fun s28 => ?_) (one_ev [mxS k]))
      refine aops_slice s28 fun s28v hs28 => ?_
      subst hs28
      refine q1 ?_
      first | refine aops_e rfl (oe_store_all rfl rfl rfl ?_) | refine aops_e rfl (oe_store rfl rfl rfl rfl (Nat.le_of_ble_eq_true rfl) ?_)
      refine aops_nil (thn_n ?_)
      refine aw_region ?_
      refine q1 ?_
      refine q1 ?_
      refine q1 ?_
      refine q1 ?_
      refine qq rfl rfl (qr_build (out := [iv k, iv 1]) rfl (by rfl)) ?_
      refine qq rfl rfl (qr_weak (fun w O v hr => Sb.rel (Sb.aggs (bs := evR (mxW k)) (by exact ⟨.refl _, .refl _, .refl _, .refl _, .refl _, .refl _, .refl _, .refl _, .nil _ _, trivial⟩)) hr) (qr_build (out := [iv 2, iv k, iv 0, iv 0, iv 0, iv k, iv 1, iv 0, .v (.slice none 0 0)]) rfl (by rfl))) ?_
      refine q1 ?_
      refine qq rfl rfl (qr_weak (fun w O v hr => Sb.rel (Sb.aggs (bs := evR (mxC k)) (by exact ⟨.refl _, .refl _, .refl _, .refl _, .refl _, .refl _, .refl _, .refl _, .nil _ _, trivial⟩)) hr) (qr_build (out := [iv 5, iv k, iv 0, iv 0, iv 0, iv 0, iv 0, iv 0, .v (.slice none 0 0)]) rfl (by rfl))) ?_
      refine qv rfl rfl (qv_buildSlice rfl rfl) ?_
      refine aops_e rfl (oe_append_row rfl rfl (by simp only [List.length_map, List.length_append, List.length_cons, List.length_nil]; have := mxE_len k; omega) rfl (fun s39 => ?_) (one_ev [mxW k, mxC k]))
      refine aops_slice s39 fun s39v hs39 => ?_
      subst hs39
      refine rn ?_
      first | exact ⟨hk, _, by rw [mxE_y k2, List.map_append, List.map_append, List.map_append]; exact eA⟩ | exact ⟨hk, _, by rw [mxE_n k2, List.map_append, List.map_append]; exact eA⟩
    · have k2 : k ≠ 2 := by have := beq_eq_false_iff_ne.1 hc19; omega
      refine aw_skip ?_
      refine thn_n ?_
      refine aw_region ?_
      refine q1 ?_
      refine q1 ?_
      refine q1 ?_
      refine q1 ?_
      refine qq rfl rfl (qr_build (out := [iv k, iv 1]) rfl (by rfl)) ?_
      refine qq rfl rfl (qr_weak (fun w O v hr => Sb.rel (Sb.aggs (bs := evR (mxW k)) (by exact ⟨.refl _, .refl _, .refl _, .refl _, .refl _, .refl _, .refl _, .refl _, .nil _ _, trivial⟩)) hr) (qr_build (out := [iv 2, iv k, iv 0, iv 0, iv 0, iv k, iv 1, iv 0, .v (.slice none 0 0)]) rfl (by rfl))) ?_
      refine q1 ?_
      refine qq rfl rfl (qr_weak (fun w O v hr => Sb.rel (Sb.aggs (bs := evR (mxC k)) (by exact ⟨.refl _, .refl _, .refl _, .refl _, .refl _, .refl _, .refl _, .refl _, .nil _ _, trivial⟩)) hr) (qr_build (out := [iv 5, iv k, iv 0, iv 0, iv 0, iv 0, iv 0, iv 0, .v (.slice none 0 0)]) rfl (by rfl))) ?_
      refine qv rfl rfl (qv_buildSlice rfl rfl) ?_
      refine aops_e rfl (oe_append_row rfl rfl (by simp only [List.length_map, List.length_append, List.length_cons, List.length_nil]; have := mxE_len k; omega) rfl (fun s39 => ?_) (one_ev [mxW k, mxC k]))
      refine aops_slice s39 fun s39v hs39 => ?_
      subst hs39
      refine rn ?_
      first | exact ⟨hk, _, by rw [mxE_y k2, List.map_append, List.map_append, List.map_append]; exact eA⟩ | exact ⟨hk, _, by rw [mxE_n k2, List.map_append, List.map_append]; exact eA⟩
  · have qk : k = 3 := by have q := of_decide_eq_false hc9; omega
    subst qk
    refine aw_exit ?_
    refine rn0 ?_
    refine aw_seq ?_
    refine aw_ent (s' := ⟨[(0, .v (.pointer (some ⟨b0, 0, none⟩))), (1, .v (.pointer (some ⟨b1, 0, none⟩)))], .box b1 28 [.list true 1 ([bt1, bt2, bt3].map strR), .list true 1 ([bS].map strR), .list true 1 ([bX].map strR), .list true 1 ([bP].map strR), .list false 9 ((mxE 3).map evR), .v (.slice none 0 0), .v (.slice none 0 0), .v (.slice none 0 0)] :: .box b0 28 histZ :: [], []⟩) (ent_freezeB [.list true 1 ([bt1, bt2, bt3].map strR), .list true 1 ([bS].map strR), .list true 1 ([bX].map strR), .list true 1 ([bP].map strR)] [.v (.slice none 0 0), .v (.slice none 0 0), .v (.slice none 0 0)]) ?_
    refine rn ?_
    refine qv rfl rfl (qv_buildSlice rfl rfl) ?_
    refine qq rfl rfl (qr_build (out := [iv 0, .list true 1 ([0, 1, 2].map intR)]) rfl (by rfl)) ?_
    refine qv rfl rfl (qv_buildSlice rfl rfl) ?_
    refine rn ?_
    refine qv rfl rfl (qv_buildSlice rfl rfl) ?_
    refine qq rfl rfl (qr_build (out := [iv 0, iv 0, bv true, .list true 1 ([0, 2].map intR)]) rfl (by rfl)) ?_
    refine qv rfl rfl (qv_buildSlice rfl rfl) ?_
    refine rn ?_
    exact retq (.cons _ _ _ _ (.agg _ _ _ _ _ _ _ rfl inferInstance inferInstance inferInstance rfl) .nil) (.trans (.drop [_, _] _ _) (.le (Sb.aggs (bs := histC mxH) (by exact ⟨.unfull, .unfull, .unfull, .unfull, .refl _, .lists (by simp) ⟨⟨.refl _, .unfull, trivial⟩, trivial⟩, .lists (by simp) ⟨⟨.refl _, .refl _, .refl _, .unfull, trivial⟩, trivial⟩, .nil _ _, trivial⟩)).le)) ⟨rfl, rfl⟩
theorem mxA1 : ACall Tryz.prog 55 [.agg (histC mxH), iv 0, iv 0] (.glob 1 112 limitsC :: .glob 2 234 firstC :: .glob 3 237 acceptC :: .glob 0 102 asksC :: []) (fun r h' => h' = .glob 1 112 limitsC :: .glob 2 234 firstC :: .glob 3 237 acceptC :: .glob 0 102 asksC :: [] ∧ r = .tup [intsA [2, 3], iv 0]) := (matChg mxH limM 0 0).mono fun _ _ q => ⟨q.1, by rw [q.2, mx_ch, mx_tab]⟩
theorem mxA2 : ACall Tryz.prog 54 [.agg (histC mxH), iv 0, iv 0, iv 1] (.glob 1 112 limitsC :: .glob 2 234 firstC :: .glob 3 237 acceptC :: .glob 0 102 asksC :: []) (fun r h' => h' = .glob 1 112 limitsC :: .glob 2 234 firstC :: .glob 3 237 acceptC :: .glob 0 102 asksC :: [] ∧ r = .tup [bv true, iv 0]) := (matMatches mxH limM 0 0 1).mono fun _ _ q => ⟨q.1, by rw [q.2, mx_m1.1, mx_m1.2]⟩
theorem mxA3 : ACall Tryz.prog 54 [.agg (histC mxH), iv 0, iv 0, iv 4] (.glob 1 112 limitsC :: .glob 2 234 firstC :: .glob 3 237 acceptC :: .glob 0 102 asksC :: []) (fun r h' => h' = .glob 1 112 limitsC :: .glob 2 234 firstC :: .glob 3 237 acceptC :: .glob 0 102 asksC :: [] ∧ r = .tup [bv false, iv 2]) := (matMatches mxH limM 0 0 4).mono fun _ _ q => ⟨q.1, by rw [q.2, mx_m4.1, mx_m4.2]⟩
theorem mxA4 : ACall Tryz.prog 61 [.agg (histC mxH), iv 7] (.glob 1 112 limitsC :: .glob 2 234 firstC :: .glob 3 237 acceptC :: .glob 0 102 asksC :: []) (fun r h' => h' = .glob 1 112 limitsC :: .glob 2 234 firstC :: .glob 3 237 acceptC :: .glob 0 102 asksC :: [] ∧ r = .tup [seensA [⟨0, ⟨0, 1⟩⟩], iv 0]) := (matSet mxH limM 7).mono fun _ _ q => ⟨q.1, by rw [q.2, mxS7.1, mxS7.2]⟩
theorem eqSA (l : List Seen) (hl : l.length ≤ 4611686018427387904) : ACall Tryz.prog 47 [.list false 3 (l.map seenR), .list true 3 (l.map seenR)] [] (fun r h' => h' = [] ∧ r = bv true) := (equalSeen l l hl hl).mono fun _ _ q => ⟨q.1, by rw [q.2, eqF_eq seenEq_eq]; simp⟩
theorem wakes17  : ACall Tryz.prog 51 [] (.glob 1 112 limitsC :: .glob 2 234 firstC :: .glob 3 237 acceptC :: .glob 0 102 asksC :: []) (fun r h' => h' = .glob 1 112 limitsC :: .glob 2 234 firstC :: .glob 3 237 acceptC :: .glob 0 102 asksC :: [] ∧ r = bv true) := by
  refine acall_of_aw Tryz.func51 rfl rfl rfl ?_
  refine rn ?_
  refine qv rfl rfl (qv_call rfl rfl (pcall smallM (Sbs.refl _))) ?_
  refine qv rfl rfl (qv_call rfl rfl (FCall.of_fun mxA1)) ?_
  refine rn ?_
  refine qv rfl rfl (qv_call rfl rfl (pcall smallM (Sbs.refl _))) ?_
  refine qv rfl rfl (qv_call rfl rfl (FCall.of_fun mxA2)) ?_
  refine rn ?_
  refine qv rfl rfl (qv_call rfl rfl (pcall smallM (Sbs.refl _))) ?_
  refine qv rfl rfl (qv_call rfl rfl (FCall.of_fun mxA4)) ?_
  refine rn ?_
  refine qv rfl rfl (qv_call rfl rfl (pcall smallM (Sbs.refl _))) ?_
  refine qv rfl rfl (qv_call rfl rfl (FCall.of_fun mxA3)) ?_
  refine rn ?_
  refine qv rfl rfl (qv_buildSlice rfl rfl) ?_
  refine qv rfl rfl (qv_call rfl rfl (pcall (eqA [2, 3] (by decide)) (Sbs.refl _))) ?_
  refine q1 ?_
  refine q1 ?_
  refine q1 ?_
  refine qq rfl rfl (qr_build (out := [iv 0, iv 1]) rfl (by rfl)) ?_
  refine qq rfl rfl (qr_build (out := [iv 0, iv 0, iv 1]) rfl (by rfl)) ?_
  refine qv rfl rfl (qv_buildSlice rfl rfl) ?_
  refine qv rfl rfl (qv_call rfl rfl (pcall (eqSA [⟨0, ⟨0, 1⟩⟩] (by decide)) (Sbs.refl _))) ?_
  refine rn ?_
  refine rq 0 ?_
  exact ⟨rfl, rfl⟩
end Go.Proofs
/- The walks of law 17's cut and few. Conditions: none. -/
set_option linter.unusedVariables false
set_option linter.unusedSimpArgs false
set_option maxRecDepth 10000
namespace Go.Proofs
open Go Go.Ab
attribute [local irreducible] QR QV OE aops aw dsoup dsoupM dalloc dallocM thn inBlk jsoup jch lsoup
open Go.H
theorem cut17 {full : Bool} (l : List ByteArray) (most : Nat) (hm : most ≤ 1000) : ACall Tryz.prog 111 [.list full 1 (l.map strR), iv most] [] (fun r h' => h' = [] ∧ r = strsA (cutL most l)) := by
  refine acall_of_aw Tryz.func111 rfl rfl rfl ?_
  refine aw_seq (aw_region ?_)
  refine q1 ?_
  refine aops_nil (thn_n ?_)
  refine aw_seq (aw_region ?_)
  refine q1 ?_
  refine q1 ?_
  refine q1 ?_
  refine q1 ?_
  refine qq rfl rfl (qr_minN (l.map strR).length most rfl rfl) ?_
  refine qq rfl rfl (qr_slice_hE (rows' := (l.take most).map strR) rfl rfl (by omega) (by rw [List.length_map]; exact take_min strR l most)) ?_
  refine aops_e rfl (oe_call rfl rfl (FCall.rowS (FCall.of_fun (cloneRowStr _ (by simp; omega) (one_str _)))) rfl ?_)
  rintro _ _ ⟨s, rfl, rfl⟩
  refine rn ?_
  refine aw_loop' (fun k : Nat => k ≤ (l.take most).length) (fun k => ⟨[(17, iv k), (16, iv ((l.take most).map strR).length), (15, .v s.v), (5, .v s.v)], [.row s.v 1 9 ((((l.take most).take k).map cutS).map strR ++ ((l.take most).drop k).map strR)], []⟩) (fun k => (l.take most).length - k) 0 (by omega)
    (by simp only [List.take_zero, List.map_nil, List.nil_append, List.drop_zero]; exact (ent_sub (.cons _ _ _ rfl (.cons _ _ _ rfl (.cons _ _ _ rfl (.cons _ _ _ rfl (.nil))))))) ?_
  intro k hk
  refine rn ?_
  refine aw_cond rfl (fun hc18 => ?_) (fun hc18 => ?_)
  · have hk2 : k < (l.take most).length := by simpa using hc18
    obtain ⟨b, hb⟩ : ∃ b, b = (l.take most)[k] := ⟨_, rfl⟩
    have hd := List.drop_eq_getElem_cons hk2
    rw [← hb] at hd
    have hL := List.length_take_le most l
    have hkl : (((l.take most).take k).map cutS).length = k := by rw [List.length_map, List.length_take]; omega
    have hrow := mid_get (f := strR) (g := strR) (xs := ((l.take most).take k).map cutS) (k := k) hkl hd
    have hk3 : k < ((((l.take most).take k).map cutS).map strR ++ ((l.take most).drop k).map strR).length := by rw [mid_len hkl hk]; exact hk2
    refine aw_skip ?_
    refine thn_n ?_
    refine aw_seq ?_
    refine aw_block ?_
    refine aw_seq (aw_region ?_)
    refine q1 ?_
    refine q1 ?_
    refine qq rfl rfl (qr_load_rp_one rfl hrow rfl) ?_
    refine q1 ?_
    refine q1 ?_
    refine aops_nil (thn_n ?_)
    refine aw_region ?_
    refine q1 ?_
    refine q1 ?_
    refine q1 ?_
    refine q1 ?_
    refine q1 ?_
    refine qq rfl rfl (qr_minN b.size 40 rfl rfl) ?_
    refine qq rfl rfl (qr_slice_string_h rfl rfl (by omega)) ?_
    refine rn ?_
    refine aops_e rfl (oe_store_rp rfl rfl rfl hrow rfl (Nat.le_of_ble_eq_true rfl) ?_)
    refine rn ?_
    have hset := mid_set (f := strR) (g := strR) (l := (l.take most)) (xs := ((l.take most).take k).map cutS) (a := cutS b) (r := (strR b).take 0 ++ [sv (cutS b)] ++ (strR b).drop (0 + 1)) hkl hd rfl
    have hx : ((l.take most).take k).map cutS ++ [cutS b] = ((l.take most).take (k + 1)).map cutS := by rw [List.take_succ_eq_append_getElem hk2, hb]; simp
    rw [hx] at hset
    exact ⟨k + 1, by omega, (by rw [← hset]; exact (ent_sub (.cons _ _ _ rfl (.cons _ _ _ rfl (.cons _ _ _ rfl (.cons _ _ _ rfl (.nil))))))), by omega⟩
  · obtain rfl : k = (l.take most).length := by
      have : ¬ k < (l.take most).length := by simpa using hc18
      omega
    rw [List.take_length, List.drop_length, List.map_nil, List.append_nil]
    refine rn ?_
    exact retq (.cons _ _ _ _ (.tmp _ _ rfl) .nil) vent_freeze ⟨rfl, rfl⟩
set_option maxHeartbeats 4000000 in
theorem few17 (h : Hist) (la : Lim 4611686018427387904 h) : ACall Tryz.prog 52 [.agg (histC h)] [] (fun r h' => h' = [] ∧ r = .agg (histC (fewA h))) := by
  refine acall_of_aw Tryz.func52 rfl rfl rfl ?_
  refine rn ?_
  refine aops_e rfl (oe_box rfl rfl rfl fun b1 => ?_)
  refine aops_e rfl (oe_alloc rfl fun b2 => ?_)
  refine rn0 ?_
  refine aw_cutE (fun _ : Nat => True) (fun b3 => ⟨[(1, .v (.pointer (some ⟨b1, 0, none⟩))), (2, .v (.pointer (some ⟨b2, 0, none⟩))), (3, .v (.pointer (some ⟨b3, 0, none⟩)))], [.box b3 28 [strsA (cutL 12 h.ts), strsA (cutL 8 h.ss), strsA (cutL 10 h.os), strsA (cutL 6 h.ps), nilA, nilA, nilA, nilA], .box b2 28 histZ, .box b1 28 (histC h)], []⟩) ?_ ?_
  · refine aw_draw 14 rfl ?_
    refine rn ?_
    refine dv rfl rfl (by exact qv_call rfl rfl (pcall (cut17 h.ts 12 (by decide)) (Sbs.refl _))) ?_
    refine rn ?_
    refine dv rfl rfl (by exact qv_call rfl rfl (pcall (cut17 h.ss 8 (by decide)) (Sbs.refl _))) ?_
    refine rn ?_
    refine dv rfl rfl (by exact qv_call rfl rfl (pcall (cut17 h.os 10 (by decide)) (Sbs.refl _))) ?_
    refine rn ?_
    refine dv rfl rfl (by exact qv_call rfl rfl (pcall (cut17 h.ps 6 (by decide)) (Sbs.refl _))) ?_
    refine rn ?_
    refine dalloc_a rfl fun b3 => ?_
    refine rn ?_
    exact ⟨b3, trivial, (ent_sub (.cons _ _ _ rfl (.cons _ _ _ rfl (.cons _ _ _ rfl (.nil)))))⟩
  · intro b3 _
    refine rn ?_
    refine aw_loop' (fun x : Nat × SV => x.1 ≤ h.evs.length) (fun x => ⟨[(26, iv x.1), (25, iv (h.evs.map evR).length), (24, evsA h.evs), (1, .v (.pointer (some ⟨b1, 0, none⟩))), (2, .v (.pointer (some ⟨b2, 0, none⟩))), (3, .v (.pointer (some ⟨b3, 0, none⟩)))], [.row x.2.v 9 72 (((h.evs.take (min x.1 70)).map cutE2).map evR), .box b3 28 [strsA (cutL 12 h.ts), strsA (cutL 8 h.ss), strsA (cutL 10 h.os), strsA (cutL 6 h.ps), .v x.2.v, nilA, nilA, nilA], .box b2 28 histZ, .box b1 28 (histC h)], []⟩) (fun x => h.evs.length - x.1) (0, nilS) (by simp)
      (ent_trans (ent_nilrow 9 72) (ent_sub (.cons _ _ _ rfl (.cons _ _ _ rfl (.cons _ _ _ rfl (.cons _ _ _ rfl (.cons _ _ _ rfl (.cons _ _ _ rfl (.nil))))))))) ?_
    rintro ⟨k, s⟩ hk
    simp only at hk
    refine rn ?_
    refine aw_cond rfl (fun hc27 => ?_) (fun hc27 => ?_)
    · have hk2 : k < h.evs.length := by simpa using hc27
      obtain ⟨e, he⟩ : ∃ e, e = h.evs[k] := ⟨_, rfl⟩
      have hrow : (h.evs.map evR)[k]? = some (evR e) := by rw [he]; simp [hk2]
      have hle := la.evs
      refine rn ?_
      refine aops_e rfl (oe_alloc rfl fun b5 => ?_)
      refine rn ?_
      refine aw_cond rfl (fun hc32 => ?_) (fun hc32 => ?_)
      · have hlt : k < 70 := by have := hc32; simp at this; omega
        refine aw_seq (aw_region ?_)
        refine q1 ?_
        refine q1 ?_
        refine q1 ?_
        refine q1 ?_
        refine q1 ?_
        refine qq rfl rfl (qr_minN (e.scan.map seenR).length 12 rfl rfl) ?_
        refine qq rfl rfl (qr_slice_hE (rows' := (e.scan.take 12).map seenR) rfl rfl (by omega) (by rw [List.length_map]; exact take_min seenR e.scan 12)) ?_
        refine qv rfl rfl (qv_call rfl rfl (pcall (cloneSeen ((e.scan.take 12).map seenR) (by simp; omega)) (Sbs.refl _))) ?_
        refine rn ?_
        refine qv rfl rfl (qv_buildSlice rfl rfl) ?_
        refine aops_e rfl (oe_append_row rfl rfl (by have := tk_len h.evs k 70; simp at this ⊢; omega) rfl (fun s46 => ?_) (fun r hr => by simp at hr; subst hr; rfl))
        refine aops_slice s46 fun sv hsv => ?_
        subst hsv
        refine rn ?_
        have hx : ((h.evs.take (min (k + 1) 70)).map cutE2).map evR = ((h.evs.take (min k 70)).map cutE2).map evR ++ [evR (cutE2 e)] := by rw [tk_go hk2 hlt he]; simp
        exact ⟨(k + 1, sv), by simp only; omega, (by rw [hx]; exact (ent_trans (ent_drop (h1 := [_])) (ent_sub (.cons _ _ _ rfl (.cons _ _ _ rfl (.cons _ _ _ rfl (.cons _ _ _ rfl (.cons _ _ _ rfl (.cons _ _ _ rfl (.nil)))))))))), by simp only; omega⟩
      · have hlt : ¬ k < 70 := by have := hc32; simp at this; omega
        refine rn ?_
        exact ⟨(k + 1, s), by simp only; omega, (by rw [tk_no hlt]; exact (ent_trans (ent_drop (h1 := [_])) (ent_sub (.cons _ _ _ rfl (.cons _ _ _ rfl (.cons _ _ _ rfl (.cons _ _ _ rfl (.cons _ _ _ rfl (.cons _ _ _ rfl (.nil)))))))))), by simp only; omega⟩
    · obtain rfl : k = h.evs.length := by
        have : ¬ k < h.evs.length := by simpa using hc27
        omega
      obtain ⟨sE, hsE⟩ : ∃ sE : SV, sE = s := ⟨_, rfl⟩
      simp only [tk_end, ← hsE]
      refine rn ?_
      refine aw_loop' (fun x : Nat × SV => x.1 ≤ h.ords.length) (fun x => ⟨[(52, iv x.1), (51, iv (h.ords.map ordR).length), (50, ordsA h.ords), (1, .v (.pointer (some ⟨b1, 0, none⟩))), (2, .v (.pointer (some ⟨b2, 0, none⟩))), (3, .v (.pointer (some ⟨b3, 0, none⟩)))], [.row x.2.v 2 96 (((h.ords.take (min x.1 14)).map cutO2).map ordR), .row sE.v 9 72 (((h.evs.take 70).map cutE2).map evR), .box b3 28 [strsA (cutL 12 h.ts), strsA (cutL 8 h.ss), strsA (cutL 10 h.os), strsA (cutL 6 h.ps), .v sE.v, .v x.2.v, nilA, nilA], .box b2 28 histZ, .box b1 28 (histC h)], []⟩) (fun x => h.ords.length - x.1) (0, nilS) (by simp)
        (ent_trans (ent_nilrow 2 96) (ent_sub (.cons _ _ _ rfl (.cons _ _ _ rfl (.cons _ _ _ rfl (.cons _ _ _ rfl (.cons _ _ _ rfl (.cons _ _ _ rfl (.nil))))))))) ?_
      rintro ⟨k, s⟩ hk
      simp only at hk
      refine rn ?_
      refine aw_cond rfl (fun hc53 => ?_) (fun hc53 => ?_)
      · have hk2 : k < h.ords.length := by simpa using hc53
        obtain ⟨e, he⟩ : ∃ e, e = h.ords[k] := ⟨_, rfl⟩
        have hrow : (h.ords.map ordR)[k]? = some (ordR e) := by rw [he]; simp [hk2]
        have hle := la.ords
        refine rn ?_
        refine aops_e rfl (oe_alloc rfl fun b7 => ?_)
        refine rn ?_
        refine aw_cond rfl (fun hc58 => ?_) (fun hc58 => ?_)
        · have hlt : k < 14 := by have := hc58; simp at this; omega
          refine aw_draw 14 rfl ?_
          refine dq rfl rfl qrA ?_
          refine dq rfl rfl qrA ?_
          refine dq rfl rfl qrA ?_
          refine dq rfl rfl qrA ?_
          refine dq rfl rfl qrA ?_
          refine dq rfl rfl qrA ?_
          refine dq rfl rfl qrA ?_
          refine dq rfl rfl qrA ?_
          refine dq rfl rfl qrA ?_
          refine dq rfl rfl (qr_minN (e.ts.map intR).length 14 rfl rfl) ?_
          refine dq rfl rfl (qr_slice_hE (rows' := (e.ts.take 14).map intR) rfl rfl (by omega) (by rw [List.length_map]; exact take_min intR e.ts 14)) ?_
          refine dv rfl rfl (by exact qv_call rfl rfl (pcall (cloneInt ((e.ts.take 14).map intR) (by simp; omega)) (Sbs.refl _))) ?_
          refine rn ?_
          refine dv rfl rfl (qv_buildSlice rfl rfl) ?_
          refine rn ?_
          refine aops_e rfl (oe_append_row rfl rfl (by have := tk_len h.ords k 14; simp at this ⊢; omega) rfl (fun s73 => ?_) (fun r hr => by simp at hr; subst hr; rfl))
          refine aops_slice s73 fun sv hsv => ?_
          subst hsv
          refine rn ?_
          have hx : ((h.ords.take (min (k + 1) 14)).map cutO2).map ordR = ((h.ords.take (min k 14)).map cutO2).map ordR ++ [ordR (cutO2 e)] := by rw [tk_go hk2 hlt he]; simp
          exact ⟨(k + 1, sv), by simp only; omega, (by rw [hx]; exact (ent_trans (ent_drop (h1 := [_])) (ent_sub (.cons _ _ _ rfl (.cons _ _ _ rfl (.cons _ _ _ rfl (.cons _ _ _ rfl (.cons _ _ _ rfl (.cons _ _ _ rfl (.nil)))))))))), by simp only; omega⟩
        · have hlt : ¬ k < 14 := by have := hc58; simp at this; omega
          refine rn ?_
          exact ⟨(k + 1, s), by simp only; omega, (by rw [tk_no hlt]; exact (ent_trans (ent_drop (h1 := [_])) (ent_sub (.cons _ _ _ rfl (.cons _ _ _ rfl (.cons _ _ _ rfl (.cons _ _ _ rfl (.cons _ _ _ rfl (.cons _ _ _ rfl (.nil)))))))))), by simp only; omega⟩
      · obtain rfl : k = h.ords.length := by
          have : ¬ k < h.ords.length := by simpa using hc53
          omega
        obtain ⟨sO, hsO⟩ : ∃ sO : SV, sO = s := ⟨_, rfl⟩
        simp only [tk_end, ← hsO]
        refine rn ?_
        refine aw_loop' (fun x : Nat × SV => x.1 ≤ h.mats.length) (fun x => ⟨[(79, iv x.1), (78, iv (h.mats.map matR).length), (77, matsA h.mats), (1, .v (.pointer (some ⟨b1, 0, none⟩))), (2, .v (.pointer (some ⟨b2, 0, none⟩))), (3, .v (.pointer (some ⟨b3, 0, none⟩)))], [.row x.2.v 4 87 (((h.mats.take (min x.1 20)).map cutM2).map matR), .row sO.v 2 96 (((h.ords.take 14).map cutO2).map ordR), .row sE.v 9 72 (((h.evs.take 70).map cutE2).map evR), .box b3 28 [strsA (cutL 12 h.ts), strsA (cutL 8 h.ss), strsA (cutL 10 h.os), strsA (cutL 6 h.ps), .v sE.v, .v sO.v, .v x.2.v, nilA], .box b2 28 histZ, .box b1 28 (histC h)], []⟩) (fun x => h.mats.length - x.1) (0, nilS) (by simp)
          (ent_trans (ent_nilrow 4 87) (ent_sub (.cons _ _ _ rfl (.cons _ _ _ rfl (.cons _ _ _ rfl (.cons _ _ _ rfl (.cons _ _ _ rfl (.cons _ _ _ rfl (.nil))))))))) ?_
        rintro ⟨k, s⟩ hk
        simp only at hk
        refine rn ?_
        refine aw_cond rfl (fun hc80 => ?_) (fun hc80 => ?_)
        · have hk2 : k < h.mats.length := by simpa using hc80
          obtain ⟨e, he⟩ : ∃ e, e = h.mats[k] := ⟨_, rfl⟩
          have hrow : (h.mats.map matR)[k]? = some (matR e) := by rw [he]; simp [hk2]
          have hle := la.mats
          refine rn ?_
          refine aops_e rfl (oe_alloc rfl fun b9 => ?_)
          refine rn ?_
          refine aw_cond rfl (fun hc85 => ?_) (fun hc85 => ?_)
          · have hlt : k < 20 := by have := hc85; simp at this; omega
            refine aw_seq (aw_region ?_)
            refine q1 ?_
            refine q1 ?_
            refine q1 ?_
            refine q1 ?_
            refine q1 ?_
            refine qq rfl rfl (qr_minN (e.ts.map intR).length 14 rfl rfl) ?_
            refine qq rfl rfl (qr_slice_hE (rows' := (e.ts.take 14).map intR) rfl rfl (by omega) (by rw [List.length_map]; exact take_min intR e.ts 14)) ?_
            refine qv rfl rfl (qv_call rfl rfl (pcall (cloneInt ((e.ts.take 14).map intR) (by simp; omega)) (Sbs.refl _))) ?_
            refine rn ?_
            refine qv rfl rfl (qv_buildSlice rfl rfl) ?_
            refine aops_e rfl (oe_append_row rfl rfl (by have := tk_len h.mats k 20; simp at this ⊢; omega) rfl (fun s99 => ?_) (fun r hr => by simp at hr; subst hr; rfl))
            refine aops_slice s99 fun sv hsv => ?_
            subst hsv
            refine rn ?_
            have hx : ((h.mats.take (min (k + 1) 20)).map cutM2).map matR = ((h.mats.take (min k 20)).map cutM2).map matR ++ [matR (cutM2 e)] := by rw [tk_go hk2 hlt he]; simp
            exact ⟨(k + 1, sv), by simp only; omega, (by rw [hx]; exact (ent_trans (ent_drop (h1 := [_])) (ent_sub (.cons _ _ _ rfl (.cons _ _ _ rfl (.cons _ _ _ rfl (.cons _ _ _ rfl (.cons _ _ _ rfl (.cons _ _ _ rfl (.nil)))))))))), by simp only; omega⟩
          · have hlt : ¬ k < 20 := by have := hc85; simp at this; omega
            refine rn ?_
            exact ⟨(k + 1, s), by simp only; omega, (by rw [tk_no hlt]; exact (ent_trans (ent_drop (h1 := [_])) (ent_sub (.cons _ _ _ rfl (.cons _ _ _ rfl (.cons _ _ _ rfl (.cons _ _ _ rfl (.cons _ _ _ rfl (.cons _ _ _ rfl (.nil)))))))))), by simp only; omega⟩
        · obtain rfl : k = h.mats.length := by
            have : ¬ k < h.mats.length := by simpa using hc80
            omega
          obtain ⟨sM, hsM⟩ : ∃ sM : SV, sM = s := ⟨_, rfl⟩
          simp only [tk_end, ← hsM]
          refine aw_exit ?_
          refine thn_e ?_
          refine thn_e ?_
          refine inBlk_hit ?_
          refine thn_n ?_
          refine aw_seq (aw_region ?_)
          refine q1 ?_
          refine q1 ?_
          refine q1 ?_
          refine q1 ?_
          refine q1 ?_
          refine qq rfl rfl (qr_minN (h.wants.map wanR).length 12 rfl rfl) ?_
          refine qq rfl rfl (qr_slice_hE (rows' := (h.wants.take 12).map wanR) rfl rfl (by omega) (by rw [List.length_map]; exact take_min wanR h.wants 12)) ?_
          refine qv rfl rfl (qv_call rfl rfl (pcall (cloneWan ((h.wants.take 12).map wanR) (by simp; omega)) (Sbs.refl _))) ?_
          refine rn ?_
          exact retq (.cons _ _ _ _ (.agg _ _ _ _ _ _ _ rfl inferInstance inferInstance inferInstance rfl) .nil) (.trans (vent_freeze_cell [_, _, _, _, _, _] _) (.trans (vent_freeze_cell [_, _, _, _, _] _) (.trans (vent_freeze_cell [_, _, _, _] _) (.drop [_, _, _] _ _)))) ⟨rfl, rfl⟩
end Go.Proofs
/- The walk of MatchRanks. Conditions: none. -/
set_option linter.unusedVariables false
set_option linter.unusedSimpArgs false
set_option maxRecDepth 10000
namespace Go.Proofs
open Go Go.Ab
attribute [local irreducible] QR QV OE aops aw dsoup dsoupM dalloc dallocM thn inBlk jsoup jch lsoup
open Go.H
theorem isB_iff {n m : Int} : isB n m = true ↔ 0 ≤ n ∧ n < m := by rw [isB, Bool.and_eq_true, decide_eq_true_eq, decide_eq_true_eq]
theorem isB_t {n m : Int} (h : isB n m = true) : 0 ≤ n ∧ n < m := isB_iff.1 h
theorem isB_f {n m : Int} (h : isB n m = false) : ¬ (0 ≤ n ∧ n < m) := fun q => by rw [isB_iff.2 q] at h; cases h
theorem mr_c {h : Hist} {p x n : Int} (hc : checkI h ≠ 0) : mtB h p x n = false ∧ mtE h p x n = checkI h ∧ chL h p x = [] ∧ tabE h p x = checkI h := by
  have he := tab_c (p := p) (x := x) hc
  obtain ⟨a, b, c⟩ := mt_e (h := h) (p := p) (x := x) (r := n) (by rw [he]; exact hc)
  exact ⟨b, by rw [a, he], c, he⟩
theorem mr_n {h : Hist} {p x n : Int} (hc : checkI h = 0) (hn : ¬ ((0 ≤ x ∧ x < h.os.length) ∧ 0 ≤ p ∧ p < h.ps.length)) : mtB h p x n = false ∧ mtE h p x n = 2 ∧ chL h p x = [] ∧ tabE h p x = 2 := by
  have he := tab_n hc hn
  obtain ⟨a, b, c⟩ := mt_e (h := h) (p := p) (x := x) (r := n) (by rw [he]; decide)
  exact ⟨b, by rw [a, he], c, he⟩
theorem tabP_n {h : Hist} {p x n : Int} (he : tabE h p x = 0) : (0 ≤ n ∧ n < (((insR h x).map intR).length : Int) + 1) ↔ (0 ≤ n ∧ n < (tabP h p x).length) := by
  rw [List.length_map, tab_len, tab_ins he]; constructor <;> (intro q; omega)
theorem mr_y {h : Hist} {p x : Int} {a : Nat} (he : tabE h p x = 0) (ha : (a : Int) < (((insR h x).map intR).length : Int) + 1) : mtB h p x a = mtcR h p x a ∧ mtE h p x a = 0 := by
  have := ((tabP_n (n := (a : Int)) he).1 ⟨by omega, ha⟩).2
  obtain ⟨q1, q2⟩ := mt_y (k := a) he (by omega)
  exact ⟨by rw [q2, tab_mtR (tab_ins he)], q1⟩
set_option maxHeartbeats 4000000 in
theorem matchRanks (x : Hist) (l : List (Int × Int × Int)) (lb : Lim 4611686018427387904 x) (hl : l.length ≤ 4611686018427387904) : ACall Tryz.prog 10 [.agg (histC x), trisA l] (.glob 1 112 limitsC :: .glob 2 234 firstC :: .glob 3 237 acceptC :: .glob 0 102 asksC :: []) (fun r h' => h' = .glob 1 112 limitsC :: .glob 2 234 firstC :: .glob 3 237 acceptC :: .glob 0 102 asksC :: [] ∧ r = bv true) := by
  refine acall_of_aw Tryz.func10 rfl rfl rfl ?_
  refine rn ?_
  refine aops_e rfl (oe_box rfl rfl rfl fun b2 => ?_)
  refine rn ?_
  refine qv rfl rfl (qv_call rfl rfl (FCall.qt (FCall.of_fun wakes17) ((pt1 _ _ _).trans (.cons _ ((pt1 _ _ _).trans (.cons _ ((pt1 _ _ _).trans (.cons _ (pt1 _ _ _))))))))) ?_
  refine rn ?_
  refine aw_cond rfl (fun hc18 => ?_) (fun hc18 => ?_)
  · exact absurd hc18 (by decide)
  · refine rn ?_
    refine qv rfl rfl (qv_call rfl rfl (pcall (few17 x lb) (Sbs.refl _))) ?_
    refine aops_e rfl (oe_alloc rfl fun b5 => ?_)
    refine rn ?_
    refine qv rfl rfl (qv_call rfl rfl (pcall (refuses17 (fewA x) ((fewA_lim x).mono (by decide))) (Sbs.refl _))) ?_
    refine rn ?_
    refine aw_rng (l.length) (fun j : Nat => True) (fun j => [(25, iv j)]) [(2, _), (5, _), (6, _), (23, _), (24, _)] trivial ?_
    intro j lj _
    refine rn ?_
    refine aw_cond rfl (fun hc26 => ?_) (fun hc26 => ?_)
    · have hj := ltMap hc26
      have rj := atRow (f := triR) hj
      generalize l[j] = n at rj
      obtain ⟨p, q, n⟩ := n
      replace rj : (l.map triR)[j]? = some [iv p, iv q, iv n] := rj
      refine rn ?_
      refine aops_e rfl (oe_alloc rfl fun b8 => ?_)
      refine rn ?_
      refine aw_cond rfl (fun hc31 => ?_) (fun hc31 => ?_)
      · refine rn ?_
        refine aw_draw 3 rfl ?_
        refine rn ?_
        refine dv rfl rfl (by exact qv_call rfl rfl (pcall (few17 x lb) (Sbs.refl _))) ?_
        refine rn ?_
        refine qv rfl rfl (qv_call rfl rfl (pcall (same16 (fewA x) ((fewA_lim x).mono (by decide))) (Sbs.refl _))) ?_
        refine rn ?_
        first | (refine rq 2 ?_; exact ⟨rfl, rfl⟩) | (refine rq 3 ?_; exact ⟨rfl, rfl⟩)
      · refine rn ?_
        refine qq rfl rfl (qr_indexAddr_int rfl rfl (by decide) (by decide)) ?_
        refine rn ?_
        refine qq rfl rfl (qr_indexAddr_int rfl rfl (by decide) (by decide)) ?_
        refine rn ?_
        refine qq rfl rfl (qr_indexAddr_int rfl rfl (by decide) (by decide)) ?_
        refine rn ?_
        refine qv rfl rfl (qv_call rfl rfl (FCall.qt (FCall.of_fun (matMatches (fewA x) ((fewA_lim x).mono (by decide)) p q n)) ((pt3 _ _ _ _ _).trans (.cons _ ((pt3 _ _ _ _ _).trans (.cons _ ((pt3 _ _ _ _ _).trans (.cons _ (pt3 _ _ _ _ _))))))))) ?_
        refine rn ?_
        refine qq rfl rfl (qr_indexAddr_int rfl rfl (by decide) (by decide)) ?_
        refine rn ?_
        refine qq rfl rfl (qr_indexAddr_int rfl rfl (by decide) (by decide)) ?_
        refine rn ?_
        refine qv rfl rfl (qv_call rfl rfl (FCall.qt (FCall.of_fun (matChg (fewA x) ((fewA_lim x).mono (by decide)) p q)) ((pt3 _ _ _ _ _).trans (.cons _ ((pt3 _ _ _ _ _).trans (.cons _ ((pt3 _ _ _ _ _).trans (.cons _ (pt3 _ _ _ _ _))))))))) ?_
        refine rn ?_
        refine aw_cond rfl (fun hc55 => ?_) (fun hc55 => ?_)
        · have hc : checkI (fewA x) = 0 := by simpa using hc55
          refine rn ?_
          refine qq rfl rfl (qr_indexAddr_int rfl rfl (by decide) (by decide)) ?_
          refine rn ?_
          refine qv rfl rfl (qv_call rfl rfl (pcall (refIs p ((fewA x).ps.map strR).length) (Sbs.refl _))) ?_
          refine rn ?_
          refine asplit (fun hg15_6 => ?_) (fun hg15_6 => ?_)
          · refine qq rfl rfl (qr_indexAddr_int rfl rfl (by decide) (by decide)) ?_
            refine rn ?_
            refine qv rfl rfl (qv_call rfl rfl (pcall (refIs q ((fewA x).os.map strR).length) (Sbs.refl _))) ?_
            refine rn ?_
            refine aw_cond rfl (fun hc69 => ?_) (fun hc69 => ?_)
            · have i1 := isB_t hg15_6
              have i2 := isB_t hc69
              rw [List.length_map] at i1 i2
              have he : tabE (fewA x) p q = 0 := tab_0.2 ⟨hc, i2, i1⟩
              have lI := insR_le ((fewA_lim x).mono (by decide) : Lim 1000000 (fewA x)) q
              rw [ch_y he, he]
              refine rn ?_
              refine qq rfl rfl (qr_indexAddr_int rfl rfl (by decide) (by decide)) ?_
              refine rn ?_
              refine qq rfl rfl (qr_indexAddr_int rfl rfl (by decide) (by decide)) ?_
              refine rn ?_
              refine qv rfl rfl (qv_call rfl rfl (pcall (refChanges17 (fewA x) ((fewA_lim x).mono (by decide) : Lim 1000000 (fewA x)) p q) (Sbs.refl _))) ?_
              refine rn ?_
              refine aw_draw 8 rfl ?_
              refine dq rfl rfl (qr_indexAddr_int rfl rfl (by decide) (by decide)) ?_
              refine rn ?_
              refine dq rfl rfl (qr_indexAddr_int rfl rfl (by decide) (by decide)) ?_
              refine rn ?_
              refine dv rfl rfl (by exact qv_call rfl rfl (pcall (refInst16 (fewA x) ((fewA_lim x).mono (by decide) : Lim 1000000 (fewA x)) q) (Sbs.refl _))) ?_
              refine dq rfl rfl qrA ?_
              refine dq rfl rfl (qr_ari rfl rfl rfl (by rw [List.length_map]; omega)) ?_
              refine rn ?_
              refine qv rfl rfl (qv_call rfl rfl (pcall (refIs n ((((insR (fewA x) q).map intR).length : Int) + 1)) (Sbs.refl _))) ?_
              refine rn ?_
              refine aw_cond rfl (fun hc84 => ?_) (fun hc84 => ?_)
              · have i3 := isB_t hc84
                obtain ⟨a, rfl⟩ := Int.eq_ofNat_of_zero_le i3.1
                obtain ⟨u1, u2⟩ := mr_y he i3.2
                rw [u1, u2]
                refine rn ?_
                refine qq rfl rfl (qr_indexAddr_int rfl rfl (by decide) (by decide)) ?_
                refine rn ?_
                refine qq rfl rfl (qr_indexAddr_int rfl rfl (by decide) (by decide)) ?_
                refine rn ?_
                refine qq rfl rfl (qr_indexAddr_int rfl rfl (by decide) (by decide)) ?_
                refine rn ?_
                refine qv rfl rfl (qv_call rfl rfl (pcall (refMatches17 (fewA x) ((fewA_lim x).mono (by decide) : Lim 1000000 (fewA x)) p q (a : Int) i3.1 (by have := i3.2; rw [List.length_map] at this; omega)) (Sbs.refl _))) ?_
                refine q1 ?_
                refine q1 ?_
                refine aops_nil (thn_n ?_)
                refine aw_seq (aw_region ?_)
                refine q1 ?_
                refine q1 ?_
                refine qq rfl rfl (qr_isB (c := false) (qr_nebool rfl rfl) (by simp)) ?_
                refine q1 ?_
                refine q1 ?_
                refine q1 ?_
                refine qq rfl rfl (qr_cmp (c := false) rfl rfl (congrArg some (bne_self_eq_false _))) ?_
                refine q1 ?_
                refine q1 ?_
                refine q1 ?_
                refine q1 ?_
                refine qq rfl rfl (qr_cmp (c := false) rfl rfl (congrArg some (bne_self_eq_false _))) ?_
                refine rn ?_
                first | refine qv rfl rfl (qv_call rfl rfl (pcall (eqI (chR (fun k : Nat => mtcR (fewA x) p q (k : Int)) (insR (fewA x) q).length) (Nat.le_trans (chR_len _ _) (Nat.le_trans lI (by decide)))) (Sbs.refl _))) ?_ | refine qv rfl rfl (qv_call rfl rfl (pcall (eqI [] (by decide)) (by exact ⟨.refl _, .nil _ _, trivial⟩))) ?_
                refine rn ?_
                refine aw_cond rfl (fun hc111 => ?_) (fun hc111 => ?_)
                · first | cases hc111 | exact absurd hc111 (by decide) | (exfalso; simp_all; done)
                · refine rn ?_
                  exact ⟨hj, trivial, eA⟩
              · have i3 := isB_f hc84
                rw [tabP_n he] at i3
                obtain ⟨u1, u2⟩ := mt_r he i3
                rw [u1, u2]
                refine aw_skip ?_
                refine thn_n ?_
                refine aw_seq (aw_region ?_)
                refine q1 ?_
                refine q1 ?_
                refine qq rfl rfl (qr_isB (c := false) (qr_nebool rfl rfl) (by simp)) ?_
                refine q1 ?_
                refine q1 ?_
                refine q1 ?_
                refine qq rfl rfl (qr_cmp (c := false) rfl rfl (congrArg some (bne_self_eq_false _))) ?_
                refine q1 ?_
                refine q1 ?_
                refine q1 ?_
                refine q1 ?_
                refine qq rfl rfl (qr_cmp (c := false) rfl rfl (congrArg some (bne_self_eq_false _))) ?_
                refine rn ?_
                first | refine qv rfl rfl (qv_call rfl rfl (pcall (eqI (chR (fun k : Nat => mtcR (fewA x) p q (k : Int)) (insR (fewA x) q).length) (Nat.le_trans (chR_len _ _) (Nat.le_trans lI (by decide)))) (Sbs.refl _))) ?_ | refine qv rfl rfl (qv_call rfl rfl (pcall (eqI [] (by decide)) (by exact ⟨.refl _, .nil _ _, trivial⟩))) ?_
                refine rn ?_
                refine aw_cond rfl (fun hc111 => ?_) (fun hc111 => ?_)
                · first | cases hc111 | exact absurd hc111 (by decide) | (exfalso; simp_all; done)
                · refine rn ?_
                  exact ⟨hj, trivial, eA⟩
            · obtain ⟨u1, u2, u3, u4⟩ := mr_n (p := p) (x := q) (n := n) hc (by first | (have i1 := isB_f hg15_6; rw [List.length_map] at i1; exact fun u => i1 u.2) | (have i1 := isB_f hc69; rw [List.length_map] at i1; exact fun u => i1 u.1))
              rw [u1, u2, u3, u4]
              refine aw_skip ?_
              refine thn_n ?_
              refine aw_seq (aw_region ?_)
              refine q1 ?_
              refine q1 ?_
              refine qq rfl rfl (qr_isB (c := false) (qr_nebool rfl rfl) (by simp)) ?_
              refine q1 ?_
              refine q1 ?_
              refine q1 ?_
              refine qq rfl rfl (qr_cmp (c := false) rfl rfl (congrArg some (bne_self_eq_false _))) ?_
              refine q1 ?_
              refine q1 ?_
              refine q1 ?_
              refine q1 ?_
              refine qq rfl rfl (qr_cmp (c := false) rfl rfl (congrArg some (bne_self_eq_false _))) ?_
              refine rn ?_
              first | refine qv rfl rfl (qv_call rfl rfl (pcall (eqI (chR (fun k : Nat => mtcR (fewA x) p q (k : Int)) (insR (fewA x) q).length) (Nat.le_trans (chR_len _ _) (Nat.le_trans lI (by decide)))) (Sbs.refl _))) ?_ | refine qv rfl rfl (qv_call rfl rfl (pcall (eqI [] (by decide)) (by exact ⟨.refl _, .nil _ _, trivial⟩))) ?_
              refine rn ?_
              refine aw_cond rfl (fun hc111 => ?_) (fun hc111 => ?_)
              · first | cases hc111 | exact absurd hc111 (by decide) | (exfalso; simp_all; done)
              · refine rn ?_
                exact ⟨hj, trivial, eA⟩
          · refine rn ?_
            refine aw_cond rfl (fun hc69 => ?_) (fun hc69 => ?_)
            · first | cases hc69 | exact absurd hc69 (by decide) | (exfalso; simp_all; done)
            · obtain ⟨u1, u2, u3, u4⟩ := mr_n (p := p) (x := q) (n := n) hc (by first | (have i1 := isB_f hg15_6; rw [List.length_map] at i1; exact fun u => i1 u.2) | (have i1 := isB_f hc69; rw [List.length_map] at i1; exact fun u => i1 u.1))
              rw [u1, u2, u3, u4]
              refine aw_skip ?_
              refine thn_n ?_
              refine aw_seq (aw_region ?_)
              refine q1 ?_
              refine q1 ?_
              refine qq rfl rfl (qr_isB (c := false) (qr_nebool rfl rfl) (by simp)) ?_
              refine q1 ?_
              refine q1 ?_
              refine q1 ?_
              refine qq rfl rfl (qr_cmp (c := false) rfl rfl (congrArg some (bne_self_eq_false _))) ?_
              refine q1 ?_
              refine q1 ?_
              refine q1 ?_
              refine q1 ?_
              refine qq rfl rfl (qr_cmp (c := false) rfl rfl (congrArg some (bne_self_eq_false _))) ?_
              refine rn ?_
              first | refine qv rfl rfl (qv_call rfl rfl (pcall (eqI (chR (fun k : Nat => mtcR (fewA x) p q (k : Int)) (insR (fewA x) q).length) (Nat.le_trans (chR_len _ _) (Nat.le_trans lI (by decide)))) (Sbs.refl _))) ?_ | refine qv rfl rfl (qv_call rfl rfl (pcall (eqI [] (by decide)) (by exact ⟨.refl _, .nil _ _, trivial⟩))) ?_
              refine rn ?_
              refine aw_cond rfl (fun hc111 => ?_) (fun hc111 => ?_)
              · first | cases hc111 | exact absurd hc111 (by decide) | (exfalso; simp_all; done)
              · refine rn ?_
                exact ⟨hj, trivial, eA⟩
        · have hc : checkI (fewA x) ≠ 0 := by simpa using hc55
          obtain ⟨u1, u2, u3, u4⟩ := mr_c (p := p) (x := q) (n := n) hc
          rw [u1, u2, u3, u4]
          refine aw_skip ?_
          refine thn_n ?_
          refine aw_seq (aw_region ?_)
          refine q1 ?_
          refine q1 ?_
          refine qq rfl rfl (qr_isB (c := false) (qr_nebool rfl rfl) (by simp)) ?_
          refine q1 ?_
          refine q1 ?_
          refine q1 ?_
          refine qq rfl rfl (qr_cmp (c := false) rfl rfl (congrArg some (bne_self_eq_false _))) ?_
          refine q1 ?_
          refine q1 ?_
          refine q1 ?_
          refine q1 ?_
          refine qq rfl rfl (qr_cmp (c := false) rfl rfl (congrArg some (bne_self_eq_false _))) ?_
          refine rn ?_
          first | refine qv rfl rfl (qv_call rfl rfl (pcall (eqI (chR (fun k : Nat => mtcR (fewA x) p q (k : Int)) (insR (fewA x) q).length) (Nat.le_trans (chR_len _ _) (Nat.le_trans lI (by decide)))) (Sbs.refl _))) ?_ | refine qv rfl rfl (qv_call rfl rfl (pcall (eqI [] (by decide)) (by exact ⟨.refl _, .nil _ _, trivial⟩))) ?_
          refine rn ?_
          refine aw_cond rfl (fun hc111 => ?_) (fun hc111 => ?_)
          · first | cases hc111 | exact absurd hc111 (by decide) | (exfalso; simp_all; done)
          · refine rn ?_
            exact ⟨hj, trivial, eA⟩
    · have qj := geMap hc26 lj
      refine rn ?_
      refine aw_draw 3 rfl ?_
      refine rn ?_
      refine dv rfl rfl (by exact qv_call rfl rfl (pcall (few17 x lb) (Sbs.refl _))) ?_
      refine rn ?_
      refine qv rfl rfl (qv_call rfl rfl (pcall (same16 (fewA x) ((fewA_lim x).mono (by decide))) (Sbs.refl _))) ?_
      refine rn ?_
      first | (refine rq 2 ?_; exact ⟨rfl, rfl⟩) | (refine rq 3 ?_; exact ⟨rfl, rfl⟩)
end Go.Proofs
