/- The walk of the reference's Spoken. Conditions: none. -/
import Derived.Test.YtcickpoefijkmaaGreatDoorComplG
set_option linter.unusedVariables false
set_option linter.unusedSimpArgs false
set_option maxRecDepth 10000
namespace Go.Proofs
open Go Go.Ab
attribute [local irreducible] QR QV OE aops aw dsoup dsoupM dalloc dallocM thn inBlk
open Go.H
set_option maxHeartbeats 4000000 in
theorem refSpoken (h : Hist) (la : Lim 3000 h) : ACall Tryz.prog 34 [.agg (histC h)] [] (fun r h' => h' = [] ∧ r = .agg [intsA (spokenF h 0), intsA (spokenF h 1), intsA (spokenF h 2), intsA (spokenF h 3)]) := by
  refine acall_of_aw Tryz.func34 rfl rfl rfl ?_
  refine rn ?_
  refine aops_e rfl (oe_box rfl rfl rfl fun b1 => ?_)
  refine aops_e rfl (oe_alloc rfl fun b2 => ?_)
  refine rn ?_
  refine aops_e rfl (oe_alloc rfl fun b3 => ?_)
  refine rn ?_
  refine aw_rng4 h.evs.length (fun k s0 s1 s2 s3 => ⟨[(21, iv k), (1, .v (.pointer (some ⟨b1, 0, none⟩))), (2, .v (.pointer (some ⟨b2, 0, none⟩))), (3, .v (.pointer (some ⟨b3, 0, none⟩))), (19, evsA h.evs), (20, iv (h.evs.map evR).length)], [.row s0.v 1 3 (((spE h k) 0).map intR), .row s1.v 1 3 (((spE h k) 1).map intR), .row s2.v 1 3 (((spE h k) 2).map intR), .row s3.v 1 3 (((spE h k) 3).map intR), .box b3 76 [.v s0.v, .v s1.v, .v s2.v, .v s3.v], .box b2 76 [.v (.slice none 0 0), .v (.slice none 0 0), .v (.slice none 0 0), .v (.slice none 0 0)], .box b1 28 (histC h)], []⟩) (⟨none, 0, 0⟩) (⟨none, 0, 0⟩) (⟨none, 0, 0⟩) (⟨none, 0, 0⟩) (ent_trans (ent_nilrow 1 3) (ent_trans (ent_nilrow 1 3) (ent_trans (ent_nilrow 1 3) (ent_trans (ent_nilrow 1 3) es)))) ?_
  intro k s0 s1 s2 s3 lk
  refine rn ?_
  refine aw_cond rfl (fun hc22 => ?_) (fun hc22 => ?_)
  · have hk := ltMap hc22
    have rk := atRow (f := evR) hk
    have bd := bdE la k lk
    have ls := la.scans h.evs[k] (List.getElem_mem hk)
    have le := la.evs
    refine rn ?_
    refine aops_e rfl (oe_alloc rfl fun b5 => ?_)
    refine rn ?_
    refine qq rfl rfl (qr_indexAddr_int rfl rfl (by decide) (by decide)) ?_
    refine rn ?_
    refine aops_e rfl (oe_call rfl rfl (fcall_row (FCall.of_fun (ref11First _ _ _ (by have := bd 0; omega)))) rfl ?_)
    rintro _ _ ⟨s', rfl, rfl⟩
    refine qq rfl rfl (qr_indexAddr_int rfl rfl (by decide) (by decide)) ?_
    refine rn0 ?_
    refine aw_cut4 (fun s0 s1 s2 s3 => ⟨[(5, .v (.pointer (some ⟨b5, 0, none⟩))), (21, iv k), (20, iv (h.evs.map evR).length), (19, evsA h.evs), (1, .v (.pointer (some ⟨b1, 0, none⟩))), (2, .v (.pointer (some ⟨b2, 0, none⟩))), (3, .v (.pointer (some ⟨b3, 0, none⟩)))], [.box b5 39 (evR h.evs[k]), .row s0.v 1 3 (((stepK (stepF (spE h k) (0, h.evs[k].t)) h.evs[k]) 0).map intR), .row s1.v 1 3 (((stepK (stepF (spE h k) (0, h.evs[k].t)) h.evs[k]) 1).map intR), .row s2.v 1 3 (((stepK (stepF (spE h k) (0, h.evs[k].t)) h.evs[k]) 2).map intR), .row s3.v 1 3 (((stepK (stepF (spE h k) (0, h.evs[k].t)) h.evs[k]) 3).map intR), .box b3 76 [.v s0.v, .v s1.v, .v s2.v, .v s3.v], .box b2 76 [.v (.slice none 0 0), .v (.slice none 0 0), .v (.slice none 0 0), .v (.slice none 0 0)], .box b1 28 (histC h)], []⟩) ?_ ?_
    · refine rn ?_
      refine aw_cond rfl (fun hc33 => ?_) (fun hc33 => ?_)
      · refine rn ?_
        refine qq rfl rfl (qr_indexAddr_int rfl rfl (by decide) (by decide)) ?_
        refine rn ?_
        refine aops_e rfl (oe_call rfl rfl (fcall_row (FCall.of_fun (ref11First _ _ _ (by have := bd 1; omega)))) rfl ?_)
        rintro _ _ ⟨s', rfl, rfl⟩
        refine qq rfl rfl (qr_indexAddr_int rfl rfl (by decide) (by decide)) ?_
        refine rn ?_
        exact ⟨_, _, _, _, by unfold stepK; first | (rw [if_pos (by simpa using hc33)]; exact eA) | (rw [if_neg (by simpa using hc33), if_pos (by simp at hc33; simp_all)]; exact eA) | (rw [if_neg (by simpa using hc33), if_neg (by simp at hc33; simp_all), if_pos (by simpa using hc56)]; exact eA) | (rw [if_neg (by simpa using hc33), if_neg (by simp at hc33; simp_all), if_neg (by simpa using hc56)]; exact eA)⟩
      · refine rn ?_
        refine aw_cond rfl (fun hc41 => ?_) (fun hc41 => ?_)
        · refine rn ?_
          refine aw_cond rfl (fun hc41 => ?_) (fun hc41 => ?_)
          · refine rn ?_
            refine qq rfl rfl (qr_indexAddr_int rfl rfl (by decide) (by decide)) ?_
            refine rn ?_
            refine aops_e rfl (oe_call rfl rfl (fcall_row (FCall.of_fun (ref11First _ _ _ (by have := bd 2; omega)))) rfl ?_)
            rintro _ _ ⟨s', rfl, rfl⟩
            refine qq rfl rfl (qr_indexAddr_int rfl rfl (by decide) (by decide)) ?_
            refine rn ?_
            refine qq rfl rfl (qr_indexAddr_int rfl rfl (by decide) (by decide)) ?_
            refine rn ?_
            refine aops_e rfl (oe_call rfl rfl (fcall_row (FCall.of_fun (ref11Made _ _ _ (by have := (bd.f (0, h.evs[k].t)) 0; exact Nat.le_trans this (by omega))))) rfl ?_)
            rintro _ _ ⟨s', rfl, rfl⟩
            refine qq rfl rfl (qr_indexAddr_int rfl rfl (by decide) (by decide)) ?_
            refine rn ?_
            exact ⟨_, _, _, _, by unfold stepK; first | (rw [if_pos (by simpa using hc33)]; exact eA) | (rw [if_neg (by simpa using hc33), if_pos (by simp at hc33; simp_all)]; exact eA) | (rw [if_neg (by simpa using hc33), if_neg (by simp at hc33; simp_all), if_pos (by simpa using hc56)]; exact eA) | (rw [if_neg (by simpa using hc33), if_neg (by simp at hc33; simp_all), if_neg (by simpa using hc56)]; exact eA)⟩
          · first | cases hc41 | exact absurd hc41 (by decide) | (exfalso; simp_all; done)
        · refine rn ?_
          refine aw_cond rfl (fun hc41 => ?_) (fun hc41 => ?_)
          · refine rn ?_
            refine qq rfl rfl (qr_indexAddr_int rfl rfl (by decide) (by decide)) ?_
            refine rn ?_
            refine aops_e rfl (oe_call rfl rfl (fcall_row (FCall.of_fun (ref11First _ _ _ (by have := bd 2; omega)))) rfl ?_)
            rintro _ _ ⟨s', rfl, rfl⟩
            refine qq rfl rfl (qr_indexAddr_int rfl rfl (by decide) (by decide)) ?_
            refine rn ?_
            refine qq rfl rfl (qr_indexAddr_int rfl rfl (by decide) (by decide)) ?_
            refine rn ?_
            refine aops_e rfl (oe_call rfl rfl (fcall_row (FCall.of_fun (ref11Made _ _ _ (by have := (bd.f (0, h.evs[k].t)) 0; exact Nat.le_trans this (by omega))))) rfl ?_)
            rintro _ _ ⟨s', rfl, rfl⟩
            refine qq rfl rfl (qr_indexAddr_int rfl rfl (by decide) (by decide)) ?_
            refine rn ?_
            exact ⟨_, _, _, _, by unfold stepK; first | (rw [if_pos (by simpa using hc33)]; exact eA) | (rw [if_neg (by simpa using hc33), if_pos (by simp at hc33; simp_all)]; exact eA) | (rw [if_neg (by simpa using hc33), if_neg (by simp at hc33; simp_all), if_pos (by simpa using hc56)]; exact eA) | (rw [if_neg (by simpa using hc33), if_neg (by simp at hc33; simp_all), if_neg (by simpa using hc56)]; exact eA)⟩
          · refine rn ?_
            refine aw_cond rfl (fun hc56 => ?_) (fun hc56 => ?_)
            · refine rn ?_
              refine qq rfl rfl (qr_indexAddr_int rfl rfl (by decide) (by decide)) ?_
              refine rn ?_
              refine aops_e rfl (oe_call rfl rfl (fcall_row (FCall.of_fun (ref11First _ _ _ (by have := bd 3; omega)))) rfl ?_)
              rintro _ _ ⟨s', rfl, rfl⟩
              refine qq rfl rfl (qr_indexAddr_int rfl rfl (by decide) (by decide)) ?_
              refine rn ?_
              exact ⟨_, _, _, _, by unfold stepK; first | (rw [if_pos (by simpa using hc33)]; exact eA) | (rw [if_neg (by simpa using hc33), if_pos (by simp at hc33; simp_all)]; exact eA) | (rw [if_neg (by simpa using hc33), if_neg (by simp at hc33; simp_all), if_pos (by simpa using hc56)]; exact eA) | (rw [if_neg (by simpa using hc33), if_neg (by simp at hc33; simp_all), if_neg (by simpa using hc56)]; exact eA)⟩
            · refine rn ?_
              exact ⟨_, _, _, _, by unfold stepK; first | (rw [if_pos (by simpa using hc33)]; exact eA) | (rw [if_neg (by simpa using hc33), if_pos (by simp at hc33; simp_all)]; exact eA) | (rw [if_neg (by simpa using hc33), if_neg (by simp at hc33; simp_all), if_pos (by simpa using hc56)]; exact eA) | (rw [if_neg (by simpa using hc33), if_neg (by simp at hc33; simp_all), if_neg (by simpa using hc56)]; exact eA)⟩
    · intro s0 s1 s2 s3
      refine rn ?_
      refine aw_rng4 h.evs[k].scan.length (fun j s0 s1 s2 s3 => ⟨[(67, iv j), (1, .v (.pointer (some ⟨b1, 0, none⟩))), (2, .v (.pointer (some ⟨b2, 0, none⟩))), (3, .v (.pointer (some ⟨b3, 0, none⟩))), (19, evsA h.evs), (20, iv (h.evs.map evR).length), (21, iv k), (65, seensA h.evs[k].scan), (66, iv (h.evs[k].scan.map seenR).length)], [.box b5 39 (evR h.evs[k]), .row s0.v 1 3 ((((h.evs[k].scan.take j).foldl stepS (stepK (stepF (spE h k) (0, h.evs[k].t)) h.evs[k])) 0).map intR), .row s1.v 1 3 ((((h.evs[k].scan.take j).foldl stepS (stepK (stepF (spE h k) (0, h.evs[k].t)) h.evs[k])) 1).map intR), .row s2.v 1 3 ((((h.evs[k].scan.take j).foldl stepS (stepK (stepF (spE h k) (0, h.evs[k].t)) h.evs[k])) 2).map intR), .row s3.v 1 3 ((((h.evs[k].scan.take j).foldl stepS (stepK (stepF (spE h k) (0, h.evs[k].t)) h.evs[k])) 3).map intR), .box b3 76 [.v s0.v, .v s1.v, .v s2.v, .v s3.v], .box b2 76 [.v (.slice none 0 0), .v (.slice none 0 0), .v (.slice none 0 0), .v (.slice none 0 0)], .box b1 28 (histC h)], []⟩) _ _ _ _ (es) ?_
      intro j s0 s1 s2 s3 lj
      refine rn ?_
      refine aw_cond rfl (fun hc68 => ?_) (fun hc68 => ?_)
      · have hj := ltMap hc68
        have rj := atRow (f := seenR) hj
        have bj := Bd.fold (c := 2) (l := h.evs[k].scan.take j) (fun s _ L n h => h.s s) ((bd.f (0, h.evs[k].t)).k h.evs[k])
        have bl : (h.evs[k].scan.take j).length ≤ 3000 := by rw [List.length_take]; omega
        refine rn ?_
        refine aops_e rfl (oe_alloc rfl fun b7 => ?_)
        refine rn ?_
        refine qq rfl rfl (qr_indexAddr_int rfl rfl (by decide) (by decide)) ?_
        refine rn ?_
        refine aops_e rfl (oe_call rfl rfl (fcall_row (FCall.of_fun (ref11First _ _ _ (by have := bj 2; omega)))) rfl ?_)
        rintro _ _ ⟨s', rfl, rfl⟩
        refine qq rfl rfl (qr_indexAddr_int rfl rfl (by decide) (by decide)) ?_
        refine rn ?_
        refine qq rfl rfl (qr_indexAddr_int rfl rfl (by decide) (by decide)) ?_
        refine rn ?_
        refine aops_e rfl (oe_call rfl rfl (fcall_row (FCall.of_fun (ref11Made _ _ _ (by have := bj 0; omega)))) rfl ?_)
        rintro _ _ ⟨s', rfl, rfl⟩
        refine qq rfl rfl (qr_indexAddr_int rfl rfl (by decide) (by decide)) ?_
        refine rn ?_
        have e : (h.evs[k].scan.take (j + 1)).foldl stepS (stepK (stepF (spE h k) (0, h.evs[k].t)) h.evs[k]) = stepS ((h.evs[k].scan.take j).foldl stepS (stepK (stepF (spE h k) (0, h.evs[k].t)) h.evs[k])) h.evs[k].scan[j] := foldTake _ _ hj
        exact ⟨hj, _, _, _, _, by simp only [e]; exact eA⟩
      · have qj := geMap hc68 lj
        refine rn ?_
        have e : spE h (k + 1) = (h.evs[k].scan.take j).foldl stepS (stepK (stepF (spE h k) (0, h.evs[k].t)) h.evs[k]) := by rw [spE, foldTake _ _ hk, H.stepE, foldEnd _ _ qj]; rfl
        exact ⟨hk, _, _, _, _, by simp only [e]; exact eA⟩
  · have qk := geMap hc22 lk
    refine rn ?_
    refine aw_rng4 h.ords.length (fun k s0 s1 s2 s3 => ⟨[(88, iv k), (1, .v (.pointer (some ⟨b1, 0, none⟩))), (2, .v (.pointer (some ⟨b2, 0, none⟩))), (3, .v (.pointer (some ⟨b3, 0, none⟩))), (86, ordsA h.ords), (87, iv (h.ords.map ordR).length)], [.row s0.v 1 3 (((spO h k) 0).map intR), .row s1.v 1 3 (((spO h k) 1).map intR), .row s2.v 1 3 (((spO h k) 2).map intR), .row s3.v 1 3 (((spO h k) 3).map intR), .box b3 76 [.v s0.v, .v s1.v, .v s2.v, .v s3.v], .box b2 76 [.v (.slice none 0 0), .v (.slice none 0 0), .v (.slice none 0 0), .v (.slice none 0 0)], .box b1 28 (histC h)], []⟩) _ _ _ _ (by rw [show spO h 0 = spE h k from (foldEnd stepE noR qk).symm]; exact es) ?_
    intro k s0 s1 s2 s3 lk
    refine rn ?_
    refine aw_cond rfl (fun hc89 => ?_) (fun hc89 => ?_)
    · have hk := ltMap hc89
      have rk := atRow (f := ordR) hk
      have bd := bdO la k lk
      have ls := la.ordts h.ords[k] (List.getElem_mem hk)
      have le := la.ords
      refine rn ?_
      refine aops_e rfl (oe_alloc rfl fun b9 => ?_)
      refine rn ?_
      refine qq rfl rfl (qr_indexAddr_int rfl rfl (by decide) (by decide)) ?_
      refine rn ?_
      refine aops_e rfl (oe_call rfl rfl (fcall_row (FCall.of_fun (ref11First _ _ _ (by have := bd 2; omega)))) rfl ?_)
      rintro _ _ ⟨s', rfl, rfl⟩
      refine qq rfl rfl (qr_indexAddr_int rfl rfl (by decide) (by decide)) ?_
      refine rn ?_
      refine aw_rng4 h.ords[k].ts.length (fun j s0 s1 s2 s3 => ⟨[(101, iv j), (1, .v (.pointer (some ⟨b1, 0, none⟩))), (2, .v (.pointer (some ⟨b2, 0, none⟩))), (3, .v (.pointer (some ⟨b3, 0, none⟩))), (86, ordsA h.ords), (87, iv (h.ords.map ordR).length), (88, iv k), (99, intsA h.ords[k].ts), (100, iv (h.ords[k].ts.map intR).length)], [.box b9 61 (ordR h.ords[k]), .row s0.v 1 3 ((((h.ords[k].ts.take j).foldl addT (stepF (spO h k) (2, h.ords[k].o))) 0).map intR), .row s1.v 1 3 ((((h.ords[k].ts.take j).foldl addT (stepF (spO h k) (2, h.ords[k].o))) 1).map intR), .row s2.v 1 3 ((((h.ords[k].ts.take j).foldl addT (stepF (spO h k) (2, h.ords[k].o))) 2).map intR), .row s3.v 1 3 ((((h.ords[k].ts.take j).foldl addT (stepF (spO h k) (2, h.ords[k].o))) 3).map intR), .box b3 76 [.v s0.v, .v s1.v, .v s2.v, .v s3.v], .box b2 76 [.v (.slice none 0 0), .v (.slice none 0 0), .v (.slice none 0 0), .v (.slice none 0 0)], .box b1 28 (histC h)], []⟩) _ _ _ _ (es) ?_
      intro j s0 s1 s2 s3 lj
      refine rn ?_
      refine aw_cond rfl (fun hc102 => ?_) (fun hc102 => ?_)
      · have hj := ltMap hc102
        have rj := atRow (f := intR) hj
        have bj := Bd.fold (c := 1) (l := h.ords[k].ts.take j) (fun s _ L n h => h.t s) (bd.f (2, h.ords[k].o))
        have bl : (h.ords[k].ts.take j).length ≤ 3000 := by rw [List.length_take]; omega
        refine rn ?_
        refine qq rfl rfl (qr_indexAddr_int rfl rfl (by decide) (by decide)) ?_
        refine rn ?_
        refine aops_e rfl (oe_call rfl rfl (fcall_row (FCall.of_fun (ref11First _ _ _ (by have := bj 0; omega)))) rfl ?_)
        rintro _ _ ⟨s', rfl, rfl⟩
        refine qq rfl rfl (qr_indexAddr_int rfl rfl (by decide) (by decide)) ?_
        refine rn ?_
        have e : (h.ords[k].ts.take (j + 1)).foldl addT (stepF (spO h k) (2, h.ords[k].o)) = addT ((h.ords[k].ts.take j).foldl addT (stepF (spO h k) (2, h.ords[k].o))) h.ords[k].ts[j] := foldTake _ _ hj
        exact ⟨hj, _, _, _, _, by simp only [e]; exact eA⟩
      · have qj := geMap hc102 lj
        refine rn ?_
        have e : spO h (k + 1) = (h.ords[k].ts.take j).foldl addT (stepF (spO h k) (2, h.ords[k].o)) := by rw [spO, foldTake _ _ hk, stepO, foldEnd _ _ qj]; rfl
        exact ⟨hk, _, _, _, _, by simp only [e]; exact eA⟩
    · have qk := geMap hc89 lk
      refine rn ?_
      refine aw_rng4 h.mats.length (fun k s0 s1 s2 s3 => ⟨[(115, iv k), (1, .v (.pointer (some ⟨b1, 0, none⟩))), (2, .v (.pointer (some ⟨b2, 0, none⟩))), (3, .v (.pointer (some ⟨b3, 0, none⟩))), (113, matsA h.mats), (114, iv (h.mats.map matR).length)], [.row s0.v 1 3 (((spM h k) 0).map intR), .row s1.v 1 3 (((spM h k) 1).map intR), .row s2.v 1 3 (((spM h k) 2).map intR), .row s3.v 1 3 (((spM h k) 3).map intR), .box b3 76 [.v s0.v, .v s1.v, .v s2.v, .v s3.v], .box b2 76 [.v (.slice none 0 0), .v (.slice none 0 0), .v (.slice none 0 0), .v (.slice none 0 0)], .box b1 28 (histC h)], []⟩) _ _ _ _ (by rw [show spM h 0 = spO h k from (foldEnd stepO _ qk).symm]; exact es) ?_
      intro k s0 s1 s2 s3 lk
      refine rn ?_
      refine aw_cond rfl (fun hc116 => ?_) (fun hc116 => ?_)
      · have hk := ltMap hc116
        have rk := atRow (f := matR) hk
        have bd := bdM la k lk
        have ls := la.matts h.mats[k] (List.getElem_mem hk)
        have le := la.mats
        refine rn ?_
        refine aops_e rfl (oe_alloc rfl fun b13 => ?_)
        refine rn ?_
        refine qq rfl rfl (qr_indexAddr_int rfl rfl (by decide) (by decide)) ?_
        refine rn ?_
        refine aops_e rfl (oe_call rfl rfl (fcall_row (FCall.of_fun (ref11First _ _ _ (by have := bd 3; omega)))) rfl ?_)
        rintro _ _ ⟨s', rfl, rfl⟩
        refine qq rfl rfl (qr_indexAddr_int rfl rfl (by decide) (by decide)) ?_
        refine rn ?_
        refine qq rfl rfl (qr_indexAddr_int rfl rfl (by decide) (by decide)) ?_
        refine rn ?_
        refine aops_e rfl (oe_call rfl rfl (fcall_row (FCall.of_fun (ref11First _ _ _ (by have := bd 2; omega)))) rfl ?_)
        rintro _ _ ⟨s', rfl, rfl⟩
        refine qq rfl rfl (qr_indexAddr_int rfl rfl (by decide) (by decide)) ?_
        refine rn ?_
        refine aw_rng4 h.mats[k].ts.length (fun j s0 s1 s2 s3 => ⟨[(134, iv j), (1, .v (.pointer (some ⟨b1, 0, none⟩))), (2, .v (.pointer (some ⟨b2, 0, none⟩))), (3, .v (.pointer (some ⟨b3, 0, none⟩))), (113, matsA h.mats), (114, iv (h.mats.map matR).length), (115, iv k), (132, intsA h.mats[k].ts), (133, iv (h.mats[k].ts.map intR).length)], [.box b13 64 (matR h.mats[k]), .row s0.v 1 3 ((((h.mats[k].ts.take j).foldl addT (stepF (stepF (spM h k) (3, h.mats[k].p)) (2, h.mats[k].o))) 0).map intR), .row s1.v 1 3 ((((h.mats[k].ts.take j).foldl addT (stepF (stepF (spM h k) (3, h.mats[k].p)) (2, h.mats[k].o))) 1).map intR), .row s2.v 1 3 ((((h.mats[k].ts.take j).foldl addT (stepF (stepF (spM h k) (3, h.mats[k].p)) (2, h.mats[k].o))) 2).map intR), .row s3.v 1 3 ((((h.mats[k].ts.take j).foldl addT (stepF (stepF (spM h k) (3, h.mats[k].p)) (2, h.mats[k].o))) 3).map intR), .box b3 76 [.v s0.v, .v s1.v, .v s2.v, .v s3.v], .box b2 76 [.v (.slice none 0 0), .v (.slice none 0 0), .v (.slice none 0 0), .v (.slice none 0 0)], .box b1 28 (histC h)], []⟩) _ _ _ _ (es) ?_
        intro j s0 s1 s2 s3 lj
        refine rn ?_
        refine aw_cond rfl (fun hc135 => ?_) (fun hc135 => ?_)
        · have hj := ltMap hc135
          have rj := atRow (f := intR) hj
          have bj := Bd.fold (c := 1) (l := h.mats[k].ts.take j) (fun s _ L n h => h.t s) ((bd.f (3, h.mats[k].p)).f (2, h.mats[k].o))
          have bl : (h.mats[k].ts.take j).length ≤ 3000 := by rw [List.length_take]; omega
          refine rn ?_
          refine qq rfl rfl (qr_indexAddr_int rfl rfl (by decide) (by decide)) ?_
          refine rn ?_
          refine aops_e rfl (oe_call rfl rfl (fcall_row (FCall.of_fun (ref11First _ _ _ (by have := bj 0; omega)))) rfl ?_)
          rintro _ _ ⟨s', rfl, rfl⟩
          refine qq rfl rfl (qr_indexAddr_int rfl rfl (by decide) (by decide)) ?_
          refine rn ?_
          have e : (h.mats[k].ts.take (j + 1)).foldl addT (stepF (stepF (spM h k) (3, h.mats[k].p)) (2, h.mats[k].o)) = addT ((h.mats[k].ts.take j).foldl addT (stepF (stepF (spM h k) (3, h.mats[k].p)) (2, h.mats[k].o))) h.mats[k].ts[j] := foldTake _ _ hj
          exact ⟨hj, _, _, _, _, by simp only [e]; exact eA⟩
        · have qj := geMap hc135 lj
          refine rn ?_
          have e : spM h (k + 1) = (h.mats[k].ts.take j).foldl addT (stepF (stepF (spM h k) (3, h.mats[k].p)) (2, h.mats[k].o)) := by rw [spM, foldTake _ _ hk, stepM, foldEnd _ _ qj]; rfl
          exact ⟨hk, _, _, _, _, by simp only [e]; exact eA⟩
      · have qk := geMap hc116 lk
        refine rn ?_
        refine aw_rng4 h.wants.length (fun k s0 s1 s2 s3 => ⟨[(148, iv k), (2, .v (.pointer (some ⟨b2, 0, none⟩))), (3, .v (.pointer (some ⟨b3, 0, none⟩))), (146, wansA h.wants), (147, iv (h.wants.map wanR).length)], [.row s0.v 1 3 (((spW h k) 0).map intR), .row s1.v 1 3 (((spW h k) 1).map intR), .row s2.v 1 3 (((spW h k) 2).map intR), .row s3.v 1 3 (((spW h k) 3).map intR), .box b3 76 [.v s0.v, .v s1.v, .v s2.v, .v s3.v], .box b2 76 [.v (.slice none 0 0), .v (.slice none 0 0), .v (.slice none 0 0), .v (.slice none 0 0)], .box b1 28 (histC h)], []⟩) _ _ _ _ (by rw [show spW h 0 = spM h k from (foldEnd stepM _ qk).symm]; exact es) ?_
        intro k s0 s1 s2 s3 lk
        refine rn ?_
        refine aw_cond rfl (fun hc149 => ?_) (fun hc149 => ?_)
        · have hk := ltMap hc149
          have rk := atRow (f := wanR) hk
          have bd := bdW la k lk
          have le := la.wants
          refine rn ?_
          refine aops_e rfl (oe_alloc rfl fun b17 => ?_)
          refine rn ?_
          refine qq rfl rfl (qr_indexAddr_int rfl rfl (by decide) (by decide)) ?_
          refine rn ?_
          refine aops_e rfl (oe_call rfl rfl (fcall_row (FCall.of_fun (ref11First _ _ _ (by have := bd 1; omega)))) rfl ?_)
          rintro _ _ ⟨s', rfl, rfl⟩
          refine qq rfl rfl (qr_indexAddr_int rfl rfl (by decide) (by decide)) ?_
          refine rn ?_
          have e : spW h (k + 1) = stepW (spW h k) h.wants[k] := foldTake _ _ hk
          exact ⟨hk, _, _, _, _, by simp only [e]; exact eA⟩
        · have qk := geMap hc149 lk
          refine rn ?_
          exact retq (.cons _ _ _ _ (.agg _ _ _ _ _ _ _ rfl inferInstance inferInstance inferInstance rfl) .nil) (.trans (vent_freeze_cell [] _) (.trans (vent_freeze_cell [_] _) (.trans (vent_freeze_cell [_, _] _) (.trans (vent_freeze_cell [_, _, _] _) (.drop [_, _, _] _ _))))) ⟨rfl, by rw [← show spW h k = spokenF h from foldEnd _ _ qk]; rfl⟩
end Go.Proofs
/- The walk of the reference's Right. Conditions: none. -/
set_option linter.unusedVariables false
set_option linter.unusedSimpArgs false
set_option maxRecDepth 10000
namespace Go.Proofs
open Go Go.Ab
attribute [local irreducible] QR QV OE aops aw dsoup dsoupM dalloc dallocM thn inBlk
open Go.H
theorem refRight (h : Hist) (la : Lim 4611686018427387904 h) : ACall Tryz.prog 10 [.agg (histC h)] [] (fun r h' => h' = [] ∧ r = bv (rightB h)) := by
  refine acall_of_aw Tryz.func10 rfl rfl rfl ?_
  refine rn ?_
  refine aops_e rfl (oe_box rfl rfl rfl fun b1 => ?_)
  refine rn ?_
  refine qv rfl rfl (qv_call rfl rfl (pcall (refShaped h la) (Sbs.refl _))) ?_
  refine rn ?_
  refine aw_cond rfl (fun hc10 => ?_) (fun hc10 => ?_)
  · refine rn ?_
    refine rq 1 ?_
    exact ⟨rfl, congrArg bv (by rw [right_s (by simpa using hc10)])⟩
  · have hs : shapedB h = true := by simpa using hc10
    have la3 := shaped_lim hs
    refine rn ?_
    refine qv rfl rfl (qv_call rfl rfl (pcall (refSpoken h la3) (Sbs.refl _))) ?_
    refine rn ?_
    refine aw_rng (4) (fun k : Nat => ∀ j, j < k → okS h j = true) (fun k => [(13, iv k)]) [(1, _), (12, _)] (fun j hj => by omega) ?_
    intro k lk zk
    refine rn ?_
    refine aw_cond rfl (fun hc14 => ?_) (fun hc14 => ?_)
    · have hk : k < 4 := by simp at hc14; omega
      have r0 := sp_at h hk
      have r1 := many_at h hk
      have bl := spoken_len la3 k
      refine rn ?_
      refine aw_cond rfl (fun hc35 => ?_) (fun hc35 => ?_)
      · refine rn ?_
        refine rq 1 ?_
        exact ⟨rfl, congrArg bv (by rw [right_f hk]; rw [okS, beq_eq_false_iff_ne.2 (by simp at hc35; omega), Bool.false_and])⟩
      · have hlen : (spokenF h k).length = (nmK h k).length := by simp at hc35; omega
        refine rn ?_
        refine aw_rng ((spokenF h k).length) (fun i : Nat => uptoF 0 (spokenF h k) = uptoF i ((spokenF h k).drop i)) (fun i => [(38, iv i)]) [(1, _), (12, _), (13, _), (36, _), (37, _)] rfl ?_
        intro i li zi
        refine rn ?_
        refine aw_cond rfl (fun hc39 => ?_) (fun hc39 => ?_)
        · have hi := ltMap hc39
          have ri := atRow (f := intR) hi
          refine rn ?_
          refine aw_cond rfl (fun hc45 => ?_) (fun hc45 => ?_)
          · refine rn ?_
            refine rq 1 ?_
            exact ⟨rfl, congrArg bv (by rw [right_f hk]; rw [okS, upto_f hi zi (by simp at hc45; omega), Bool.and_false])⟩
          · refine rn ?_
            exact ⟨hi, upto_step hi zi (by simp at hc45; omega), eA⟩
        · have qi := geMap hc39 li
          refine rn ?_
          exact ⟨hk, fun j hj => (Nat.lt_or_ge j k).elim (zk j) (fun q => by
            obtain rfl : j = k := by omega
            rw [okS, hlen, upto_e qi zi]; simp), eA⟩
    · have qk : k = 4 := by simp at hc14; omega
      subst qk
      refine rn ?_
      refine rq 1 ?_
      exact ⟨rfl, congrArg bv (by rw [right_t hs zk])⟩
theorem refRightM (h : Hist) (la : Lim 4611686018427387904 h) : ACall Tryz.prog 10 [.agg (histC h)] [] (fun r h' => h' = [] ∧ r = bv (mayB h)) :=
  (refRight h la).mono fun _ _ q => ⟨q.1, by rw [q.2, rightB_eq]⟩
end Go.Proofs
/- The walk of the law's spoil. Conditions: none. -/
set_option linter.unusedVariables false
set_option linter.unusedSimpArgs false
set_option maxRecDepth 10000
namespace Go.Proofs
open Go Go.Ab
attribute [local irreducible] QR QV OE aops aw dsoup dsoupM dalloc dallocM thn inBlk
open Go.H
set_option maxHeartbeats 4000000 in
theorem spoilO (n : NV) (o : OH) (lo : Lim 4611686018427387904 o.hist) : ACall Tryz.prog 18 [.agg (n.cells ++ o.cells)] (.row n.vT.v 1 9 ((o.ts).map strR) :: .row n.vS.v 1 9 (o.ss.map strR) :: .row n.vO.v 1 9 (o.os.map strR) :: .row n.vP.v 1 9 (o.ps.map strR) :: .row o.vE.v 9 39 ((o.evs).map evRw) :: .row o.vR.v 2 61 (o.ords.map ordRw) :: .row o.vM.v 4 64 (o.mats.map matRw) :: .row o.vW.v 2 67 ((o.wants).map wanR) :: (scR 59 (o.evs) ++ (otR 3 (o.ords) ++ (mtR 3 (o.mats) ++ [])))) (fun r h' => r = packAV []) := by
  refine acall_of_aw Tryz.func18 rfl rfl rfl ?_
  refine rn ?_
  refine aops_e rfl (oe_box rfl rfl rfl fun b1 => ?_)
  refine rn ?_
  refine aw_range o.ts.length (fun _ => True) (fun k => ⟨[(13, iv k), (1, .v (.pointer (some ⟨b1, 0, none⟩))), (12, iv (o.ts.map strR).length)], .box b1 28 (n.cells ++ o.cells) :: .row n.vT.v 1 9 ((over (fun _ => ⟨#[]⟩) o.ts k).map strR) :: .row n.vS.v 1 9 (o.ss.map strR) :: .row n.vO.v 1 9 (o.os.map strR) :: .row n.vP.v 1 9 (o.ps.map strR) :: .row o.vE.v 9 39 ((o.evs).map evRw) :: .row o.vR.v 2 61 (o.ords.map ordRw) :: .row o.vM.v 4 64 (o.mats.map matRw) :: .row o.vW.v 2 67 ((o.wants).map wanR) :: (scR 59 (o.evs) ++ (otR 3 (o.ords) ++ (mtR 3 (o.mats) ++ []))), []⟩) trivial (es) ?_
  intro k lk _
  refine rn ?_
  refine aw_cond rfl (fun hc14 => ?_) (fun hc14 => ?_)
  · have hk : k < o.ts.length := ltMap hc14
    have bk : o.ts.length ≤ 4611686018427387904 := lo.ts
    have r1 := over_get (f := (fun _ => ⟨#[]⟩)) (R := strR) hk
    have r2 := over_in (f := (fun _ => ⟨#[]⟩)) (R := strR) hk
    refine rn ?_
    refine aops_e rfl (oe_store_rp rfl rfl rfl r1 rfl (Nat.le_of_ble_eq_true rfl) ?_)
    refine rn ?_
    exact ⟨hk, trivial, by rw [← over_set hk]; exact es⟩
  · have qk : k = o.ts.length := geMap hc14 lk
    refine rn ?_
    refine aw_range o.evs.length (fun _ => True) (fun k => ⟨[(24, iv k), (1, .v (.pointer (some ⟨b1, 0, none⟩))), (23, iv (o.evs.map evRw).length)], .box b1 28 (n.cells ++ o.cells) :: .row n.vT.v 1 9 ((over (fun _ => ⟨#[]⟩) o.ts o.ts.length).map strR) :: .row n.vS.v 1 9 (o.ss.map strR) :: .row n.vO.v 1 9 (o.os.map strR) :: .row n.vP.v 1 9 (o.ps.map strR) :: .row o.vE.v 9 39 ((over (fun p => (p.1, { p.2 with kind := 0 })) o.evs k).map evRw) :: .row o.vR.v 2 61 (o.ords.map ordRw) :: .row o.vM.v 4 64 (o.mats.map matRw) :: .row o.vW.v 2 67 ((o.wants).map wanR) :: (scR 59 (o.evs.drop k) ++ (otR 3 (o.ords) ++ (mtR 3 (o.mats) ++ []))), []⟩) trivial (by rw [qk]; exact es) ?_
    intro k lk _
    refine rn ?_
    refine aw_cond rfl (fun hc25 => ?_) (fun hc25 => ?_)
    · have hk : k < o.evs.length := ltMap hc25
      have bk : o.evs.length ≤ 4611686018427387904 := by have := lo.evs; simpa [OH.hist] using this
      have r1 := over_get (f := (fun p => (p.1, { p.2 with kind := 0 }))) (R := evRw) hk
      have r2 := over_in (f := (fun p => (p.1, { p.2 with kind := 0 }))) (R := evRw) hk
      have r3 := over_got (f := (fun p => (p.1, { p.2 with kind := 0 }))) (R := evRw) hk
      have r4 := over_in' (f := (fun p => (p.1, { p.2 with kind := 0 }))) (R := evRw) hk
      have bs : o.evs[k].2.scan.length ≤ 4611686018427387904 := lo.scans _ (List.mem_map.2 ⟨_, List.getElem_mem hk, rfl⟩)
      rw [List.drop_eq_getElem_cons hk]
      simp only [scR, List.map_cons, List.cons_append]
      refine rn ?_
      refine aops_e rfl (oe_store_rp rfl rfl rfl r1 rfl (Nat.le_of_ble_eq_true rfl) ?_)
      refine rn0 ?_
      refine aw_seq ?_
      refine aw_ent (s' := ⟨[(3, iv k), (24, iv k), (23, iv (o.evs.map evRw).length), (1, .v (.pointer (some ⟨b1, 0, none⟩)))], .box b1 28 (n.cells ++ o.cells) :: .row n.vT.v 1 9 ((over (fun _ => ⟨#[]⟩) o.ts o.ts.length).map strR) :: .row n.vS.v 1 9 (o.ss.map strR) :: .row n.vO.v 1 9 (o.os.map strR) :: .row n.vP.v 1 9 (o.ps.map strR) :: .row o.vE.v 9 39 ((over (fun p => (p.1, { p.2 with kind := 0 })) o.evs (k + 1)).map evRw) :: .row o.vR.v 2 61 (o.ords.map ordRw) :: .row o.vM.v 4 64 (o.mats.map matRw) :: .row o.vW.v 2 67 ((o.wants).map wanR) :: .row o.evs[k].1.v 3 59 ((over (fun s => { s with o := 99 }) o.evs[k].2.scan 0).map seenR) :: (scR 59 (o.evs.drop (k + 1)) ++ (otR 3 (o.ords) ++ (mtR 3 (o.mats) ++ []))), []⟩) (by rw [← over_set hk]; exact es) ?_
      refine rn ?_
      refine aw_range o.evs[k].2.scan.length (fun _ => True) (fun j => ⟨[(39, iv j), (1, .v (.pointer (some ⟨b1, 0, none⟩))), (3, iv k), (23, iv (o.evs.map evRw).length), (24, iv k), (38, iv (o.evs[k].2.scan.map seenR).length)], .box b1 28 (n.cells ++ o.cells) :: .row n.vT.v 1 9 ((over (fun _ => ⟨#[]⟩) o.ts o.ts.length).map strR) :: .row n.vS.v 1 9 (o.ss.map strR) :: .row n.vO.v 1 9 (o.os.map strR) :: .row n.vP.v 1 9 (o.ps.map strR) :: .row o.vE.v 9 39 ((over (fun p => (p.1, { p.2 with kind := 0 })) o.evs (k + 1)).map evRw) :: .row o.vR.v 2 61 (o.ords.map ordRw) :: .row o.vM.v 4 64 (o.mats.map matRw) :: .row o.vW.v 2 67 ((o.wants).map wanR) :: .row o.evs[k].1.v 3 59 ((over (fun s => { s with o := 99 }) o.evs[k].2.scan j).map seenR) :: (scR 59 (o.evs.drop (k + 1)) ++ (otR 3 (o.ords) ++ (mtR 3 (o.mats) ++ []))), []⟩) trivial (es) ?_
      intro j lj _
      refine rn ?_
      refine aw_cond rfl (fun hc40 => ?_) (fun hc40 => ?_)
      · have hj : j < o.evs[k].2.scan.length := ltMap hc40
        have g1 := over_get (f := (fun s => { s with o := 99 })) (R := seenR) hj
        have g2 := over_in (f := (fun s => { s with o := 99 })) (R := seenR) hj
        refine rn ?_
        refine aops_e rfl (oe_store_rp rfl rfl rfl g1 rfl (Nat.le_of_ble_eq_true rfl) ?_)
        refine rn ?_
        exact ⟨hj, trivial, by rw [← over_set hj]; exact es⟩
      · have qj : j = o.evs[k].2.scan.length := geMap hc40 lj
        refine rn ?_
        exact ⟨hk, trivial, eD 9⟩
    · have qk : k = o.evs.length := geMap hc25 lk
      refine rn ?_
      refine aw_range o.ords.length (fun _ => True) (fun k => ⟨[(56, iv k), (1, .v (.pointer (some ⟨b1, 0, none⟩))), (55, iv (o.ords.map ordRw).length)], .box b1 28 (n.cells ++ o.cells) :: .row n.vT.v 1 9 ((over (fun _ => ⟨#[]⟩) o.ts o.ts.length).map strR) :: .row n.vS.v 1 9 (o.ss.map strR) :: .row n.vO.v 1 9 (o.os.map strR) :: .row n.vP.v 1 9 (o.ps.map strR) :: .row o.vE.v 9 39 ((over (fun p => (p.1, { p.2 with kind := 0 })) o.evs o.evs.length).map evRw) :: .row o.vR.v 2 61 (o.ords.map ordRw) :: .row o.vM.v 4 64 (o.mats.map matRw) :: .row o.vW.v 2 67 ((o.wants).map wanR) :: (otR 3 (o.ords.drop k) ++ (mtR 3 (o.mats) ++ [])), []⟩) trivial (by rw [qk, List.drop_length]; exact es) ?_
      intro k lk _
      refine rn ?_
      refine aw_cond rfl (fun hc57 => ?_) (fun hc57 => ?_)
      · have hk : k < o.ords.length := ltMap hc57
        have bk : o.ords.length ≤ 4611686018427387904 := by have := lo.ords; simpa [OH.hist] using this
        have r1 := atRow (f := ordRw) hk
        have r2 : k < (o.ords.map ordRw).length := by simpa using hk
        have bs : o.ords[k].2.ts.length ≤ 4611686018427387904 := lo.ordts _ (List.mem_map.2 ⟨_, List.getElem_mem hk, rfl⟩)
        rw [List.drop_eq_getElem_cons hk]
        simp only [otR, List.map_cons, List.cons_append]
        refine rn ?_
        refine aw_range o.ords[k].2.ts.length (fun _ => True) (fun j => ⟨[(66, iv j), (1, .v (.pointer (some ⟨b1, 0, none⟩))), (5, iv k), (55, iv (o.ords.map ordRw).length), (56, iv k), (65, iv (o.ords[k].2.ts.map intR).length)], .box b1 28 (n.cells ++ o.cells) :: .row n.vT.v 1 9 ((over (fun _ => ⟨#[]⟩) o.ts o.ts.length).map strR) :: .row n.vS.v 1 9 (o.ss.map strR) :: .row n.vO.v 1 9 (o.os.map strR) :: .row n.vP.v 1 9 (o.ps.map strR) :: .row o.vE.v 9 39 ((over (fun p => (p.1, { p.2 with kind := 0 })) o.evs o.evs.length).map evRw) :: .row o.vR.v 2 61 (o.ords.map ordRw) :: .row o.vM.v 4 64 (o.mats.map matRw) :: .row o.vW.v 2 67 ((o.wants).map wanR) :: .row o.ords[k].1.v 1 3 ((over (fun _ => 99) o.ords[k].2.ts j).map intR) :: (otR 3 (o.ords.drop (k + 1)) ++ (mtR 3 (o.mats) ++ [])), []⟩) trivial (es) ?_
        intro j lj _
        refine rn ?_
        refine aw_cond rfl (fun hc67 => ?_) (fun hc67 => ?_)
        · have hj : j < o.ords[k].2.ts.length := ltMap hc67
          have g1 := over_get (f := (fun _ => 99)) (R := intR) hj
          have g2 := over_in (f := (fun _ => 99)) (R := intR) hj
          refine rn ?_
          refine aops_e rfl (oe_store_rp rfl rfl rfl g1 rfl (Nat.le_of_ble_eq_true rfl) ?_)
          refine rn ?_
          exact ⟨hj, trivial, by rw [← over_set hj]; exact es⟩
        · have qj : j = o.ords[k].2.ts.length := geMap hc67 lj
          refine rn ?_
          exact ⟨hk, trivial, eD 9⟩
      · have qk : k = o.ords.length := geMap hc57 lk
        refine rn ?_
        refine aw_range o.mats.length (fun _ => True) (fun k => ⟨[(82, iv k), (1, .v (.pointer (some ⟨b1, 0, none⟩))), (81, iv (o.mats.map matRw).length)], .box b1 28 (n.cells ++ o.cells) :: .row n.vT.v 1 9 ((over (fun _ => ⟨#[]⟩) o.ts o.ts.length).map strR) :: .row n.vS.v 1 9 (o.ss.map strR) :: .row n.vO.v 1 9 (o.os.map strR) :: .row n.vP.v 1 9 (o.ps.map strR) :: .row o.vE.v 9 39 ((over (fun p => (p.1, { p.2 with kind := 0 })) o.evs o.evs.length).map evRw) :: .row o.vR.v 2 61 (o.ords.map ordRw) :: .row o.vM.v 4 64 (o.mats.map matRw) :: .row o.vW.v 2 67 ((o.wants).map wanR) :: ((mtR 3 (o.mats.drop k) ++ [])), []⟩) trivial (by rw [qk, List.drop_length]; exact es) ?_
        intro k lk _
        refine rn ?_
        refine aw_cond rfl (fun hc83 => ?_) (fun hc83 => ?_)
        · have hk : k < o.mats.length := ltMap hc83
          have bk : o.mats.length ≤ 4611686018427387904 := by have := lo.mats; simpa [OH.hist] using this
          have r1 := atRow (f := matRw) hk
          have r2 : k < (o.mats.map matRw).length := by simpa using hk
          have bs : o.mats[k].2.ts.length ≤ 4611686018427387904 := lo.matts _ (List.mem_map.2 ⟨_, List.getElem_mem hk, rfl⟩)
          rw [List.drop_eq_getElem_cons hk]
          simp only [mtR, List.map_cons, List.cons_append]
          refine rn ?_
          refine aw_range o.mats[k].2.ts.length (fun _ => True) (fun j => ⟨[(92, iv j), (1, .v (.pointer (some ⟨b1, 0, none⟩))), (7, iv k), (81, iv (o.mats.map matRw).length), (82, iv k), (91, iv (o.mats[k].2.ts.map intR).length)], .box b1 28 (n.cells ++ o.cells) :: .row n.vT.v 1 9 ((over (fun _ => ⟨#[]⟩) o.ts o.ts.length).map strR) :: .row n.vS.v 1 9 (o.ss.map strR) :: .row n.vO.v 1 9 (o.os.map strR) :: .row n.vP.v 1 9 (o.ps.map strR) :: .row o.vE.v 9 39 ((over (fun p => (p.1, { p.2 with kind := 0 })) o.evs o.evs.length).map evRw) :: .row o.vR.v 2 61 (o.ords.map ordRw) :: .row o.vM.v 4 64 (o.mats.map matRw) :: .row o.vW.v 2 67 ((o.wants).map wanR) :: .row o.mats[k].1.v 1 3 ((over (fun _ => 99) o.mats[k].2.ts j).map intR) :: ((mtR 3 (o.mats.drop (k + 1)) ++ [])), []⟩) trivial (es) ?_
          intro j lj _
          refine rn ?_
          refine aw_cond rfl (fun hc93 => ?_) (fun hc93 => ?_)
          · have hj : j < o.mats[k].2.ts.length := ltMap hc93
            have g1 := over_get (f := (fun _ => 99)) (R := intR) hj
            have g2 := over_in (f := (fun _ => 99)) (R := intR) hj
            refine rn ?_
            refine aops_e rfl (oe_store_rp rfl rfl rfl g1 rfl (Nat.le_of_ble_eq_true rfl) ?_)
            refine rn ?_
            exact ⟨hj, trivial, by rw [← over_set hj]; exact es⟩
          · have qj : j = o.mats[k].2.ts.length := geMap hc93 lj
            refine rn ?_
            exact ⟨hk, trivial, eD 9⟩
        · have qk : k = o.mats.length := geMap hc83 lk
          refine rn ?_
          refine aw_range o.wants.length (fun _ => True) (fun k => ⟨[(108, iv k), (1, .v (.pointer (some ⟨b1, 0, none⟩))), (107, iv (o.wants.map wanR).length)], .box b1 28 (n.cells ++ o.cells) :: .row n.vT.v 1 9 ((over (fun _ => ⟨#[]⟩) o.ts o.ts.length).map strR) :: .row n.vS.v 1 9 (o.ss.map strR) :: .row n.vO.v 1 9 (o.os.map strR) :: .row n.vP.v 1 9 (o.ps.map strR) :: .row o.vE.v 9 39 ((over (fun p => (p.1, { p.2 with kind := 0 })) o.evs o.evs.length).map evRw) :: .row o.vR.v 2 61 (o.ords.map ordRw) :: .row o.vM.v 4 64 (o.mats.map matRw) :: .row o.vW.v 2 67 ((over (fun w => { w with bits := 99 }) o.wants k).map wanR) :: ([]), []⟩) trivial (by rw [qk, List.drop_length]; exact es) ?_
          intro k lk _
          refine rn ?_
          refine aw_cond rfl (fun hc109 => ?_) (fun hc109 => ?_)
          · have hk : k < o.wants.length := ltMap hc109
            have bk : o.wants.length ≤ 4611686018427387904 := lo.wants
            have r1 := over_get (f := (fun w => { w with bits := 99 })) (R := wanR) hk
            have r2 := over_in (f := (fun w => { w with bits := 99 })) (R := wanR) hk
            refine rn ?_
            refine aops_e rfl (oe_store_rp rfl rfl rfl r1 rfl (Nat.le_of_ble_eq_true rfl) ?_)
            refine rn ?_
            exact ⟨hk, trivial, by rw [← over_set hk]; exact es⟩
          · have qk : k = o.wants.length := geMap hc109 lk
            refine rn ?_
            refine rqzn ?_
            exact rfl
end Go.Proofs
/- Histories in memory of their own, lent and spoilt. Conditions: none. -/
set_option linter.unusedVariables false
set_option linter.unusedSimpArgs false
set_option maxRecDepth 10000
namespace Go.Proofs
open Go Go.Ab
attribute [local irreducible] QR QV OE aops aw dsoup dsoupM dalloc dallocM thn inBlk
open Go.H
def nilSV : SV := ⟨none, 0, 0⟩
def nilN : NV := ⟨nilSV, nilSV, nilSV, nilSV⟩
def nilO : OH := ⟨nilSV, nilSV, nilSV, nilSV, [], [], [], [], [], [], [], []⟩
theorem vent_nil (a : AV) : VEnt [.glob 0 68 limitsC, .glob 1 168 firstC, .glob 2 171 acceptC] a ([.glob 0 68 limitsC, .glob 1 168 firstC, .glob 2 171 acceptC] ++ nmR nilN nilO.hist (ohF nilO [])) a :=
  (((((((((VEnt.refl _ _).trans (vent_nilrow 2 67 _)).trans (vent_nilrow 4 64 _)).trans (vent_nilrow 2 61 _)).trans (vent_nilrow 9 39 _)).trans (vent_nilrow 1 9 _)).trans (vent_nilrow 1 9 _)).trans (vent_nilrow 1 9 _)).trans (vent_nilrow 1 9 _)).trans (.perm (List.perm_append_comm (l₁ := nmR nilN nilO.hist (ohF nilO []))) _)
theorem lendO (n : NV) (o : OH) (B : List Res) : BLe (B ++ nmR n o.hist (ohF o [])) (.agg (n.cells ++ o.cells)) (.agg (histC o.hist)) :=
  hist_lend n o 9 39 61 64 67 59 3 _ (by simp [nmR, OH.hist]) (by simp [nmR, OH.hist]) (by simp [nmR, OH.hist]) (by simp [nmR, OH.hist]) (by simp [nmR, ohF]) (by simp [nmR, ohF]) (by simp [nmR, ohF]) (by simp [nmR, ohF]) (fun r hr => by simp [nmR, ohF, hr]) (fun r hr => by simp [nmR, ohF, hr]) (fun r hr => by simp [nmR, ohF, hr])
theorem zeroBle (h : List Res) : BLe h (.agg histZ) (.agg (histC hist0)) := .of_le (Sb.aggs (aS := histZ) (bs := histC hist0) ⟨.nil _ _, .nil _ _, .nil _ _, .nil _ _, .nil _ _, .nil _ _, .nil _ _, .nil _ _, trivial⟩).le
theorem spoilN (n : NV) (o : OH) (B : List Res) (lo : Lim 4611686018427387904 o.hist) : FCall Tryz.prog (.fn (.func 18) [] []) [.agg (n.cells ++ o.cells)] (B ++ nmR n o.hist (ohF o [])) (fun r h' => ∃ X, h' = X ++ B ∧ r = packAV []) :=
  FCall.perm List.perm_append_comm ((FCall.frame B (FCall.of_fun (spoilO n o lo))).mono fun _ _ ⟨X, e, q⟩ => ⟨X, e, q⟩)
theorem completeO (h : Hist) (la : Lim 4611686018427387904 h) : ACall Tryz.prog 19 [.agg (histC h)] [.glob 0 68 limitsC, .glob 1 168 firstC, .glob 2 171 acceptC] (fun r h' => ∃ (n : NV) (o : OH), o.hist = complR h ∧ h' = [.glob 0 68 limitsC, .glob 1 168 firstC, .glob 2 171 acceptC] ++ nmR n o.hist (ohF o []) ∧ r = .tup [.agg (n.cells ++ o.cells), iv (complE h)]) := by
  refine (complete h la).ventR ?_
  rintro r h' ⟨ht, hf⟩
  by_cases hs : complE h = 0
  · obtain ⟨n, o, ho, rfl, rfl⟩ := ht hs
    exact ⟨_, _, .refl _ _, n, o, by rw [ho, complR, if_pos hs], by rw [ho], by rw [hs]⟩
  · obtain ⟨rfl, rfl⟩ := hf (hs)
    exact ⟨_, _, vent_nil _, nilN, nilO, by rw [complR, if_neg hs]; rfl, rfl, by first | rfl | (rw [numE, if_neg hs]; rfl)⟩
theorem numberO (h : Hist) (la : Lim 4611686018427387904 h) : ACall Tryz.prog 15 [.agg (histC h)] [.glob 0 68 limitsC, .glob 1 168 firstC, .glob 2 171 acceptC] (fun r h' => ∃ (n : NV) (o : OH), o.hist = numR h ∧ h' = [.glob 0 68 limitsC, .glob 1 168 firstC, .glob 2 171 acceptC] ++ nmR n o.hist (ohF o []) ∧ r = .tup [.agg (n.cells ++ o.cells), iv (numE h)]) := by
  refine (number h la).ventR ?_
  rintro r h' ⟨ht, hf⟩
  by_cases hs : shapedB h = true
  · obtain ⟨n, o, ho, rfl, rfl⟩ := ht hs
    exact ⟨_, _, .refl _ _, n, o, by rw [ho, numR, if_pos hs], by rw [ho], by rw [numE, if_pos hs]⟩
  · obtain ⟨rfl, rfl⟩ := hf (by simpa using hs)
    exact ⟨_, _, vent_nil _, nilN, nilO, by rw [numR, if_neg hs]; rfl, rfl, by first | rfl | (rw [numE, if_neg hs]; rfl)⟩
end Go.Proofs
/- The walks of the reference's Has and Complete. Conditions: none. -/
set_option linter.unusedVariables false
set_option linter.unusedSimpArgs false
set_option maxRecDepth 10000
namespace Go.Proofs
open Go Go.Ab
attribute [local irreducible] QR QV OE aops aw dsoup dsoupM dalloc dallocM thn inBlk
open Go.H
theorem refHas (h : Hist) (t c : Int) (la : Lim 4611686018427387904 h) : ACall Tryz.prog 55 [.agg (histC h), iv t, iv c] [] (fun r h' => h' = [] ∧ r = bv (hasB h.evs t c)) := by
  refine acall_of_aw Tryz.func55 rfl rfl rfl ?_
  refine rn ?_
  refine aops_e rfl (oe_box rfl rfl rfl fun b3 => ?_)
  refine rn ?_
  refine aw_rng (h.evs.length) (fun k : Nat => h.evs.all (fun e : Ev => !(e.t == t && e.kind == c)) = (h.evs.drop k).all (fun e : Ev => !(e.t == t && e.kind == c))) (fun k => [(12, iv k)]) [(1, _), (2, _), (10, _), (11, _)] rfl ?_
  intro k lk zk
  refine rn ?_
  refine aw_cond rfl (fun hc13 => ?_) (fun hc13 => ?_)
  · have hk := ltMap hc13
    have rk := atRow (f := evR) hk
    have bk := la.evs
    refine rn ?_
    refine aops_e rfl (oe_alloc rfl fun b8 => ?_)
    refine rn ?_
    refine asplit (fun hg4_4 => ?_) (fun hg4_4 => ?_)
    · refine rn ?_
      refine aw_cond rfl (fun hc25 => ?_) (fun hc25 => ?_)
      · refine rn ?_
        refine rq 2 ?_
        exact ⟨rfl, congrArg bv (by rw [hasB, allF hk (by simp_all)]; rfl)⟩
      · refine rn ?_
        exact ⟨hk, allT hk zk (by simp_all), eA⟩
    · refine rn ?_
      refine aw_cf rfl ?_
      refine rn ?_
      exact ⟨hk, allT hk zk (by simp_all), eA⟩
  · have qk := geMap hc13 lk
    have ak := allE qk zk
    refine rn ?_
    refine rq 1 ?_
    exact ⟨rfl, congrArg bv (by rw [hasB, ak]; rfl)⟩
theorem refComplete (h : Hist) (la : Lim 1000000 h) : ACall Tryz.prog 20 [.agg (histC h)] [] (fun r h' => h' = [] ∧ r = .tup [.agg (histC (complH h)), bv (decide (((complH h).evs.length : Int) ≤ 3000))]) := by
  refine acall_of_aw Tryz.func20 rfl rfl rfl ?_
  have be := la.evs
  refine rn ?_
  refine aops_e rfl (oe_box rfl rfl rfl fun b1 => ?_)
  refine aops_e rfl (oe_alloc rfl fun b2 => ?_)
  refine rn0 ?_
  refine aw_seq (aw_region ?_)
  refine rn0 ?_
  refine aw_seq ?_
  refine aw_ent (ent_nilrow 9 39) ?_
  refine rn ?_
  refine aops_e rfl (oe_append_row rfl rfl (by simp; omega) rfl (fun s9 => ?_) (one_ev _))
  refine aops_slice s9 fun sv hsv => ?_
  subst hsv
  refine rn ?_
  refine aw_rng1 h.ts.length (fun k s => ⟨[(13, iv k), (4, .v s.v), (1, .v (.pointer (some ⟨b1, 0, none⟩))), (2, .v (.pointer (some ⟨b2, 0, none⟩))), (12, iv (h.ts.map strR).length)], (.row s.v 9 39 ((h.evs ++ (openK h k).map abortE).map evR) :: .box b2 28 histZ :: .box b1 28 (histC h) :: []), []⟩) sv (by rw [show openK h 0 = [] from rfl, List.map_nil, List.append_nil]; exact es) ?_
  intro k s lk
  refine rn ?_
  refine aw_cond rfl (fun hc14 => ?_) (fun hc14 => ?_)
  · have hk := ltMap hc14
    have rk := atRow (f := strR) hk
    have bk := la.ts
    have be := la.evs
    refine rn ?_
    refine qv rfl rfl (qv_call rfl rfl (pcall (refHas h k 1 (la.mono (by decide))) (Sbs.refl _))) ?_
    refine rn ?_
    refine asplit (fun hg6_3 => ?_) (fun hg6_3 => ?_)
    · refine rn ?_
      refine qv rfl rfl (qv_call rfl rfl (pcall (refHas h k 5 (la.mono (by decide))) (Sbs.refl _))) ?_
      refine rn ?_
      refine asplit (fun hg6_9 => ?_) (fun hg6_9 => ?_)
      · refine rn ?_
        refine qv rfl rfl (qv_call rfl rfl (pcall (refHas h k 6 (la.mono (by decide))) (Sbs.refl _))) ?_
        refine rn ?_
        refine aw_cond rfl (fun hc30 => ?_) (fun hc30 => ?_)
        · have ho : opB h k = true := by simp_all [opB]
          refine aw_region ?_
          refine q1 ?_
          refine q1 ?_
          refine qq rfl rfl (qr_build (out := [iv 6, iv k, iv 0, iv 0, iv 0, iv 0, iv 0, iv 0, .v (.slice none 0 0)]) rfl (by rfl)) ?_
          refine qv rfl rfl (qv_buildSlice rfl rfl) ?_
          refine aops_ent (ent_sb (t' := [(34, .list true 9 [evR (abortE k)]), (31, .v s.v), (4, .v s.v), (13, iv k), (1, .v (.pointer (some ⟨b1, 0, none⟩))), (2, .v (.pointer (some ⟨b2, 0, none⟩))), (12, iv (h.ts.map strR).length)]) (.cons _ _ _ _ rfl (Sb.lists (fun _ => rfl) (rows := [_]) (rows' := [_]) ⟨(⟨.refl _, .refl _, .refl _, .refl _, .refl _, .refl _, .refl _, .refl _, .nil _ _, trivial⟩ : Sbs [iv 6, iv k, iv 0, iv 0, iv 0, iv 0, iv 0, iv 0, .v (.slice none 0 0)] (evR (abortE k))), trivial⟩) (.cons _ _ _ _ rfl (.refl _) (.cons _ _ _ _ rfl (.refl _) (.cons _ _ _ _ rfl (.refl _) (.cons _ _ _ _ rfl (.refl _) (.cons _ _ _ _ rfl (.refl _) (.cons _ _ _ _ rfl (.refl _) .nil)))))))) ?_
          refine aops_e rfl (oe_append_row rfl rfl (by simp only [List.length_map, List.length_append]; have := openK_len h k; simp; omega) rfl (fun s35 => ?_) (one_ev [abortE k]))
          refine aops_slice s35 fun sv hsv => ?_
          subst hsv
          refine rn ?_
          exact ⟨hk, sv, by rw [openK_t ho]; simp only [List.map_append, List.map_cons, List.map_nil, ← List.append_assoc]; exact eA⟩
        · have ho : opB h k = false := by simp_all [opB]
          refine rn ?_
          exact ⟨hk, s, by rw [openK_f ho]; exact eA⟩
      · refine rn ?_
        refine aw_cf rfl ?_
        have ho : opB h k = false := by simp_all [opB]
        refine rn ?_
        exact ⟨hk, s, by rw [openK_f ho]; exact eA⟩
    · refine rn ?_
      refine aw_cf rfl ?_
      have ho : opB h k = false := by simp_all [opB]
      refine rn ?_
      exact ⟨hk, s, by rw [openK_f ho]; exact eA⟩
  · have qk := geMap hc14 lk
    refine aw_exit ?_
    refine rn0 ?_
    refine aw_seq ?_
    refine aw_ent (s' := ⟨[(4, evsA (complH h).evs), (1, .v (.pointer (some ⟨b1, 0, none⟩))), (2, .v (.pointer (some ⟨b2, 0, none⟩)))], [.box b2 28 histZ, .box b1 28 (histC h)], []⟩) (by rw [complH, ← openK_all, ← qk]; exact ent_freeze (.row _ _ rfl (.cons _ _ _ rfl (.cons _ _ _ rfl .nil)))) ?_
    refine rn ?_
    exact retq (.cons _ _ _ _ (.agg _ _ _ _ _ _ _ rfl inferInstance inferInstance inferInstance rfl) (.cons _ _ _ _ (.tmp _ _ rfl) .nil)) (.drop [_, _] _ _) ⟨rfl, by simp [histC, complH, packAV]⟩
end Go.Proofs
/- The walk of the reference's Of. Conditions: none. -/
set_option linter.unusedVariables false
set_option linter.unusedSimpArgs false
set_option maxRecDepth 10000
namespace Go.Proofs
open Go Go.Ab
attribute [local irreducible] QR QV OE aops aw dsoup dsoupM dalloc dallocM thn inBlk
open Go.H
theorem refOf (h : Hist) (t : Int) (la : Lim 1000000 h) : ACall Tryz.prog 23 [.agg (histC h), iv t] [] (fun r h' => h' = [] ∧ r = intsA (ofL t 0 h.evs)) := by
  refine acall_of_aw Tryz.func23 rfl rfl rfl ?_
  have be := la.evs
  refine rn ?_
  refine aops_e rfl (oe_box rfl rfl rfl fun b2 => ?_)
  refine rn0 ?_
  refine aw_seq (aw_region ?_)
  refine rn0 ?_
  refine aw_seq ?_
  refine aw_seq ?_
  refine aw_ent (ent_nilrow 1 3) ?_
  refine rn ?_
  refine aw_rng1 h.evs.length (fun k s => ⟨[(11, iv k), (5, .v s.v), (1, iv t), (9, evsA h.evs), (10, iv (h.evs.map evR).length)], .row s.v 1 3 ((ofK h.evs t k).map intR) :: .box b2 28 (histC h) :: [], []⟩) nilSV es ?_
  intro k s lk
  refine rn ?_
  refine aw_cond rfl (fun hc12 => ?_) (fun hc12 => ?_)
  · have hk := ltMap hc12
    have rk := atRow (f := evR) hk
    refine rn ?_
    refine aops_e rfl (oe_alloc rfl fun b7 => ?_)
    refine rn ?_
    refine aw_cond rfl (fun hc19 => ?_) (fun hc19 => ?_)
    · have ht : h.evs[k].t = t := by simpa using hc19
      refine rn ?_
      refine qv rfl rfl (qv_buildSlice rfl rfl) ?_
      refine aops_e rfl (oe_append_row rfl rfl (by simp only [List.length_map]; have := ofK_len h.evs t k; simp; omega) rfl (fun s23 => ?_) (one_int [(k : Int)]))
      refine aops_slice s23 fun sv hsv => ?_
      subst hsv
      refine rn ?_
      exact ⟨hk, sv, by rw [ofK_t hk ht, List.map_append]; exact eA⟩
    · have ht : ¬ h.evs[k].t = t := by simpa using hc19
      refine rn ?_
      exact ⟨hk, s, by rw [ofK_f hk ht]; exact eA⟩
  · have qk := geMap hc12 lk
    refine rn ?_
    exact retq (.cons _ _ _ _ (.tmp _ _ rfl) .nil) (.trans vent_freeze (.drop1 _ _ _)) ⟨rfl, by rw [qk, ofK_all]; rfl⟩
end Go.Proofs
/- The walk of HistoryCompletes. Conditions: none. -/
set_option linter.unusedVariables false
set_option linter.unusedSimpArgs false
set_option maxRecDepth 10000
namespace Go.Proofs
open Go Go.Ab
attribute [local irreducible] QR QV OE aops aw dsoup dsoupM dalloc dallocM thn inBlk
open Go.H
theorem equalIntT (l m : List Int) (e : l = m) (hl : l.length ≤ 4611686018427387904) : ACall Tryz.prog 22 [intsA l, intsA m] [] (fun r h' => h' = [] ∧ r = bv true) := by
  subst e
  exact (equalInt l l hl hl).mono fun _ _ q => ⟨q.1, by rw [q.2, eqF_eq intEq_eq, decide_eq_true rfl]⟩
theorem sameLend (n : NV) (o : OH) (b : Hist) (c : AV) (B : List Res) (e : o.hist = b) (lo : Lim 4611686018427387904 o.hist) (hc : BLe (B ++ nmR n o.hist (ohF o [])) c (.agg (histC b))) : FCall Tryz.prog (.fn (.func 14) [] []) [.agg (n.cells ++ o.cells), c] (B ++ nmR n o.hist (ohF o [])) (fun r h' => h' = B ++ nmR n o.hist (ohF o []) ∧ r = bv true) :=
  FCall.lend (R := fun r => r = bv true) ((FCall.of_fun (refSame o.hist b lo (e ▸ lo))).mono fun _ _ q => ⟨q.1, by rw [q.2, sameB_t e]⟩) (fun r hr => by rw [hr]; rfl) (.refl _ _) ⟨lendO n o B, hc, trivial⟩
theorem lim0 : Lim 4611686018427387904 hist0 := ⟨by decide, by decide, by decide, by decide, by decide, by decide, by decide, by decide, (fun e h => by cases h), (fun e h => by cases h), (fun e h => by cases h)⟩
theorem complR_lim {x : Hist} : Lim 4000 (complR (fewH x)) := by
  unfold complR
  split
  · exact compl_lim
  · exact ⟨by decide, by decide, by decide, by decide, by decide, by decide, by decide, by decide, (fun e h => by cases h), (fun e h => by cases h), (fun e h => by cases h)⟩
set_option maxHeartbeats 4000000 in
theorem historyCompletes (x : Hist) (ts : List Int) (la : Lim 4611686018427387904 x) (lt : ts.length ≤ 4611686018427387904) : ACall Tryz.prog 5 [.agg (histC x), intsA ts] [.glob 0 68 limitsC, .glob 1 168 firstC, .glob 2 171 acceptC] (fun r h' => h' = [.glob 0 68 limitsC, .glob 1 168 firstC, .glob 2 171 acceptC] ∧ r = bv true) := by
  refine acall_of_aw Tryz.func5 rfl rfl rfl ?_
  refine rn ?_
  refine aops_e rfl (oe_box rfl rfl rfl fun b2 => ?_)
  refine rn ?_
  refine qv rfl rfl (qv_call rfl rfl (FCall.qt (FCall.of_fun wakes) ((pt1 _ _ _).trans (.cons _ ((pt1 _ _ _).trans (.cons _ (pt1 _ _ _))))))) ?_
  refine rn ?_
  refine aw_cond rfl (fun hc16 => ?_) (fun hc16 => ?_)
  · exact absurd hc16 (by decide)
  · refine rn ?_
    refine qv rfl rfl (qv_call rfl rfl (pcall (few x la) (Sbs.refl _))) ?_
    refine aops_e rfl (oe_alloc rfl fun b5 => ?_)
    refine rn ?_
    refine aops_e rfl (oe_call rfl rfl (FCall.frL [_, _] (FCall.of_fun (completeO (fewH x) ((few_lim x).mono (by decide))))) rfl ?_)
    rintro _ _ ⟨_, rfl, n, o, ho, rfl, rfl⟩
    obtain ⟨X, hX⟩ : ∃ X, X = nmR n o.hist (ohF o []) := ⟨_, rfl⟩
    rw [← hX]
    have lo : Lim 4611686018427387904 o.hist := by rw [ho]; exact complR_lim.mono (by decide)
    show aops _ _ _ _ _ _ ⟨_, .box b5 28 (histC (fewH x)) :: .box b2 28 (histC x) :: .glob 0 68 limitsC :: .glob 1 168 firstC :: .glob 2 171 acceptC :: X, _⟩
    refine rn ?_
    refine aops_e rfl (oe_alloc rfl fun b6 => ?_)
    refine rn ?_
    refine qv rfl rfl (qv_call rfl rfl (pcall (refRightM (fewH x) ((few_lim x).mono (by decide))) (Sbs.refl _))) ?_
    refine rn0 ?_
    refine aw_cut (⟨[(8, bv (mayB (fewH x))), (1, intsA ts), (2, .v (.pointer (some ⟨b2, 0, none⟩))), (5, .v (.pointer (some ⟨b5, 0, none⟩))), (6, .v (.pointer (some ⟨b6, 0, none⟩)))], .box b6 28 (n.cells ++ o.cells) :: .box b5 28 (histC (fewH x)) :: .box b2 28 (histC x) :: .glob 0 68 limitsC :: .glob 1 168 firstC :: .glob 2 171 acceptC :: X, []⟩) ?_ ?_
    · refine rn ?_
      refine aw_cond rfl (fun hc27 => ?_) (fun hc27 => ?_)
      · have hm : mayB (fewH x) = false := by simpa using hc27
        have he : complE (fewH x) = 210 := by rw [complE, if_neg (by simp [hm])]
        have hz : o.hist = hist0 := by rw [ho, complR, if_neg (by omega)]
        refine aw_seq (aw_region ?_)
        refine q1 ?_
        refine qq rfl rfl (qr_cmp (c := false) rfl rfl (by rw [he]; rfl)) ?_
        refine q1 ?_
        refine q1 ?_
        refine qq rfl rfl (qr_build (out := histZ) rfl (by rfl)) ?_
        refine qv rfl rfl (qv_call rfl rfl (by rw [hX]; exact sameLend n o hist0 (.agg histZ) [_, _, _, _, _, _] hz lo (zeroBle _))) ?_
        refine rn ?_
        refine aw_cond rfl (fun hc35 => ?_) (fun hc35 => ?_)
        · first | cases hc35 | exact absurd hc35 (by decide) | (exfalso; simp_all; done)
        · refine rn ?_
          exact eA
      · have hm : mayB (fewH x) = true := by simpa using hc27
        have he : complE (fewH x) = 0 := few_may hm
        have hz : o.hist = complH (fewH x) := by rw [ho, complR, if_pos he]
        refine rn ?_
        refine qv rfl rfl (qv_call rfl rfl (pcall (few x la) (Sbs.refl _))) ?_
        refine qv rfl rfl (qv_call rfl rfl (pcall (refComplete (fewH x) ((few_lim x).mono (by decide))) (Sbs.refl _))) ?_
        refine rn ?_
        refine aops_e rfl (oe_alloc rfl fun b9 => ?_)
        refine rn ?_
        refine asplit (fun hg10_2 => ?_) (fun hg10_2 => ?_)
        · refine rn ?_
          refine aw_cond rfl (fun hc53 => ?_) (fun hc53 => ?_)
          · refine rn ?_
            exact absurd hg10_2 (by have q := few_len x; simp [complH]; omega)
          · first | cases hc53 | exact absurd hc53 (by decide) | (exfalso; simp_all; done)
        · refine q1 ?_
          refine qq rfl rfl (qr_cmp (c := false) rfl rfl (by rw [he]; rfl)) ?_
          refine rn ?_
          refine qv rfl rfl (qv_call rfl rfl (by rw [hX]; exact sameLend n o (complH (fewH x)) (.agg (histC (complH (fewH x)))) [_, _, _, _, _, _, _] hz lo (.refl _ _))) ?_
          refine rn ?_
          refine aw_cond rfl (fun hc53 => ?_) (fun hc53 => ?_)
          · first | cases hc53 | exact absurd hc53 (by decide) | (exfalso; simp_all; done)
          · refine rn ?_
            exact eA
    · subst hX
      refine rn ?_
      refine aops_e rfl (oe_call rfl rfl (spoilN n o [_, _, _, _, _, _] lo) rfl ?_)
      rintro _ _ ⟨Y, rfl, rfl⟩
      refine rn0 ?_
      refine aw_seq ?_
      refine aw_seq ?_
      refine aw_ent (s' := ⟨[(8, bv (mayB (fewH x))), (1, intsA ts), (2, .v (.pointer (some ⟨b2, 0, none⟩))), (5, .v (.pointer (some ⟨b5, 0, none⟩)))], [.box b6 28 (n.cells ++ o.cells), .box b5 28 (histC (fewH x)), .box b2 28 (histC x), .glob 0 68 limitsC, .glob 1 168 firstC, .glob 2 171 acceptC], []⟩) (ent_trans ent_drop es) ?_
      refine rn ?_
      refine aw_rng (ts.length) (fun k : Nat => True) (fun k => [(58, iv k)]) [(2, _), (5, _), (8, _), (56, _), (57, _)] trivial ?_
      intro k lk _
      refine rn ?_
      refine aw_cond rfl (fun hc59 => ?_) (fun hc59 => ?_)
      · have hk := ltMap hc59
        have rk := atRow (f := intR) hk
        refine rn ?_
        refine aw_cond rfl (fun hc64 => ?_) (fun hc64 => ?_)
        · refine rn ?_
          refine aw_draw 3 rfl ?_
          refine rn ?_
          refine dv rfl rfl (by exact qv_call rfl rfl (pcall (few x la) (Sbs.refl _))) ?_
          refine rn ?_
          refine qv rfl rfl (qv_call rfl rfl (pcall (refSame (fewH x) (fewH x) ((few_lim x).mono (by decide)) ((few_lim x).mono (by decide))) (Sbs.refl _))) ?_
          refine rn ?_
          refine rq 3 ?_
          exact ⟨rfl, congrArg bv (by exact sameB_t rfl)⟩
        · refine rn ?_
          refine qv rfl rfl (qv_call rfl rfl (FCall.qt (FCall.of_fun (ofW (fewH x) ts[k] ((few_lim x).mono (by decide)))) ((pt3 _ _ _ _ _).trans (.cons _ ((pt3 _ _ _ _ _).trans (.cons _ (pt3 _ _ _ _ _))))))) ?_
          refine rn ?_
          refine aw_cond rfl (fun hc72 => ?_) (fun hc72 => ?_)
          · have hm : mayB (fewH x) = false := by simpa using hc72
            have hr : ofR (fewH x) ts[k] = [] := by rw [ofR, if_neg (by simp [hm])]
            have he : checkE (fewH x) = 210 := by rw [checkE, if_neg (by simp [hm])]
            rw [hr]
            refine aw_seq (aw_region ?_)
            refine q1 ?_
            refine qq rfl rfl (qr_cmp (c := false) rfl rfl (by rw [he]; rfl)) ?_
            refine rn ?_
            refine aw_cond rfl (fun hc79 => ?_) (fun hc79 => ?_)
            · refine rn ?_
              exact absurd hc79 (by simp)
            · refine rn ?_
              exact ⟨hk, trivial, eA⟩
          · have hm : mayB (fewH x) = true := by simpa using hc72
            have hr : ofR (fewH x) ts[k] = ofL ts[k] 0 (fewH x).evs := by rw [ofR, if_pos hm]
            have he : checkE (fewH x) = 0 := check_0.2 hm
            refine aw_seq (aw_region ?_)
            refine q1 ?_
            refine qq rfl rfl (qr_cmp (c := false) rfl rfl (by rw [he]; rfl)) ?_
            refine rn ?_
            refine qv rfl rfl (qv_call rfl rfl (pcall (refOf (fewH x) ts[k] ((few_lim x).mono (by decide))) (Sbs.refl _))) ?_
            refine qv rfl rfl (qv_call rfl rfl (pcall (equalIntT _ _ hr (by rw [hr]; exact Nat.le_trans (ofL_len _ _) (Nat.le_trans (few_lim x).evs (by decide)))) (Sbs.refl _))) ?_
            refine rn ?_
            refine aw_cond rfl (fun hc89 => ?_) (fun hc89 => ?_)
            · first | cases hc89 | exact absurd hc89 (by decide) | (exfalso; simp_all; done)
            · refine rn ?_
              exact ⟨hk, trivial, eA⟩
      · have qk := geMap hc59 lk
        refine rn ?_
        refine aw_draw 3 rfl ?_
        refine rn ?_
        refine dv rfl rfl (by exact qv_call rfl rfl (pcall (few x la) (Sbs.refl _))) ?_
        refine rn ?_
        refine qv rfl rfl (qv_call rfl rfl (pcall (refSame (fewH x) (fewH x) ((few_lim x).mono (by decide)) ((few_lim x).mono (by decide))) (Sbs.refl _))) ?_
        refine rn ?_
        refine rq 3 ?_
        exact ⟨rfl, congrArg bv (by exact sameB_t rfl)⟩
end Go.Proofs
