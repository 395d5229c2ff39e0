/- The walks of law 23's cut and few. Conditions: none. -/
import Derived.Test.YtkoaoaogmlpocaaGreatDoorDRisH
set_option linter.unusedSectionVars false
set_option linter.unusedSimpArgs false
set_option linter.unusedVariables false
set_option linter.unusedVariables false
set_option linter.unusedSimpArgs false
set_option maxRecDepth 10000
namespace Go.Proofs
open Go Go.Ab
attribute [local irreducible] QR QV OE aops aw dsoup dsoupM dalloc dallocM thn inBlk jsoup jch lsoup
open Go.H
theorem cut23 {full : Bool} (l : List ByteArray) (most : Nat) (hm : most ≤ 1000) : ACall Tryz.prog 56 [.list full 1 (l.map strR), iv most] [] (fun r h' => h' = [] ∧ r = strsA (cutL most l)) := by
  refine acall_of_aw Tryz.func56 rfl rfl rfl ?_
  refine aw_seq (aw_region ?_)
  refine q1 ?_
  refine aops_nil (thn_n ?_)
  refine aw_seq (aw_region ?_)
  refine q1 ?_
  refine q1 ?_
  refine q1 ?_
  refine q1 ?_
  refine qq rfl rfl (qr_minN (l.map strR).length most rfl rfl) ?_
  refine qq rfl rfl (qr_slice_hE (rows' := (l.take most).map strR) rfl rfl (by omega) (by rw [List.length_map]; exact take_min strR l most)) ?_
  refine aops_e rfl (oe_call rfl rfl (FCall.rowS (FCall.of_fun (cloneRowStr _ (by simp; omega) (one_str _)))) rfl ?_)
  rintro _ _ ⟨s, rfl, rfl⟩
  refine rn ?_
  refine aw_loop' (fun k : Nat => k ≤ (l.take most).length) (fun k => ⟨[(17, iv k), (16, iv ((l.take most).map strR).length), (15, .v s.v), (5, .v s.v)], [.row s.v 1 9 ((((l.take most).take k).map cutS).map strR ++ ((l.take most).drop k).map strR)], []⟩) (fun k => (l.take most).length - k) 0 (by omega)
    (by simp only [List.take_zero, List.map_nil, List.nil_append, List.drop_zero]; exact (ent_sub (.cons _ _ _ rfl (.cons _ _ _ rfl (.cons _ _ _ rfl (.cons _ _ _ rfl (.nil))))))) ?_
  intro k hk
  refine rn ?_
  refine aw_cond rfl (fun hc18 => ?_) (fun hc18 => ?_)
  · have hk2 : k < (l.take most).length := by simpa using hc18
    obtain ⟨b, hb⟩ : ∃ b, b = (l.take most)[k] := ⟨_, rfl⟩
    have hd := List.drop_eq_getElem_cons hk2
    rw [← hb] at hd
    have hL := List.length_take_le most l
    have hkl : (((l.take most).take k).map cutS).length = k := by rw [List.length_map, List.length_take]; omega
    have hrow := mid_get (f := strR) (g := strR) (xs := ((l.take most).take k).map cutS) (k := k) hkl hd
    have hk3 : k < ((((l.take most).take k).map cutS).map strR ++ ((l.take most).drop k).map strR).length := by rw [mid_len hkl hk]; exact hk2
    refine aw_skip ?_
    refine thn_n ?_
    refine aw_seq ?_
    refine aw_block ?_
    refine aw_seq (aw_region ?_)
    refine q1 ?_
    refine q1 ?_
    refine qq rfl rfl (qr_load_rp_one rfl hrow rfl) ?_
    refine q1 ?_
    refine q1 ?_
    refine aops_nil (thn_n ?_)
    refine aw_region ?_
    refine q1 ?_
    refine q1 ?_
    refine q1 ?_
    refine q1 ?_
    refine q1 ?_
    refine qq rfl rfl (qr_minN b.size 40 rfl rfl) ?_
    refine qq rfl rfl (qr_slice_string_h rfl rfl (by omega)) ?_
    refine rn ?_
    refine aops_e rfl (oe_store_rp rfl rfl rfl hrow rfl (Nat.le_of_ble_eq_true rfl) ?_)
    refine rn ?_
    have hset := mid_set (f := strR) (g := strR) (l := (l.take most)) (xs := ((l.take most).take k).map cutS) (a := cutS b) (r := (strR b).take 0 ++ [sv (cutS b)] ++ (strR b).drop (0 + 1)) hkl hd rfl
    have hx : ((l.take most).take k).map cutS ++ [cutS b] = ((l.take most).take (k + 1)).map cutS := by rw [List.take_succ_eq_append_getElem hk2, hb]; simp
    rw [hx] at hset
    exact ⟨k + 1, by omega, (by rw [← hset]; exact (ent_sub (.cons _ _ _ rfl (.cons _ _ _ rfl (.cons _ _ _ rfl (.cons _ _ _ rfl (.nil))))))), by omega⟩
  · obtain rfl : k = (l.take most).length := by
      have : ¬ k < (l.take most).length := by simpa using hc18
      omega
    rw [List.take_length, List.drop_length, List.map_nil, List.append_nil]
    refine rn ?_
    exact retq (.cons _ _ _ _ (.tmp _ _ rfl) .nil) vent_freeze ⟨rfl, rfl⟩
set_option maxHeartbeats 4000000 in
theorem few23 (h : Hist) (la : Lim 4611686018427387904 h) : ACall Tryz.prog 14 [.agg (histC h)] [] (fun r h' => h' = [] ∧ r = .agg (histC (fewA h))) := by
  refine acall_of_aw Tryz.func14 rfl rfl rfl ?_
  refine rn ?_
  refine aops_e rfl (oe_box rfl rfl rfl fun b1 => ?_)
  refine aops_e rfl (oe_alloc rfl fun b2 => ?_)
  refine rn0 ?_
  refine aw_cutE (fun _ : Nat => True) (fun b3 => ⟨[(1, .v (.pointer (some ⟨b1, 0, none⟩))), (2, .v (.pointer (some ⟨b2, 0, none⟩))), (3, .v (.pointer (some ⟨b3, 0, none⟩)))], [.box b3 28 [strsA (cutL 12 h.ts), strsA (cutL 8 h.ss), strsA (cutL 10 h.os), strsA (cutL 6 h.ps), nilA, nilA, nilA, nilA], .box b2 28 histZ, .box b1 28 (histC h)], []⟩) ?_ ?_
  · refine aw_draw 14 rfl ?_
    refine rn ?_
    refine dv rfl rfl (by exact qv_call rfl rfl (pcall (cut23 h.ts 12 (by decide)) (Sbs.refl _))) ?_
    refine rn ?_
    refine dv rfl rfl (by exact qv_call rfl rfl (pcall (cut23 h.ss 8 (by decide)) (Sbs.refl _))) ?_
    refine rn ?_
    refine dv rfl rfl (by exact qv_call rfl rfl (pcall (cut23 h.os 10 (by decide)) (Sbs.refl _))) ?_
    refine rn ?_
    refine dv rfl rfl (by exact qv_call rfl rfl (pcall (cut23 h.ps 6 (by decide)) (Sbs.refl _))) ?_
    refine rn ?_
    refine dalloc_a rfl fun b3 => ?_
    refine rn ?_
    exact ⟨b3, trivial, (ent_sub (.cons _ _ _ rfl (.cons _ _ _ rfl (.cons _ _ _ rfl (.nil)))))⟩
  · intro b3 _
    refine rn ?_
    refine aw_loop' (fun x : Nat × SV => x.1 ≤ h.evs.length) (fun x => ⟨[(26, iv x.1), (25, iv (h.evs.map evR).length), (24, evsA h.evs), (1, .v (.pointer (some ⟨b1, 0, none⟩))), (2, .v (.pointer (some ⟨b2, 0, none⟩))), (3, .v (.pointer (some ⟨b3, 0, none⟩)))], [.row x.2.v 9 56 (((h.evs.take (min x.1 70)).map cutE2).map evR), .box b3 28 [strsA (cutL 12 h.ts), strsA (cutL 8 h.ss), strsA (cutL 10 h.os), strsA (cutL 6 h.ps), .v x.2.v, nilA, nilA, nilA], .box b2 28 histZ, .box b1 28 (histC h)], []⟩) (fun x => h.evs.length - x.1) (0, nilS) (by simp)
      (ent_trans (ent_nilrow 9 56) (ent_sub (.cons _ _ _ rfl (.cons _ _ _ rfl (.cons _ _ _ rfl (.cons _ _ _ rfl (.cons _ _ _ rfl (.cons _ _ _ rfl (.nil))))))))) ?_
    rintro ⟨k, s⟩ hk
    simp only at hk
    refine rn ?_
    refine aw_cond rfl (fun hc27 => ?_) (fun hc27 => ?_)
    · have hk2 : k < h.evs.length := by simpa using hc27
      obtain ⟨e, he⟩ : ∃ e, e = h.evs[k] := ⟨_, rfl⟩
      have hrow : (h.evs.map evR)[k]? = some (evR e) := by rw [he]; simp [hk2]
      have hle := la.evs
      refine rn ?_
      refine aops_e rfl (oe_alloc rfl fun b5 => ?_)
      refine rn ?_
      refine aw_cond rfl (fun hc32 => ?_) (fun hc32 => ?_)
      · have hlt : k < 70 := by have := hc32; simp at this; omega
        refine aw_seq (aw_region ?_)
        refine q1 ?_
        refine q1 ?_
        refine q1 ?_
        refine q1 ?_
        refine q1 ?_
        refine qq rfl rfl (qr_minN (e.scan.map seenR).length 12 rfl rfl) ?_
        refine qq rfl rfl (qr_slice_hE (rows' := (e.scan.take 12).map seenR) rfl rfl (by omega) (by rw [List.length_map]; exact take_min seenR e.scan 12)) ?_
        refine qv rfl rfl (qv_call rfl rfl (pcall (cloneSeen ((e.scan.take 12).map seenR) (by simp; omega)) (Sbs.refl _))) ?_
        refine rn ?_
        refine qv rfl rfl (qv_buildSlice rfl rfl) ?_
        refine aops_e rfl (oe_append_row rfl rfl (by have := tk_len h.evs k 70; simp at this ⊢; omega) rfl (fun s46 => ?_) (fun r hr => by simp at hr; subst hr; rfl))
        refine aops_slice s46 fun sv hsv => ?_
        subst hsv
        refine rn ?_
        have hx : ((h.evs.take (min (k + 1) 70)).map cutE2).map evR = ((h.evs.take (min k 70)).map cutE2).map evR ++ [evR (cutE2 e)] := by rw [tk_go hk2 hlt he]; simp
        exact ⟨(k + 1, sv), by simp only; omega, (by rw [hx]; exact (ent_trans (ent_drop (h1 := [_])) (ent_sub (.cons _ _ _ rfl (.cons _ _ _ rfl (.cons _ _ _ rfl (.cons _ _ _ rfl (.cons _ _ _ rfl (.cons _ _ _ rfl (.nil)))))))))), by simp only; omega⟩
      · have hlt : ¬ k < 70 := by have := hc32; simp at this; omega
        refine rn ?_
        exact ⟨(k + 1, s), by simp only; omega, (by rw [tk_no hlt]; exact (ent_trans (ent_drop (h1 := [_])) (ent_sub (.cons _ _ _ rfl (.cons _ _ _ rfl (.cons _ _ _ rfl (.cons _ _ _ rfl (.cons _ _ _ rfl (.cons _ _ _ rfl (.nil)))))))))), by simp only; omega⟩
    · obtain rfl : k = h.evs.length := by
        have : ¬ k < h.evs.length := by simpa using hc27
        omega
      obtain ⟨sE, hsE⟩ : ∃ sE : SV, sE = s := ⟨_, rfl⟩
      simp only [tk_end, ← hsE]
      refine rn ?_
      refine aw_loop' (fun x : Nat × SV => x.1 ≤ h.ords.length) (fun x => ⟨[(52, iv x.1), (51, iv (h.ords.map ordR).length), (50, ordsA h.ords), (1, .v (.pointer (some ⟨b1, 0, none⟩))), (2, .v (.pointer (some ⟨b2, 0, none⟩))), (3, .v (.pointer (some ⟨b3, 0, none⟩)))], [.row x.2.v 2 101 (((h.ords.take (min x.1 14)).map cutO2).map ordR), .row sE.v 9 56 (((h.evs.take 70).map cutE2).map evR), .box b3 28 [strsA (cutL 12 h.ts), strsA (cutL 8 h.ss), strsA (cutL 10 h.os), strsA (cutL 6 h.ps), .v sE.v, .v x.2.v, nilA, nilA], .box b2 28 histZ, .box b1 28 (histC h)], []⟩) (fun x => h.ords.length - x.1) (0, nilS) (by simp)
        (ent_trans (ent_nilrow 2 101) (ent_sub (.cons _ _ _ rfl (.cons _ _ _ rfl (.cons _ _ _ rfl (.cons _ _ _ rfl (.cons _ _ _ rfl (.cons _ _ _ rfl (.nil))))))))) ?_
      rintro ⟨k, s⟩ hk
      simp only at hk
      refine rn ?_
      refine aw_cond rfl (fun hc53 => ?_) (fun hc53 => ?_)
      · have hk2 : k < h.ords.length := by simpa using hc53
        obtain ⟨e, he⟩ : ∃ e, e = h.ords[k] := ⟨_, rfl⟩
        have hrow : (h.ords.map ordR)[k]? = some (ordR e) := by rw [he]; simp [hk2]
        have hle := la.ords
        refine rn ?_
        refine aops_e rfl (oe_alloc rfl fun b7 => ?_)
        refine rn ?_
        refine aw_cond rfl (fun hc58 => ?_) (fun hc58 => ?_)
        · have hlt : k < 14 := by have := hc58; simp at this; omega
          refine aw_draw 14 rfl ?_
          refine dq rfl rfl qrA ?_
          refine dq rfl rfl qrA ?_
          refine dq rfl rfl qrA ?_
          refine dq rfl rfl qrA ?_
          refine dq rfl rfl qrA ?_
          refine dq rfl rfl qrA ?_
          refine dq rfl rfl qrA ?_
          refine dq rfl rfl qrA ?_
          refine dq rfl rfl qrA ?_
          refine dq rfl rfl (qr_minN (e.ts.map intR).length 14 rfl rfl) ?_
          refine dq rfl rfl (qr_slice_hE (rows' := (e.ts.take 14).map intR) rfl rfl (by omega) (by rw [List.length_map]; exact take_min intR e.ts 14)) ?_
          refine dv rfl rfl (by exact qv_call rfl rfl (pcall (cloneInt ((e.ts.take 14).map intR) (by simp; omega)) (Sbs.refl _))) ?_
          refine rn ?_
          refine dv rfl rfl (qv_buildSlice rfl rfl) ?_
          refine rn ?_
          refine aops_e rfl (oe_append_row rfl rfl (by have := tk_len h.ords k 14; simp at this ⊢; omega) rfl (fun s73 => ?_) (fun r hr => by simp at hr; subst hr; rfl))
          refine aops_slice s73 fun sv hsv => ?_
          subst hsv
          refine rn ?_
          have hx : ((h.ords.take (min (k + 1) 14)).map cutO2).map ordR = ((h.ords.take (min k 14)).map cutO2).map ordR ++ [ordR (cutO2 e)] := by rw [tk_go hk2 hlt he]; simp
          exact ⟨(k + 1, sv), by simp only; omega, (by rw [hx]; exact (ent_trans (ent_drop (h1 := [_])) (ent_sub (.cons _ _ _ rfl (.cons _ _ _ rfl (.cons _ _ _ rfl (.cons _ _ _ rfl (.cons _ _ _ rfl (.cons _ _ _ rfl (.nil)))))))))), by simp only; omega⟩
        · have hlt : ¬ k < 14 := by have := hc58; simp at this; omega
          refine rn ?_
          exact ⟨(k + 1, s), by simp only; omega, (by rw [tk_no hlt]; exact (ent_trans (ent_drop (h1 := [_])) (ent_sub (.cons _ _ _ rfl (.cons _ _ _ rfl (.cons _ _ _ rfl (.cons _ _ _ rfl (.cons _ _ _ rfl (.cons _ _ _ rfl (.nil)))))))))), by simp only; omega⟩
      · obtain rfl : k = h.ords.length := by
          have : ¬ k < h.ords.length := by simpa using hc53
          omega
        obtain ⟨sO, hsO⟩ : ∃ sO : SV, sO = s := ⟨_, rfl⟩
        simp only [tk_end, ← hsO]
        refine rn ?_
        refine aw_loop' (fun x : Nat × SV => x.1 ≤ h.mats.length) (fun x => ⟨[(79, iv x.1), (78, iv (h.mats.map matR).length), (77, matsA h.mats), (1, .v (.pointer (some ⟨b1, 0, none⟩))), (2, .v (.pointer (some ⟨b2, 0, none⟩))), (3, .v (.pointer (some ⟨b3, 0, none⟩)))], [.row x.2.v 4 103 (((h.mats.take (min x.1 20)).map cutM2).map matR), .row sO.v 2 101 (((h.ords.take 14).map cutO2).map ordR), .row sE.v 9 56 (((h.evs.take 70).map cutE2).map evR), .box b3 28 [strsA (cutL 12 h.ts), strsA (cutL 8 h.ss), strsA (cutL 10 h.os), strsA (cutL 6 h.ps), .v sE.v, .v sO.v, .v x.2.v, nilA], .box b2 28 histZ, .box b1 28 (histC h)], []⟩) (fun x => h.mats.length - x.1) (0, nilS) (by simp)
          (ent_trans (ent_nilrow 4 103) (ent_sub (.cons _ _ _ rfl (.cons _ _ _ rfl (.cons _ _ _ rfl (.cons _ _ _ rfl (.cons _ _ _ rfl (.cons _ _ _ rfl (.nil))))))))) ?_
        rintro ⟨k, s⟩ hk
        simp only at hk
        refine rn ?_
        refine aw_cond rfl (fun hc80 => ?_) (fun hc80 => ?_)
        · have hk2 : k < h.mats.length := by simpa using hc80
          obtain ⟨e, he⟩ : ∃ e, e = h.mats[k] := ⟨_, rfl⟩
          have hrow : (h.mats.map matR)[k]? = some (matR e) := by rw [he]; simp [hk2]
          have hle := la.mats
          refine rn ?_
          refine aops_e rfl (oe_alloc rfl fun b9 => ?_)
          refine rn ?_
          refine aw_cond rfl (fun hc85 => ?_) (fun hc85 => ?_)
          · have hlt : k < 20 := by have := hc85; simp at this; omega
            refine aw_seq (aw_region ?_)
            refine q1 ?_
            refine q1 ?_
            refine q1 ?_
            refine q1 ?_
            refine q1 ?_
            refine qq rfl rfl (qr_minN (e.ts.map intR).length 14 rfl rfl) ?_
            refine qq rfl rfl (qr_slice_hE (rows' := (e.ts.take 14).map intR) rfl rfl (by omega) (by rw [List.length_map]; exact take_min intR e.ts 14)) ?_
            refine qv rfl rfl (qv_call rfl rfl (pcall (cloneInt ((e.ts.take 14).map intR) (by simp; omega)) (Sbs.refl _))) ?_
            refine rn ?_
            refine qv rfl rfl (qv_buildSlice rfl rfl) ?_
            refine aops_e rfl (oe_append_row rfl rfl (by have := tk_len h.mats k 20; simp at this ⊢; omega) rfl (fun s99 => ?_) (fun r hr => by simp at hr; subst hr; rfl))
            refine aops_slice s99 fun sv hsv => ?_
            subst hsv
            refine rn ?_
            have hx : ((h.mats.take (min (k + 1) 20)).map cutM2).map matR = ((h.mats.take (min k 20)).map cutM2).map matR ++ [matR (cutM2 e)] := by rw [tk_go hk2 hlt he]; simp
            exact ⟨(k + 1, sv), by simp only; omega, (by rw [hx]; exact (ent_trans (ent_drop (h1 := [_])) (ent_sub (.cons _ _ _ rfl (.cons _ _ _ rfl (.cons _ _ _ rfl (.cons _ _ _ rfl (.cons _ _ _ rfl (.cons _ _ _ rfl (.nil)))))))))), by simp only; omega⟩
          · have hlt : ¬ k < 20 := by have := hc85; simp at this; omega
            refine rn ?_
            exact ⟨(k + 1, s), by simp only; omega, (by rw [tk_no hlt]; exact (ent_trans (ent_drop (h1 := [_])) (ent_sub (.cons _ _ _ rfl (.cons _ _ _ rfl (.cons _ _ _ rfl (.cons _ _ _ rfl (.cons _ _ _ rfl (.cons _ _ _ rfl (.nil)))))))))), by simp only; omega⟩
        · obtain rfl : k = h.mats.length := by
            have : ¬ k < h.mats.length := by simpa using hc80
            omega
          obtain ⟨sM, hsM⟩ : ∃ sM : SV, sM = s := ⟨_, rfl⟩
          simp only [tk_end, ← hsM]
          refine aw_exit ?_
          refine thn_e ?_
          refine thn_e ?_
          refine inBlk_hit ?_
          refine thn_n ?_
          refine aw_seq (aw_region ?_)
          refine q1 ?_
          refine q1 ?_
          refine q1 ?_
          refine q1 ?_
          refine q1 ?_
          refine qq rfl rfl (qr_minN (h.wants.map wanR).length 12 rfl rfl) ?_
          refine qq rfl rfl (qr_slice_hE (rows' := (h.wants.take 12).map wanR) rfl rfl (by omega) (by rw [List.length_map]; exact take_min wanR h.wants 12)) ?_
          refine qv rfl rfl (qv_call rfl rfl (pcall (cloneWan ((h.wants.take 12).map wanR) (by simp; omega)) (Sbs.refl _))) ?_
          refine rn ?_
          exact retq (.cons _ _ _ _ (.agg _ _ _ _ _ _ _ rfl inferInstance inferInstance inferInstance rfl) .nil) (.trans (vent_freeze_cell [_, _, _, _, _, _] _) (.trans (vent_freeze_cell [_, _, _, _, _] _) (.trans (vent_freeze_cell [_, _, _, _] _) (.drop [_, _, _] _ _)))) ⟨rfl, rfl⟩
end Go.Proofs
/- The walk of the reference's Same. Conditions: none. -/
set_option linter.unusedVariables false
set_option linter.unusedSimpArgs false
set_option maxRecDepth 10000
namespace Go.Proofs
open Go Go.Ab
attribute [local irreducible] QR QV OE aops aw dsoup dsoupM dalloc dallocM thn inBlk
open Go.H
end Go.Proofs
/- The walks of rows of dirty reads, and of seen ones. Conditions: none. -/
set_option linter.unusedVariables false
set_option linter.unusedSimpArgs false
set_option maxRecDepth 10000
namespace Go.Proofs
open Go Go.Ab
attribute [local irreducible] QR QV OE aops aw dsoup dsoupM dalloc dallocM thn inBlk jsoup jch lsoup
open Go.H
theorem first_f {b : Bool} (h : b = false) : b = false := h
theorem first_t {b : Bool} (h : b = true) : b = true := h
theorem any_dec {α : Type} [DecidableEq α] {p : α → α → Bool} (hp : ∀ a b, p a b = decide (a = b)) {l : List α} {s : α} : l.any (fun a => p s a) = decide (s ∈ l) := by
  rw [Bool.eq_iff_iff, List.any_eq_true, decide_eq_true_iff]
  constructor
  · rintro ⟨a, ha, e⟩
    rw [hp, decide_eq_true_iff] at e
    exact e ▸ ha
  · intro h; exact ⟨s, h, by rw [hp]; simp⟩
def dirEq (a b : Dirt) : Bool := ([a.kind, a.ev, a.o, a.v.t, a.v.k] : List Int) == [b.kind, b.ev, b.o, b.v.t, b.v.k]
theorem dirEq_eq (a b : Dirt) : dirEq a b = decide (a = b) := by rw [dirEq, dir_list]; rfl
theorem dirAll_len (h : Hist) (a : List Int) : (dirAll h a).length ≤ 20000000 := by
  rw [dirAll]
  split
  · exact dirL_len (dirC_0.1 ‹_›).1 a
  · exact Nat.zero_le _
theorem all_m {h : Hist} {a : List Int} (hd : ¬ dirC h a = 0) : dirAll h a = [] := all_n hd
theorem indexDir {f : Bool} (l : List Dirt) (s : Dirt) (hl : l.length ≤ 4611686018427387904) : ACall Tryz.prog 70 [.list f 5 (l.map dirR), .agg (dirR s)] [] (fun r h' => h' = [] ∧ r = iv (fidx (fun a => dirEq s a) 0 l)) := by
  refine acall_of_aw Tryz.func70 rfl rfl rfl ?_
  refine rn ?_
  refine aops_e rfl (oe_box rfl rfl rfl fun b3 => ?_)
  refine rn ?_
  refine aw_rng (l.length) (fun k : Nat => fidx (fun a => dirEq s a) 0 l = fidx (fun a => dirEq s a) k (l.drop k)) (fun k => [(8, iv k)]) [(0, _), (3, _), (7, _)] (by simp) ?_
  intro k lk zk
  refine rn ?_
  refine aw_cond rfl (fun hc9 => ?_) (fun hc9 => ?_)
  · have hk := ltMap hc9
    have rk := atRow (f := dirR) hk
    refine rn ?_
    refine aw_draw 5 rfl ?_
    refine rn ?_
    refine aw_cond rfl (fun hc16 => ?_) (fun hc16 => ?_)
    · refine rn ?_
      refine rq 1 ?_
      exact ⟨rfl, congrArg iv (by rw [zk, List.drop_eq_getElem_cons hk, fidx, if_pos (show dirEq s l[k] = true from first_t hc16)])⟩
    · refine rn ?_
      exact ⟨hk, by rw [zk, List.drop_eq_getElem_cons hk, fidx, if_neg (by rw [show dirEq s l[k] = false from first_f hc16]; decide)], eA⟩
  · have qk := geMap hc9 lk
    refine rn ?_
    refine rq 1 ?_
    exact ⟨rfl, congrArg iv (by rw [zk, qk, List.drop_length]; rfl)⟩
theorem containsDir {f : Bool} (l : List Dirt) (s : Dirt) (hl : l.length ≤ 4611686018427387904) : ACall Tryz.prog 24 [.list f 5 (l.map dirR), .agg (dirR s)] [] (fun r h' => h' = [] ∧ r = bv (decide (s ∈ l))) := by
  refine acall_of_aw Tryz.func24 rfl rfl rfl ?_
  refine rn ?_
  refine aops_e rfl (oe_box rfl rfl rfl fun b3 => ?_)
  refine rn ?_
  refine qv rfl rfl (qv_call rfl rfl (pcall (indexDir _ _ hl) (Sbs.refl _))) ?_
  refine rn ?_
  refine rq 1 ?_
  exact ⟨rfl, congrArg bv (by rw [fidx_ge]; exact any_dec dirEq_eq)⟩
end Go.Proofs
/- Structs of numbers that are the same. Conditions: none. -/
set_option linter.unusedVariables false
namespace Go.Ab
open Go
section
variable {P : Program} {h : List Res} {f : Operand → Option AV} {dst : Option Tmp} {ty : TypeId} {pos : String} {after : Array Edge} {guard : Option (Nat × Bool)} {x y : Operand}
end
end Go.Ab
/- The walks of DirtyTells, DirtyIs. Conditions: none. -/
set_option linter.unusedVariables false
set_option linter.unusedSimpArgs false
set_option maxRecDepth 10000
namespace Go.Proofs
open Go Go.Ab
attribute [local irreducible] QR QV OE aops aw dsoup dsoupM dalloc dallocM thn inBlk jsoup jch lsoup
open Go.H
end Go.Proofs
/- copy: into a row of one's own, out of what is only read. Conditions: none (rules over any program). -/
set_option linter.unusedVariables false
set_option linter.unusedSimpArgs false
namespace Go.Ab
open Go
/-- The first cells of a slice. -/
theorem run_firstN {P : Program} {w : World} {O : Nat → Prop} {full : Bool} {sz n : Nat} {rows : List (List AV)} {v : Value} (hr : Rel w O (.list full sz rows) v) (hn : n ≤ rows.length) :
    ∃ c : Array Value, (∀ w' : World, w'.heap = w.heap → (Builtin.firstCells sz n v).run P w' = .ok c w') ∧ c.size = n * sz ∧ (∀ i (hi : i < n) j (hj : j < (rows[i]'(by omega)).length), ∃ u, c[i * sz + j]? = some u ∧ Rel w O (rows[i]'(by omega))[j] u) ∧ ∀ i (hi : i < n), (rows[i]'(by omega)).length = sz := by
  cases hr with
  | lnil _ _ a cap h =>
    obtain rfl : n = 0 := by simpa using hn
    refine ⟨#[], fun w' _ => ?_, by simp, fun i hi => absurd hi (Nat.not_lt_zero i), fun i hi => absurd hi (Nat.not_lt_zero i)⟩
    cases a with
    | none => rfl
    | some a => simp only [Builtin.firstCells, Nat.zero_mul]; rfl
  | list _ _ _ b off cap g h1 h2 h3 h4 h5 h6 h7 =>
    have hcell : ∀ k, k < n * sz → w.cell? ⟨b, off + k, none⟩ = some ((w.cell? ⟨b, off + k, none⟩).getD undef) := fun k hk => by
      have hsz : 0 < sz := by
        rcases Nat.eq_zero_or_pos sz with h | h
        · subst h; simp at hk
        · exact h
      have hi : k / sz < n := (Nat.div_lt_iff_lt_mul hsz).2 hk
      have hi' : k / sz < rows.length := by omega
      have hj : k % sz < rows[k / sz].length := by rw [h5 _ hi']; exact Nat.mod_lt _ hsz
      have e := h6 _ hi' _ hj
      have ek : off + k / sz * sz + k % sz = off + k := by have := Nat.div_add_mod k sz; rw [Nat.mul_comm] at this; omega
      rw [ek] at e
      rw [e]; rfl
    refine ⟨((List.range (n * sz)).map fun k => (w.cell? ⟨b, off + k, none⟩).getD undef).toArray, fun w' hw' => ?_, by simp, fun i hi j hj => ⟨g i j, ?_, h7 i (by omega) j hj⟩, fun i hi => h5 i (by omega)⟩
    · simp only [Builtin.firstCells]
      exact run_loadCells w' _ _ _ fun k hk => by rw [add_none, cell_congr (show w'.heap[b]? = w.heap[b]? by rw [hw'])]; exact hcell k hk
    · have hj' : j < sz := by rw [← h5 i (by omega)]; exact hj
      have hlt : i * sz + j < n * sz := by
        have : (i + 1) * sz ≤ n * sz := Nat.mul_le_mul_right _ hi
        rw [Nat.add_mul] at this; omega
      have e := h6 i (by omega) j hj
      rw [Nat.add_assoc] at e
      simp [hlt, e]
section
variable {P : Program} {ro : Option Nat} {nt : Nat} {dst : Option Tmp} {ty : TypeId} {pos : String} {after : Array Edge} {guard : Option (Nat × Bool)} {x y : Operand}
end
end Go.Ab
/- Parts of a row of one's own: cut out, read, written; copy and clear. Conditions: none (rules over any program). -/
set_option linter.unusedVariables false
set_option linter.unusedSimpArgs false
namespace Go.Ab
open Go
/-- A part of a slice. -/
def partV (s : Value) (lo hi sz : Nat) : Value := match s with
  | .slice a _ c => sliced a lo hi c sz
  | v => v
section
variable {P : Program} {ro : Option Nat} {nt : Nat} {h : List Res} {f : Operand → Option AV} {dst : Option Tmp} {ty : TypeId} {pos : String} {after : Array Edge} {guard : Option (Nat × Bool)} {x y z : Operand}
theorem qr_part_l {T E : TypeId} {s : Value} {sz i l : Nat} {E' : TypeId} {rows : List (List AV)} (hx : f x = some (.v s)) [hr : HasRow h s i sz E' rows] (hy : f y = some (.v (.int .i64 l))) (hl : l ≤ rows.length)
    [Und P T (.slice E)] [Siz P E sz] : QR P h f ⟨dst, .slice T x (some y) none none, ty, pos, after, guard⟩ (.v (partV s l rows.length sz)) := fun X ρ w he => by
  obtain ⟨a, cap, es, hcap, _⟩ := row_list he.heap hr.h
  obtain ⟨e1, e2⟩ := und_elem (P := P) (T := T) (E := E)
  have hv := (he.rel x _ hx).v_eq
  refine ⟨partV s l rows.length sz, run_v _ ?_, .v _⟩
  simp only [Option.map_none, Option.map_some]
  rw [run_sliceAt_slice w T _ _ _ _ e2, hv, (he.rel y _ hy).v_eq, es, run_slice_l w T a _ cap e2 .i64 l (by omega) (by omega), e1]
  simp only [run_sizeOf (n := sz), Result.andThen_ok, Int.toNat_natCast]
  rfl
theorem qr_part_h {T E : TypeId} {s : Value} {sz i k : Nat} {E' : TypeId} {rows : List (List AV)} (hx : f x = some (.v s)) [hr : HasRow h s i sz E' rows] (hy : f y = some (.v (.int .i64 k))) (hk : k ≤ rows.length)
    [Und P T (.slice E)] [Siz P E sz] : QR P h f ⟨dst, .slice T x none (some y) none, ty, pos, after, guard⟩ (.v (partV s 0 k sz)) := fun X ρ w he => by
  obtain ⟨a, cap, es, hcap, _⟩ := row_list he.heap hr.h
  obtain ⟨e1, e2⟩ := und_elem (P := P) (T := T) (E := E)
  have hv := (he.rel x _ hx).v_eq
  refine ⟨partV s 0 k sz, run_v _ ?_, .v _⟩
  simp only [Option.map_none, Option.map_some]
  rw [run_sliceAt_slice w T _ _ _ _ e2, hv, (he.rel y _ hy).v_eq, es, run_slice_h w T a _ cap e2 .i64 k (by omega) (by omega), e1]
  simp only [run_sizeOf (n := sz), Result.andThen_ok, Int.toNat_natCast]
  rfl
/-- The first cells of a part of a row. -/
theorem run_firstPart {X : Nat → Prop} {w : World} {i : Nat} {s : Value} {sz lo hi n : Nat} {T : TypeId} {rows : List (List AV)} (hh : HRel X w h) (hr : h[i]? = some (.row s sz T rows)) (hn : n ≤ hi - lo) (hhi : hi ≤ rows.length) :
    ∃ c : Array Value, (∀ w' : World, w'.heap = w.heap → (Builtin.firstCells sz n (partV s lo hi sz)).run P w' = .ok c w') ∧ c.size = n * sz ∧ (∀ i (hi : i < n) j (hj : j < (rows[lo + i]'(by omega)).length), ∃ u, c[i * sz + j]? = some u ∧ Rel w (OO h X) (rows[lo + i]'(by omega))[j] u) ∧ ∀ i (hi : i < n), (rows[lo + i]'(by omega)).length = sz := by
  by_cases h0 : n = 0
  · subst h0
    obtain ⟨a, cap, es, _⟩ := row_list hh hr
    refine ⟨#[], fun w' _ => ?_, by simp, fun i hi => absurd hi (Nat.not_lt_zero i), fun i hi => absurd hi (Nat.not_lt_zero i)⟩
    rw [es]
    simp only [partV, sliced]
    generalize (if cap = lo then a else a.map fun x => x.add (lo * sz)) = q
    cases q with
    | none => rfl
    | some q => simp only [Builtin.firstCells, Nat.zero_mul]; rfl
  · obtain ⟨b, off, cap, c, es, h1, h2, h3, h4, h5⟩ := row_parts hh hr (by intro e; rw [e] at hhi; simp at hhi; omega)
    have e : partV s lo hi sz = .slice (some ⟨b, off + lo * sz, none⟩) (hi - lo) (cap - lo) := by
      rw [es]; simp only [partV, sliced]; rw [if_neg (by omega)]; simp only [Option.map_some, add_none]
    have hcell : ∀ k, k < n * sz → w.cell? ⟨b, off + lo * sz + k, none⟩ = some ((w.cell? ⟨b, off + lo * sz + k, none⟩).getD undef) := fun k hk => by
      have hm : (lo + n) * sz ≤ cap * sz := Nat.mul_le_mul_right _ (by omega)
      rw [Nat.add_mul] at hm
      have : off + lo * sz + k < c.size := by omega
      simp [World.cell?, h1, this]
    refine ⟨((List.range (n * sz)).map fun k => (w.cell? ⟨b, off + lo * sz + k, none⟩).getD undef).toArray, fun w' hw' => ?_, by simp, fun i hi j hj => ?_, fun i hi => h4 _ (by omega)⟩
    · rw [e]
      simp only [Builtin.firstCells]
      exact run_loadCells w' _ _ _ fun k hk => by rw [add_none, cell_congr (show w'.heap[b]? = w.heap[b]? by rw [hw'])]; exact hcell k hk
    · obtain ⟨u, e2, r⟩ := h5 (lo + i) (by omega) j hj
      have hj' : j < sz := by rw [← h4 (lo + i) (by omega)]; exact hj
      have hlt : i * sz + j < n * sz := by
        have : (i + 1) * sz ≤ n * sz := Nat.mul_le_mul_right _ hi
        rw [Nat.add_mul] at this; omega
      refine ⟨u, ?_, r⟩
      have hmm : (lo + i) * sz = lo * sz + i * sz := Nat.add_mul ..
      rw [hmm, ← Nat.add_assoc] at e2
      have hlt2 := (Array.getElem?_eq_some_iff.1 e2).1
      simp only [List.getElem?_toArray, List.getElem?_map, List.getElem?_range hlt, Option.map_some]
      have : w.cell? ⟨b, off + lo * sz + (i * sz + j), none⟩ = some u := by
        simp only [World.cell?, h1]
        rw [show off + lo * sz + (i * sz + j) = off + lo * sz + i * sz + j by omega]
        exact e2
      rw [this]; rfl
end
section
variable {P : Program} {ro : Option Nat} {nt : Nat} {dst : Option Tmp} {ty : TypeId} {pos : String} {after : Array Edge} {guard : Option (Nat × Bool)} {x y : Operand}
/-- copy into a part of a row of one's own. -/
theorem oe_copy_core {T T2 E sz i d hi : Nat} {s : Value} {rows ys : List (List AV)} {t : Fr} {h h' : List Res} {ds : List Nat} {dt : Tmp} {next : St → Prop} (hx : ev t x = some (.v (partV s d hi sz))) [hrow : HasRow h s i sz E rows]
    [Und P T (.slice E)] [Siz P E sz] (hdh : d ≤ hi) (hhi : hi ≤ rows.length)
    (hsrc : ∀ X a w, Sim X nt ⟨t, h, ds⟩ a w → ∃ c2 m, (∀ w' : World, w'.heap = w.heap → (Builtin.lenOf (a.eval y)).run P w' = .ok m w') ∧ Nat.min m (hi - d) = ys.length ∧ (∀ w' : World, w'.heap = w.heap → (Builtin.firstCells sz ys.length (a.eval y)).run P w' = .ok c2 w') ∧ c2.size = ys.length * sz ∧
      (∀ i (hi : i < ys.length) j (hj : j < ys[i].length), ∃ u, c2[i * sz + j]? = some u ∧ Rel w (OO h X) ys[i][j] u) ∧ ∀ i (hi : i < ys.length), ys[i].length = sz)
    (hd : dok nt (some dt) = true) [hset : SetAt h i (.row s sz E (rows.take d ++ (ys ++ rows.drop (d + ys.length)))) h'] (hk : next ⟨(dt, .v (.int .i64 ys.length)) :: t, h', ds⟩) (hone : ∀ r ∈ ys, r.all AV.one = true) :
    OE P ro nt ⟨some dt, .call ⟨.builtin .copy, [x, y].toArray, [T, T2].toArray⟩, ty, pos, after, guard⟩ ⟨t, h, ds⟩ next := by
  intro X a w K Q hs hK
  have ex := (hs.env.rel x _ hx).v_eq
  have hx0 := hs.heap.holds _ (List.mem_of_getElem? hrow.h)
  obtain ⟨ax, cap, es, hcap, hsz, _⟩ := row_list hs.heap hrow.h
  obtain ⟨c2, m, l2, hmin, e2, s2, g2, hlx2⟩ := hsrc X a w hs
  have hcnt : d + ys.length ≤ hi := by have : ys.length ≤ hi - d := hmin ▸ Nat.min_le_right m (hi - d); omega
  have hrun : (execOp a.eval ⟨some dt, .call ⟨.builtin .copy, [x, y].toArray, [T, T2].toArray⟩, ty, pos, after, guard⟩).run P w = ((Builtin.copy_ [T, T2].toArray ty [partV s d hi sz, a.eval y].toArray).run P w).andThen fun v w => .ok (.value v) w := by
    simp only [execOp, resolve, List.map_toArray, List.map_cons, List.map_nil, Sem.run_bind, Sem.run_pure, Result.andThen_ok, invoke, builtin, ex]
  refine ⟨about_true, ?_⟩
  rw [semAt_nd rfl, hrun]
  have hsub : ∀ q c, (Builtin.copy_ [T, T2].toArray ty [.slice q (hi - d) c, a.eval y].toArray).run P w = (((match q with | some a => storeCells a c2.toList | none => pure ()) : Sem Unit).run P w).andThen fun _ w => .ok (goInt ys.length) w := by
    intro q c
    simp only [Builtin.copy_, List.getElem?_toArray, List.getElem?_cons_zero, List.getElem?_cons_succ, Sem.run_bind, run_underlying (d := TypeDesc.slice E), run_sizeOf (n := sz), Result.andThen_ok, Sem.run_pure, l2 w rfl, hmin, e2 w rfl]
    cases q with
    | none => rfl
    | some a2 => simp only [Sem.run_bind, Sem.run_pure]
  by_cases h0 : ys.length = 0
  · obtain rfl : ys = [] := List.eq_nil_of_length_eq_zero h0
    have hc0 : c2 = #[] := by simpa using s2
    have he : h' = h := by
      rw [← hset.h]
      obtain ⟨hlt, e⟩ := List.getElem?_eq_some_iff.1 hrow.h
      rw [List.nil_append, List.length_nil, Nat.add_zero, List.take_append_drop, ← e, List.set_getElem_self]
    rw [es]
    simp only [partV, sliced]
    rw [hsub, hc0]
    have : ∀ q : Option Addr, (((match q with | some a => storeCells a (#[] : Array Value).toList | none => pure ()) : Sem Unit).run P w) = .ok () w := fun q => by cases q <;> rfl
    rw [this]
    simp only [Result.andThen_ok, Oper.uponIn]
    refine hK _ _ _ hk ?_ (by rw [he]; exact .refl _ _)
    have hsim : Sim X nt ⟨t, h', ds⟩ a w := by rw [he]; exact hs
    exact hsim.put (av := .v _) hd (.v _)
  · cases ax with
    | none =>
      rw [es] at hx0
      obtain ⟨q0, _⟩ := hx0
      rw [q0] at hhi
      simp only [List.length_nil] at hhi
      omega
    | some addr =>
    rw [es] at hx0
    obtain ⟨m1, _, m3, m4, c0, m5, m6, m7⟩ := hx0
    obtain ⟨b, off, spot⟩ := addr
    simp only at m1 m5 m6 m7
    subst m1
    have ep : partV s d hi sz = .slice (some ⟨b, off + d * sz, none⟩) (hi - d) (cap - d) := by
      rw [es]; simp only [partV, sliced]; rw [if_neg (by omega)]; simp only [Option.map_some, add_none]
    have hcs : ∀ v ∈ c2.toList, v.oneCell' = true := by
      intro v hv
      obtain ⟨k, hk1, hk2⟩ := List.mem_iff_getElem.1 hv
      have hk3 : k < ys.length * sz := by rw [← s2]; simpa using hk1
      have hsz0 : 0 < sz := by
        rcases Nat.eq_zero_or_pos sz with h | h
        · subst h; simp at hk3
        · exact h
      have hi : k / sz < ys.length := (Nat.div_lt_iff_lt_mul hsz0).2 hk3
      have hj : k % sz < ys[k / sz].length := by rw [hlx2 _ hi]; exact Nat.mod_lt _ hsz0
      obtain ⟨u, e, r⟩ := g2 _ hi _ hj
      have ek : k / sz * sz + k % sz = k := by have := Nat.div_add_mod k sz; rw [Nat.mul_comm] at this; exact this
      rw [ek] at e
      have : u = v := by
        have h2 : c2[k]? = some v := by rw [← hk2]; simp [show k < c2.size by rw [s2]; exact hk3]
        exact Option.some.inj (e.symm.trans h2)
      subst this
      exact r.one (List.all_eq_true.1 (hone _ (List.getElem_mem hi)) _ (List.getElem_mem hj))
    have hmul : (d + ys.length) * sz ≤ cap * sz := Nat.mul_le_mul_right _ (by omega)
    rw [Nat.add_mul] at hmul
    obtain ⟨w', f1, f2, f3, c', f4, f5, f6, ev⟩ := run_storeCells (P := P) c2.toList (off + d * sz) 0 w c0 hcs m5 (by simp [s2]; omega)
    rw [ep, hsub]
    simp only
    rw [f1]
    simp only [Result.andThen_ok, Oper.uponIn]
    have hbown : b ∈ (Res.row s sz E rows).own := by rw [es]; simp [Res.own]
    have hkk : ∀ b', ¬ OO h X b' → b' < w.heap.size → w'.heap[b']? = w.heap[b']? ∧ ¬ OO h X b' := fun b' hb' _ => ⟨f3 b' (fun he => hb' (.inl (mem_owns.2 ⟨_, List.mem_of_getElem? hrow.h, he ▸ hbown⟩))), hb'⟩
    have hoth : ∀ b', b' < w.heap.size → b' ∉ (Res.row s sz E rows).own → w'.heap[b']? = w.heap[b']? := fun b' _ hne => f3 b' fun he => hne (he ▸ hbown)
    have hown : (Res.row s sz E (rows.take d ++ (ys ++ rows.drop (d + ys.length)))).own = (Res.row s sz E rows).own := by rw [es]; rfl
    have hlen : (rows.take d ++ (ys ++ rows.drop (d + ys.length))).length = rows.length := by simp; omega
    have hlow : ∀ k (hk : k < (rows.take d ++ (ys ++ rows.drop (d + ys.length))).length) (h : k < d ∨ d + ys.length ≤ k), (rows.take d ++ (ys ++ rows.drop (d + ys.length)))[k] = rows[k]'(by omega) := fun k hk h => by
      rcases h with h | h
      · rw [List.getElem_append_left (by simp; omega)]; simp
      · rw [List.getElem_append_right (by simp; omega), List.getElem_append_right (by simp; omega), List.getElem_drop]; congr 1; simp; omega
    have hmid : ∀ k (hk : k < (rows.take d ++ (ys ++ rows.drop (d + ys.length))).length) (h1 : d ≤ k) (h2 : k < d + ys.length), (rows.take d ++ (ys ++ rows.drop (d + ys.length)))[k] = ys[k - d]'(by omega) := fun k hk h1 h2 => by
      rw [List.getElem_append_right (by simp; omega), List.getElem_append_left (by simp; omega)]; congr 1; simp; omega
    have hholds : (Res.row s sz E (rows.take d ++ (ys ++ rows.drop (d + ys.length)))).holds w' (OO h X) := by
      rw [es]
      refine ⟨rfl, hlen.symm, hcap, fun k hk => ?_, c', f4, by rw [f5]; exact m6, fun k hk j hj => ?_⟩
      · by_cases h : d ≤ k ∧ k < d + ys.length
        · rw [hmid k hk h.1 h.2]; exact hlx2 _ (by omega)
        · rw [hlow k hk (by omega)]; exact hsz _ (by omega)
      · have hk' : k < rows.length := by rw [← hlen]; exact hk
        by_cases h : d ≤ k ∧ k < d + ys.length
        · simp only [hmid k hk h.1 h.2] at hj ⊢
          obtain ⟨u, e, r⟩ := g2 (k - d) (by omega) j hj
          have hj' : j < sz := by rw [← hlx2 (k - d) (by omega)]; exact hj
          have q1 : (k - d + 1) * sz ≤ ys.length * sz := Nat.mul_le_mul_right _ (by omega)
          rw [Nat.add_mul] at q1
          have q2 : k * sz = d * sz + (k - d) * sz := by rw [← Nat.add_mul]; congr 1; omega
          refine ⟨u, ?_, r.keep (by omega) hkk⟩
          show c'[off + k * sz + j]? = some u
          rw [f6, if_pos (by simp; omega), show off + k * sz + j - (off + d * sz + 0) = (k - d) * sz + j by omega]
          simpa using e
        · simp only [hlow k hk (by omega)] at hj ⊢
          obtain ⟨u, e, r⟩ := m7 k hk' j hj
          have hj' : j < sz := by rw [← hsz k hk']; exact hj
          refine ⟨u, ?_, r.keep (by omega) hkk⟩
          show c'[off + k * sz + j]? = some u
          rw [f6, if_neg ?_]
          · exact e
          · simp only [Array.length_toList, s2]
            rcases Nat.lt_or_ge k d with q | q
            · have : (k + 1) * sz ≤ d * sz := Nat.mul_le_mul_right _ q
              rw [Nat.add_mul] at this; omega
            · have : (d + ys.length) * sz ≤ k * sz := Nat.mul_le_mul_right _ (by omega)
              rw [Nat.add_mul] at this; omega
    refine hK _ _ _ hk ?_ (by rw [← hset.h]; exact Keep.set hrow.h hown (by omega) hoth ev)
    have hO : OO h' X = OO h X := by funext b'; rw [← hset.h]; simp only [OO, owns_set hrow.h hown]
    have hsim : Sim X nt ⟨t, h', ds⟩ a w' := ⟨by rw [← hset.h]; exact hs.heap.set hrow.h hown (by omega) hoth hholds, hs.size, by rw [hO]; exact hs.fr.keep (by omega) hkk, hs.defs⟩
    exact hsim.put (av := .v _) hd (.v _)
/-- Out of what is only read. -/
theorem oe_copy_pl {T T2 E sz i d hi n : Nat} {full : Bool} {s : Value} {rows zs : List (List AV)} {t : Fr} {h h' : List Res} {ds : List Nat} {dt : Tmp} {next : St → Prop} (hx : ev t x = some (.v (partV s d hi sz))) (hy : ev t y = some (.list full sz zs)) [hrow : HasRow h s i sz E rows]
    [Und P T (.slice E)] [Siz P E sz] (hdh : d ≤ hi) (hhi : hi ≤ rows.length) (hn : min zs.length (hi - d) = n)
    (hd : dok nt (some dt) = true) [hset : SetAt h i (.row s sz E (rows.take d ++ (zs.take n ++ rows.drop (d + (zs.take n).length)))) h'] (hk : next ⟨(dt, .v (.int .i64 (zs.take n).length)) :: t, h', ds⟩) (hone : ∀ r ∈ zs, r.all AV.one = true) :
    OE P ro nt ⟨some dt, .call ⟨.builtin .copy, [x, y].toArray, [T, T2].toArray⟩, ty, pos, after, guard⟩ ⟨t, h, ds⟩ next := by
  have hnl : n ≤ zs.length := by omega
  have hl : (zs.take n).length = n := by simp; omega
  refine oe_copy_core hx hdh hhi (fun X a w hs => ?_) hd hk (fun r hr => hone r (List.mem_of_mem_take hr))
  have ry := hs.env.rel y _ hy
  obtain ⟨c2, e2, s2, g2, l2⟩ := run_firstN (P := P) ry hnl
  obtain ⟨q, cap, e, _⟩ := list_slice ry
  refine ⟨c2, zs.length, fun w' _ => by rw [e]; rfl, by rw [hl]; exact hn, by rw [hl]; exact e2, by rw [hl]; exact s2, fun k hk j hj => ?_, fun k hk => ?_⟩
  · have hk' : k < n := by rw [hl] at hk; exact hk
    simp only [List.getElem_take] at hj ⊢
    exact g2 k hk' j hj
  · rw [List.getElem_take]; exact l2 k (by rw [hl] at hk; exact hk)
/-- Out of a part of a row of one's own. -/
theorem oe_copy_pr {T T2 E E2 sz i i2 d hi lo hi2 n : Nat} {s s2 : Value} {rows rows2 : List (List AV)} {t : Fr} {h h' : List Res} {ds : List Nat} {dt : Tmp} {next : St → Prop} (hx : ev t x = some (.v (partV s d hi sz))) (hy : ev t y = some (.v (partV s2 lo hi2 sz))) [hrow : HasRow h s i sz E rows] [hrow2 : HasRow h s2 i2 sz E2 rows2]
    [Und P T (.slice E)] [Siz P E sz] (hdh : d ≤ hi) (hhi : hi ≤ rows.length) (hlo : lo ≤ hi2) (hhi2 : hi2 ≤ rows2.length) (hn : min (hi2 - lo) (hi - d) = n)
    (hd : dok nt (some dt) = true) [hset : SetAt h i (.row s sz E (rows.take d ++ (((rows2.drop lo).take n) ++ rows.drop (d + ((rows2.drop lo).take n).length)))) h'] (hk : next ⟨(dt, .v (.int .i64 ((rows2.drop lo).take n).length)) :: t, h', ds⟩) (hone : ∀ r ∈ rows2, r.all AV.one = true) :
    OE P ro nt ⟨some dt, .call ⟨.builtin .copy, [x, y].toArray, [T, T2].toArray⟩, ty, pos, after, guard⟩ ⟨t, h, ds⟩ next := by
  have hl : ((rows2.drop lo).take n).length = n := by simp; omega
  refine oe_copy_core hx hdh hhi (fun X a w hs => ?_) hd hk (fun r hr => hone r (List.mem_of_mem_drop (List.mem_of_mem_take hr)))
  have hv := (hs.env.rel y _ hy).v_eq
  obtain ⟨c2, e2, s2', g2, l2⟩ := run_firstPart (P := P) (lo := lo) (hi := hi2) (n := n) hs.heap hrow2.h (by omega) hhi2
  obtain ⟨q, cap, e, _⟩ := row_list hs.heap hrow2.h
  refine ⟨c2, hi2 - lo, fun w' _ => by rw [hv, e]; rfl, by rw [hl]; exact hn, by rw [hl, hv]; exact e2, by rw [hl]; exact s2', fun k hk j hj => ?_, fun k hk => ?_⟩
  · have hk' : k < n := by rw [hl] at hk; exact hk
    simp only [List.getElem_take, List.getElem_drop] at hj ⊢
    exact g2 k hk' j hj
  · rw [List.getElem_take, List.getElem_drop]; exact l2 k (by rw [hl] at hk; exact hk)
end
end Go.Ab
/- An array's variable as a row of one's own: x[:]; a row cut shorter. Conditions: none (rules over any program). -/
set_option linter.unusedVariables false
set_option linter.unusedSimpArgs false
namespace Go.Ab
open Go
section
variable {P : Program} {ro : Option Nat} {nt : Nat} {h : List Res} {f : Operand → Option AV} {dst : Option Tmp} {ty : TypeId} {pos : String} {after : Array Edge} {guard : Option (Nat × Bool)} {x y z : Operand}
/-- A row cut shorter: its room stays. -/
theorem part_0 (a : Addr) (n c k sz : Nat) : partV (.slice (some a) n c) 0 k sz = .slice (some a) k c := by
  unfold partV
  simp only [sliced]
  rw [cut_add]; simp
end
end Go.Ab
/- copy into a whole row of one's own, as much as there is room for. Conditions: none (rules over any program). -/
set_option linter.unusedVariables false
set_option linter.unusedSimpArgs false
namespace Go.Ab
open Go
theorem part_all (a : Option Addr) (n c sz : Nat) : partV (.slice a n c) 0 n sz = .slice a n c := by
  cases a with
  | none => simp [partV, sliced]
  | some a => exact part_0 a n c n sz
section
variable {P : Program} {ro : Option Nat} {nt : Nat} {ty : TypeId} {pos : String} {after : Array Edge} {guard : Option (Nat × Bool)} {x y : Operand}
theorem oe_copy_ln {T T2 E sz i : Nat} (n : Nat) {full : Bool} {s : Value} {rows zs : List (List AV)} {t : Fr} {h h' : List Res} {ds : List Nat} {dt : Tmp} {next : St → Prop} (hx : ev t x = some (.v s)) (hy : ev t y = some (.list full sz zs)) [hrow : HasRow h s i sz E rows]
    [Und P T (.slice E)] [Siz P E sz] (hn : min zs.length rows.length = n)
    (hd : dok nt (some dt) = true) [hset : SetAt h i (.row s sz E (zs.take n ++ rows.drop n)) h'] (hk : next ⟨(dt, .v (.int .i64 n)) :: t, h', ds⟩) (hone : ∀ r ∈ zs, r.all AV.one = true) :
    OE P ro nt ⟨some dt, .call ⟨.builtin .copy, [x, y].toArray, [T, T2].toArray⟩, ty, pos, after, guard⟩ ⟨t, h, ds⟩ next := by
  intro X a w K Q hs hK
  obtain ⟨ax, cap, es, _⟩ := row_list hs.heap hrow.h
  have hp : partV s 0 rows.length sz = s := by rw [es]; exact part_all _ _ _ _
  have hl : (zs.take n).length = n := by simp; omega
  have hset' : SetAt h i (.row s sz E (rows.take 0 ++ (zs.take n ++ rows.drop (0 + (zs.take n).length)))) h' := by
    rw [hl, List.take_zero, List.nil_append, Nat.zero_add]; exact hset
  exact oe_copy_pl (P := P) (ro := ro) (nt := nt) (T := T) (T2 := T2) (E := E) (sz := sz) (i := i) (d := 0) (hi := rows.length) (n := n) (full := full) (s := s) (rows := rows) (zs := zs) (h' := h') (next := next) (by rw [hp]; exact hx) hy (Nat.zero_le _) (Nat.le_refl _) (by rw [Nat.sub_zero]; exact hn) hd (hset := hset') (by rw [hl]; exact hk) hone X a w K Q hs hK
end
end Go.Ab
/- The walks of bits.Mul, slices.Repeat, level.Uniform. Conditions: none. -/
set_option linter.unusedVariables false
set_option linter.unusedSimpArgs false
set_option maxRecDepth 10000
namespace Go.Proofs
open Go Go.Ab
attribute [local irreducible] QR QV OE aops aw dsoup dsoupM dalloc dallocM thn inBlk jsoup jch lsoup
open Go.H
def repL (l : Int) (n k : Nat) : List (List AV) := List.replicate k [iv l] ++ List.replicate (n - k) [iv 0]
theorem repL_len {l : Int} {n k : Nat} (h : k ≤ n) : (repL l n k).length = n := by simp [repL]; omega
theorem repL_one (l : Int) (n k : Nat) : ∀ r ∈ repL l n k, r.all AV.one = true := by
  intro r hr
  rcases List.mem_append.1 hr with h | h <;> rw [(List.mem_replicate.1 h).2] <;> rfl
theorem repL_0 (l : Int) (n : Nat) : ([[iv l]] : List (List AV)).take (min 1 n) ++ (List.replicate n [iv 0]).drop (min 1 n) = repL l n (min 1 n) := by
  cases n with
  | zero => rfl
  | succ n => simp [repL, List.replicate_succ]
theorem repL_len2 {l : Int} {n k m : Nat} (h : k ≤ n) (hm : m ≤ k) : ((((repL l n k).drop 0).take m).length : Int) = (m : Int) := by
  rw [List.drop_zero, List.length_take, repL_len h]; congr 1; omega
theorem repL_s {l : Int} {n k m : Nat} (h : k ≤ n) (hm : m ≤ k) (hm2 : m ≤ n - k) : (repL l n k).take k ++ (((repL l n k).drop 0).take m ++ (repL l n k).drop (k + (((repL l n k).drop 0).take m).length)) = repL l n (k + m) := by
  have e1 : (((repL l n k).drop 0).take m).length = m := by rw [List.drop_zero, List.length_take, repL_len h]; omega
  rw [e1, List.drop_zero]
  have e2 : (repL l n k).take k = List.replicate k [iv l] := by rw [repL, List.take_left' (by simp)]
  have e3 : (repL l n k).take m = List.replicate m [iv l] := by rw [repL, List.take_append_of_le_length (by simp; omega), List.take_replicate, Nat.min_eq_left hm]
  have e4 : (repL l n k).drop (k + m) = List.replicate (n - (k + m)) [iv 0] := by
    rw [repL, show k + m = (List.replicate k [iv l]).length + m by simp, List.drop_append, List.drop_replicate]; (try simp); (try omega)
  rw [e2, e3, e4, repL, ← List.append_assoc, List.replicate_append_replicate]
theorem tup_u {a b c d : Int} (h : a = c ∧ b = d) : AV.tup [.v (.int .u64 a), .v (.int .u64 b)] = AV.tup [.v (.int .u64 c), .v (.int .u64 d)] := by rw [h.1, h.2]
theorem mul64 (n : Nat) (hn : n < 1001) : ACall Tryz.prog 162 [.v (.int .u64 1), .v (.int .u64 n)] [] (fun r h' => h' = [] ∧ r = .tup [.v (.int .u64 0), .v (.int .u64 n)]) := by
  refine acall_of_aw Tryz.func162 rfl rfl rfl ?_
  refine rn ?_
  exact retq (.cons _ _ _ _ (.tmp _ _ rfl) (.cons _ _ _ _ (.tmp _ _ rfl) .nil)) (.refl _ _) ⟨rfl, tup_u (by revert n; decide +kernel)⟩
theorem mulW (n : Nat) (hn : n < 1001) : ACall Tryz.prog 124 [.v (.int .u64 1), .v (.int .u64 n)] [] (fun r h' => h' = [] ∧ r = .tup [.v (.int .u64 0), .v (.int .u64 n)]) := by
  refine acall_of_aw Tryz.func124 rfl rfl rfl ?_
  refine rn ?_
  refine aw_cf rfl ?_
  refine rn ?_
  refine qv rfl rfl (qv_call rfl rfl (pcall (mul64 n hn) (Sbs.refl _))) ?_
  refine rn ?_
  refine rq 0 ?_
  exact ⟨rfl, rfl⟩
theorem wrapU (n : Nat) (hn : n < 1001) : IntKind.u64.wrap (n : Int) = n := by revert n; decide +kernel
theorem wrapI (n : Nat) (hn : n < 1001) : IntKind.i64.wrap (n : Int) = n := by revert n; decide +kernel
set_option maxHeartbeats 4000000 in
theorem repeatI (l : Int) (n : Nat) (hn : n < 1001) : ACall Tryz.prog 84 [.list true 1 [[iv l]], iv n] [] (fun r h' => h' = [] ∧ r = intsA (List.replicate n l)) := by
  refine acall_of_aw Tryz.func84 rfl rfl rfl ?_
  refine rn ?_
  refine aw_cond rfl (fun hc10 => ?_) (fun hc10 => ?_)
  · exact absurd hc10 (by simp)
  · refine aw_skip ?_
    refine thn_n ?_
    refine aw_seq (aw_region ?_)
    refine q1 ?_
    refine q1 ?_
    refine qq rfl rfl (qr_convert (m := 1) rfl rfl) ?_
    refine q1 ?_
    refine qq rfl rfl (qr_convert (m := (n : Int)) rfl (wrapU n hn)) ?_
    refine qv rfl rfl (qv_call rfl rfl (pcall (mulW n hn) (Sbs.refl _))) ?_
    refine rn ?_
    refine aw_cond rfl (fun hc26 => ?_) (fun hc26 => ?_)
    · exact absurd hc26 (by simp; omega)
    · refine aw_skip ?_
      refine thn_n ?_
      refine aw_seq (aw_region ?_)
      refine q1 ?_
      refine qq rfl rfl (qr_convert (m := (n : Int)) rfl (wrapI n hn)) ?_
      refine aops_e rfl (oe_makeSlice rfl rfl rfl (by omega) (hk := fun b => ?_))
      refine aops_slice (.slice (some ⟨b, 0, none⟩) n n) fun sv hsv => ?_
      rw [hsv]
      clear hsv
      refine rn ?_
      refine aops_e rfl (oe_copy_ln (min 1 n) rfl rfl (by rw [List.length_replicate]; rfl) rfl (hk := ?_) (by intro r hr; rw [List.mem_singleton.1 hr]; rfl))
      rw [repL_0]
      refine rn ?_
      refine aw_while (fun k : Nat => k ≤ n ∧ (1 ≤ k ∨ n = 0)) (fun k => ⟨[(8, iv k), (7, .v sv.v)], .row sv.v 1 3 (repL l n k) :: [], []⟩) (fun k => n - k) (min 1 n) (by omega) es ?_
      rintro k ⟨hk, hk1⟩
      refine rn ?_
      refine aw_cond rfl (fun hc37 => ?_) (fun hc37 => ?_)
      · have hlt : k < n := by have q := of_decide_eq_true hc37; rw [repL_len hk] at q; omega
        refine aw_skip ?_
        refine rn0 ?_
        refine aw_block ?_
        refine aw_drawX 8 [7] [] (fun he => ∃ x : List (List AV), he = [.row sv.v 1 3 x] ∧ x.length = n) rfl rfl ⟨_, rfl, repL_len hk⟩ ?_
        refine jq rfl (fun he hC => by obtain ⟨x, rfl, hx⟩ := hC <;> exact qrA) ?_
        refine jq rfl (fun he hC => by obtain ⟨x, rfl, hx⟩ := hC <;> exact qrA) ?_
        refine jq rfl (fun he hC => by obtain ⟨x, rfl, hx⟩ := hC <;> exact qrA) ?_
        refine jq (av := .v (partV sv.v k n 1)) rfl (fun he hC => by obtain ⟨x, rfl, hx⟩ := hC <;> exact (by rw [← hx]; exact qr_part_l (l := k) rfl rfl (by rw [hx]; exact hk))) ?_
        refine jq rfl (fun he hC => by obtain ⟨x, rfl, hx⟩ := hC <;> exact qrA) ?_
        refine jq rfl (fun he hC => by obtain ⟨x, rfl, hx⟩ := hC <;> exact qrA) ?_
        refine jq rfl (fun he hC => by obtain ⟨x, rfl, hx⟩ := hC <;> exact (by exact qr_part_h (k := k) rfl rfl (by rw [hx]; exact hk))) ?_
        refine je rfl ?_
        refine jnil ?_
        refine jce rfl fun u => ?_
        refine oe_copy_pr (n := min k (n - k)) rfl rfl (by omega) (Nat.le_of_eq (repL_len hk).symm) (Nat.zero_le _) (by rw [repL_len hk]; exact hk) (by rfl) rfl (hk := ⟨_, _, rfl, ⟨_, rfl, by rw [repL_s hk (Nat.min_le_left _ _) (Nat.min_le_right _ _)]; exact repL_len (by omega)⟩, ?_⟩) (repL_one l n k)
        refine jcn ?_
        refine ln ?_
        rw [repL_len2 hk (Nat.min_le_left _ _)]
        refine qq rfl rfl (qr_ari rfl rfl rfl (by omega)) ?_
        refine rn ?_
        exact ⟨k + min k (n - k), ⟨by omega, by omega⟩, by rw [repL_s hk (Nat.min_le_left _ _) (Nat.min_le_right _ _)]; exact eA, by omega⟩
      · have hge : k = n := by have q := of_decide_eq_false hc37; rw [repL_len hk] at q; omega
        refine rn ?_
        exact retq (.cons _ _ _ _ (.tmp _ _ rfl) .nil) vent_freeze ⟨rfl, by rw [hge, repL, Nat.sub_self, List.replicate_zero, List.append_nil, intsA, List.map_replicate]; rfl⟩
theorem uniform (n : Nat) (l : Int) (hn : n < 1001) (hl : levB l = 0) : ACall Tryz.prog 30 [iv n, iv l] [] (fun r h' => h' = [] ∧ r = .tup [intsA (List.replicate n l), iv 0]) := by
  refine acall_of_aw Tryz.func30 rfl rfl rfl ?_
  refine rn ?_
  refine aw_cond rfl (fun hc6 => ?_) (fun hc6 => ?_)
  · exfalso
    have := of_decide_eq_true hc6
    omega
  · refine rn ?_
    refine qv rfl rfl (qv_call rfl rfl (pcall (levCheck l) (Sbs.refl _))) ?_
    refine rn ?_
    refine aw_cond rfl (fun hc13 => ?_) (fun hc13 => ?_)
    · exact absurd hl (by simpa using hc13)
    · refine rn ?_
      refine qv rfl rfl (qv_buildSlice rfl rfl) ?_
      refine rn ?_
      refine qv rfl rfl (qv_call rfl rfl (pcall (repeatI l n hn) (Sbs.refl _))) ?_
      refine rn ?_
      refine rq 0 ?_
      exact ⟨rfl, rfl⟩
end Go.Proofs
/- The walk of DirtyRises. Conditions: none. -/
set_option linter.unusedVariables false
set_option linter.unusedSimpArgs false
set_option maxRecDepth 10000
namespace Go.Proofs
open Go Go.Ab
attribute [local irreducible] QR QV OE aops aw dsoup dsoupM dalloc dallocM thn inBlk jsoup jch lsoup
open Go.H
theorem each_0 {a b : List Int} (h : eachC a b = 0) : levsB a = true ∧ levsB b = true ∧ a.length = b.length := by
  rw [eachC] at h
  split at h
  · rename_i q
    rw [Bool.and_eq_true] at q
    split at h
    · exact ⟨q.1, q.2, ‹_›⟩
    · cases h
  · cases h
theorem lev_iff {x : Int} : (levB x == 0) = true ↔ 1 ≤ x ∧ x ≤ 4 := by
  rw [beq_iff_eq, levB]
  split <;> simp_all <;> omega
theorem levs_iff {a : List Int} : levsB a = true ↔ ∀ x ∈ a, 1 ≤ x ∧ x ≤ 4 := by
  rw [levsB, List.all_eq_true]
  exact ⟨fun h x hx => lev_iff.1 (h x hx), fun h x hx => lev_iff.2 (h x hx)⟩
theorem lvAt_in {a : List Int} {t : Int} (h0 : 0 ≤ t) (h1 : t < a.length) : lvAt a t = a[t.toNat]'(by omega) := by
  rw [lvAt, List.getElem?_eq_getElem (by omega)]; rfl
theorem rise_join {a b : List Int} (h : eachC a b = 0) : (eachL max a b).length = a.length ∧ levsB (eachL max a b) = true ∧ ∀ t : Int, 0 ≤ t → t < a.length → lvAt a t ≤ lvAt (eachL max a b) t := by
  obtain ⟨ha, hb, hl⟩ := each_0 h
  have e : eachL max a b = List.zipWith max a b := by rw [eachL, if_pos h]
  rw [e]
  have hlen : (List.zipWith max a b).length = a.length := by rw [List.length_zipWith, hl, Nat.min_self]
  refine ⟨hlen, levs_iff.2 fun x hx => ?_, fun t h0 h1 => ?_⟩
  · obtain ⟨i, hi, rfl⟩ := List.mem_iff_getElem.1 hx
    rw [List.getElem_zipWith]
    have h1 := levs_iff.1 ha _ (List.getElem_mem (by rw [hlen] at hi; exact hi))
    have h2 := levs_iff.1 hb _ (List.getElem_mem (by rw [hlen, hl] at hi; exact hi))
    omega
  · rw [lvAt_in h0 h1, lvAt_in h0 (by rw [hlen]; exact h1), List.getElem_zipWith]; omega
theorem lvAt_rep {n : Nat} {l t : Int} (h0 : 0 ≤ t) (h1 : t < n) : lvAt (List.replicate n l) t = l := by
  rw [lvAt_in h0 (by rw [List.length_replicate]; exact h1), List.getElem_replicate]
theorem dr_rep {h : Hist} {a : List Int} (hd : dirC h a = 0) {n : Nat} (hn : n = a.length) (l : Int) (h1 : 1 ≤ l) (h4 : l ≤ 4) : dirC h (List.replicate n l) = 0 := by
  obtain ⟨hc, _, hal⟩ := dirC_0.1 hd
  refine dirC_0.2 ⟨hc, levs_iff.2 fun x hx => ?_, by rw [List.length_replicate, hn, hal]⟩
  rw [(List.mem_replicate.1 hx).2]; exact ⟨h1, h4⟩
theorem ev_tt {h : Hist} {a : List Int} (hd : dirC h a = 0) {e : Ev} (he : e ∈ h.evs) : 0 ≤ e.t ∧ e.t < a.length := by
  obtain ⟨hc, _, hal⟩ := dirC_0.1 hd
  have := may_t (sound_may (checkI_0.1 hc)).1 e he
  rw [hal]; exact this
theorem dr_more {h : Hist} {a b : List Int} (hd : dirC h a = 0) (he : eachC a b = 0) : dirC h (eachL max a b) = 0 ∧ ∀ d ∈ dirAll h a, d ∈ dirAll h (eachL max a b) := by
  obtain ⟨j1, j2, j3⟩ := rise_join he
  obtain ⟨hc, _, hal⟩ := dirC_0.1 hd
  have hj : dirC h (eachL max a b) = 0 := dirC_0.2 ⟨hc, j2, by rw [j1, hal]⟩
  refine ⟨hj, fun d hm => ?_⟩
  rw [all_0 hd] at hm
  rw [all_0 hj]
  exact dirE_rise (fun e he2 h2 => Int.le_trans h2 (j3 e.t (ev_tt hd he2).1 (ev_tt hd he2).2)) hm
theorem dr_low {h : Hist} {a : List Int} (hd : dirC h a = 0) {n : Nat} (hn : n = a.length) : dirAll h (List.replicate n 1) = [] := by
  rw [all_0 (dr_rep hd hn 1 (by decide) (by decide))]
  refine dirL_nil fun e he => ?_
  rw [lvAt_rep (ev_tt hd he).1 (by rw [hn]; exact (ev_tt hd he).2)]; decide
theorem dr_two {h : Hist} {a b : List Int} (hd : dirC h a = 0) (hb : dirC h b = 0) {n : Nat} (hn : n = a.length) : ∀ d ∈ dirAll h b, d ∈ dirAll h (List.replicate n 2) := by
  intro d hm
  rw [all_0 hb] at hm
  rw [all_0 (dr_rep hd hn 2 (by decide) (by decide))]
  refine dirE_rise (fun e he h2 => ?_) hm
  rw [lvAt_rep (ev_tt hd he).1 (by rw [hn]; exact (ev_tt hd he).2)]; decide
theorem eachL_len (a b : List Int) : (eachL max a b).length ≤ a.length := by
  rw [eachL]; split
  · rw [List.length_zipWith]; exact Nat.min_le_left _ _
  · exact Nat.zero_le _
theorem indexFuncDir {full : Bool} (l : List Dirt) (fv : AV) (p : Dirt → Bool) (G : List Res) (hp : ∀ a ∈ l, FCall Tryz.prog fv [.agg (dirR a)] G (fun r h' => h' = G ∧ r = bv (p a))) (hlen : l.length ≤ 4611686018427387904) : ACall Tryz.prog 85 [.list full 5 (l.map dirR), fv] G (fun r h' => h' = G ∧ r = iv (fidx p 0 l)) := by
  refine acall_of_aw Tryz.func85 rfl rfl rfl ?_
  refine rn ?_
  refine aw_loop' (fun k : Nat => k ≤ l.length ∧ fidx p 0 l = fidx p k (l.drop k)) (fun k => ⟨[(8, iv k), (7, iv (l.map dirR).length), (0, .list full 5 (l.map dirR)), (1, fv)], G, []⟩) (fun k => l.length - k) 0 ⟨Nat.zero_le _, by simp⟩
    (ent_sub (.cons _ _ _ rfl (.cons _ _ _ rfl (.cons _ _ _ rfl (.cons _ _ _ rfl (.nil)))))) ?_
  rintro k ⟨hk, hnot⟩
  refine rn ?_
  refine aw_cond rfl (fun hc9 => ?_) (fun hc9 => ?_)
  · have hk2 : k < l.length := by simpa using hc9
    have hrow : (l.map dirR)[k]? = some (dirR l[k]) := by simp [hk2]
    have hd := List.drop_eq_getElem_cons hk2
    refine rn ?_
    refine qv rfl rfl (qv_call rfl rfl (hp l[k] (by simp))) ?_
    refine rn ?_
    refine aw_cond rfl (fun hc16 => ?_) (fun hc16 => ?_)
    · refine rn ?_
      exact retq (.cons _ _ _ _ (.tmp _ _ rfl) .nil) (.refl _ _) ⟨rfl, by rw [hnot, hd, fidx, if_pos hc16]; rfl⟩
    · refine rn ?_
      exact ⟨k + 1, ⟨by omega, by rw [hnot, hd, fidx, if_neg (by simp [hc16])]⟩, (ent_sub (.cons _ _ _ rfl (.cons _ _ _ rfl (.cons _ _ _ rfl (.cons _ _ _ rfl (.nil)))))), by omega⟩
  · have hk3 : k = l.length := by
      have : l.length ≤ k := by simpa using hc9
      omega
    refine rn ?_
    exact retq (.cons _ _ _ _ (.tmp _ _ rfl) .nil) (.refl _ _) ⟨rfl, by rw [hnot, hk3, List.drop_length, fidx]; rfl⟩
theorem containsFuncDir {full : Bool} (l : List Dirt) (fv : AV) (p : Dirt → Bool) (G : List Res) (hp : ∀ a ∈ l, FCall Tryz.prog fv [.agg (dirR a)] G (fun r h' => h' = G ∧ r = bv (p a))) (hlen : l.length ≤ 4611686018427387904) : ACall Tryz.prog 31 [.list full 5 (l.map dirR), fv] G (fun r h' => h' = G ∧ r = bv (l.any p)) := by
  refine acall_of_aw Tryz.func31 rfl rfl rfl ?_
  refine rn ?_
  refine qv rfl rfl (qv_call rfl rfl (FCall.of_fun (indexFuncDir l _ p G hp hlen))) ?_
  refine rn ?_
  exact retq (.cons _ _ _ _ (.tmp _ _ rfl) .nil) (.refl _ _) ⟨rfl, by simp only [← fidx_ge p l 0]; rfl⟩
theorem dirNot (d : Dirt) (b20 : Nat) (B : List Dirt) (W : List Res) (hB : B.length ≤ 20000000) : ACall Tryz.prog 32 [.agg (dirR d), .v (.pointer (some ⟨b20, 0, none⟩))] (.box b20 33 [dirsA B] :: W) (fun r h' => h' = .box b20 33 [dirsA B] :: W ∧ r = bv (!decide (d ∈ B))) := by
  refine acall_of_aw Tryz.func32 rfl rfl rfl ?_
  refine rn ?_
  refine aops_e rfl (oe_box rfl rfl rfl fun b2 => ?_)
  refine rn ?_
  refine qv rfl rfl (qv_call rfl rfl (pcall (containsDir B d (Nat.le_trans hB (by decide))) (Sbs.refl _))) ?_
  refine rn ?_
  refine rq 1 ?_
  exact ⟨rfl, rfl⟩
theorem containsDirT {f : Bool} (l : List Dirt) (s : Dirt) (hl : l.length ≤ 4611686018427387904) (hs : s ∈ l) : ACall Tryz.prog 24 [.list f 5 (l.map dirR), .agg (dirR s)] [] (fun r h' => h' = [] ∧ r = bv true) := (containsDir l s hl).mono fun _ _ q => ⟨q.1, by rw [q.2, decide_eq_true hs]⟩
theorem noneMore (l B : List Dirt) (b20 : Nat) (W : List Res) (hl : l.length ≤ 4611686018427387904) (hB : B.length ≤ 20000000) (hs : ∀ d ∈ l, d ∈ B) : ACall Tryz.prog 31 [dirsA l, .fn (.func 32) [] [.v (.pointer (some ⟨b20, 0, none⟩))]] (.box b20 33 [dirsA B] :: W) (fun r h' => h' = .box b20 33 [dirsA B] :: W ∧ r = bv false) :=
  (containsFuncDir l _ (fun d => !decide (d ∈ B)) (.box b20 33 [dirsA B] :: W) (fun d _ => FCall.of_acall (fs := []) (cs := [.v (.pointer (some ⟨b20, 0, none⟩))]) (dirNot d b20 B W hB)) hl).mono fun _ _ q => ⟨q.1, by rw [q.2, List.any_eq_false.2 fun d hd => by simp [hs d hd]]⟩
set_option maxHeartbeats 4000000 in
theorem risesA (x : Hist) (y z : List Int) (lb : Lim 4611686018427387904 x) (hl : y.length ≤ 4611686018427387904) (hz : z.length ≤ 4611686018427387904) (hD : ¬ (dirC (fewA x) (levX y)) = 0) : ACall Tryz.prog 6 [.agg (histC x), intsA y, intsA z] (.glob 0 186 limitsC :: .glob 2 287 firstC :: .glob 3 290 acceptC :: .glob 1 250 asksC :: []) (fun r h' => h' = .glob 0 186 limitsC :: .glob 2 287 firstC :: .glob 3 290 acceptC :: .glob 1 250 asksC :: [] ∧ r = bv true) := by
  refine acall_of_aw Tryz.func6 rfl rfl rfl ?_
  refine rn ?_
  refine aops_e rfl (oe_box rfl rfl rfl fun b3 => ?_)
  refine rn ?_
  refine qv rfl rfl (qv_call rfl rfl (FCall.qt (FCall.of_fun wakes23) ((pt1 _ _ _).trans (.cons _ ((pt1 _ _ _).trans (.cons _ ((pt1 _ _ _).trans (.cons _ (pt1 _ _ _))))))))) ?_
  refine rn ?_
  refine aw_cond rfl (fun hc25 => ?_) (fun hc25 => ?_)
  · exact absurd hc25 (by decide)
  · refine rn ?_
    refine qv rfl rfl (qv_call rfl rfl (pcall (few23 x lb) (Sbs.refl _))) ?_
    refine rn ?_
    refine qv rfl rfl (qv_call rfl rfl (pcall (levels y hl) (Sbs.refl _))) ?_
    refine rn ?_
    refine qv rfl rfl (qv_call rfl rfl (pcall (levels z hz) (Sbs.refl _))) ?_
    refine aops_e rfl (oe_alloc rfl fun b7 => ?_)
    refine rn ?_
    refine qv rfl rfl (qv_call rfl rfl (FCall.qt (FCall.of_fun (dirtyAll (fewA x) ((fewA_lim x).mono (by decide)) (levX y) (Nat.le_trans (levX_len y) (by decide)))) ((pt2 _ _ _ _).trans (.cons _ ((pt2 _ _ _ _).trans (.cons _ ((pt2 _ _ _ _).trans (.cons _ (pt2 _ _ _ _))))))))) ?_
    refine rn ?_
    refine qv rfl rfl (qv_call rfl rfl (pcall (levJoin (levX y) (levX z) (Nat.le_trans (levX_len y) (by decide)) (Nat.le_trans (levX_len z) (by decide))) (Sbs.refl _))) ?_
    refine q1 ?_
    refine q1 ?_
    refine q1 ?_
    refine q1 ?_
    refine q1 ?_
    refine aops_nil (thn_n ?_)
    refine aw_seq ?_
    refine aw_seq (aw_region ?_)
    refine q1 ?_
    refine qq rfl rfl (qr_cmp (c := true) rfl rfl (congrArg some (by simpa using hD))) ?_
    refine rn ?_
    refine aw_cond rfl (fun hc49 => ?_) (fun hc49 => ?_)
    · refine aw_seq ?_
      rw [all_m hD]
      refine aw_region ?_
      refine q1 ?_
      refine qq rfl rfl (qr_cmp (c := false) rfl rfl (congrArg some (by simpa using hD))) ?_
      refine rn ?_
      refine rq 2 ?_
      exact ⟨rfl, rfl⟩
    · first | cases hc49 | exact absurd hc49 (by decide) | (exfalso; simp_all; done)
set_option maxHeartbeats 4000000 in
theorem risesB (x : Hist) (y z : List Int) (lb : Lim 4611686018427387904 x) (hl : y.length ≤ 4611686018427387904) (hz : z.length ≤ 4611686018427387904) (hD : (dirC (fewA x) (levX y)) = 0) (hC : ¬ (eachC (levX y) (levX z)) = 0) : ACall Tryz.prog 6 [.agg (histC x), intsA y, intsA z] (.glob 0 186 limitsC :: .glob 2 287 firstC :: .glob 3 290 acceptC :: .glob 1 250 asksC :: []) (fun r h' => h' = .glob 0 186 limitsC :: .glob 2 287 firstC :: .glob 3 290 acceptC :: .glob 1 250 asksC :: [] ∧ r = bv true) := by
  refine acall_of_aw Tryz.func6 rfl rfl rfl ?_
  refine rn ?_
  refine aops_e rfl (oe_box rfl rfl rfl fun b3 => ?_)
  refine rn ?_
  refine qv rfl rfl (qv_call rfl rfl (FCall.qt (FCall.of_fun wakes23) ((pt1 _ _ _).trans (.cons _ ((pt1 _ _ _).trans (.cons _ ((pt1 _ _ _).trans (.cons _ (pt1 _ _ _))))))))) ?_
  refine rn ?_
  refine aw_cond rfl (fun hc25 => ?_) (fun hc25 => ?_)
  · exact absurd hc25 (by decide)
  · refine rn ?_
    refine qv rfl rfl (qv_call rfl rfl (pcall (few23 x lb) (Sbs.refl _))) ?_
    refine rn ?_
    refine qv rfl rfl (qv_call rfl rfl (pcall (levels y hl) (Sbs.refl _))) ?_
    refine rn ?_
    refine qv rfl rfl (qv_call rfl rfl (pcall (levels z hz) (Sbs.refl _))) ?_
    refine aops_e rfl (oe_alloc rfl fun b7 => ?_)
    refine rn ?_
    refine qv rfl rfl (qv_call rfl rfl (FCall.qt (FCall.of_fun (dirtyAll (fewA x) ((fewA_lim x).mono (by decide)) (levX y) (Nat.le_trans (levX_len y) (by decide)))) ((pt2 _ _ _ _).trans (.cons _ ((pt2 _ _ _ _).trans (.cons _ ((pt2 _ _ _ _).trans (.cons _ (pt2 _ _ _ _))))))))) ?_
    refine rn ?_
    refine qv rfl rfl (qv_call rfl rfl (pcall (levJoin (levX y) (levX z) (Nat.le_trans (levX_len y) (by decide)) (Nat.le_trans (levX_len z) (by decide))) (Sbs.refl _))) ?_
    refine q1 ?_
    refine q1 ?_
    refine q1 ?_
    refine q1 ?_
    refine q1 ?_
    refine aops_nil (thn_n ?_)
    refine aw_seq ?_
    refine aw_seq (aw_region ?_)
    refine q1 ?_
    refine qq rfl rfl (qr_cmp (c := false) rfl rfl (congrArg some (by rw [hD]; rfl))) ?_
    refine q1 ?_
    refine q1 ?_
    refine qq rfl rfl (qr_cmp (c := true) rfl rfl (congrArg some (by simpa using hC))) ?_
    refine rn ?_
    refine aw_cond rfl (fun hc49 => ?_) (fun hc49 => ?_)
    · refine aw_seq (aw_region ?_)
      refine q1 ?_
      refine qq rfl rfl (qr_cmp (c := true) rfl rfl (congrArg some (by rw [hD]; rfl))) ?_
      refine rn ?_
      refine rq 2 ?_
      exact ⟨rfl, rfl⟩
    · first | cases hc49 | exact absurd hc49 (by decide) | (exfalso; simp_all; done)
set_option maxHeartbeats 4000000 in
theorem risesC (x : Hist) (y z : List Int) (lb : Lim 4611686018427387904 x) (hl : y.length ≤ 4611686018427387904) (hz : z.length ≤ 4611686018427387904) (hD : (dirC (fewA x) (levX y)) = 0) (hC : (eachC (levX y) (levX z)) = 0) : ACall Tryz.prog 6 [.agg (histC x), intsA y, intsA z] (.glob 0 186 limitsC :: .glob 2 287 firstC :: .glob 3 290 acceptC :: .glob 1 250 asksC :: []) (fun r h' => h' = .glob 0 186 limitsC :: .glob 2 287 firstC :: .glob 3 290 acceptC :: .glob 1 250 asksC :: [] ∧ r = bv true) := by
  refine acall_of_aw Tryz.func6 rfl rfl rfl ?_
  refine rn ?_
  refine aops_e rfl (oe_box rfl rfl rfl fun b3 => ?_)
  refine rn ?_
  refine qv rfl rfl (qv_call rfl rfl (FCall.qt (FCall.of_fun wakes23) ((pt1 _ _ _).trans (.cons _ ((pt1 _ _ _).trans (.cons _ ((pt1 _ _ _).trans (.cons _ (pt1 _ _ _))))))))) ?_
  refine rn ?_
  refine aw_cond rfl (fun hc25 => ?_) (fun hc25 => ?_)
  · exact absurd hc25 (by decide)
  · refine rn ?_
    refine qv rfl rfl (qv_call rfl rfl (pcall (few23 x lb) (Sbs.refl _))) ?_
    refine rn ?_
    refine qv rfl rfl (qv_call rfl rfl (pcall (levels y hl) (Sbs.refl _))) ?_
    refine rn ?_
    refine qv rfl rfl (qv_call rfl rfl (pcall (levels z hz) (Sbs.refl _))) ?_
    refine aops_e rfl (oe_alloc rfl fun b7 => ?_)
    refine rn ?_
    refine qv rfl rfl (qv_call rfl rfl (FCall.qt (FCall.of_fun (dirtyAll (fewA x) ((fewA_lim x).mono (by decide)) (levX y) (Nat.le_trans (levX_len y) (by decide)))) ((pt2 _ _ _ _).trans (.cons _ ((pt2 _ _ _ _).trans (.cons _ ((pt2 _ _ _ _).trans (.cons _ (pt2 _ _ _ _))))))))) ?_
    refine rn ?_
    refine qv rfl rfl (qv_call rfl rfl (pcall (levJoin (levX y) (levX z) (Nat.le_trans (levX_len y) (by decide)) (Nat.le_trans (levX_len z) (by decide))) (Sbs.refl _))) ?_
    refine q1 ?_
    refine q1 ?_
    refine q1 ?_
    refine q1 ?_
    refine q1 ?_
    refine aops_nil (thn_n ?_)
    refine aw_seq ?_
    refine aw_seq (aw_region ?_)
    refine q1 ?_
    refine qq rfl rfl (qr_cmp (c := false) rfl rfl (congrArg some (by rw [hD]; rfl))) ?_
    refine q1 ?_
    refine q1 ?_
    refine qq rfl rfl (qr_cmp (c := false) rfl rfl (congrArg some (by rw [hC]; rfl))) ?_
    refine rn ?_
    refine aw_cond rfl (fun hc49 => ?_) (fun hc49 => ?_)
    · first | cases hc49 | exact absurd hc49 (by decide) | (exfalso; simp_all; done)
    · refine rn ?_
      refine qv rfl rfl (qv_call rfl rfl (FCall.qt (FCall.of_fun (dirtyAll (fewA x) ((fewA_lim x).mono (by decide)) (eachL max (levX y) (levX z)) (Nat.le_trans (eachL_len (levX y) (levX z)) (Nat.le_trans (levX_len y) (by decide))))) ((pt2 _ _ _ _).trans (.cons _ ((pt2 _ _ _ _).trans (.cons _ ((pt2 _ _ _ _).trans (.cons _ (pt2 _ _ _ _))))))))) ?_
      refine rn ?_
      refine qv rfl rfl (qv_call rfl rfl (pcall (uniform ((levX y).map intR).length 1 (by rw [List.length_map]; exact Nat.lt_of_le_of_lt (levX_len y) (by decide)) rfl) (Sbs.refl _))) ?_
      refine rn ?_
      refine qv rfl rfl (qv_call rfl rfl (FCall.qt (FCall.of_fun (dirtyAll (fewA x) ((fewA_lim x).mono (by decide)) (List.replicate ((levX y).map intR).length 1) (by rw [List.length_replicate, List.length_map]; exact (Nat.le_trans (levX_len y) (by decide))))) ((pt2 _ _ _ _).trans (.cons _ ((pt2 _ _ _ _).trans (.cons _ ((pt2 _ _ _ _).trans (.cons _ (pt2 _ _ _ _))))))))) ?_
      rw [dr_low hD (by rw [List.length_map])]
      refine rn ?_
      refine qv rfl rfl (qv_call rfl rfl (pcall (uniform ((levX y).map intR).length 2 (by rw [List.length_map]; exact Nat.lt_of_le_of_lt (levX_len y) (by decide)) rfl) (Sbs.refl _))) ?_
      refine rn ?_
      refine qv rfl rfl (qv_call rfl rfl (FCall.qt (FCall.of_fun (dirtyAll (fewA x) ((fewA_lim x).mono (by decide)) (List.replicate ((levX y).map intR).length 2) (by rw [List.length_replicate, List.length_map]; exact (Nat.le_trans (levX_len y) (by decide))))) ((pt2 _ _ _ _).trans (.cons _ ((pt2 _ _ _ _).trans (.cons _ ((pt2 _ _ _ _).trans (.cons _ (pt2 _ _ _ _))))))))) ?_
      refine rn ?_
      refine aops_e rfl (oe_alloc rfl fun b20 => ?_)
      first | refine aops_e rfl (oe_store_all rfl rfl rfl ?_) | refine aops_e rfl (oe_store rfl rfl rfl rfl (Nat.le_of_ble_eq_true rfl) ?_)
      refine q1 ?_
      refine aops_nil (thn_n ?_)
      refine aw_seq ?_
      refine aw_seq (aw_region ?_)
      refine q1 ?_
      refine qq rfl rfl (qr_cmp (c := false) rfl rfl (congrArg some (by rw [(dr_more hD hC).1]; rfl))) ?_
      refine q1 ?_
      refine q1 ?_
      refine q1 ?_
      refine q1 ?_
      refine q1 ?_
      refine q1 ?_
      refine qq rfl rfl (qr_cmp (c := false) rfl rfl (congrArg some (by rw [dr_rep hD (by rw [List.length_map]) 1 (by decide) (by decide)]; rfl))) ?_
      refine q1 ?_
      refine q1 ?_
      refine q1 ?_
      refine q1 ?_
      refine q1 ?_
      refine q1 ?_
      refine q1 ?_
      refine qq rfl rfl (qr_cmp (c := false) rfl rfl (congrArg some (by rw [dr_rep hD (by rw [List.length_map]) 2 (by decide) (by decide)]; rfl))) ?_
      refine rn ?_
      refine aw_cond rfl (fun hc109 => ?_) (fun hc109 => ?_)
      · first | cases hc109 | exact absurd hc109 (by decide) | (exfalso; simp_all; done)
      · refine rn ?_
        refine aw_rng ((dirAll (fewA x) (levX y)).length) (fun j : Nat => True) (fun j => [(112, iv j)]) [(14, _), (20, _), (110, _), (111, _)] trivial ?_
        intro j lj _
        refine rn ?_
        refine aw_cond rfl (fun hc113 => ?_) (fun hc113 => ?_)
        · have hj := ltMap hc113
          have rj := atRow (f := dirR) hj
          have bk := dirAll_len (fewA x) (levX y)
          refine rn ?_
          refine aops_e rfl (oe_alloc rfl fun b23 => ?_)
          refine rn ?_
          refine qv rfl rfl (qv_call rfl rfl (pcall (containsDirT (dirAll (fewA x) (eachL max (levX y) (levX z))) (dirAll (fewA x) (levX y))[j] (Nat.le_trans (dirAll_len _ _) (by decide)) ((dr_more hD hC).2 _ (List.getElem_mem hj))) (Sbs.refl _))) ?_
          refine rn ?_
          refine aw_cond rfl (fun hc119 => ?_) (fun hc119 => ?_)
          · exact absurd hc119 (by decide)
          · refine rn ?_
            exact ⟨hj, trivial, eA⟩
        · have qj := geMap hc113 lj
          refine rn ?_
          refine qv rfl rfl (qv_call rfl rfl (FCall.of_fun (noneMore (dirAll (fewA x) (eachL max (levX y) (levX z))) (dirAll (fewA x) (List.replicate ((levX y).map intR).length 2)) b20 _ (Nat.le_trans (dirAll_len _ _) (by decide)) (dirAll_len _ _) (dr_two hD (dr_more hD hC).1 (by rw [List.length_map]))))) ?_
          refine rn ?_
          refine rq 3 ?_
          exact ⟨rfl, rfl⟩
theorem dirtyRises (x : Hist) (y z : List Int) (lb : Lim 4611686018427387904 x) (hl : y.length ≤ 4611686018427387904) (hz : z.length ≤ 4611686018427387904) : ACall Tryz.prog 6 [.agg (histC x), intsA y, intsA z] (.glob 0 186 limitsC :: .glob 2 287 firstC :: .glob 3 290 acceptC :: .glob 1 250 asksC :: []) (fun r h' => h' = .glob 0 186 limitsC :: .glob 2 287 firstC :: .glob 3 290 acceptC :: .glob 1 250 asksC :: [] ∧ r = bv true) := by
  by_cases hD : (dirC (fewA x) (levX y)) = 0
  · by_cases hC : (eachC (levX y) (levX z)) = 0
    · exact risesC x y z lb hl hz hD hC
    · exact risesB x y z lb hl hz hD hC
  · exact risesA x y z lb hl hz hD
end Go.Proofs
