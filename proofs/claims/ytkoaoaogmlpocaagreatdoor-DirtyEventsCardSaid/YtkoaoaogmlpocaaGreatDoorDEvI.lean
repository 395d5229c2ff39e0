/- The walks of law 23's small, wakes, levels. Conditions: none. -/
import Derived.Test.YtkoaoaogmlpocaaGreatDoorDEvH
set_option linter.unusedSectionVars false
set_option linter.unusedSimpArgs false
set_option linter.unusedVariables false
set_option linter.unusedVariables false
set_option linter.unusedSimpArgs false
set_option maxRecDepth 10000
namespace Go.Proofs
open Go Go.Ab
attribute [local irreducible] QR QV OE aops aw dsoup dsoupM dalloc dallocM thn inBlk jsoup jch lsoup
open Go.H
theorem small23  : ACall Tryz.prog 55 [] [] (fun r h' => h' = [] ∧ r = .agg (histC dtH)) := by
  refine acall_of_aw Tryz.func55 rfl rfl rfl ?_
  refine rn ?_
  refine aops_e rfl (oe_alloc rfl fun b0 => ?_)
  refine rn ?_
  refine qv rfl rfl (qv_buildSlice rfl rfl) ?_
  refine qv rfl rfl (qv_buildSlice rfl rfl) ?_
  refine qv rfl rfl (qv_buildSlice rfl rfl) ?_
  refine rn ?_
  refine qv rfl rfl (qv_buildSlice rfl rfl) ?_
  refine rn ?_
  exact retq (.cons _ _ _ _ (.agg _ _ _ _ _ _ _ rfl inferInstance inferInstance inferInstance rfl) .nil) (.trans (.drop1 _ _ _) (.le (Sb.aggs (bs := histC dtH) (by exact ⟨.unfull, .unfull, .unfull, .nil _ _, (.lists (by simp) ⟨⟨.refl _, .refl _, .refl _, .refl _, .refl _, .refl _, .refl _, .refl _, .nil _ _, trivial⟩, ⟨.refl _, .refl _, .refl _, .refl _, .refl _, .refl _, .refl _, .refl _, .nil _ _, trivial⟩, ⟨.refl _, .refl _, .refl _, .refl _, .refl _, .refl _, .refl _, .refl _, .nil _ _, trivial⟩, ⟨.refl _, .refl _, .refl _, .refl _, .refl _, .refl _, .refl _, .refl _, .nil _ _, trivial⟩, ⟨.refl _, .refl _, .refl _, .refl _, .refl _, .refl _, .refl _, .refl _, .nil _ _, trivial⟩, ⟨.refl _, .refl _, .refl _, .refl _, .refl _, .refl _, .refl _, .refl _, .nil _ _, trivial⟩, ⟨.refl _, .refl _, .refl _, .refl _, .refl _, .refl _, .refl _, .refl _, .nil _ _, trivial⟩, trivial⟩), .nil _ _, .nil _ _, .nil _ _, trivial⟩)).le)) ⟨rfl, rfl⟩
theorem limD : Lim 4611686018427387904 dtH := ⟨by decide, by decide, by decide, by decide, by decide, by decide, by decide, by decide, by decide, by decide, by decide⟩
theorem dtA1 : ACall Tryz.prog 16 [.agg (histC dtH), intsA [1, 2]] (.glob 0 186 limitsC :: .glob 2 287 firstC :: .glob 3 290 acceptC :: .glob 1 250 asksC :: []) (fun r h' => h' = .glob 0 186 limitsC :: .glob 2 287 firstC :: .glob 3 290 acceptC :: .glob 1 250 asksC :: [] ∧ r = .tup [dirsA [⟨1, 5, 0, ⟨0, 1⟩⟩, ⟨2, 5, 0, ⟨0, 1⟩⟩], iv 0]) := (dirtyAll dtH limD [1, 2] (by decide)).mono fun _ _ q => ⟨q.1, by rw [q.2, dt_all12, dt_12]⟩
theorem dtA2 : ACall Tryz.prog 17 [.agg (histC dtH), intsA [4, 1]] (.glob 0 186 limitsC :: .glob 2 287 firstC :: .glob 3 290 acceptC :: .glob 1 250 asksC :: []) (fun r h' => h' = .glob 0 186 limitsC :: .glob 2 287 firstC :: .glob 3 290 acceptC :: .glob 1 250 asksC :: [] ∧ r = .tup [.agg (dirR dir0), bv false, iv 0]) := (dirtyFirst dtH limD [4, 1] (by decide)).mono fun _ _ q => ⟨q.1, by rw [q.2, dt_all41, dt_41]; rfl⟩
theorem dtA3 : ACall Tryz.prog 17 [.agg (histC dtH), intsA [2]] (.glob 0 186 limitsC :: .glob 2 287 firstC :: .glob 3 290 acceptC :: .glob 1 250 asksC :: []) (fun r h' => h' = .glob 0 186 limitsC :: .glob 2 287 firstC :: .glob 3 290 acceptC :: .glob 1 250 asksC :: [] ∧ r = .tup [.agg (dirR dir0), bv false, iv 2]) := (dirtyFirst dtH limD [2] (by decide)).mono fun _ _ q => ⟨q.1, by rw [q.2, dt_all2, dt_2]; rfl⟩
theorem dtA4 : ACall Tryz.prog 23 [.agg (histC dtH), intsA [1, 3], .agg (dirR ⟨2, 5, 0, ⟨0, 1⟩⟩)] (.glob 0 186 limitsC :: .glob 2 287 firstC :: .glob 3 290 acceptC :: .glob 1 250 asksC :: []) (fun r h' => h' = .glob 0 186 limitsC :: .glob 2 287 firstC :: .glob 3 290 acceptC :: .glob 1 250 asksC :: [] ∧ r = bv true) := (dirtyIs dtH limD [1, 3] (by decide) ⟨2, 5, 0, ⟨0, 1⟩⟩).mono fun _ _ q => ⟨q.1, by rw [q.2, dt_all13]; rfl⟩
theorem wakes23  : ACall Tryz.prog 13 [] (.glob 0 186 limitsC :: .glob 2 287 firstC :: .glob 3 290 acceptC :: .glob 1 250 asksC :: []) (fun r h' => h' = .glob 0 186 limitsC :: .glob 2 287 firstC :: .glob 3 290 acceptC :: .glob 1 250 asksC :: [] ∧ r = bv true) := by
  refine acall_of_aw Tryz.func13 rfl rfl rfl ?_
  refine rn ?_
  refine qv rfl rfl (qv_call rfl rfl (pcall small23 (Sbs.refl _))) ?_
  refine qv rfl rfl (qv_buildSlice rfl rfl) ?_
  refine qv rfl rfl (qv_call rfl rfl (gcall (h := []) dtA1 (by exact ⟨.refl _, .unfull, trivial⟩))) ?_
  refine rn ?_
  refine qv rfl rfl (qv_call rfl rfl (pcall small23 (Sbs.refl _))) ?_
  refine qv rfl rfl (qv_buildSlice rfl rfl) ?_
  refine qv rfl rfl (qv_call rfl rfl (gcall (h := []) dtA2 (by exact ⟨.refl _, .unfull, trivial⟩))) ?_
  refine rn ?_
  refine aops_e rfl (oe_alloc rfl fun b3 => ?_)
  refine rn ?_
  refine qv rfl rfl (qv_call rfl rfl (pcall small23 (Sbs.refl _))) ?_
  refine qv rfl rfl (qv_buildSlice rfl rfl) ?_
  refine qv rfl rfl (qv_call rfl rfl (gcall (h := [_]) dtA3 (by exact ⟨.refl _, .unfull, trivial⟩))) ?_
  refine rn ?_
  refine aops_e rfl (oe_alloc rfl fun b6 => ?_)
  refine rn ?_
  refine aw_draw 45 rfl ?_
  refine dq rfl rfl qrA ?_
  refine dq rfl rfl qrA ?_
  refine dq rfl rfl qrA ?_
  refine dq rfl rfl qrA ?_
  refine dq rfl rfl qrA ?_
  refine dq rfl rfl qrA ?_
  refine dq rfl rfl qrA ?_
  refine dq rfl rfl qrA ?_
  refine dq rfl rfl qrA ?_
  refine dq rfl rfl qrA ?_
  refine dq rfl rfl qrA ?_
  refine dq rfl rfl qrA ?_
  refine dq rfl rfl qrA ?_
  refine dq rfl rfl qrA ?_
  refine dq rfl rfl qrA ?_
  refine dq rfl rfl qrA ?_
  refine dq rfl rfl qrA ?_
  refine dq rfl rfl qrA ?_
  refine dq rfl rfl qrA ?_
  refine dq rfl rfl qrA ?_
  refine dq rfl rfl qrA ?_
  refine dq rfl rfl qrA ?_
  refine dq rfl rfl qrA ?_
  refine dq rfl rfl qrA ?_
  refine dq rfl rfl qrA ?_
  refine dq rfl rfl qrA ?_
  refine dq rfl rfl (qr_index_int rfl rfl (by decide) rfl) ?_
  refine dq rfl rfl qrA ?_
  refine dq rfl rfl qrA ?_
  refine dq rfl rfl qrA ?_
  refine dq rfl rfl qrA ?_
  refine dq rfl rfl qrA ?_
  refine dq rfl rfl qrA ?_
  refine dq rfl rfl qrA ?_
  refine dq rfl rfl (qr_index_int rfl rfl (by decide) rfl) ?_
  refine rn ?_
  refine dv rfl rfl (by exact qv_call rfl rfl (pcall small23 (Sbs.refl _))) ?_
  refine dv rfl rfl (qv_buildSlice rfl rfl) ?_
  refine dq rfl rfl qrA ?_
  refine dq rfl rfl (qr_index_int rfl rfl (by decide) rfl) ?_
  refine rn ?_
  refine qv rfl rfl (qv_call rfl rfl (gcall (h := [_, _]) dtA4 (by exact ⟨.refl _, .unfull, .refl _, trivial⟩))) ?_
  refine rn ?_
  refine rq 2 ?_
  exact ⟨rfl, rfl⟩
def levX (a : List Int) : List Int := a.take 14
theorem levX_len (a : List Int) : (levX a).length ≤ 14 := by simp only [levX, List.length_take]; omega
theorem levX_map (a : List Int) : (a.map intR).take (min (a.map intR).length 14) = (levX a).map intR := by
  rw [List.length_map, levX, ← List.map_take, Nat.min_comm, ← List.take_take, List.take_length]
theorem levels (a : List Int) (ha : a.length ≤ 4611686018427387904) : ACall Tryz.prog 15 [intsA a] [] (fun r h' => h' = [] ∧ r = intsA (levX a)) := by
  refine acall_of_aw Tryz.func15 rfl rfl rfl ?_
  refine aw_seq (aw_region ?_)
  refine q1 ?_
  refine aops_nil (thn_n ?_)
  refine aw_seq (aw_region ?_)
  refine q1 ?_
  refine q1 ?_
  refine q1 ?_
  refine qq rfl rfl (qr_minN (a.map intR).length 14 rfl rfl) ?_
  refine qq rfl rfl (qr_slice_hE (rows' := (levX a).map intR) rfl rfl (Nat.min_le_left _ _) (levX_map a)) ?_
  refine qv rfl rfl (qv_call rfl rfl (pcall (cloneInt ((levX a).map intR) (by rw [List.length_map]; exact Nat.le_trans (levX_len a) (by decide))) (Sbs.refl _))) ?_
  refine rn ?_
  refine rq 0 ?_
  exact ⟨rfl, rfl⟩
end Go.Proofs
/- The walks of law 23's cut and few. Conditions: none. -/
set_option linter.unusedVariables false
set_option linter.unusedSimpArgs false
set_option maxRecDepth 10000
namespace Go.Proofs
open Go Go.Ab
attribute [local irreducible] QR QV OE aops aw dsoup dsoupM dalloc dallocM thn inBlk jsoup jch lsoup
open Go.H
theorem cut23 {full : Bool} (l : List ByteArray) (most : Nat) (hm : most ≤ 1000) : ACall Tryz.prog 56 [.list full 1 (l.map strR), iv most] [] (fun r h' => h' = [] ∧ r = strsA (cutL most l)) := by
  refine acall_of_aw Tryz.func56 rfl rfl rfl ?_
  refine aw_seq (aw_region ?_)
  refine q1 ?_
  refine aops_nil (thn_n ?_)
  refine aw_seq (aw_region ?_)
  refine q1 ?_
  refine q1 ?_
  refine q1 ?_
  refine q1 ?_
  refine qq rfl rfl (qr_minN (l.map strR).length most rfl rfl) ?_
  refine qq rfl rfl (qr_slice_hE (rows' := (l.take most).map strR) rfl rfl (by omega) (by rw [List.length_map]; exact take_min strR l most)) ?_
  refine aops_e rfl (oe_call rfl rfl (FCall.rowS (FCall.of_fun (cloneRowStr _ (by simp; omega) (one_str _)))) rfl ?_)
  rintro _ _ ⟨s, rfl, rfl⟩
  refine rn ?_
  refine aw_loop' (fun k : Nat => k ≤ (l.take most).length) (fun k => ⟨[(17, iv k), (16, iv ((l.take most).map strR).length), (15, .v s.v), (5, .v s.v)], [.row s.v 1 9 ((((l.take most).take k).map cutS).map strR ++ ((l.take most).drop k).map strR)], []⟩) (fun k => (l.take most).length - k) 0 (by omega)
    (by simp only [List.take_zero, List.map_nil, List.nil_append, List.drop_zero]; exact (ent_sub (.cons _ _ _ rfl (.cons _ _ _ rfl (.cons _ _ _ rfl (.cons _ _ _ rfl (.nil))))))) ?_
  intro k hk
  refine rn ?_
  refine aw_cond rfl (fun hc18 => ?_) (fun hc18 => ?_)
  · have hk2 : k < (l.take most).length := by simpa using hc18
    obtain ⟨b, hb⟩ : ∃ b, b = (l.take most)[k] := ⟨_, rfl⟩
    have hd := List.drop_eq_getElem_cons hk2
    rw [← hb] at hd
    have hL := List.length_take_le most l
    have hkl : (((l.take most).take k).map cutS).length = k := by rw [List.length_map, List.length_take]; omega
    have hrow := mid_get (f := strR) (g := strR) (xs := ((l.take most).take k).map cutS) (k := k) hkl hd
    have hk3 : k < ((((l.take most).take k).map cutS).map strR ++ ((l.take most).drop k).map strR).length := by rw [mid_len hkl hk]; exact hk2
    refine aw_skip ?_
    refine thn_n ?_
    refine aw_seq ?_
    refine aw_block ?_
    refine aw_seq (aw_region ?_)
    refine q1 ?_
    refine q1 ?_
    refine qq rfl rfl (qr_load_rp_one rfl hrow rfl) ?_
    refine q1 ?_
    refine q1 ?_
    refine aops_nil (thn_n ?_)
    refine aw_region ?_
    refine q1 ?_
    refine q1 ?_
    refine q1 ?_
    refine q1 ?_
    refine q1 ?_
    refine qq rfl rfl (qr_minN b.size 40 rfl rfl) ?_
    refine qq rfl rfl (qr_slice_string_h rfl rfl (by omega)) ?_
    refine rn ?_
    refine aops_e rfl (oe_store_rp rfl rfl rfl hrow rfl (Nat.le_of_ble_eq_true rfl) ?_)
    refine rn ?_
    have hset := mid_set (f := strR) (g := strR) (l := (l.take most)) (xs := ((l.take most).take k).map cutS) (a := cutS b) (r := (strR b).take 0 ++ [sv (cutS b)] ++ (strR b).drop (0 + 1)) hkl hd rfl
    have hx : ((l.take most).take k).map cutS ++ [cutS b] = ((l.take most).take (k + 1)).map cutS := by rw [List.take_succ_eq_append_getElem hk2, hb]; simp
    rw [hx] at hset
    exact ⟨k + 1, by omega, (by rw [← hset]; exact (ent_sub (.cons _ _ _ rfl (.cons _ _ _ rfl (.cons _ _ _ rfl (.cons _ _ _ rfl (.nil))))))), by omega⟩
  · obtain rfl : k = (l.take most).length := by
      have : ¬ k < (l.take most).length := by simpa using hc18
      omega
    rw [List.take_length, List.drop_length, List.map_nil, List.append_nil]
    refine rn ?_
    exact retq (.cons _ _ _ _ (.tmp _ _ rfl) .nil) vent_freeze ⟨rfl, rfl⟩
set_option maxHeartbeats 4000000 in
theorem few23 (h : Hist) (la : Lim 4611686018427387904 h) : ACall Tryz.prog 14 [.agg (histC h)] [] (fun r h' => h' = [] ∧ r = .agg (histC (fewA h))) := by
  refine acall_of_aw Tryz.func14 rfl rfl rfl ?_
  refine rn ?_
  refine aops_e rfl (oe_box rfl rfl rfl fun b1 => ?_)
  refine aops_e rfl (oe_alloc rfl fun b2 => ?_)
  refine rn0 ?_
  refine aw_cutE (fun _ : Nat => True) (fun b3 => ⟨[(1, .v (.pointer (some ⟨b1, 0, none⟩))), (2, .v (.pointer (some ⟨b2, 0, none⟩))), (3, .v (.pointer (some ⟨b3, 0, none⟩)))], [.box b3 28 [strsA (cutL 12 h.ts), strsA (cutL 8 h.ss), strsA (cutL 10 h.os), strsA (cutL 6 h.ps), nilA, nilA, nilA, nilA], .box b2 28 histZ, .box b1 28 (histC h)], []⟩) ?_ ?_
  · refine aw_draw 14 rfl ?_
    refine rn ?_
    refine dv rfl rfl (by exact qv_call rfl rfl (pcall (cut23 h.ts 12 (by decide)) (Sbs.refl _))) ?_
    refine rn ?_
    refine dv rfl rfl (by exact qv_call rfl rfl (pcall (cut23 h.ss 8 (by decide)) (Sbs.refl _))) ?_
    refine rn ?_
    refine dv rfl rfl (by exact qv_call rfl rfl (pcall (cut23 h.os 10 (by decide)) (Sbs.refl _))) ?_
    refine rn ?_
    refine dv rfl rfl (by exact qv_call rfl rfl (pcall (cut23 h.ps 6 (by decide)) (Sbs.refl _))) ?_
    refine rn ?_
    refine dalloc_a rfl fun b3 => ?_
    refine rn ?_
    exact ⟨b3, trivial, (ent_sub (.cons _ _ _ rfl (.cons _ _ _ rfl (.cons _ _ _ rfl (.nil)))))⟩
  · intro b3 _
    refine rn ?_
    refine aw_loop' (fun x : Nat × SV => x.1 ≤ h.evs.length) (fun x => ⟨[(26, iv x.1), (25, iv (h.evs.map evR).length), (24, evsA h.evs), (1, .v (.pointer (some ⟨b1, 0, none⟩))), (2, .v (.pointer (some ⟨b2, 0, none⟩))), (3, .v (.pointer (some ⟨b3, 0, none⟩)))], [.row x.2.v 9 56 (((h.evs.take (min x.1 70)).map cutE2).map evR), .box b3 28 [strsA (cutL 12 h.ts), strsA (cutL 8 h.ss), strsA (cutL 10 h.os), strsA (cutL 6 h.ps), .v x.2.v, nilA, nilA, nilA], .box b2 28 histZ, .box b1 28 (histC h)], []⟩) (fun x => h.evs.length - x.1) (0, nilS) (by simp)
      (ent_trans (ent_nilrow 9 56) (ent_sub (.cons _ _ _ rfl (.cons _ _ _ rfl (.cons _ _ _ rfl (.cons _ _ _ rfl (.cons _ _ _ rfl (.cons _ _ _ rfl (.nil))))))))) ?_
    rintro ⟨k, s⟩ hk
    simp only at hk
    refine rn ?_
    refine aw_cond rfl (fun hc27 => ?_) (fun hc27 => ?_)
    · have hk2 : k < h.evs.length := by simpa using hc27
      obtain ⟨e, he⟩ : ∃ e, e = h.evs[k] := ⟨_, rfl⟩
      have hrow : (h.evs.map evR)[k]? = some (evR e) := by rw [he]; simp [hk2]
      have hle := la.evs
      refine rn ?_
      refine aops_e rfl (oe_alloc rfl fun b5 => ?_)
      refine rn ?_
      refine aw_cond rfl (fun hc32 => ?_) (fun hc32 => ?_)
      · have hlt : k < 70 := by have := hc32; simp at this; omega
        refine aw_seq (aw_region ?_)
        refine q1 ?_
        refine q1 ?_
        refine q1 ?_
        refine q1 ?_
        refine q1 ?_
        refine qq rfl rfl (qr_minN (e.scan.map seenR).length 12 rfl rfl) ?_
        refine qq rfl rfl (qr_slice_hE (rows' := (e.scan.take 12).map seenR) rfl rfl (by omega) (by rw [List.length_map]; exact take_min seenR e.scan 12)) ?_
        refine qv rfl rfl (qv_call rfl rfl (pcall (cloneSeen ((e.scan.take 12).map seenR) (by simp; omega)) (Sbs.refl _))) ?_
        refine rn ?_
        refine qv rfl rfl (qv_buildSlice rfl rfl) ?_
        refine aops_e rfl (oe_append_row rfl rfl (by have := tk_len h.evs k 70; simp at this ⊢; omega) rfl (fun s46 => ?_) (fun r hr => by simp at hr; subst hr; rfl))
        refine aops_slice s46 fun sv hsv => ?_
        subst hsv
        refine rn ?_
        have hx : ((h.evs.take (min (k + 1) 70)).map cutE2).map evR = ((h.evs.take (min k 70)).map cutE2).map evR ++ [evR (cutE2 e)] := by rw [tk_go hk2 hlt he]; simp
        exact ⟨(k + 1, sv), by simp only; omega, (by rw [hx]; exact (ent_trans (ent_drop (h1 := [_])) (ent_sub (.cons _ _ _ rfl (.cons _ _ _ rfl (.cons _ _ _ rfl (.cons _ _ _ rfl (.cons _ _ _ rfl (.cons _ _ _ rfl (.nil)))))))))), by simp only; omega⟩
      · have hlt : ¬ k < 70 := by have := hc32; simp at this; omega
        refine rn ?_
        exact ⟨(k + 1, s), by simp only; omega, (by rw [tk_no hlt]; exact (ent_trans (ent_drop (h1 := [_])) (ent_sub (.cons _ _ _ rfl (.cons _ _ _ rfl (.cons _ _ _ rfl (.cons _ _ _ rfl (.cons _ _ _ rfl (.cons _ _ _ rfl (.nil)))))))))), by simp only; omega⟩
    · obtain rfl : k = h.evs.length := by
        have : ¬ k < h.evs.length := by simpa using hc27
        omega
      obtain ⟨sE, hsE⟩ : ∃ sE : SV, sE = s := ⟨_, rfl⟩
      simp only [tk_end, ← hsE]
      refine rn ?_
      refine aw_loop' (fun x : Nat × SV => x.1 ≤ h.ords.length) (fun x => ⟨[(52, iv x.1), (51, iv (h.ords.map ordR).length), (50, ordsA h.ords), (1, .v (.pointer (some ⟨b1, 0, none⟩))), (2, .v (.pointer (some ⟨b2, 0, none⟩))), (3, .v (.pointer (some ⟨b3, 0, none⟩)))], [.row x.2.v 2 101 (((h.ords.take (min x.1 14)).map cutO2).map ordR), .row sE.v 9 56 (((h.evs.take 70).map cutE2).map evR), .box b3 28 [strsA (cutL 12 h.ts), strsA (cutL 8 h.ss), strsA (cutL 10 h.os), strsA (cutL 6 h.ps), .v sE.v, .v x.2.v, nilA, nilA], .box b2 28 histZ, .box b1 28 (histC h)], []⟩) (fun x => h.ords.length - x.1) (0, nilS) (by simp)
        (ent_trans (ent_nilrow 2 101) (ent_sub (.cons _ _ _ rfl (.cons _ _ _ rfl (.cons _ _ _ rfl (.cons _ _ _ rfl (.cons _ _ _ rfl (.cons _ _ _ rfl (.nil))))))))) ?_
      rintro ⟨k, s⟩ hk
      simp only at hk
      refine rn ?_
      refine aw_cond rfl (fun hc53 => ?_) (fun hc53 => ?_)
      · have hk2 : k < h.ords.length := by simpa using hc53
        obtain ⟨e, he⟩ : ∃ e, e = h.ords[k] := ⟨_, rfl⟩
        have hrow : (h.ords.map ordR)[k]? = some (ordR e) := by rw [he]; simp [hk2]
        have hle := la.ords
        refine rn ?_
        refine aops_e rfl (oe_alloc rfl fun b7 => ?_)
        refine rn ?_
        refine aw_cond rfl (fun hc58 => ?_) (fun hc58 => ?_)
        · have hlt : k < 14 := by have := hc58; simp at this; omega
          refine aw_draw 14 rfl ?_
          refine dq rfl rfl qrA ?_
          refine dq rfl rfl qrA ?_
          refine dq rfl rfl qrA ?_
          refine dq rfl rfl qrA ?_
          refine dq rfl rfl qrA ?_
          refine dq rfl rfl qrA ?_
          refine dq rfl rfl qrA ?_
          refine dq rfl rfl qrA ?_
          refine dq rfl rfl qrA ?_
          refine dq rfl rfl (qr_minN (e.ts.map intR).length 14 rfl rfl) ?_
          refine dq rfl rfl (qr_slice_hE (rows' := (e.ts.take 14).map intR) rfl rfl (by omega) (by rw [List.length_map]; exact take_min intR e.ts 14)) ?_
          refine dv rfl rfl (by exact qv_call rfl rfl (pcall (cloneInt ((e.ts.take 14).map intR) (by simp; omega)) (Sbs.refl _))) ?_
          refine rn ?_
          refine dv rfl rfl (qv_buildSlice rfl rfl) ?_
          refine rn ?_
          refine aops_e rfl (oe_append_row rfl rfl (by have := tk_len h.ords k 14; simp at this ⊢; omega) rfl (fun s73 => ?_) (fun r hr => by simp at hr; subst hr; rfl))
          refine aops_slice s73 fun sv hsv => ?_
          subst hsv
          refine rn ?_
          have hx : ((h.ords.take (min (k + 1) 14)).map cutO2).map ordR = ((h.ords.take (min k 14)).map cutO2).map ordR ++ [ordR (cutO2 e)] := by rw [tk_go hk2 hlt he]; simp
          exact ⟨(k + 1, sv), by simp only; omega, (by rw [hx]; exact (ent_trans (ent_drop (h1 := [_])) (ent_sub (.cons _ _ _ rfl (.cons _ _ _ rfl (.cons _ _ _ rfl (.cons _ _ _ rfl (.cons _ _ _ rfl (.cons _ _ _ rfl (.nil)))))))))), by simp only; omega⟩
        · have hlt : ¬ k < 14 := by have := hc58; simp at this; omega
          refine rn ?_
          exact ⟨(k + 1, s), by simp only; omega, (by rw [tk_no hlt]; exact (ent_trans (ent_drop (h1 := [_])) (ent_sub (.cons _ _ _ rfl (.cons _ _ _ rfl (.cons _ _ _ rfl (.cons _ _ _ rfl (.cons _ _ _ rfl (.cons _ _ _ rfl (.nil)))))))))), by simp only; omega⟩
      · obtain rfl : k = h.ords.length := by
          have : ¬ k < h.ords.length := by simpa using hc53
          omega
        obtain ⟨sO, hsO⟩ : ∃ sO : SV, sO = s := ⟨_, rfl⟩
        simp only [tk_end, ← hsO]
        refine rn ?_
        refine aw_loop' (fun x : Nat × SV => x.1 ≤ h.mats.length) (fun x => ⟨[(79, iv x.1), (78, iv (h.mats.map matR).length), (77, matsA h.mats), (1, .v (.pointer (some ⟨b1, 0, none⟩))), (2, .v (.pointer (some ⟨b2, 0, none⟩))), (3, .v (.pointer (some ⟨b3, 0, none⟩)))], [.row x.2.v 4 103 (((h.mats.take (min x.1 20)).map cutM2).map matR), .row sO.v 2 101 (((h.ords.take 14).map cutO2).map ordR), .row sE.v 9 56 (((h.evs.take 70).map cutE2).map evR), .box b3 28 [strsA (cutL 12 h.ts), strsA (cutL 8 h.ss), strsA (cutL 10 h.os), strsA (cutL 6 h.ps), .v sE.v, .v sO.v, .v x.2.v, nilA], .box b2 28 histZ, .box b1 28 (histC h)], []⟩) (fun x => h.mats.length - x.1) (0, nilS) (by simp)
          (ent_trans (ent_nilrow 4 103) (ent_sub (.cons _ _ _ rfl (.cons _ _ _ rfl (.cons _ _ _ rfl (.cons _ _ _ rfl (.cons _ _ _ rfl (.cons _ _ _ rfl (.nil))))))))) ?_
        rintro ⟨k, s⟩ hk
        simp only at hk
        refine rn ?_
        refine aw_cond rfl (fun hc80 => ?_) (fun hc80 => ?_)
        · have hk2 : k < h.mats.length := by simpa using hc80
          obtain ⟨e, he⟩ : ∃ e, e = h.mats[k] := ⟨_, rfl⟩
          have hrow : (h.mats.map matR)[k]? = some (matR e) := by rw [he]; simp [hk2]
          have hle := la.mats
          refine rn ?_
          refine aops_e rfl (oe_alloc rfl fun b9 => ?_)
          refine rn ?_
          refine aw_cond rfl (fun hc85 => ?_) (fun hc85 => ?_)
          · have hlt : k < 20 := by have := hc85; simp at this; omega
            refine aw_seq (aw_region ?_)
            refine q1 ?_
            refine q1 ?_
            refine q1 ?_
            refine q1 ?_
            refine q1 ?_
            refine qq rfl rfl (qr_minN (e.ts.map intR).length 14 rfl rfl) ?_
            refine qq rfl rfl (qr_slice_hE (rows' := (e.ts.take 14).map intR) rfl rfl (by omega) (by rw [List.length_map]; exact take_min intR e.ts 14)) ?_
            refine qv rfl rfl (qv_call rfl rfl (pcall (cloneInt ((e.ts.take 14).map intR) (by simp; omega)) (Sbs.refl _))) ?_
            refine rn ?_
            refine qv rfl rfl (qv_buildSlice rfl rfl) ?_
            refine aops_e rfl (oe_append_row rfl rfl (by have := tk_len h.mats k 20; simp at this ⊢; omega) rfl (fun s99 => ?_) (fun r hr => by simp at hr; subst hr; rfl))
            refine aops_slice s99 fun sv hsv => ?_
            subst hsv
            refine rn ?_
            have hx : ((h.mats.take (min (k + 1) 20)).map cutM2).map matR = ((h.mats.take (min k 20)).map cutM2).map matR ++ [matR (cutM2 e)] := by rw [tk_go hk2 hlt he]; simp
            exact ⟨(k + 1, sv), by simp only; omega, (by rw [hx]; exact (ent_trans (ent_drop (h1 := [_])) (ent_sub (.cons _ _ _ rfl (.cons _ _ _ rfl (.cons _ _ _ rfl (.cons _ _ _ rfl (.cons _ _ _ rfl (.cons _ _ _ rfl (.nil)))))))))), by simp only; omega⟩
          · have hlt : ¬ k < 20 := by have := hc85; simp at this; omega
            refine rn ?_
            exact ⟨(k + 1, s), by simp only; omega, (by rw [tk_no hlt]; exact (ent_trans (ent_drop (h1 := [_])) (ent_sub (.cons _ _ _ rfl (.cons _ _ _ rfl (.cons _ _ _ rfl (.cons _ _ _ rfl (.cons _ _ _ rfl (.cons _ _ _ rfl (.nil)))))))))), by simp only; omega⟩
        · obtain rfl : k = h.mats.length := by
            have : ¬ k < h.mats.length := by simpa using hc80
            omega
          obtain ⟨sM, hsM⟩ : ∃ sM : SV, sM = s := ⟨_, rfl⟩
          simp only [tk_end, ← hsM]
          refine aw_exit ?_
          refine thn_e ?_
          refine thn_e ?_
          refine inBlk_hit ?_
          refine thn_n ?_
          refine aw_seq (aw_region ?_)
          refine q1 ?_
          refine q1 ?_
          refine q1 ?_
          refine q1 ?_
          refine q1 ?_
          refine qq rfl rfl (qr_minN (h.wants.map wanR).length 12 rfl rfl) ?_
          refine qq rfl rfl (qr_slice_hE (rows' := (h.wants.take 12).map wanR) rfl rfl (by omega) (by rw [List.length_map]; exact take_min wanR h.wants 12)) ?_
          refine qv rfl rfl (qv_call rfl rfl (pcall (cloneWan ((h.wants.take 12).map wanR) (by simp; omega)) (Sbs.refl _))) ?_
          refine rn ?_
          exact retq (.cons _ _ _ _ (.agg _ _ _ _ _ _ _ rfl inferInstance inferInstance inferInstance rfl) .nil) (.trans (vent_freeze_cell [_, _, _, _, _, _] _) (.trans (vent_freeze_cell [_, _, _, _, _] _) (.trans (vent_freeze_cell [_, _, _, _] _) (.drop [_, _, _] _ _)))) ⟨rfl, rfl⟩
end Go.Proofs
/- The walk of the reference's Same. Conditions: none. -/
set_option linter.unusedVariables false
set_option linter.unusedSimpArgs false
set_option maxRecDepth 10000
namespace Go.Proofs
open Go Go.Ab
attribute [local irreducible] QR QV OE aops aw dsoup dsoupM dalloc dallocM thn inBlk
open Go.H
end Go.Proofs
/- The walks of rows of dirty reads, and of seen ones. Conditions: none. -/
set_option linter.unusedVariables false
set_option linter.unusedSimpArgs false
set_option maxRecDepth 10000
namespace Go.Proofs
open Go Go.Ab
attribute [local irreducible] QR QV OE aops aw dsoup dsoupM dalloc dallocM thn inBlk jsoup jch lsoup
open Go.H
theorem first_f {b : Bool} (h : b = false) : b = false := h
theorem first_t {b : Bool} (h : b = true) : b = true := h
theorem any_dec {α : Type} [DecidableEq α] {p : α → α → Bool} (hp : ∀ a b, p a b = decide (a = b)) {l : List α} {s : α} : l.any (fun a => p s a) = decide (s ∈ l) := by
  rw [Bool.eq_iff_iff, List.any_eq_true, decide_eq_true_iff]
  constructor
  · rintro ⟨a, ha, e⟩
    rw [hp, decide_eq_true_iff] at e
    exact e ▸ ha
  · intro h; exact ⟨s, h, by rw [hp]; simp⟩
theorem dirAll_len (h : Hist) (a : List Int) : (dirAll h a).length ≤ 20000000 := by
  rw [dirAll]
  split
  · exact dirL_len (dirC_0.1 ‹_›).1 a
  · exact Nat.zero_le _
theorem all_m {h : Hist} {a : List Int} (hd : ¬ dirC h a = 0) : dirAll h a = [] := all_n hd
theorem indexSeen {f : Bool} (l : List Seen) (s : Seen) (hl : l.length ≤ 4611686018427387904) : ACall Tryz.prog 76 [.list f 3 (l.map seenR), .agg (seenR s)] [] (fun r h' => h' = [] ∧ r = iv (fidx (fun a => seenEq s a) 0 l)) := by
  refine acall_of_aw Tryz.func76 rfl rfl rfl ?_
  refine rn ?_
  refine aops_e rfl (oe_box rfl rfl rfl fun b3 => ?_)
  refine rn ?_
  refine aw_rng (l.length) (fun k : Nat => fidx (fun a => seenEq s a) 0 l = fidx (fun a => seenEq s a) k (l.drop k)) (fun k => [(8, iv k)]) [(0, _), (3, _), (7, _)] (by simp) ?_
  intro k lk zk
  refine rn ?_
  refine aw_cond rfl (fun hc9 => ?_) (fun hc9 => ?_)
  · have hk := ltMap hc9
    have rk := atRow (f := seenR) hk
    refine rn ?_
    refine aw_draw 5 rfl ?_
    refine rn ?_
    refine aw_cond rfl (fun hc16 => ?_) (fun hc16 => ?_)
    · refine rn ?_
      refine rq 1 ?_
      exact ⟨rfl, congrArg iv (by rw [zk, List.drop_eq_getElem_cons hk, fidx, if_pos (show seenEq s l[k] = true from first_t hc16)])⟩
    · refine rn ?_
      exact ⟨hk, by rw [zk, List.drop_eq_getElem_cons hk, fidx, if_neg (by rw [show seenEq s l[k] = false from first_f hc16]; decide)], eA⟩
  · have qk := geMap hc9 lk
    refine rn ?_
    refine rq 1 ?_
    exact ⟨rfl, congrArg iv (by rw [zk, qk, List.drop_length]; rfl)⟩
theorem containsSeen {f : Bool} (l : List Seen) (s : Seen) (hl : l.length ≤ 4611686018427387904) : ACall Tryz.prog 26 [.list f 3 (l.map seenR), .agg (seenR s)] [] (fun r h' => h' = [] ∧ r = bv (decide (s ∈ l))) := by
  refine acall_of_aw Tryz.func26 rfl rfl rfl ?_
  refine rn ?_
  refine aops_e rfl (oe_box rfl rfl rfl fun b3 => ?_)
  refine rn ?_
  refine qv rfl rfl (qv_call rfl rfl (pcall (indexSeen _ _ hl) (Sbs.refl _))) ?_
  refine rn ?_
  refine rq 1 ?_
  exact ⟨rfl, congrArg bv (by rw [fidx_ge]; exact any_dec seenEq_eq)⟩
end Go.Proofs
/- Structs of numbers that are the same. Conditions: none. -/
set_option linter.unusedVariables false
namespace Go.Ab
open Go
section
variable {P : Program} {h : List Res} {f : Operand → Option AV} {dst : Option Tmp} {ty : TypeId} {pos : String} {after : Array Edge} {guard : Option (Nat × Bool)} {x y : Operand}
theorem qr_eqagg_t {T T' : TypeId} {n : Nat} {cs ds : List AV} {xs ys : List Int} (hx : f x = some (.agg cs)) (hy : f y = some (.agg ds)) (h1 : intsOf cs = some xs) (h2 : intsOf ds = some ys) (e : (xs == ys) = true) [he : EqInts P T n] (hn1 : cs.length = n := by rfl) (hn2 : ds.length = n := by rfl) :
    QR P h f ⟨dst, .binOp .eql T x y T', ty, pos, after, guard⟩ (.v (.bool true)) := by
  have := qr_eqagg (P := P) (h := h) (f := f) (dst := dst) (ty := ty) (pos := pos) (after := after) (guard := guard) (T := T) (T' := T') hx hy h1 h2 hn1 hn2
  rwa [e] at this
end
end Go.Ab
/- The walks of DirtyTells, DirtyIs. Conditions: none. -/
set_option linter.unusedVariables false
set_option linter.unusedSimpArgs false
set_option maxRecDepth 10000
namespace Go.Proofs
open Go Go.Ab
attribute [local irreducible] QR QV OE aops aw dsoup dsoupM dalloc dallocM thn inBlk jsoup jch lsoup
open Go.H
end Go.Proofs
/- copy: into a row of one's own, out of what is only read. Conditions: none (rules over any program). -/
set_option linter.unusedVariables false
set_option linter.unusedSimpArgs false
namespace Go.Ab
open Go
section
variable {P : Program} {ro : Option Nat} {nt : Nat} {dst : Option Tmp} {ty : TypeId} {pos : String} {after : Array Edge} {guard : Option (Nat × Bool)} {x y : Operand}
end
end Go.Ab
/- Parts of a row of one's own: cut out, read, written; copy and clear. Conditions: none (rules over any program). -/
set_option linter.unusedVariables false
set_option linter.unusedSimpArgs false
namespace Go.Ab
open Go
section
variable {P : Program} {ro : Option Nat} {nt : Nat} {h : List Res} {f : Operand → Option AV} {dst : Option Tmp} {ty : TypeId} {pos : String} {after : Array Edge} {guard : Option (Nat × Bool)} {x y z : Operand}
end
section
variable {P : Program} {ro : Option Nat} {nt : Nat} {dst : Option Tmp} {ty : TypeId} {pos : String} {after : Array Edge} {guard : Option (Nat × Bool)} {x y : Operand}
end
end Go.Ab
/- An array's variable as a row of one's own: x[:]; a row cut shorter. Conditions: none (rules over any program). -/
set_option linter.unusedVariables false
set_option linter.unusedSimpArgs false
namespace Go.Ab
open Go
section
variable {P : Program} {ro : Option Nat} {nt : Nat} {h : List Res} {f : Operand → Option AV} {dst : Option Tmp} {ty : TypeId} {pos : String} {after : Array Edge} {guard : Option (Nat × Bool)} {x y z : Operand}
end
end Go.Ab
/- copy into a whole row of one's own, as much as there is room for. Conditions: none (rules over any program). -/
set_option linter.unusedVariables false
set_option linter.unusedSimpArgs false
namespace Go.Ab
open Go
section
variable {P : Program} {ro : Option Nat} {nt : Nat} {ty : TypeId} {pos : String} {after : Array Edge} {guard : Option (Nat × Bool)} {x y : Operand}
end
end Go.Ab
/- The walks of bits.Mul, slices.Repeat, level.Uniform. Conditions: none. -/
set_option linter.unusedVariables false
set_option linter.unusedSimpArgs false
set_option maxRecDepth 10000
namespace Go.Proofs
open Go Go.Ab
attribute [local irreducible] QR QV OE aops aw dsoup dsoupM dalloc dallocM thn inBlk jsoup jch lsoup
open Go.H
end Go.Proofs
/- The walk of DirtyRises. Conditions: none. -/
set_option linter.unusedVariables false
set_option linter.unusedSimpArgs false
set_option maxRecDepth 10000
namespace Go.Proofs
open Go Go.Ab
attribute [local irreducible] QR QV OE aops aw dsoup dsoupM dalloc dallocM thn inBlk jsoup jch lsoup
open Go.H
theorem ev_tt {h : Hist} {a : List Int} (hd : dirC h a = 0) {e : Ev} (he : e ∈ h.evs) : 0 ≤ e.t ∧ e.t < a.length := by
  obtain ⟨hc, _, hal⟩ := dirC_0.1 hd
  have := may_t (sound_may (checkI_0.1 hc)).1 e he
  rw [hal]; exact this
end Go.Proofs
/- The walks of the index's Rank, Next. Conditions: none. -/
set_option linter.unusedVariables false
set_option linter.unusedSimpArgs false
set_option maxRecDepth 10000
namespace Go.Proofs
open Go Go.Ab
attribute [local irreducible] QR QV OE aops aw dsoup dsoupM dalloc dallocM thn inBlk jsoup jch lsoup
open Go.H
theorem ins_len {h : Hist} {n many x : Int} (he : askE h n many = 0) (h0 : 0 ≤ x) (h1 : x < h.os.length) : (insP h x).length ≤ 4611686018427387904 := by
  obtain ⟨_, e, _⟩ := ins_writers (ask_0 he).1 h0 h1
  rw [e, writers_may (sound_may (ask_0 he).1).1]; exact Nat.le_trans (writersR_le _ _) (Nat.le_trans (ask_lim he).ts (by decide))
theorem fidx_in {α : Type} (p : α → Bool) : ∀ (l : List α) (i : Nat), -1 ≤ fidx p i l ∧ fidx p i l < (i + l.length : Nat) + 1
  | [], i => by simp only [fidx]; omega
  | a :: r, i => by
    have := fidx_in p r (i + 1)
    simp only [fidx, List.length_cons]
    split
    · omega
    · omega
theorem ixRank1 (h : Hist) (la : h.evs.length ≤ 1000000) (x t : Int) (v : Ver) (b3 b4 b5 : Nat) : ACall Tryz.prog 78 [iv t, .v (.pointer (some ⟨b3, 0, none⟩)), .v (.pointer (some ⟨b4, 0, none⟩)), .v (.pointer (some ⟨b5, 0, none⟩))] (.box b3 28 (histC h) :: .box b4 3 [iv x] :: .box b5 38 (verR v) :: []) (fun r h' => h' = .box b3 28 (histC h) :: .box b4 3 [iv x] :: .box b5 38 (verR v) :: [] ∧ r = bv (verO (finW h.evs t x) == v)) := by
  refine acall_of_aw Tryz.func78 rfl rfl rfl ?_
  refine rn ?_
  refine qv rfl rfl (qv_call rfl rfl (FCall.of_fun (ixFin h la t x _))) ?_
  refine rn ?_
  refine aops_e rfl (oe_alloc rfl fun b6 => ?_)
  refine rn ?_
  refine rq 1 ?_
  exact ⟨rfl, by rw [← finD_v, ← ver_list]; rfl⟩
theorem ixRank (h : Hist) (la : Lim 4611686018427387904 h) (x : Int) (v : Ver) : ACall Tryz.prog 27 [.agg (histC h), iv x, .agg (verR v)] (.glob 0 186 limitsC :: .glob 2 287 firstC :: .glob 3 290 acceptC :: .glob 1 250 asksC :: []) (fun r h' => h' = .glob 0 186 limitsC :: .glob 2 287 firstC :: .glob 3 290 acceptC :: .glob 1 250 asksC :: [] ∧ r = .tup [iv (rankA h x v).1, bv (rankA h x v).2]) := by
  refine acall_of_aw Tryz.func27 rfl rfl rfl ?_
  refine rn ?_
  refine aops_e rfl (oe_box rfl rfl rfl fun b3 => ?_)
  refine aops_e rfl (oe_box rfl rfl rfl fun b4 => ?_)
  refine aops_e rfl (oe_box rfl rfl rfl fun b5 => ?_)
  refine rn ?_
  refine qv rfl rfl (qv_call rfl rfl (FCall.qt (FCall.of_fun (ixInst h la x)) ((pt3 _ _ _ _ _).trans (.cons _ ((pt3 _ _ _ _ _).trans (.cons _ ((pt3 _ _ _ _ _).trans (.cons _ (pt3 _ _ _ _ _))))))))) ?_
  refine rn ?_
  refine aw_cond rfl (fun hc17 => ?_) (fun hc17 => ?_)
  · have hc : askE h x h.os.length ≠ 0 := by simpa using hc17
    refine rn ?_
    refine rq 3 ?_
    exact ⟨rfl, by rw [rankA, if_neg hc]; rfl⟩
  · have hc : askE h x h.os.length = 0 := by simpa using hc17
    refine aw_seq (aw_region ?_)
    refine q1 ?_
    refine qq rfl rfl (qr_build (out := [iv 0, iv 0]) rfl (by rfl)) ?_
    refine rn ?_
    refine aw_cond rfl (fun hc20 => ?_) (fun hc20 => ?_)
    · have hv : v = ⟨0, 0⟩ := eq_of_beq (by rw [← ver_list]; exact hc20)
      refine rn ?_
      refine rq 3 ?_
      exact ⟨rfl, by rw [rankA, if_pos hc, if_pos hv]; rfl⟩
    · have hv : v ≠ ⟨0, 0⟩ := beq_eq_false_iff_ne.1 (by rw [← ver_list]; exact hc20)
      have hn := ask_0 hc
      refine aw_skip ?_
      refine rn0 ?_
      refine aw_seq ?_
      rw [onE, if_pos hc]
      refine rn ?_
      refine qv rfl rfl (qv_call rfl rfl (FCall.of_fun (indexFuncInt (insP h x) _ (fun t => verO (finW h.evs t x) == v) _ (fun t _ => FCall.qt (FCall.of_acall (fs := []) (cs := [.v (.pointer (some ⟨b3, 0, none⟩)), .v (.pointer (some ⟨b4, 0, none⟩)), .v (.pointer (some ⟨b5, 0, none⟩))]) (ixRank1 h (ask_evs hc) x t v b3 b4 b5)) ((pt2 _ _ _ _).trans (.cons _ (pt1 _ _ _)))) (ins_len hc hn.2.1 hn.2.2)))) ?_
      refine q1 ?_
      refine aops_nil (thn_n ?_)
      refine aw_seq (aw_region ?_)
      refine q1 ?_
      refine qq rfl rfl (qr_ari rfl rfl rfl (by have := fidx_in (fun t => verO (finW h.evs t x) == v) (insP h x) 0; have := ins_len hc hn.2.1 hn.2.2; omega)) ?_
      refine rn ?_
      refine rq 3 ?_
      exact ⟨rfl, by rw [rankA, if_pos hc, if_neg hv]; rfl⟩
end Go.Proofs
/- The walk of DirtyEvents. Conditions: none. -/
set_option linter.unusedVariables false
set_option linter.unusedSimpArgs false
set_option maxRecDepth 10000
namespace Go.Proofs
open Go Go.Ab
attribute [local irreducible] QR QV OE aops aw dsoup dsoupM dalloc dallocM thn inBlk jsoup jch lsoup
open Go.H
theorem tri3e {p : Prop} {c : Prop} (b : Bool) (h : c) (a1 : c → b = true → p) (a2 : c → b = false → p) : p := by
  cases hb : b with
  | true => exact a1 h hb
  | false => exact a2 h hb
theorem tri2e {p : Prop} (c : Prop) [Decidable c] (a : c → p) (b : ¬ c → p) : p := if h : c then a h else b h
theorem dir_rankA {h : Hist} (hs : soundB h = true) {a : List Int} {d : Dirt} (hd : d ∈ dirL h a) : (rankA h d.o d.v).2 = false := by
  rw [rankA]
  split
  · rename_i he
    obtain ⟨_, h0, h1⟩ := ask_0 he
    obtain ⟨k, hk, _, _, _, hn, _⟩ := dir_at hd
    rw [if_neg]
    · exact dir_rank hs hd h0 h1
    · intro e
      rw [dirN, e] at hn
      simp at hn
  · rfl
theorem dir_facts {h : Hist} {a : List Int} (hd : dirC h a = 0) {d : Dirt} (hm : d ∈ dirAll h a) : ∃ k, ∃ hk : k < h.evs.length, d.ev = k ∧ dirG h a h.evs[k] = true ∧ (⟨d.o, d.v⟩ : Seen) ∈ seenOf h.evs[k] ∧ dirN h.evs[k] ⟨d.o, d.v⟩ = false ∧ ((dirA h ⟨d.o, d.v⟩ = true ∧ d.kind = 1) ∨ (dirB h ⟨d.o, d.v⟩ = true ∧ d.kind = 2)) ∧ (rankA h d.o d.v).2 = false := by
  rw [all_0 hd] at hm
  obtain ⟨k, hk, h1, h2, h3, h4, h5⟩ := dir_at hm
  exact ⟨k, hk, h1, h2, h3, h4, h5, dir_rankA (checkI_0.1 (dirC_0.1 hd).1) hm⟩
theorem dir_mono {h : Hist} {a : List Int} (hd : dirC h a = 0) {i j : Nat} (hi : i < (dirAll h a).length) (hj : j < (dirAll h a).length) (hij : i < j) : (dirAll h a)[i].ev ≤ (dirAll h a)[j].ev := by
  have hm := dirK_mono (h := h) (a := a) (Nat.le_refl _)
  have e : dirAll h a = dirK h a h.evs.length := all_0 hd
  rw [← e] at hm
  exact (List.pairwise_iff_getElem.1 hm) i j hi hj hij
theorem seen_3 {e : Ev} {s : Seen} (h3 : e.kind = 3) (hs : s ∈ seenOf e) : e.o = s.o ∧ e.v = s.v := by
  rw [seenOf, if_pos h3, List.mem_singleton] at hs
  subst hs; exact ⟨rfl, rfl⟩
theorem seen_n {e : Ev} {s : Seen} (h3 : ¬ e.kind = 3) (hs : s ∈ seenOf e) : s ∈ e.scan := by
  rw [seenOf, if_neg h3] at hs; exact hs
theorem containsSeenT {f : Bool} (l : List Seen) (s : Seen) (hl : l.length ≤ 4611686018427387904) (hs : s ∈ l) : ACall Tryz.prog 26 [.list f 3 (l.map seenR), .agg (seenR s)] [] (fun r h' => h' = [] ∧ r = bv true) := (containsSeen l s hl).mono fun _ _ q => ⟨q.1, by rw [q.2, decide_eq_true hs]⟩
theorem containsIV {f : Bool} (l : List Int) (n : Int) (b : Bool) (hl : l.length ≤ 4611686018427387904) (hb : l.contains n = b) : ACall Tryz.prog 28 [.list f 1 (l.map intR), iv n] [] (fun r h' => h' = [] ∧ r = bv b) := (containsI l n hl).mono fun _ _ q => ⟨q.1, by rw [q.2, hb]⟩
theorem comm_has {h : Hist} (t : Int) : (commP h.evs).contains t = hasB h.evs t 5 := by rw [Bool.eq_iff_iff, List.contains_iff_mem, comm_mem]
theorem commC {h : Hist} (hc : checkI h = 0) (la : Lim 4611686018427387904 h) : ACall Tryz.prog 25 [.agg (histC h)] (.glob 0 186 limitsC :: .glob 2 287 firstC :: .glob 3 290 acceptC :: .glob 1 250 asksC :: []) (fun r h' => h' = .glob 0 186 limitsC :: .glob 2 287 firstC :: .glob 3 290 acceptC :: .glob 1 250 asksC :: [] ∧ r = .tup [intsA (commP h.evs), iv 0]) := (ixComm h la).mono fun _ _ q => ⟨q.1, by rw [q.2, hc]; rfl⟩
theorem rankC (h : Hist) (la : Lim 4611686018427387904 h) (x : Int) (v : Ver) (hf : (rankA h x v).2 = false) : ACall Tryz.prog 27 [.agg (histC h), iv x, .agg (verR v)] (.glob 0 186 limitsC :: .glob 2 287 firstC :: .glob 3 290 acceptC :: .glob 1 250 asksC :: []) (fun r h' => h' = .glob 0 186 limitsC :: .glob 2 287 firstC :: .glob 3 290 acceptC :: .glob 1 250 asksC :: [] ∧ r = .tup [iv (rankA h x v).1, bv false]) := (ixRank h la x v).mono fun _ _ q => ⟨q.1, by rw [q.2, hf]⟩
set_option maxHeartbeats 4000000 in
theorem eventsN (x : Hist) (y : List Int) (lb : Lim 4611686018427387904 x) (hl : y.length ≤ 4611686018427387904) (hD : ¬ (dirC (fewA x) (levX y)) = 0) : ACall Tryz.prog 5 [.agg (histC x), intsA y] (.glob 0 186 limitsC :: .glob 2 287 firstC :: .glob 3 290 acceptC :: .glob 1 250 asksC :: []) (fun r h' => h' = .glob 0 186 limitsC :: .glob 2 287 firstC :: .glob 3 290 acceptC :: .glob 1 250 asksC :: [] ∧ r = bv true) := by
  refine acall_of_aw Tryz.func5 rfl rfl rfl ?_
  refine rn ?_
  refine aops_e rfl (oe_box rfl rfl rfl fun b2 => ?_)
  refine rn ?_
  refine qv rfl rfl (qv_call rfl rfl (FCall.qt (FCall.of_fun wakes23) ((pt1 _ _ _).trans (.cons _ ((pt1 _ _ _).trans (.cons _ ((pt1 _ _ _).trans (.cons _ (pt1 _ _ _))))))))) ?_
  refine rn ?_
  refine aw_cond rfl (fun hc17 => ?_) (fun hc17 => ?_)
  · exact absurd hc17 (by decide)
  · refine rn ?_
    refine qv rfl rfl (qv_call rfl rfl (pcall (few23 x lb) (Sbs.refl _))) ?_
    refine rn ?_
    refine qv rfl rfl (qv_call rfl rfl (pcall (levels y hl) (Sbs.refl _))) ?_
    refine aops_e rfl (oe_alloc rfl fun b5 => ?_)
    refine rn ?_
    refine qv rfl rfl (qv_call rfl rfl (FCall.qt (FCall.of_fun (dirtyAll (fewA x) ((fewA_lim x).mono (by decide)) (levX y) (Nat.le_trans (levX_len y) (by decide)))) ((pt2 _ _ _ _).trans (.cons _ ((pt2 _ _ _ _).trans (.cons _ ((pt2 _ _ _ _).trans (.cons _ (pt2 _ _ _ _))))))))) ?_
    refine q1 ?_
    refine q1 ?_
    refine q1 ?_
    refine q1 ?_
    refine q1 ?_
    refine aops_nil (thn_n ?_)
    refine aw_seq ?_
    refine aw_seq (aw_region ?_)
    refine q1 ?_
    refine qq rfl rfl (qr_cmp (c := true) rfl rfl (congrArg some (by simpa using hD))) ?_
    refine rn ?_
    refine aw_cond rfl (fun hc29 => ?_) (fun hc29 => ?_)
    · refine aw_seq ?_
      rw [all_m hD]
      refine rn ?_
      refine rq 2 ?_
      exact ⟨rfl, rfl⟩
    · first | cases hc29 | exact absurd hc29 (by decide) | (exfalso; simp_all; done)
theorem dirtyIsT (h : Hist) (la : Lim 4611686018427387904 h) (a : List Int) (ha : a.length ≤ 1000000) (d : Dirt) (hd : d ∈ dirAll h a) : ACall Tryz.prog 23 [.agg (histC h), intsA a, .agg (dirR d)] (.glob 0 186 limitsC :: .glob 2 287 firstC :: .glob 3 290 acceptC :: .glob 1 250 asksC :: []) (fun r h' => h' = .glob 0 186 limitsC :: .glob 2 287 firstC :: .glob 3 290 acceptC :: .glob 1 250 asksC :: [] ∧ r = bv true) := (dirtyIs h la a ha d).mono fun _ _ q => ⟨q.1, by rw [q.2, decide_eq_true hd]⟩
set_option maxHeartbeats 4000000 in
theorem eventsY (x : Hist) (y : List Int) (lb : Lim 4611686018427387904 x) (hl : y.length ≤ 4611686018427387904) (hD : (dirC (fewA x) (levX y)) = 0) : ACall Tryz.prog 5 [.agg (histC x), intsA y] (.glob 0 186 limitsC :: .glob 2 287 firstC :: .glob 3 290 acceptC :: .glob 1 250 asksC :: []) (fun r h' => h' = .glob 0 186 limitsC :: .glob 2 287 firstC :: .glob 3 290 acceptC :: .glob 1 250 asksC :: [] ∧ r = bv true) := by
  refine acall_of_aw Tryz.func5 rfl rfl rfl ?_
  refine rn ?_
  refine aops_e rfl (oe_box rfl rfl rfl fun b2 => ?_)
  refine rn ?_
  refine qv rfl rfl (qv_call rfl rfl (FCall.qt (FCall.of_fun wakes23) ((pt1 _ _ _).trans (.cons _ ((pt1 _ _ _).trans (.cons _ ((pt1 _ _ _).trans (.cons _ (pt1 _ _ _))))))))) ?_
  refine rn ?_
  refine aw_cond rfl (fun hc17 => ?_) (fun hc17 => ?_)
  · exact absurd hc17 (by decide)
  · refine rn ?_
    refine qv rfl rfl (qv_call rfl rfl (pcall (few23 x lb) (Sbs.refl _))) ?_
    refine rn ?_
    refine qv rfl rfl (qv_call rfl rfl (pcall (levels y hl) (Sbs.refl _))) ?_
    refine aops_e rfl (oe_alloc rfl fun b5 => ?_)
    refine rn ?_
    refine qv rfl rfl (qv_call rfl rfl (FCall.qt (FCall.of_fun (dirtyAll (fewA x) ((fewA_lim x).mono (by decide)) (levX y) (Nat.le_trans (levX_len y) (by decide)))) ((pt2 _ _ _ _).trans (.cons _ ((pt2 _ _ _ _).trans (.cons _ ((pt2 _ _ _ _).trans (.cons _ (pt2 _ _ _ _))))))))) ?_
    refine q1 ?_
    refine q1 ?_
    refine q1 ?_
    refine q1 ?_
    refine q1 ?_
    refine aops_nil (thn_n ?_)
    refine aw_seq ?_
    refine aw_seq (aw_region ?_)
    refine q1 ?_
    refine qq rfl rfl (qr_cmp (c := false) rfl rfl (congrArg some (by rw [hD]; rfl))) ?_
    refine rn ?_
    refine aw_cond rfl (fun hc29 => ?_) (fun hc29 => ?_)
    · first | cases hc29 | exact absurd hc29 (by decide) | (exfalso; simp_all; done)
    · refine rn ?_
      refine qv rfl rfl (qv_call rfl rfl (FCall.qt (FCall.of_fun (commC (dirC_0.1 hD).1 ((fewA_lim x).mono (by decide)))) ((pt2 _ _ _ _).trans (.cons _ ((pt2 _ _ _ _).trans (.cons _ ((pt2 _ _ _ _).trans (.cons _ (pt2 _ _ _ _))))))))) ?_
      refine rn ?_
      refine aw_rng ((dirAll (fewA x) (levX y)).length) (fun j : Nat => True) (fun j => [(40, iv j)]) [(5, _), (6, _), (7, _), (8, _), (9, _), (38, _), (39, _)] trivial ?_
      intro j lj _
      refine rn ?_
      refine aw_cond rfl (fun hc41 => ?_) (fun hc41 => ?_)
      · have hj := ltMap hc41
        have rj := atRow (f := dirR) hj
        have be := (fewA_lim x).evs
        have bk := dirAll_len (fewA x) (levX y)
        obtain ⟨d, hdj⟩ : ∃ d, d = (dirAll (fewA x) (levX y))[j] := ⟨_, rfl⟩
        rw [← hdj] at rj
        have hdm : d ∈ (dirAll (fewA x) (levX y)) := by rw [hdj]; exact List.getElem_mem hj
        obtain ⟨k, hk, ek, hg, hsn, hnn, hkd, hrk⟩ := dir_facts hD hdm
        have mt := ev_tt hD (List.getElem_mem hk)
        have hrl : ((levX y).map intR)[(fewA x).evs[k].t.toNat]? = some (intR (lvAt (levX y) (fewA x).evs[k].t)) := lv_row mt.1 mt.2
        have rk : ((fewA x).evs.map evR)[d.ev.toNat]? = some (evR (fewA x).evs[k]) := by rw [ek, Int.toNat_natCast]; exact atRow hk
        rw [dirG, Bool.and_eq_true, decide_eq_true_iff] at hg
        rw [dirN, Bool.or_eq_false_iff] at hnn
        refine rn ?_
        refine aops_e rfl (oe_alloc rfl fun b11 => ?_)
        refine rn ?_
        refine aw_draw 34 rfl ?_
        refine dq rfl rfl qrA ?_
        refine dq rfl rfl qrA ?_
        refine dq rfl rfl qrA ?_
        refine dq rfl rfl qrA ?_
        refine dq rfl rfl qrA ?_
        refine dq rfl rfl (qr_cmp (c := false) rfl rfl (congrArg some (decide_eq_false (by omega)))) ?_
        refine dq rfl rfl qrA ?_
        refine dq rfl rfl qrA ?_
        refine dq rfl rfl qrA ?_
        refine dq rfl rfl qrA ?_
        refine dq rfl rfl qrA ?_
        refine dq rfl rfl qrA ?_
        refine dq rfl rfl qrA ?_
        refine dq rfl rfl (qr_cmp (c := false) rfl rfl (congrArg some (decide_eq_false (by rw [List.length_map]; omega)))) ?_
        refine rn ?_
        refine dsplit (fun hg11_18 => ?_) (fun hg11_18 => ?_)
        · refine dq rfl rfl qrA ?_
          refine dq rfl rfl qrA ?_
          refine dq rfl rfl (qr_ari rfl rfl rfl (by omega)) ?_
          refine dq rfl rfl (qr_index_int (i := (j : Int) - 1) (row := dirR ((dirAll (fewA x) (levX y))[j - 1]'(by omega))) rfl rfl (by have q := of_decide_eq_true hg11_18; omega) (by have q := of_decide_eq_true hg11_18; rw [show ((j : Int) - 1).toNat = j - 1 by omega]; exact atRow (by omega))) ?_
          refine dq rfl rfl qrA ?_
          refine dq rfl rfl qrA ?_
          refine dq rfl rfl qrA ?_
          refine dq rfl rfl qrA ?_
          refine dq rfl rfl (qr_cmp (c := false) rfl rfl (congrArg some (decide_eq_false (by have q := of_decide_eq_true hg11_18; have := dir_mono hD (i := j - 1) (j := j) (by omega) hj (by omega); rw [← hdj] at this; omega)))) ?_
          refine rn ?_
          refine qv rfl rfl (qv_call rfl rfl (FCall.qt (FCall.of_fun (dirtyIsT (fewA x) ((fewA_lim x).mono (by decide)) (levX y) (Nat.le_trans (levX_len y) (by decide)) d hdm)) ((pt3 _ _ _ _ _).trans (.cons _ ((pt3 _ _ _ _ _).trans (.cons _ ((pt3 _ _ _ _ _).trans (.cons _ (pt3 _ _ _ _ _))))))))) ?_
          refine rn ?_
          refine aw_cond rfl (fun hc81 => ?_) (fun hc81 => ?_)
          · exact absurd hc81 (by decide)
          · refine aw_skip ?_
            refine thn_n ?_
            refine aw_seq (aw_region ?_)
            refine q1 ?_
            refine q1 ?_
            refine q1 ?_
            refine q1 ?_
            refine qq rfl rfl (qr_index_int rfl rfl (by omega) (rk)) ?_
            refine rn ?_
            refine aops_e rfl (oe_alloc rfl fun b12 => ?_)
            refine rn0 ?_
            refine aw_seq ?_
            refine tri2e ((fewA x).evs[k].kind = 3) (fun h3 => ?_) (fun h3 => ?_)
            · refine aw_region ?_
              refine q1 ?_
              refine q1 ?_
              refine qq rfl rfl (by first | exact qr_cmp (c := true) rfl rfl (congrArg some (by simpa using h3)) | exact qr_cmp (c := false) rfl rfl (congrArg some (by simpa using h3))) ?_
              refine q1 ?_
              refine q1 ?_
              refine q1 ?_
              refine q1 ?_
              refine q1 ?_
              refine qq rfl rfl (qr_cmp (c := true) rfl rfl (congrArg some (by simpa using (seen_3 h3 hsn).1))) ?_
              refine q1 ?_
              refine q1 ?_
              refine q1 ?_
              refine q1 ?_
              refine q1 ?_
              refine q1 ?_
              refine qq rfl rfl (qr_eqagg_t rfl rfl rfl rfl (by rw [(seen_3 h3 hsn).2]; exact beq_self_eq_true _)) ?_
              refine rn ?_
              refine qv rfl rfl (qv_call rfl rfl (FCall.qt (FCall.of_fun (rankC (fewA x) ((fewA_lim x).mono (by decide)) d.o d.v hrk)) ((pt4 _ _ _ _ _ _).trans (.cons _ ((pt4 _ _ _ _ _ _).trans (.cons _ ((pt4 _ _ _ _ _ _).trans (.cons _ (pt4 _ _ _ _ _ _))))))))) ?_
              refine rn0 ?_
              refine aw_seq ?_
              refine hkd.elim (fun q => ?_) (fun q => tri3e (hasB (fewA x).evs d.v.t 5) q (fun q hb => ?_) (fun q hb => ?_))
              · refine aw_draw 43 rfl ?_
                refine rn ?_
                refine dv rfl rfl (by exact qv_call rfl rfl (pcall (containsIV (commP (fewA x).evs) (fewA x).evs[k].t true (Nat.le_trans (commLen (fewA x).evs) (Nat.le_trans (fewA_lim x).evs (by decide))) (by rw [comm_has]; exact hg.1)) (Sbs.refl _))) ?_
                refine dq rfl rfl qrA ?_
                refine dq rfl rfl qrA ?_
                refine dq rfl rfl qrA ?_
                refine dq rfl rfl qrA ?_
                refine dq rfl rfl qrA ?_
                refine dq rfl rfl qrA ?_
                refine dq rfl rfl (qr_index_int rfl rfl (mt.1) (hrl)) ?_
                refine dq rfl rfl qrA ?_
                refine dq rfl rfl (qr_cmp (c := false) rfl rfl (congrArg some (decide_eq_false (by omega)))) ?_
                refine dq rfl rfl qrA ?_
                refine dq rfl rfl qrA ?_
                refine dq rfl rfl qrA ?_
                refine dq rfl rfl qrA ?_
                refine dq rfl rfl qrA ?_
                refine dq rfl rfl (qr_cmp (c := false) rfl rfl (congrArg some (hnn.1))) ?_
                refine dq rfl rfl qrA ?_
                refine dq rfl rfl qrA ?_
                refine dq rfl rfl qrA ?_
                refine dq rfl rfl qrA ?_
                refine dq rfl rfl qrA ?_
                refine dq rfl rfl qrA ?_
                refine dq rfl rfl qrA ?_
                refine dq rfl rfl (qr_cmp (c := false) rfl rfl (congrArg some (hnn.2))) ?_
                refine rn ?_
                first | refine dv rfl rfl (by exact qv_call rfl rfl (pcall (containsIV (commP (fewA x).evs) d.v.t false (Nat.le_trans (commLen (fewA x).evs) (Nat.le_trans (fewA_lim x).evs (by decide))) (by rw [comm_has]; first | exact hb | (have w := q.1; rw [dirA] at w; simpa using w))) (Sbs.refl _))) ?_ | refine dv rfl rfl (by exact qv_call rfl rfl (pcall (containsIV (commP (fewA x).evs) d.v.t true (Nat.le_trans (commLen (fewA x).evs) (Nat.le_trans (fewA_lim x).evs (by decide))) (by rw [comm_has]; exact hb)) (Sbs.refl _))) ?_
                refine dq rfl rfl qrA ?_
                refine dq rfl rfl qrA ?_
                refine dq rfl rfl (by first | exact qr_cmp (c := true) rfl rfl (congrArg some (by rw [q.2]; rfl)) | exact qr_cmp (c := false) rfl rfl (congrArg some (by rw [q.2]; rfl))) ?_
                refine rn ?_
                refine aw_cond rfl (fun hc173 => ?_) (fun hc173 => ?_)
                · first | cases hc173 | exact absurd hc173 (by decide) | (exfalso; simp_all; done)
                · refine rn ?_
                  exact ⟨hj, trivial, eA⟩
              · refine aw_draw 43 rfl ?_
                refine rn ?_
                refine dv rfl rfl (by exact qv_call rfl rfl (pcall (containsIV (commP (fewA x).evs) (fewA x).evs[k].t true (Nat.le_trans (commLen (fewA x).evs) (Nat.le_trans (fewA_lim x).evs (by decide))) (by rw [comm_has]; exact hg.1)) (Sbs.refl _))) ?_
                refine dq rfl rfl qrA ?_
                refine dq rfl rfl qrA ?_
                refine dq rfl rfl qrA ?_
                refine dq rfl rfl qrA ?_
                refine dq rfl rfl qrA ?_
                refine dq rfl rfl qrA ?_
                refine dq rfl rfl (qr_index_int rfl rfl (mt.1) (hrl)) ?_
                refine dq rfl rfl qrA ?_
                refine dq rfl rfl (qr_cmp (c := false) rfl rfl (congrArg some (decide_eq_false (by omega)))) ?_
                refine dq rfl rfl qrA ?_
                refine dq rfl rfl qrA ?_
                refine dq rfl rfl qrA ?_
                refine dq rfl rfl qrA ?_
                refine dq rfl rfl qrA ?_
                refine dq rfl rfl (qr_cmp (c := false) rfl rfl (congrArg some (hnn.1))) ?_
                refine dq rfl rfl qrA ?_
                refine dq rfl rfl qrA ?_
                refine dq rfl rfl qrA ?_
                refine dq rfl rfl qrA ?_
                refine dq rfl rfl qrA ?_
                refine dq rfl rfl qrA ?_
                refine dq rfl rfl qrA ?_
                refine dq rfl rfl (qr_cmp (c := false) rfl rfl (congrArg some (hnn.2))) ?_
                refine rn ?_
                first | refine dv rfl rfl (by exact qv_call rfl rfl (pcall (containsIV (commP (fewA x).evs) d.v.t false (Nat.le_trans (commLen (fewA x).evs) (Nat.le_trans (fewA_lim x).evs (by decide))) (by rw [comm_has]; first | exact hb | (have w := q.1; rw [dirA] at w; simpa using w))) (Sbs.refl _))) ?_ | refine dv rfl rfl (by exact qv_call rfl rfl (pcall (containsIV (commP (fewA x).evs) d.v.t true (Nat.le_trans (commLen (fewA x).evs) (Nat.le_trans (fewA_lim x).evs (by decide))) (by rw [comm_has]; exact hb)) (Sbs.refl _))) ?_
                refine dq rfl rfl qrA ?_
                refine dq rfl rfl qrA ?_
                refine dq rfl rfl (by first | exact qr_cmp (c := true) rfl rfl (congrArg some (by rw [q.2]; rfl)) | exact qr_cmp (c := false) rfl rfl (congrArg some (by rw [q.2]; rfl))) ?_
                refine rn ?_
                refine aw_cond rfl (fun hc173 => ?_) (fun hc173 => ?_)
                · first | cases hc173 | exact absurd hc173 (by decide) | (exfalso; simp_all; done)
                · refine rn ?_
                  exact ⟨hj, trivial, eA⟩
              · refine aw_draw 43 rfl ?_
                refine rn ?_
                refine dv rfl rfl (by exact qv_call rfl rfl (pcall (containsIV (commP (fewA x).evs) (fewA x).evs[k].t true (Nat.le_trans (commLen (fewA x).evs) (Nat.le_trans (fewA_lim x).evs (by decide))) (by rw [comm_has]; exact hg.1)) (Sbs.refl _))) ?_
                refine dq rfl rfl qrA ?_
                refine dq rfl rfl qrA ?_
                refine dq rfl rfl qrA ?_
                refine dq rfl rfl qrA ?_
                refine dq rfl rfl qrA ?_
                refine dq rfl rfl qrA ?_
                refine dq rfl rfl (qr_index_int rfl rfl (mt.1) (hrl)) ?_
                refine dq rfl rfl qrA ?_
                refine dq rfl rfl (qr_cmp (c := false) rfl rfl (congrArg some (decide_eq_false (by omega)))) ?_
                refine dq rfl rfl qrA ?_
                refine dq rfl rfl qrA ?_
                refine dq rfl rfl qrA ?_
                refine dq rfl rfl qrA ?_
                refine dq rfl rfl qrA ?_
                refine dq rfl rfl (qr_cmp (c := false) rfl rfl (congrArg some (hnn.1))) ?_
                refine dq rfl rfl qrA ?_
                refine dq rfl rfl qrA ?_
                refine dq rfl rfl qrA ?_
                refine dq rfl rfl qrA ?_
                refine dq rfl rfl qrA ?_
                refine dq rfl rfl qrA ?_
                refine dq rfl rfl qrA ?_
                refine dq rfl rfl (qr_cmp (c := false) rfl rfl (congrArg some (hnn.2))) ?_
                refine rn ?_
                first | refine dv rfl rfl (by exact qv_call rfl rfl (pcall (containsIV (commP (fewA x).evs) d.v.t false (Nat.le_trans (commLen (fewA x).evs) (Nat.le_trans (fewA_lim x).evs (by decide))) (by rw [comm_has]; first | exact hb | (have w := q.1; rw [dirA] at w; simpa using w))) (Sbs.refl _))) ?_ | refine dv rfl rfl (by exact qv_call rfl rfl (pcall (containsIV (commP (fewA x).evs) d.v.t true (Nat.le_trans (commLen (fewA x).evs) (Nat.le_trans (fewA_lim x).evs (by decide))) (by rw [comm_has]; exact hb)) (Sbs.refl _))) ?_
                refine dq rfl rfl qrA ?_
                refine dq rfl rfl qrA ?_
                refine dq rfl rfl (by first | exact qr_cmp (c := true) rfl rfl (congrArg some (by rw [q.2]; rfl)) | exact qr_cmp (c := false) rfl rfl (congrArg some (by rw [q.2]; rfl))) ?_
                refine rn2 ?_
                refine q1 ?_
                refine q1 ?_
                refine q1 ?_
                refine q1 ?_
                refine qq rfl rfl (qr_cmp (c := false) rfl rfl (congrArg some (by rw [q.2]; rfl))) ?_
                refine rn ?_
                refine aw_cond rfl (fun hc173 => ?_) (fun hc173 => ?_)
                · exact absurd hc173 (by decide)
                · refine rn ?_
                  exact ⟨hj, trivial, eA⟩
            · refine aw_region ?_
              refine q1 ?_
              refine q1 ?_
              refine qq rfl rfl (by first | exact qr_cmp (c := true) rfl rfl (congrArg some (by simpa using h3)) | exact qr_cmp (c := false) rfl rfl (congrArg some (by simpa using h3))) ?_
              refine q1 ?_
              refine qs rfl rfl ?_
              refine qs rfl rfl ?_
              refine qs rfl rfl ?_
              refine qs rfl rfl ?_
              refine qs rfl rfl ?_
              refine q1 ?_
              refine q1 ?_
              refine qs rfl rfl ?_
              refine qs rfl rfl ?_
              refine qs rfl rfl ?_
              refine qs rfl rfl ?_
              refine qs rfl rfl ?_
              refine q1 ?_
              refine q1 ?_
              refine q1 ?_
              refine q1 ?_
              refine q1 ?_
              refine q1 ?_
              refine q1 ?_
              refine q1 ?_
              refine qq rfl rfl (qr_build (out := [iv d.o, iv d.v.t, iv d.v.k]) rfl (by rfl)) ?_
              refine qv rfl rfl (qv_call rfl rfl (pcall (containsSeenT (fewA x).evs[k].scan ⟨d.o, d.v⟩ (Nat.le_trans ((fewA_lim x).scans (fewA x).evs[k] (List.getElem_mem hk)) (by decide)) (seen_n h3 hsn)) (Sbs.refl _))) ?_
              refine rn ?_
              refine qv rfl rfl (qv_call rfl rfl (FCall.qt (FCall.of_fun (rankC (fewA x) ((fewA_lim x).mono (by decide)) d.o d.v hrk)) ((pt4 _ _ _ _ _ _).trans (.cons _ ((pt4 _ _ _ _ _ _).trans (.cons _ ((pt4 _ _ _ _ _ _).trans (.cons _ (pt4 _ _ _ _ _ _))))))))) ?_
              refine rn0 ?_
              refine aw_seq ?_
              refine hkd.elim (fun q => ?_) (fun q => tri3e (hasB (fewA x).evs d.v.t 5) q (fun q hb => ?_) (fun q hb => ?_))
              · refine aw_draw 43 rfl ?_
                refine rn ?_
                refine dv rfl rfl (by exact qv_call rfl rfl (pcall (containsIV (commP (fewA x).evs) (fewA x).evs[k].t true (Nat.le_trans (commLen (fewA x).evs) (Nat.le_trans (fewA_lim x).evs (by decide))) (by rw [comm_has]; exact hg.1)) (Sbs.refl _))) ?_
                refine dq rfl rfl qrA ?_
                refine dq rfl rfl qrA ?_
                refine dq rfl rfl qrA ?_
                refine dq rfl rfl qrA ?_
                refine dq rfl rfl qrA ?_
                refine dq rfl rfl qrA ?_
                refine dq rfl rfl (qr_index_int rfl rfl (mt.1) (hrl)) ?_
                refine dq rfl rfl qrA ?_
                refine dq rfl rfl (qr_cmp (c := false) rfl rfl (congrArg some (decide_eq_false (by omega)))) ?_
                refine dq rfl rfl qrA ?_
                refine dq rfl rfl qrA ?_
                refine dq rfl rfl qrA ?_
                refine dq rfl rfl qrA ?_
                refine dq rfl rfl qrA ?_
                refine dq rfl rfl (qr_cmp (c := false) rfl rfl (congrArg some (hnn.1))) ?_
                refine dq rfl rfl qrA ?_
                refine dq rfl rfl qrA ?_
                refine dq rfl rfl qrA ?_
                refine dq rfl rfl qrA ?_
                refine dq rfl rfl qrA ?_
                refine dq rfl rfl qrA ?_
                refine dq rfl rfl qrA ?_
                refine dq rfl rfl (qr_cmp (c := false) rfl rfl (congrArg some (hnn.2))) ?_
                refine rn ?_
                first | refine dv rfl rfl (by exact qv_call rfl rfl (pcall (containsIV (commP (fewA x).evs) d.v.t false (Nat.le_trans (commLen (fewA x).evs) (Nat.le_trans (fewA_lim x).evs (by decide))) (by rw [comm_has]; first | exact hb | (have w := q.1; rw [dirA] at w; simpa using w))) (Sbs.refl _))) ?_ | refine dv rfl rfl (by exact qv_call rfl rfl (pcall (containsIV (commP (fewA x).evs) d.v.t true (Nat.le_trans (commLen (fewA x).evs) (Nat.le_trans (fewA_lim x).evs (by decide))) (by rw [comm_has]; exact hb)) (Sbs.refl _))) ?_
                refine dq rfl rfl qrA ?_
                refine dq rfl rfl qrA ?_
                refine dq rfl rfl (by first | exact qr_cmp (c := true) rfl rfl (congrArg some (by rw [q.2]; rfl)) | exact qr_cmp (c := false) rfl rfl (congrArg some (by rw [q.2]; rfl))) ?_
                refine rn ?_
                refine aw_cond rfl (fun hc173 => ?_) (fun hc173 => ?_)
                · first | cases hc173 | exact absurd hc173 (by decide) | (exfalso; simp_all; done)
                · refine rn ?_
                  exact ⟨hj, trivial, eA⟩
              · refine aw_draw 43 rfl ?_
                refine rn ?_
                refine dv rfl rfl (by exact qv_call rfl rfl (pcall (containsIV (commP (fewA x).evs) (fewA x).evs[k].t true (Nat.le_trans (commLen (fewA x).evs) (Nat.le_trans (fewA_lim x).evs (by decide))) (by rw [comm_has]; exact hg.1)) (Sbs.refl _))) ?_
                refine dq rfl rfl qrA ?_
                refine dq rfl rfl qrA ?_
                refine dq rfl rfl qrA ?_
                refine dq rfl rfl qrA ?_
                refine dq rfl rfl qrA ?_
                refine dq rfl rfl qrA ?_
                refine dq rfl rfl (qr_index_int rfl rfl (mt.1) (hrl)) ?_
                refine dq rfl rfl qrA ?_
                refine dq rfl rfl (qr_cmp (c := false) rfl rfl (congrArg some (decide_eq_false (by omega)))) ?_
                refine dq rfl rfl qrA ?_
                refine dq rfl rfl qrA ?_
                refine dq rfl rfl qrA ?_
                refine dq rfl rfl qrA ?_
                refine dq rfl rfl qrA ?_
                refine dq rfl rfl (qr_cmp (c := false) rfl rfl (congrArg some (hnn.1))) ?_
                refine dq rfl rfl qrA ?_
                refine dq rfl rfl qrA ?_
                refine dq rfl rfl qrA ?_
                refine dq rfl rfl qrA ?_
                refine dq rfl rfl qrA ?_
                refine dq rfl rfl qrA ?_
                refine dq rfl rfl qrA ?_
                refine dq rfl rfl (qr_cmp (c := false) rfl rfl (congrArg some (hnn.2))) ?_
                refine rn ?_
                first | refine dv rfl rfl (by exact qv_call rfl rfl (pcall (containsIV (commP (fewA x).evs) d.v.t false (Nat.le_trans (commLen (fewA x).evs) (Nat.le_trans (fewA_lim x).evs (by decide))) (by rw [comm_has]; first | exact hb | (have w := q.1; rw [dirA] at w; simpa using w))) (Sbs.refl _))) ?_ | refine dv rfl rfl (by exact qv_call rfl rfl (pcall (containsIV (commP (fewA x).evs) d.v.t true (Nat.le_trans (commLen (fewA x).evs) (Nat.le_trans (fewA_lim x).evs (by decide))) (by rw [comm_has]; exact hb)) (Sbs.refl _))) ?_
                refine dq rfl rfl qrA ?_
                refine dq rfl rfl qrA ?_
                refine dq rfl rfl (by first | exact qr_cmp (c := true) rfl rfl (congrArg some (by rw [q.2]; rfl)) | exact qr_cmp (c := false) rfl rfl (congrArg some (by rw [q.2]; rfl))) ?_
                refine rn ?_
                refine aw_cond rfl (fun hc173 => ?_) (fun hc173 => ?_)
                · first | cases hc173 | exact absurd hc173 (by decide) | (exfalso; simp_all; done)
                · refine rn ?_
                  exact ⟨hj, trivial, eA⟩
              · refine aw_draw 43 rfl ?_
                refine rn ?_
                refine dv rfl rfl (by exact qv_call rfl rfl (pcall (containsIV (commP (fewA x).evs) (fewA x).evs[k].t true (Nat.le_trans (commLen (fewA x).evs) (Nat.le_trans (fewA_lim x).evs (by decide))) (by rw [comm_has]; exact hg.1)) (Sbs.refl _))) ?_
                refine dq rfl rfl qrA ?_
                refine dq rfl rfl qrA ?_
                refine dq rfl rfl qrA ?_
                refine dq rfl rfl qrA ?_
                refine dq rfl rfl qrA ?_
                refine dq rfl rfl qrA ?_
                refine dq rfl rfl (qr_index_int rfl rfl (mt.1) (hrl)) ?_
                refine dq rfl rfl qrA ?_
                refine dq rfl rfl (qr_cmp (c := false) rfl rfl (congrArg some (decide_eq_false (by omega)))) ?_
                refine dq rfl rfl qrA ?_
                refine dq rfl rfl qrA ?_
                refine dq rfl rfl qrA ?_
                refine dq rfl rfl qrA ?_
                refine dq rfl rfl qrA ?_
                refine dq rfl rfl (qr_cmp (c := false) rfl rfl (congrArg some (hnn.1))) ?_
                refine dq rfl rfl qrA ?_
                refine dq rfl rfl qrA ?_
                refine dq rfl rfl qrA ?_
                refine dq rfl rfl qrA ?_
                refine dq rfl rfl qrA ?_
                refine dq rfl rfl qrA ?_
                refine dq rfl rfl qrA ?_
                refine dq rfl rfl (qr_cmp (c := false) rfl rfl (congrArg some (hnn.2))) ?_
                refine rn ?_
                first | refine dv rfl rfl (by exact qv_call rfl rfl (pcall (containsIV (commP (fewA x).evs) d.v.t false (Nat.le_trans (commLen (fewA x).evs) (Nat.le_trans (fewA_lim x).evs (by decide))) (by rw [comm_has]; first | exact hb | (have w := q.1; rw [dirA] at w; simpa using w))) (Sbs.refl _))) ?_ | refine dv rfl rfl (by exact qv_call rfl rfl (pcall (containsIV (commP (fewA x).evs) d.v.t true (Nat.le_trans (commLen (fewA x).evs) (Nat.le_trans (fewA_lim x).evs (by decide))) (by rw [comm_has]; exact hb)) (Sbs.refl _))) ?_
                refine dq rfl rfl qrA ?_
                refine dq rfl rfl qrA ?_
                refine dq rfl rfl (by first | exact qr_cmp (c := true) rfl rfl (congrArg some (by rw [q.2]; rfl)) | exact qr_cmp (c := false) rfl rfl (congrArg some (by rw [q.2]; rfl))) ?_
                refine rn2 ?_
                refine q1 ?_
                refine q1 ?_
                refine q1 ?_
                refine q1 ?_
                refine qq rfl rfl (qr_cmp (c := false) rfl rfl (congrArg some (by rw [q.2]; rfl))) ?_
                refine rn ?_
                refine aw_cond rfl (fun hc173 => ?_) (fun hc173 => ?_)
                · exact absurd hc173 (by decide)
                · refine rn ?_
                  exact ⟨hj, trivial, eA⟩
        · refine rn ?_
          refine qv rfl rfl (qv_call rfl rfl (FCall.qt (FCall.of_fun (dirtyIsT (fewA x) ((fewA_lim x).mono (by decide)) (levX y) (Nat.le_trans (levX_len y) (by decide)) d hdm)) ((pt3 _ _ _ _ _).trans (.cons _ ((pt3 _ _ _ _ _).trans (.cons _ ((pt3 _ _ _ _ _).trans (.cons _ (pt3 _ _ _ _ _))))))))) ?_
          refine rn ?_
          refine aw_cond rfl (fun hc81 => ?_) (fun hc81 => ?_)
          · exact absurd hc81 (by decide)
          · refine aw_skip ?_
            refine thn_n ?_
            refine aw_seq (aw_region ?_)
            refine q1 ?_
            refine q1 ?_
            refine q1 ?_
            refine q1 ?_
            refine qq rfl rfl (qr_index_int rfl rfl (by omega) (rk)) ?_
            refine rn ?_
            refine aops_e rfl (oe_alloc rfl fun b12 => ?_)
            refine rn0 ?_
            refine aw_seq ?_
            refine tri2e ((fewA x).evs[k].kind = 3) (fun h3 => ?_) (fun h3 => ?_)
            · refine aw_region ?_
              refine q1 ?_
              refine q1 ?_
              refine qq rfl rfl (by first | exact qr_cmp (c := true) rfl rfl (congrArg some (by simpa using h3)) | exact qr_cmp (c := false) rfl rfl (congrArg some (by simpa using h3))) ?_
              refine q1 ?_
              refine q1 ?_
              refine q1 ?_
              refine q1 ?_
              refine q1 ?_
              refine qq rfl rfl (qr_cmp (c := true) rfl rfl (congrArg some (by simpa using (seen_3 h3 hsn).1))) ?_
              refine q1 ?_
              refine q1 ?_
              refine q1 ?_
              refine q1 ?_
              refine q1 ?_
              refine q1 ?_
              refine qq rfl rfl (qr_eqagg_t rfl rfl rfl rfl (by rw [(seen_3 h3 hsn).2]; exact beq_self_eq_true _)) ?_
              refine rn ?_
              refine qv rfl rfl (qv_call rfl rfl (FCall.qt (FCall.of_fun (rankC (fewA x) ((fewA_lim x).mono (by decide)) d.o d.v hrk)) ((pt4 _ _ _ _ _ _).trans (.cons _ ((pt4 _ _ _ _ _ _).trans (.cons _ ((pt4 _ _ _ _ _ _).trans (.cons _ (pt4 _ _ _ _ _ _))))))))) ?_
              refine rn0 ?_
              refine aw_seq ?_
              refine hkd.elim (fun q => ?_) (fun q => tri3e (hasB (fewA x).evs d.v.t 5) q (fun q hb => ?_) (fun q hb => ?_))
              · refine aw_draw 43 rfl ?_
                refine rn ?_
                refine dv rfl rfl (by exact qv_call rfl rfl (pcall (containsIV (commP (fewA x).evs) (fewA x).evs[k].t true (Nat.le_trans (commLen (fewA x).evs) (Nat.le_trans (fewA_lim x).evs (by decide))) (by rw [comm_has]; exact hg.1)) (Sbs.refl _))) ?_
                refine dq rfl rfl qrA ?_
                refine dq rfl rfl qrA ?_
                refine dq rfl rfl qrA ?_
                refine dq rfl rfl qrA ?_
                refine dq rfl rfl qrA ?_
                refine dq rfl rfl qrA ?_
                refine dq rfl rfl (qr_index_int rfl rfl (mt.1) (hrl)) ?_
                refine dq rfl rfl qrA ?_
                refine dq rfl rfl (qr_cmp (c := false) rfl rfl (congrArg some (decide_eq_false (by omega)))) ?_
                refine dq rfl rfl qrA ?_
                refine dq rfl rfl qrA ?_
                refine dq rfl rfl qrA ?_
                refine dq rfl rfl qrA ?_
                refine dq rfl rfl qrA ?_
                refine dq rfl rfl (qr_cmp (c := false) rfl rfl (congrArg some (hnn.1))) ?_
                refine dq rfl rfl qrA ?_
                refine dq rfl rfl qrA ?_
                refine dq rfl rfl qrA ?_
                refine dq rfl rfl qrA ?_
                refine dq rfl rfl qrA ?_
                refine dq rfl rfl qrA ?_
                refine dq rfl rfl qrA ?_
                refine dq rfl rfl (qr_cmp (c := false) rfl rfl (congrArg some (hnn.2))) ?_
                refine rn ?_
                first | refine dv rfl rfl (by exact qv_call rfl rfl (pcall (containsIV (commP (fewA x).evs) d.v.t false (Nat.le_trans (commLen (fewA x).evs) (Nat.le_trans (fewA_lim x).evs (by decide))) (by rw [comm_has]; first | exact hb | (have w := q.1; rw [dirA] at w; simpa using w))) (Sbs.refl _))) ?_ | refine dv rfl rfl (by exact qv_call rfl rfl (pcall (containsIV (commP (fewA x).evs) d.v.t true (Nat.le_trans (commLen (fewA x).evs) (Nat.le_trans (fewA_lim x).evs (by decide))) (by rw [comm_has]; exact hb)) (Sbs.refl _))) ?_
                refine dq rfl rfl qrA ?_
                refine dq rfl rfl qrA ?_
                refine dq rfl rfl (by first | exact qr_cmp (c := true) rfl rfl (congrArg some (by rw [q.2]; rfl)) | exact qr_cmp (c := false) rfl rfl (congrArg some (by rw [q.2]; rfl))) ?_
                refine rn ?_
                refine aw_cond rfl (fun hc173 => ?_) (fun hc173 => ?_)
                · first | cases hc173 | exact absurd hc173 (by decide) | (exfalso; simp_all; done)
                · refine rn ?_
                  exact ⟨hj, trivial, eA⟩
              · refine aw_draw 43 rfl ?_
                refine rn ?_
                refine dv rfl rfl (by exact qv_call rfl rfl (pcall (containsIV (commP (fewA x).evs) (fewA x).evs[k].t true (Nat.le_trans (commLen (fewA x).evs) (Nat.le_trans (fewA_lim x).evs (by decide))) (by rw [comm_has]; exact hg.1)) (Sbs.refl _))) ?_
                refine dq rfl rfl qrA ?_
                refine dq rfl rfl qrA ?_
                refine dq rfl rfl qrA ?_
                refine dq rfl rfl qrA ?_
                refine dq rfl rfl qrA ?_
                refine dq rfl rfl qrA ?_
                refine dq rfl rfl (qr_index_int rfl rfl (mt.1) (hrl)) ?_
                refine dq rfl rfl qrA ?_
                refine dq rfl rfl (qr_cmp (c := false) rfl rfl (congrArg some (decide_eq_false (by omega)))) ?_
                refine dq rfl rfl qrA ?_
                refine dq rfl rfl qrA ?_
                refine dq rfl rfl qrA ?_
                refine dq rfl rfl qrA ?_
                refine dq rfl rfl qrA ?_
                refine dq rfl rfl (qr_cmp (c := false) rfl rfl (congrArg some (hnn.1))) ?_
                refine dq rfl rfl qrA ?_
                refine dq rfl rfl qrA ?_
                refine dq rfl rfl qrA ?_
                refine dq rfl rfl qrA ?_
                refine dq rfl rfl qrA ?_
                refine dq rfl rfl qrA ?_
                refine dq rfl rfl qrA ?_
                refine dq rfl rfl (qr_cmp (c := false) rfl rfl (congrArg some (hnn.2))) ?_
                refine rn ?_
                first | refine dv rfl rfl (by exact qv_call rfl rfl (pcall (containsIV (commP (fewA x).evs) d.v.t false (Nat.le_trans (commLen (fewA x).evs) (Nat.le_trans (fewA_lim x).evs (by decide))) (by rw [comm_has]; first | exact hb | (have w := q.1; rw [dirA] at w; simpa using w))) (Sbs.refl _))) ?_ | refine dv rfl rfl (by exact qv_call rfl rfl (pcall (containsIV (commP (fewA x).evs) d.v.t true (Nat.le_trans (commLen (fewA x).evs) (Nat.le_trans (fewA_lim x).evs (by decide))) (by rw [comm_has]; exact hb)) (Sbs.refl _))) ?_
                refine dq rfl rfl qrA ?_
                refine dq rfl rfl qrA ?_
                refine dq rfl rfl (by first | exact qr_cmp (c := true) rfl rfl (congrArg some (by rw [q.2]; rfl)) | exact qr_cmp (c := false) rfl rfl (congrArg some (by rw [q.2]; rfl))) ?_
                refine rn ?_
                refine aw_cond rfl (fun hc173 => ?_) (fun hc173 => ?_)
                · first | cases hc173 | exact absurd hc173 (by decide) | (exfalso; simp_all; done)
                · refine rn ?_
                  exact ⟨hj, trivial, eA⟩
              · refine aw_draw 43 rfl ?_
                refine rn ?_
                refine dv rfl rfl (by exact qv_call rfl rfl (pcall (containsIV (commP (fewA x).evs) (fewA x).evs[k].t true (Nat.le_trans (commLen (fewA x).evs) (Nat.le_trans (fewA_lim x).evs (by decide))) (by rw [comm_has]; exact hg.1)) (Sbs.refl _))) ?_
                refine dq rfl rfl qrA ?_
                refine dq rfl rfl qrA ?_
                refine dq rfl rfl qrA ?_
                refine dq rfl rfl qrA ?_
                refine dq rfl rfl qrA ?_
                refine dq rfl rfl qrA ?_
                refine dq rfl rfl (qr_index_int rfl rfl (mt.1) (hrl)) ?_
                refine dq rfl rfl qrA ?_
                refine dq rfl rfl (qr_cmp (c := false) rfl rfl (congrArg some (decide_eq_false (by omega)))) ?_
                refine dq rfl rfl qrA ?_
                refine dq rfl rfl qrA ?_
                refine dq rfl rfl qrA ?_
                refine dq rfl rfl qrA ?_
                refine dq rfl rfl qrA ?_
                refine dq rfl rfl (qr_cmp (c := false) rfl rfl (congrArg some (hnn.1))) ?_
                refine dq rfl rfl qrA ?_
                refine dq rfl rfl qrA ?_
                refine dq rfl rfl qrA ?_
                refine dq rfl rfl qrA ?_
                refine dq rfl rfl qrA ?_
                refine dq rfl rfl qrA ?_
                refine dq rfl rfl qrA ?_
                refine dq rfl rfl (qr_cmp (c := false) rfl rfl (congrArg some (hnn.2))) ?_
                refine rn ?_
                first | refine dv rfl rfl (by exact qv_call rfl rfl (pcall (containsIV (commP (fewA x).evs) d.v.t false (Nat.le_trans (commLen (fewA x).evs) (Nat.le_trans (fewA_lim x).evs (by decide))) (by rw [comm_has]; first | exact hb | (have w := q.1; rw [dirA] at w; simpa using w))) (Sbs.refl _))) ?_ | refine dv rfl rfl (by exact qv_call rfl rfl (pcall (containsIV (commP (fewA x).evs) d.v.t true (Nat.le_trans (commLen (fewA x).evs) (Nat.le_trans (fewA_lim x).evs (by decide))) (by rw [comm_has]; exact hb)) (Sbs.refl _))) ?_
                refine dq rfl rfl qrA ?_
                refine dq rfl rfl qrA ?_
                refine dq rfl rfl (by first | exact qr_cmp (c := true) rfl rfl (congrArg some (by rw [q.2]; rfl)) | exact qr_cmp (c := false) rfl rfl (congrArg some (by rw [q.2]; rfl))) ?_
                refine rn2 ?_
                refine q1 ?_
                refine q1 ?_
                refine q1 ?_
                refine q1 ?_
                refine qq rfl rfl (qr_cmp (c := false) rfl rfl (congrArg some (by rw [q.2]; rfl))) ?_
                refine rn ?_
                refine aw_cond rfl (fun hc173 => ?_) (fun hc173 => ?_)
                · exact absurd hc173 (by decide)
                · refine rn ?_
                  exact ⟨hj, trivial, eA⟩
            · refine aw_region ?_
              refine q1 ?_
              refine q1 ?_
              refine qq rfl rfl (by first | exact qr_cmp (c := true) rfl rfl (congrArg some (by simpa using h3)) | exact qr_cmp (c := false) rfl rfl (congrArg some (by simpa using h3))) ?_
              refine q1 ?_
              refine qs rfl rfl ?_
              refine qs rfl rfl ?_
              refine qs rfl rfl ?_
              refine qs rfl rfl ?_
              refine qs rfl rfl ?_
              refine q1 ?_
              refine q1 ?_
              refine qs rfl rfl ?_
              refine qs rfl rfl ?_
              refine qs rfl rfl ?_
              refine qs rfl rfl ?_
              refine qs rfl rfl ?_
              refine q1 ?_
              refine q1 ?_
              refine q1 ?_
              refine q1 ?_
              refine q1 ?_
              refine q1 ?_
              refine q1 ?_
              refine q1 ?_
              refine qq rfl rfl (qr_build (out := [iv d.o, iv d.v.t, iv d.v.k]) rfl (by rfl)) ?_
              refine qv rfl rfl (qv_call rfl rfl (pcall (containsSeenT (fewA x).evs[k].scan ⟨d.o, d.v⟩ (Nat.le_trans ((fewA_lim x).scans (fewA x).evs[k] (List.getElem_mem hk)) (by decide)) (seen_n h3 hsn)) (Sbs.refl _))) ?_
              refine rn ?_
              refine qv rfl rfl (qv_call rfl rfl (FCall.qt (FCall.of_fun (rankC (fewA x) ((fewA_lim x).mono (by decide)) d.o d.v hrk)) ((pt4 _ _ _ _ _ _).trans (.cons _ ((pt4 _ _ _ _ _ _).trans (.cons _ ((pt4 _ _ _ _ _ _).trans (.cons _ (pt4 _ _ _ _ _ _))))))))) ?_
              refine rn0 ?_
              refine aw_seq ?_
              refine hkd.elim (fun q => ?_) (fun q => tri3e (hasB (fewA x).evs d.v.t 5) q (fun q hb => ?_) (fun q hb => ?_))
              · refine aw_draw 43 rfl ?_
                refine rn ?_
                refine dv rfl rfl (by exact qv_call rfl rfl (pcall (containsIV (commP (fewA x).evs) (fewA x).evs[k].t true (Nat.le_trans (commLen (fewA x).evs) (Nat.le_trans (fewA_lim x).evs (by decide))) (by rw [comm_has]; exact hg.1)) (Sbs.refl _))) ?_
                refine dq rfl rfl qrA ?_
                refine dq rfl rfl qrA ?_
                refine dq rfl rfl qrA ?_
                refine dq rfl rfl qrA ?_
                refine dq rfl rfl qrA ?_
                refine dq rfl rfl qrA ?_
                refine dq rfl rfl (qr_index_int rfl rfl (mt.1) (hrl)) ?_
                refine dq rfl rfl qrA ?_
                refine dq rfl rfl (qr_cmp (c := false) rfl rfl (congrArg some (decide_eq_false (by omega)))) ?_
                refine dq rfl rfl qrA ?_
                refine dq rfl rfl qrA ?_
                refine dq rfl rfl qrA ?_
                refine dq rfl rfl qrA ?_
                refine dq rfl rfl qrA ?_
                refine dq rfl rfl (qr_cmp (c := false) rfl rfl (congrArg some (hnn.1))) ?_
                refine dq rfl rfl qrA ?_
                refine dq rfl rfl qrA ?_
                refine dq rfl rfl qrA ?_
                refine dq rfl rfl qrA ?_
                refine dq rfl rfl qrA ?_
                refine dq rfl rfl qrA ?_
                refine dq rfl rfl qrA ?_
                refine dq rfl rfl (qr_cmp (c := false) rfl rfl (congrArg some (hnn.2))) ?_
                refine rn ?_
                first | refine dv rfl rfl (by exact qv_call rfl rfl (pcall (containsIV (commP (fewA x).evs) d.v.t false (Nat.le_trans (commLen (fewA x).evs) (Nat.le_trans (fewA_lim x).evs (by decide))) (by rw [comm_has]; first | exact hb | (have w := q.1; rw [dirA] at w; simpa using w))) (Sbs.refl _))) ?_ | refine dv rfl rfl (by exact qv_call rfl rfl (pcall (containsIV (commP (fewA x).evs) d.v.t true (Nat.le_trans (commLen (fewA x).evs) (Nat.le_trans (fewA_lim x).evs (by decide))) (by rw [comm_has]; exact hb)) (Sbs.refl _))) ?_
                refine dq rfl rfl qrA ?_
                refine dq rfl rfl qrA ?_
                refine dq rfl rfl (by first | exact qr_cmp (c := true) rfl rfl (congrArg some (by rw [q.2]; rfl)) | exact qr_cmp (c := false) rfl rfl (congrArg some (by rw [q.2]; rfl))) ?_
                refine rn ?_
                refine aw_cond rfl (fun hc173 => ?_) (fun hc173 => ?_)
                · first | cases hc173 | exact absurd hc173 (by decide) | (exfalso; simp_all; done)
                · refine rn ?_
                  exact ⟨hj, trivial, eA⟩
              · refine aw_draw 43 rfl ?_
                refine rn ?_
                refine dv rfl rfl (by exact qv_call rfl rfl (pcall (containsIV (commP (fewA x).evs) (fewA x).evs[k].t true (Nat.le_trans (commLen (fewA x).evs) (Nat.le_trans (fewA_lim x).evs (by decide))) (by rw [comm_has]; exact hg.1)) (Sbs.refl _))) ?_
                refine dq rfl rfl qrA ?_
                refine dq rfl rfl qrA ?_
                refine dq rfl rfl qrA ?_
                refine dq rfl rfl qrA ?_
                refine dq rfl rfl qrA ?_
                refine dq rfl rfl qrA ?_
                refine dq rfl rfl (qr_index_int rfl rfl (mt.1) (hrl)) ?_
                refine dq rfl rfl qrA ?_
                refine dq rfl rfl (qr_cmp (c := false) rfl rfl (congrArg some (decide_eq_false (by omega)))) ?_
                refine dq rfl rfl qrA ?_
                refine dq rfl rfl qrA ?_
                refine dq rfl rfl qrA ?_
                refine dq rfl rfl qrA ?_
                refine dq rfl rfl qrA ?_
                refine dq rfl rfl (qr_cmp (c := false) rfl rfl (congrArg some (hnn.1))) ?_
                refine dq rfl rfl qrA ?_
                refine dq rfl rfl qrA ?_
                refine dq rfl rfl qrA ?_
                refine dq rfl rfl qrA ?_
                refine dq rfl rfl qrA ?_
                refine dq rfl rfl qrA ?_
                refine dq rfl rfl qrA ?_
                refine dq rfl rfl (qr_cmp (c := false) rfl rfl (congrArg some (hnn.2))) ?_
                refine rn ?_
                first | refine dv rfl rfl (by exact qv_call rfl rfl (pcall (containsIV (commP (fewA x).evs) d.v.t false (Nat.le_trans (commLen (fewA x).evs) (Nat.le_trans (fewA_lim x).evs (by decide))) (by rw [comm_has]; first | exact hb | (have w := q.1; rw [dirA] at w; simpa using w))) (Sbs.refl _))) ?_ | refine dv rfl rfl (by exact qv_call rfl rfl (pcall (containsIV (commP (fewA x).evs) d.v.t true (Nat.le_trans (commLen (fewA x).evs) (Nat.le_trans (fewA_lim x).evs (by decide))) (by rw [comm_has]; exact hb)) (Sbs.refl _))) ?_
                refine dq rfl rfl qrA ?_
                refine dq rfl rfl qrA ?_
                refine dq rfl rfl (by first | exact qr_cmp (c := true) rfl rfl (congrArg some (by rw [q.2]; rfl)) | exact qr_cmp (c := false) rfl rfl (congrArg some (by rw [q.2]; rfl))) ?_
                refine rn ?_
                refine aw_cond rfl (fun hc173 => ?_) (fun hc173 => ?_)
                · first | cases hc173 | exact absurd hc173 (by decide) | (exfalso; simp_all; done)
                · refine rn ?_
                  exact ⟨hj, trivial, eA⟩
              · refine aw_draw 43 rfl ?_
                refine rn ?_
                refine dv rfl rfl (by exact qv_call rfl rfl (pcall (containsIV (commP (fewA x).evs) (fewA x).evs[k].t true (Nat.le_trans (commLen (fewA x).evs) (Nat.le_trans (fewA_lim x).evs (by decide))) (by rw [comm_has]; exact hg.1)) (Sbs.refl _))) ?_
                refine dq rfl rfl qrA ?_
                refine dq rfl rfl qrA ?_
                refine dq rfl rfl qrA ?_
                refine dq rfl rfl qrA ?_
                refine dq rfl rfl qrA ?_
                refine dq rfl rfl qrA ?_
                refine dq rfl rfl (qr_index_int rfl rfl (mt.1) (hrl)) ?_
                refine dq rfl rfl qrA ?_
                refine dq rfl rfl (qr_cmp (c := false) rfl rfl (congrArg some (decide_eq_false (by omega)))) ?_
                refine dq rfl rfl qrA ?_
                refine dq rfl rfl qrA ?_
                refine dq rfl rfl qrA ?_
                refine dq rfl rfl qrA ?_
                refine dq rfl rfl qrA ?_
                refine dq rfl rfl (qr_cmp (c := false) rfl rfl (congrArg some (hnn.1))) ?_
                refine dq rfl rfl qrA ?_
                refine dq rfl rfl qrA ?_
                refine dq rfl rfl qrA ?_
                refine dq rfl rfl qrA ?_
                refine dq rfl rfl qrA ?_
                refine dq rfl rfl qrA ?_
                refine dq rfl rfl qrA ?_
                refine dq rfl rfl (qr_cmp (c := false) rfl rfl (congrArg some (hnn.2))) ?_
                refine rn ?_
                first | refine dv rfl rfl (by exact qv_call rfl rfl (pcall (containsIV (commP (fewA x).evs) d.v.t false (Nat.le_trans (commLen (fewA x).evs) (Nat.le_trans (fewA_lim x).evs (by decide))) (by rw [comm_has]; first | exact hb | (have w := q.1; rw [dirA] at w; simpa using w))) (Sbs.refl _))) ?_ | refine dv rfl rfl (by exact qv_call rfl rfl (pcall (containsIV (commP (fewA x).evs) d.v.t true (Nat.le_trans (commLen (fewA x).evs) (Nat.le_trans (fewA_lim x).evs (by decide))) (by rw [comm_has]; exact hb)) (Sbs.refl _))) ?_
                refine dq rfl rfl qrA ?_
                refine dq rfl rfl qrA ?_
                refine dq rfl rfl (by first | exact qr_cmp (c := true) rfl rfl (congrArg some (by rw [q.2]; rfl)) | exact qr_cmp (c := false) rfl rfl (congrArg some (by rw [q.2]; rfl))) ?_
                refine rn2 ?_
                refine q1 ?_
                refine q1 ?_
                refine q1 ?_
                refine q1 ?_
                refine qq rfl rfl (qr_cmp (c := false) rfl rfl (congrArg some (by rw [q.2]; rfl))) ?_
                refine rn ?_
                refine aw_cond rfl (fun hc173 => ?_) (fun hc173 => ?_)
                · exact absurd hc173 (by decide)
                · refine rn ?_
                  exact ⟨hj, trivial, eA⟩
      · have qj := geMap hc41 lj
        refine rn ?_
        refine rq 2 ?_
        exact ⟨rfl, rfl⟩
theorem dirtyEvents (x : Hist) (y : List Int) (lb : Lim 4611686018427387904 x) (hl : y.length ≤ 4611686018427387904) : ACall Tryz.prog 5 [.agg (histC x), intsA y] (.glob 0 186 limitsC :: .glob 2 287 firstC :: .glob 3 290 acceptC :: .glob 1 250 asksC :: []) (fun r h' => h' = .glob 0 186 limitsC :: .glob 2 287 firstC :: .glob 3 290 acceptC :: .glob 1 250 asksC :: [] ∧ r = bv true) := by
  by_cases hD : (dirC (fewA x) (levX y)) = 0
  · exact eventsY x y lb hl hD
  · exact eventsN x y lb hl hD
end Go.Proofs
