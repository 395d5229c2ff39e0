/- The walks of law 18's own, small, wakes. Conditions: none. -/
import Derived.Test.YtkoaoaogmlpocaaGreatDoorWChI
set_option linter.unusedSectionVars false
set_option linter.unusedSimpArgs false
set_option linter.unusedVariables false
set_option linter.unusedVariables false
set_option linter.unusedSimpArgs false
set_option maxRecDepth 10000
namespace Go.Proofs
open Go Go.Ab
attribute [local irreducible] QR QV OE aops aw dsoup dsoupM dalloc dallocM thn inBlk jsoup jch lsoup
open Go.H
theorem own_take18 (l : List Ev) : (l.map evR).take (min (l.map evR).length 80) = (l.take 80).map evR := by
  rw [List.length_map, ← List.map_take, Nat.min_comm, ← List.take_take, List.take_length]
set_option maxHeartbeats 4000000 in
theorem own18R (h : Hist) (la : Big h) : ACall Tryz.prog 36 [.agg (histC h)] [] (fun r h' => ∃ (sE sO : SV) (O : List (SV × H.Ord)), O.map (·.2) = h.ords ∧ h' = .row sE.v 9 56 ((h.evs.take 80).map evR) :: .row sO.v 2 101 (O.map ordRw) :: otR 3 O ∧ r = .agg [strsA h.ts, strsA h.ss, strsA h.os, strsA h.ps, .v sE.v, .v sO.v, matsA h.mats, wansA h.wants]) := by
  refine acall_of_aw Tryz.func36 rfl rfl rfl ?_
  refine rn ?_
  refine aops_e rfl (oe_box rfl rfl rfl fun b1 => ?_)
  refine aops_e rfl (oe_alloc rfl fun b2 => ?_)
  refine aops_nil (thn_n ?_)
  refine aw_seq (aw_region ?_)
  refine q1 ?_
  refine q1 ?_
  refine q1 ?_
  refine q1 ?_
  refine q1 ?_
  refine qq rfl rfl (qr_minN (h.evs.map evR).length 80 rfl rfl) ?_
  refine qq rfl rfl (qr_slice_hE (rows' := (h.evs.take 80).map evR) rfl rfl (Nat.min_le_left _ _) (own_take18 h.evs)) ?_
  refine aops_e rfl (oe_call rfl rfl (FCall.fr2 (FCall.rowS (FCall.of_fun (cloneRowEv ((h.evs.take 80).map evR) (by rw [List.length_map, List.length_take]; omega) (one_ev _))))) rfl ?_)
  rintro _ _ ⟨_, rfl, s11, rfl, rfl⟩
  refine rn ?_
  refine aops_e rfl (oe_call rfl rfl (FCall.fr3 (FCall.rowS (FCall.of_fun (cloneRowOrdB (h.ords.map ordR) (by rw [List.length_map]; have := la.ords; omega) (one_ord _))))) rfl ?_)
  rintro _ _ ⟨_, rfl, s15, rfl, rfl⟩
  refine rn ?_
  refine aw_loop' (fun x : Nat × List (SV × H.Ord) => x.1 ≤ h.ords.length ∧ x.2.map (·.2) = h.ords.take x.1) (fun x => ⟨[(20, iv x.1), (19, iv (h.ords.map ordR).length), (1, .v (.pointer (some ⟨b1, 0, none⟩))), (2, .v (.pointer (some ⟨b2, 0, none⟩)))], .box b2 28 histZ :: .box b1 28 [strsA h.ts, strsA h.ss, strsA h.os, strsA h.ps, .v s11.v, .v s15.v, matsA h.mats, wansA h.wants] :: .row s11.v 9 56 ((h.evs.take 80).map evR) :: .row s15.v 2 101 (x.2.map ordRw ++ (h.ords.drop x.1).map ordR) :: otR 3 x.2, []⟩) (fun x => h.ords.length - x.1) (0, []) ⟨by omega, rfl⟩
    (ent_sub (.cons _ _ _ rfl (.cons _ _ _ rfl (.cons _ _ _ rfl (.cons _ _ _ rfl (.nil)))))) ?_
  rintro ⟨k, x⟩ ⟨hk, hx⟩
  simp only at hk hx
  have hxl := mid_len2 hx hk
  refine rn ?_
  refine aw_cond rfl (fun hc21 => ?_) (fun hc21 => ?_)
  · have hk2 : k < h.ords.length := by have q := of_decide_eq_true hc21; rw [List.length_map] at q; omega
    obtain ⟨e, he⟩ : ∃ e, e = h.ords[k] := ⟨_, rfl⟩
    have hd := List.drop_eq_getElem_cons hk2
    rw [← he] at hd
    have hrow : (x.map ordRw ++ (h.ords.drop k).map ordR)[k]? = some (ordR e) := mid_get hxl hd
    have hmem : e ∈ h.ords := by rw [he]; exact List.getElem_mem hk2
    have hle := la.lim.ords
    have hk3 : k < (x.map ordRw ++ (h.ords.drop k).map ordR).length := by rw [mid_len hxl hk]; exact hk2
    refine rn ?_
    refine aw_drawM 10 rfl ?_
    refine mq rfl rfl qrA ?_
    refine mq rfl rfl qrA ?_
    refine mq rfl rfl qrA ?_
    refine mq rfl rfl qrA ?_
    refine mq rfl rfl qrA ?_
    refine mq rfl rfl qrA ?_
    refine mq rfl rfl (qr_index_row rfl rfl hk3) ?_
    refine mq rfl rfl qrA ?_
    refine mq rfl rfl (qr_load_rp_one rfl hrow rfl) ?_
    refine mcall (mrow 1 3 (e.ts.map intR)) rfl rfl rfl (mk_row (FCall.of_fun (cloneRowIntB _ (by rw [List.length_map]; have := (la.ordts e hmem); omega) (one_int _)))) ?_
    refine mnil ⟨.refl _, ?_⟩
    refine rn ?_
    refine mal_row fun s32 => ?_
    refine rn2 ?_
    refine qq rfl rfl (qr_index_row rfl rfl hk3) ?_
    refine rn ?_
    refine aops_e rfl (oe_store_rp rfl rfl rfl hrow rfl (Nat.le_of_ble_eq_true rfl) ?_)
    refine rn ?_
    have hset := mid_set (f := ordRw) (g := ordR) (a := (s32, e)) (r := (ordR e).take 1 ++ [.v s32.v] ++ (ordR e).drop (1 + 1)) hxl hd rfl
    have htl : otR 3 (x ++ [(s32, e)]) = otR 3 x ++ [.row s32.v 1 3 (e.ts.map intR)] := by simp [otR]
    exact ⟨(k + 1, x ++ [(s32, e)]), ⟨by omega, mid_snoc hx hk2 he⟩, by simp only [htl]; exact ent_trans (ent_perm (perm_swap [_] _)) (by rw [← hset]; exact (ent_sub (.cons _ _ _ rfl (.cons _ _ _ rfl (.cons _ _ _ rfl (.cons _ _ _ rfl (.nil))))))), by simp only; omega⟩
  · obtain rfl : k = h.ords.length := by
      have q := of_decide_eq_false hc21
      rw [List.length_map] at q
      omega
    rw [List.take_length] at hx
    rw [List.drop_length, List.map_nil, List.append_nil]
    refine rn ?_
    exact retq (.cons _ _ _ _ (.agg _ _ _ _ _ _ _ rfl inferInstance inferInstance inferInstance rfl) .nil) (.drop [_, _] _ _) ⟨s11, s15, x, hx, rfl, rfl⟩
theorem own18 (h : Hist) (la : Big h) : ACall Tryz.prog 36 [.agg (histC h)] [] (fun r h' => h' = [] ∧ r = .agg (histC (ownX h))) :=
  (own18R h la).ventR (by
    rintro _ _ ⟨sE, sO, O, hO, rfl, rfl⟩
    exact ⟨_, _, own_freeze [] sE.v sO.v (ownX h) O 56 101 3 _ hO (by simp [ownX]) (by simp) (fun r hr => by simp [hr]), rfl, rfl⟩)
def evRz (e : Ev) : List AV := [iv e.kind, iv e.t, iv e.s, iv e.l, iv e.o, iv e.v.t, iv e.v.k, iv e.p, .v (.slice none 0 0)]
theorem one_evz (l : List Ev) : ∀ r ∈ l.map evRz, r.all AV.one = true := by
  intro r hr; obtain ⟨a, _, rfl⟩ := List.mem_map.1 hr; rfl
set_option maxHeartbeats 4000000 in
theorem small18R  : ACall Tryz.prog 86 [] [] (fun r h' => ∃ s : SV, h' = [.row s.v 9 56 ((smE 3).map evRz)] ∧ r = .agg [.list true 1 [[sv (wT 48)], [sv (wT 49)], [sv (wT 50)]], .list true 1 [[sv bsmall]], .list true 1 [[sv bxx], [sv byy]], .v (.slice none 0 0), .v s.v, .list true 2 [[iv 0, .list true 1 [[iv 1], [iv 0], [iv 2]]], [iv 1, .list true 1 [[iv 2], [iv 0]]]], .v (.slice none 0 0), .v (.slice none 0 0)]) := by
  refine acall_of_aw Tryz.func86 rfl rfl rfl ?_
  refine rn ?_
  refine aops_e rfl (oe_alloc rfl fun b0 => ?_)
  refine rn ?_
  refine qv rfl rfl (qv_buildSlice rfl rfl) ?_
  refine qv rfl rfl (qv_buildSlice rfl rfl) ?_
  refine qv rfl rfl (qv_buildSlice rfl rfl) ?_
  refine rn ?_
  refine aops_e rfl (oe_alloc rfl fun b1 => ?_)
  refine rn ?_
  refine aw_rng1 3 (fun k s => ⟨[(7, iv k), (0, .v (.pointer (some ⟨b0, 0, none⟩))), (1, .v (.pointer (some ⟨b1, 0, none⟩)))], .row s.v 9 56 ((smE k).map evRz) :: .box b1 28 [.list true 1 [[sv (wT 48)], [sv (wT 49)], [sv (wT 50)]], .list true 1 [[sv bsmall]], .list true 1 [[sv bxx], [sv byy]], .v (.slice none 0 0), .v s.v, .v (.slice none 0 0), .v (.slice none 0 0), .v (.slice none 0 0)] :: .box b0 28 histZ :: [], []⟩) ⟨none, 0, 0⟩ (ent_trans (ent_nilrow 9 56) es) ?_
  intro k s lk
  refine rn ?_
  refine aw_cond rfl (fun hc8 => ?_) (fun hc8 => ?_)
  · have hk : k < 3 := by have q := of_decide_eq_true hc8; omega
    have hb := smE_len k
    refine aw_skip ?_
    refine thn_n ?_
    refine aw_seq ?_
    refine aw_block ?_
    refine aw_seq (aw_region ?_)
    refine q1 ?_
    refine q1 ?_
    refine aops_nil (thn_n ?_)
    refine aw_seq (aw_region ?_)
    refine q1 ?_
    refine q1 ?_
    refine q1 ?_
    refine qq rfl rfl (qr_build (out := evRz (evBg k)) rfl (by rfl)) ?_
    refine q1 ?_
    refine q1 ?_
    refine qq rfl rfl (qr_build (out := [iv k, iv 1]) rfl (by rfl)) ?_
    refine qq rfl rfl (qr_build (out := evRz (evWr k 0)) rfl (by rfl)) ?_
    refine qv rfl rfl (qv_buildSlice rfl rfl) ?_
    refine aops_e rfl (oe_append_row rfl rfl (by simp only [List.length_map, List.length_append, List.length_cons, List.length_nil]; omega) rfl (fun s19 => ?_) (one_evz [evBg k, evWr k 0]))
    refine aops_slice s19 fun sw hsw => ?_
    subst hsw
    refine rn ?_
    refine aw_cond rfl (fun hc22 => ?_) (fun hc22 => ?_)
    · have hk1 : k ≠ 1 := by have q := hc22; simp at q; omega
      refine aw_region ?_
      refine q1 ?_
      refine q1 ?_
      refine q1 ?_
      refine q1 ?_
      refine qq rfl rfl (qr_build (out := [iv k, iv 1]) rfl (by rfl)) ?_
      refine qq rfl rfl (qr_build (out := evRz (evWr k 1)) rfl (by rfl)) ?_
      refine qv rfl rfl (qv_buildSlice rfl rfl) ?_
      refine aops_e rfl (oe_append_row rfl rfl (by simp only [List.length_map, List.length_append, List.length_cons, List.length_nil]; omega) rfl (fun s30 => ?_) (one_evz [evWr k 1]))
      refine aops_slice s30 fun sw hsw => ?_
      subst hsw
      refine q1 ?_
      first | refine aops_e rfl (oe_store_all rfl rfl rfl ?_) | refine aops_e rfl (oe_store rfl rfl rfl rfl (Nat.le_of_ble_eq_true rfl) ?_)
      refine aops_nil (thn_n ?_)
      refine aw_region ?_
      refine q1 ?_
      refine q1 ?_
      refine q1 ?_
      refine qq rfl rfl (qr_build (out := evRz (evCm k)) rfl (by rfl)) ?_
      refine qv rfl rfl (qv_buildSlice rfl rfl) ?_
      refine aops_e rfl (oe_append_row rfl rfl (by simp only [List.length_map, List.length_append, List.length_cons, List.length_nil]; omega) rfl (fun s37 => ?_) (one_evz [evCm k]))
      refine aops_slice s37 fun sw hsw => ?_
      subst hsw
      refine rn ?_
      first | exact ⟨hk, sw, by rw [smE_n hk1, List.map_append, List.map_append, List.map_append]; exact eA⟩ | exact ⟨hk, sw, by rw [smE_1 hk1, List.map_append, List.map_append]; exact eA⟩
    · have hk1 : k = 1 := by have q := hc22; simp at q; omega
      refine aw_skip ?_
      refine thn_n ?_
      refine aw_region ?_
      refine q1 ?_
      refine q1 ?_
      refine q1 ?_
      refine qq rfl rfl (qr_build (out := evRz (evCm k)) rfl (by rfl)) ?_
      refine qv rfl rfl (qv_buildSlice rfl rfl) ?_
      refine aops_e rfl (oe_append_row rfl rfl (by simp only [List.length_map, List.length_append, List.length_cons, List.length_nil]; omega) rfl (fun s37 => ?_) (one_evz [evCm k]))
      refine aops_slice s37 fun sw hsw => ?_
      subst hsw
      refine rn ?_
      first | exact ⟨hk, sw, by rw [smE_n hk1, List.map_append, List.map_append, List.map_append]; exact eA⟩ | exact ⟨hk, sw, by rw [smE_1 hk1, List.map_append, List.map_append]; exact eA⟩
  · have qk : k = 3 := by have q := of_decide_eq_false hc8; omega
    refine rn ?_
    refine qv rfl rfl (qv_buildSlice rfl rfl) ?_
    refine rn ?_
    refine qv rfl rfl (qv_buildSlice rfl rfl) ?_
    refine rn ?_
    refine qv rfl rfl (qv_buildSlice rfl rfl) ?_
    refine rn ?_
    exact retq (.cons _ _ _ _ (.agg _ _ _ _ _ _ _ rfl inferInstance inferInstance inferInstance rfl) .nil) (.trans (.perm ((pt1 _ _ _).trans (.cons _ (pt1 _ _ _))) _) (.drop [_, _] _ _)) ⟨s, by rw [qk], rfl⟩
theorem small18 : ACall Tryz.prog 86 [] [] (fun r h' => h' = [] ∧ r = .agg (histC wwH)) :=
  small18R.ventR (by
    rintro _ _ ⟨s, rfl, rfl⟩
    exact ⟨_, _, .trans (vent_freeze_cell [.list true 1 [[sv (wT 48)], [sv (wT 49)], [sv (wT 50)]], .list true 1 [[sv bsmall]], .list true 1 [[sv bxx], [sv byy]], .v (.slice none 0 0)] [.list true 2 [[iv 0, .list true 1 [[iv 1], [iv 0], [iv 2]]], [iv 1, .list true 1 [[iv 2], [iv 0]]]], .v (.slice none 0 0), .v (.slice none 0 0)]) (.le (Sb.aggs (bs := histC wwH) (by exact ⟨.unfull, .unfull, .unfull, .nil _ _, (.lists (by simp) ⟨⟨.refl _, .refl _, .refl _, .refl _, .refl _, .refl _, .refl _, .refl _, .nil _ _, trivial⟩, ⟨.refl _, .refl _, .refl _, .refl _, .refl _, .refl _, .refl _, .refl _, .nil _ _, trivial⟩, ⟨.refl _, .refl _, .refl _, .refl _, .refl _, .refl _, .refl _, .refl _, .nil _ _, trivial⟩, ⟨.refl _, .refl _, .refl _, .refl _, .refl _, .refl _, .refl _, .refl _, .nil _ _, trivial⟩, ⟨.refl _, .refl _, .refl _, .refl _, .refl _, .refl _, .refl _, .refl _, .nil _ _, trivial⟩, ⟨.refl _, .refl _, .refl _, .refl _, .refl _, .refl _, .refl _, .refl _, .nil _ _, trivial⟩, ⟨.refl _, .refl _, .refl _, .refl _, .refl _, .refl _, .refl _, .refl _, .nil _ _, trivial⟩, ⟨.refl _, .refl _, .refl _, .refl _, .refl _, .refl _, .refl _, .refl _, .nil _ _, trivial⟩, ⟨.refl _, .refl _, .refl _, .refl _, .refl _, .refl _, .refl _, .refl _, .nil _ _, trivial⟩, ⟨.refl _, .refl _, .refl _, .refl _, .refl _, .refl _, .refl _, .refl _, .nil _ _, trivial⟩, ⟨.refl _, .refl _, .refl _, .refl _, .refl _, .refl _, .refl _, .refl _, .nil _ _, trivial⟩, trivial⟩), (.lists (by simp) ⟨⟨.refl _, .unfull, trivial⟩, ⟨.refl _, .unfull, trivial⟩, trivial⟩), .nil _ _, .nil _ _, trivial⟩)).le), rfl, rfl⟩)
theorem limW : Lim 4611686018427387904 wwH := ⟨by decide, by decide, by decide, by decide, by decide, by decide, by decide, by decide, by decide, by decide, by decide⟩
theorem ww20 : chC wwH 2 0 = 0 ∧ chO wwH 2 0 = [1] := by
  obtain ⟨a, b⟩ := chC_0 (h := wwH) (f := 2) (t := 0) ww_check (by decide) (by rw [ww_ch20]; decide)
  exact ⟨a, by rw [b, ww_ch20]⟩
theorem ww21 : chC wwH 2 1 = 4 ∧ chO wwH 2 1 = [] := chC_4 ww_check (by decide) (by rw [ww_ch21]; rfl)
theorem wA1 : ACall Tryz.prog 38 [.agg (histC wwH)] (.glob 0 186 limitsC :: .glob 2 287 firstC :: .glob 3 290 acceptC :: .glob 1 250 asksC :: []) (fun r h' => h' = .glob 0 186 limitsC :: .glob 2 287 firstC :: .glob 3 290 acceptC :: .glob 1 250 asksC :: [] ∧ r = .tup [confsA [⟨0, 2, 0, 1, 8, 0, 0⟩, ⟨1, 0, 0, 5, 1, 0, 0⟩, ⟨2, 0, 0, 9, 2, 1, 0⟩], iv 0]) := (wwAllA wwH limW).mono fun _ _ q => ⟨q.1, by rw [q.2, wwA_y ww_check, ww_allS, ww_check]⟩
theorem wA2 : ACall Tryz.prog 44 [.agg (histC wwH), iv 2, iv 0] (.glob 0 186 limitsC :: .glob 2 287 firstC :: .glob 3 290 acceptC :: .glob 1 250 asksC :: []) (fun r h' => h' = .glob 0 186 limitsC :: .glob 2 287 firstC :: .glob 3 290 acceptC :: .glob 1 250 asksC :: [] ∧ r = .tup [intsA [1], iv 0]) := (wwChainA wwH limW 2 0).mono fun _ _ q => ⟨q.1, by rw [q.2, ww20.1, ww20.2]⟩
theorem wA3 : ACall Tryz.prog 44 [.agg (histC wwH), iv 2, iv 1] (.glob 0 186 limitsC :: .glob 2 287 firstC :: .glob 3 290 acceptC :: .glob 1 250 asksC :: []) (fun r h' => h' = .glob 0 186 limitsC :: .glob 2 287 firstC :: .glob 3 290 acceptC :: .glob 1 250 asksC :: [] ∧ r = .tup [intsA [], iv 4]) := (wwChainA wwH limW 2 1).mono fun _ _ q => ⟨q.1, by rw [q.2, ww21.1, ww21.2]⟩
theorem equalLit18 {g : Bool} : ACall Tryz.prog 22 [intsA [1], .list g 1 [[iv 1]]] [] (fun r h' => h' = [] ∧ r = bv true) := (equalInt [1] [1] (by decide) (by decide)).mono fun _ _ q => ⟨q.1, by rw [q.2, eqF_eq intEq_eq]; simp⟩
set_option maxHeartbeats 4000000 in
theorem wakes18  : ACall Tryz.prog 33 [] (.glob 0 186 limitsC :: .glob 2 287 firstC :: .glob 3 290 acceptC :: .glob 1 250 asksC :: []) (fun r h' => h' = .glob 0 186 limitsC :: .glob 2 287 firstC :: .glob 3 290 acceptC :: .glob 1 250 asksC :: [] ∧ r = bv true) := by
  refine acall_of_aw Tryz.func33 rfl rfl rfl ?_
  refine rn ?_
  refine qv rfl rfl (qv_call rfl rfl (FCall.pure (R := fun r => r = .agg (histC wwH)) (FCall.of_fun small18))) ?_
  refine qv rfl rfl (qv_call rfl rfl (FCall.of_fun wA1)) ?_
  refine rn ?_
  refine qv rfl rfl (qv_call rfl rfl (FCall.pure (R := fun r => r = .agg (histC wwH)) (FCall.of_fun small18))) ?_
  refine qv rfl rfl (qv_call rfl rfl (FCall.of_fun wA2)) ?_
  refine rn ?_
  refine qv rfl rfl (qv_call rfl rfl (FCall.pure (R := fun r => r = .agg (histC wwH)) (FCall.of_fun small18))) ?_
  refine qv rfl rfl (qv_call rfl rfl (FCall.of_fun wA3)) ?_
  refine rn ?_
  refine qv rfl rfl (qv_buildSlice rfl rfl) ?_
  refine qv rfl rfl (qv_call rfl rfl (FCall.pure (R := fun r => r = bv true) (FCall.of_fun (equalLit18)))) ?_
  refine q1 ?_
  refine q1 ?_
  refine q1 ?_
  refine q1 ?_
  refine q1 ?_
  refine q1 ?_
  refine q1 ?_
  refine q1 ?_
  refine qq rfl rfl (qr_index_int rfl rfl (by decide) rfl) ?_
  refine q1 ?_
  refine q1 ?_
  refine q1 ?_
  refine q1 ?_
  refine q1 ?_
  refine q1 ?_
  refine qq rfl rfl (qr_index_int rfl rfl (by decide) rfl) ?_
  refine q1 ?_
  refine q1 ?_
  refine q1 ?_
  refine q1 ?_
  refine q1 ?_
  refine q1 ?_
  refine qq rfl rfl (qr_index_int rfl rfl (by decide) rfl) ?_
  refine rn ?_
  refine rq 0 ?_
  exact ⟨rfl, rfl⟩
end Go.Proofs
/- The walks of cmp.Less, slices.IsSorted, IsSortedFunc. Conditions: none. -/
set_option linter.unusedVariables false
set_option linter.unusedSimpArgs false
set_option maxRecDepth 10000
namespace Go.Proofs
open Go Go.Ab
attribute [local irreducible] QR QV OE aops aw dsoup dsoupM dalloc dallocM thn inBlk jsoup jch lsoup
open Go.H
theorem cmpLess18 (a b : Int) : ACall Tryz.prog 106 [iv a, iv b] [] (fun r h' => h' = [] ∧ r = bv (decide (a < b))) := by
  refine acall_of_aw Tryz.func106 rfl rfl rfl ?_
  refine rn ?_
  refine qv rfl rfl (qv_call rfl rfl (pcall (isNaN _) (Sbs.refl _))) ?_
  refine rn ?_
  refine rq 0 ?_
  exact ⟨rfl, rfl⟩
theorem pw_at {α : Type} {R : α → α → Prop} {l : List α} (h : l.Pairwise R) {k : Nat} (hk : k + 1 < l.length) : R (l[k]'(by omega)) l[k + 1] := (List.pairwise_iff_getElem.1 h) k (k + 1) (by omega) hk (by omega)
set_option maxHeartbeats 4000000 in
theorem isSortedI {f : Bool} (l : List Int) (hl : l.length ≤ 4611686018427387904) (hs : l.Pairwise (· ≤ ·)) : ACall Tryz.prog 49 [.list f 1 (l.map intR)] [] (fun r h' => h' = [] ∧ r = bv true) := by
  refine acall_of_aw Tryz.func49 rfl rfl rfl ?_
  refine aw_seq (aw_region ?_)
  refine q1 ?_
  refine aops_nil (thn_n ?_)
  refine aw_seq ?_
  refine aw_seq (aw_region ?_)
  refine q1 ?_
  refine q1 ?_
  refine qq rfl rfl (qr_ari rfl rfl rfl (by rw [List.length_map]; omega)) ?_
  refine rn ?_
  refine aw_while (fun k : Nat => k ≤ l.length) (fun k => ⟨[(3, iv ((k : Int) - 1)), (0, .list f 1 (l.map intR))], [], []⟩) (fun k => k) l.length (Nat.le_refl _) (by rw [List.length_map]; exact es) ?_
  rintro k lk
  refine rn ?_
  refine aw_cond rfl (fun hc8 => ?_) (fun hc8 => ?_)
  · have h2 : 2 ≤ k := by have q := of_decide_eq_true hc8; omega
    obtain ⟨j, rfl⟩ : ∃ j, k = j + 2 := ⟨k - 2, by omega⟩
    have hj : j + 1 < l.length := by omega
    have r1 : (l.map intR)[((((j + 2 : Nat) : Int) - 1)).toNat]? = some (intR l[j + 1]) := by rw [show ((((j + 2 : Nat) : Int) - 1)).toNat = j + 1 by omega]; exact atRow hj
    have r0 : (l.map intR)[((((j + 2 : Nat) : Int) - 1 - 1)).toNat]? = some (intR (l[j]'(by omega))) := by rw [show ((((j + 2 : Nat) : Int) - 1 - 1)).toNat = j by omega]; exact atRow (by omega)
    have hle := pw_at hs hj
    refine rn ?_
    refine aw_draw 9 rfl ?_
    refine dq rfl rfl qrA ?_
    refine dq rfl rfl qrA ?_
    refine dq rfl rfl (qr_index_int rfl rfl (by omega) r1) ?_
    refine dq rfl rfl qrA ?_
    refine dq rfl rfl qrA ?_
    refine dq rfl rfl qrA ?_
    refine dq rfl rfl (qr_ari rfl rfl rfl (by omega)) ?_
    refine dq rfl rfl (qr_index_int rfl rfl (by omega) r0) ?_
    refine rn ?_
    refine qv rfl rfl (qv_call rfl rfl (pcall (cmpLess18 l[j + 1] (l[j]'(by omega))) (Sbs.refl _))) ?_
    refine rn ?_
    refine aw_cond rfl (fun hc20 => ?_) (fun hc20 => ?_)
    · exfalso
      have q := of_decide_eq_true hc20
      omega
    · refine aw_skip ?_
      refine inBlk_n ?_
      refine thn_n ?_
      refine aw_region ?_
      refine q1 ?_
      refine qq rfl rfl (qr_ari rfl rfl rfl (by omega)) ?_
      refine rn ?_
      exact ⟨j + 1, by omega, by rw [show (((j + 2 : Nat) : Int) - 1 - 1) = ((j + 1 : Nat) : Int) - 1 by omega]; exact eA, by omega⟩
  · refine rn ?_
    refine rq 0 ?_
    exact ⟨rfl, rfl⟩
end Go.Proofs
/- The walk of WwChains. Conditions: none. -/
set_option linter.unusedVariables false
set_option linter.unusedSimpArgs false
set_option maxRecDepth 10000
namespace Go.Proofs
open Go Go.Ab
attribute [local irreducible] QR QV OE aops aw dsoup dsoupM dalloc dallocM thn inBlk jsoup jch lsoup
open Go.H
theorem chC_inv {h : Hist} {f t : Int} (he : chC h f t = 0) : checkI h = 0 ∧ chO h f t = chainP h f t ∧ (chainP h f t).length ≠ 0 := by
  have ho : chO h f t = chainP h f t := by rw [chO, if_pos he]
  rw [chC] at he
  split at he
  · rename_i hc
    split at he
    · split at he
      · cases he
      · exact ⟨hc, ho, ‹_›⟩
    · cases he
  · exact absurd he ‹_›
theorem chO_n {h : Hist} {f t : Int} (he : chC h f t ≠ 0) : chO h f t = [] := by rw [chO, if_neg he]
theorem chainP_le {h : Hist} (hc : checkI h = 0) (f t : Int) : (chainP h f t).length ≤ 3000 := Nat.le_trans (chK_len h f t _) (chk_lim hc).os
theorem chain_nz {h : Hist} {f t : Int} (hz : (chainP h f t).length ≠ 0) : f ≠ t := by
  obtain ⟨x, hx⟩ := List.exists_mem_of_length_pos (Nat.pos_of_ne_zero hz)
  exact ahead_ne (chain_mem.1 hx).2
theorem chain_no {h : Hist} {f t : Int} {m : Nat} (hm : m < (chainP h t f).length) : (chainP h f t).contains (chainP h t f)[m] = false := by
  have h1 := chain_mem.1 (List.getElem_mem hm)
  have h2 := ahead_no h1.2
  cases hq : (chainP h f t).contains (chainP h t f)[m] with
  | false => rfl
  | true =>
    have h3 := (chain_mem.1 (List.contains_iff_mem.1 hq)).2
    rw [h2] at h3; cases h3
theorem ins_nodup {h : Hist} (hc : checkI h = 0) {x : Int} (h0 : 0 ≤ x) (h1 : x < h.os.length) : (insP h x).Nodup := (ins_writers (checkI_0.1 hc) h0 h1).1
set_option maxHeartbeats 4000000 in
theorem wwChains (x : Hist) (f t : Int) (lb : Big x)  : ACall Tryz.prog 11 [.agg (histC x), iv f, iv t] (.glob 0 186 limitsC :: .glob 2 287 firstC :: .glob 3 290 acceptC :: .glob 1 250 asksC :: []) (fun r h' => h' = .glob 0 186 limitsC :: .glob 2 287 firstC :: .glob 3 290 acceptC :: .glob 1 250 asksC :: [] ∧ r = bv true) := by
  refine acall_of_aw Tryz.func11 rfl rfl rfl ?_
  refine rn ?_
  refine aops_e rfl (oe_box rfl rfl rfl fun b3 => ?_)
  refine rn ?_
  refine qv rfl rfl (qv_call rfl rfl (FCall.qt (FCall.of_fun wakes18) ((pt1 _ _ _).trans (.cons _ ((pt1 _ _ _).trans (.cons _ ((pt1 _ _ _).trans (.cons _ (pt1 _ _ _))))))))) ?_
  refine rn ?_
  refine aw_cond rfl (fun hc22 => ?_) (fun hc22 => ?_)
  · exact absurd hc22 (by decide)
  · refine rn ?_
    refine qv rfl rfl (qv_call rfl rfl (pcall (own18 x lb) (Sbs.refl _))) ?_
    refine aops_e rfl (oe_alloc rfl fun b7 => ?_)
    refine rn ?_
    refine qv rfl rfl (qv_call rfl rfl (FCall.qt (FCall.of_fun (wwChainA (ownX x) (ownX_lim lb.lim) f t)) ((pt2 _ _ _ _).trans (.cons _ ((pt2 _ _ _ _).trans (.cons _ ((pt2 _ _ _ _).trans (.cons _ (pt2 _ _ _ _))))))))) ?_
    refine rn ?_
    refine aw_cond rfl (fun hc33 => ?_) (fun hc33 => ?_)
    · have hz := chO_n (nzT hc33)
      refine rn ?_
      first | (refine rq 2 ?_; exact ⟨rfl, rfl⟩) | (refine rq 2 ?_; exact ⟨rfl, congrArg bv (by rw [hz]; rfl)⟩)
    · obtain ⟨hc, hO, hlen⟩ := chC_inv (nzF hc33)
      have hft := chain_nz hlen
      have hC0 := chainP_le hc f t
      rw [hO]
      refine rn ?_
      refine aw_rng ((chainP (ownX x) f t).length) (fun j : Nat => True) (fun j => [(39, iv j)]) [(1, _), (2, _), (7, _), (8, _), (37, _), (38, _)] trivial ?_
      intro j lj _
      refine rn ?_
      refine aw_cond rfl (fun hc40 => ?_) (fun hc40 => ?_)
      · have hj := ltMap hc40
        have rj := atRow (f := intR) hj
        have hm := chain_mem.1 (List.getElem_mem hj)
        obtain ⟨p, q, hp, hq, hpq, ep, eq⟩ := ahead_get hm.2
        have hnd := ins_nodup hc hm.1.1 hm.1.2
        have hle := ins_le hc hm.1.1 hm.1.2
        have he := ask_y (n := (chainP (ownX x) f t)[j]) hc hm.1
        have hWl : (wwP (ownX x) (chainP (ownX x) f t)[j]).length = (insP (ownX x) (chainP (ownX x) f t)[j]).length - 1 := wwL_len _ _ _
        have hC := chainP_le hc f t
        refine rn ?_
        refine qv rfl rfl (qv_call rfl rfl (FCall.qt (FCall.of_fun (wwOfA (ownX x) (ownX_lim lb.lim) (chainP (ownX x) f t)[j])) ((pt2 _ _ _ _).trans (.cons _ ((pt2 _ _ _ _).trans (.cons _ ((pt2 _ _ _ _).trans (.cons _ (pt2 _ _ _ _))))))))) ?_
        rw [wwO_y he, he]
        refine rn ?_
        refine aw_rngS (wwP (ownX x) (chainP (ownX x) f t)[j]).length (fun k v => v = walkC (insP (ownX x) (chainP (ownX x) f t)[j]) p q k) (fun k v => [(52, iv k), (14, iv v)]) [(1, iv f), (2, iv t), (7, .v (.pointer (some ⟨b7, 0, none⟩))), (8, intsA (chainP (ownX x) f t)), (13, iv 0), (37, intsA (chainP (ownX x) f t)), (38, iv ((chainP (ownX x) f t).map intR).length), (39, iv j), (50, confsA (wwP (ownX x) (chainP (ownX x) f t)[j])), (51, iv ((wwP (ownX x) (chainP (ownX x) f t)[j]).map confR).length)] f (by rw [walk_0 hp, ep]) ?_
        intro k v lk hv
        refine rn ?_
        refine aw_cond rfl (fun hc53 => ?_) (fun hc53 => ?_)
        · have hk := ltMap hc53
          have rk := atRow (f := confR) hk
          have hk1 : k + 1 < (insP (ownX x) (chainP (ownX x) f t)[j]).length := by omega
          have hcf : (wwP (ownX x) (chainP (ownX x) f t)[j])[k].f = (insP (ownX x) (chainP (ownX x) f t)[j])[k]'(by omega) := by rw [show (wwP (ownX x) (chainP (ownX x) f t)[j])[k] = _ from wwL_at hk1]; rfl
          have hct : (wwP (ownX x) (chainP (ownX x) f t)[j])[k].t = (insP (ownX x) (chainP (ownX x) f t)[j])[k + 1] := by rw [show (wwP (ownX x) (chainP (ownX x) f t)[j])[k] = _ from wwL_at hk1]; rfl
          refine rn ?_
          refine aops_e rfl (oe_alloc rfl fun b16 => ?_)
          refine rn ?_
          refine asplit (fun hg15_4 => ?_) (fun hg15_4 => ?_)
          · refine rn ?_
            refine aw_cond rfl (fun hc64 => ?_) (fun hc64 => ?_)
            · have hy : walkC (insP (ownX x) (chainP (ownX x) f t)[j]) p q (k + 1) = (insP (ownX x) (chainP (ownX x) f t)[j])[k + 1] := walk_y hnd hq hpq hk1 (by rw [← hcf, ← hv]; exact eq_of_beq hg15_4) (by rw [← hv, eq]; simpa using hc64)
              refine rn ?_
              exact ⟨hk, (wwP (ownX x) (chainP (ownX x) f t)[j])[k].t, by rw [hct, hy], eA⟩
            · have hy : walkC (insP (ownX x) (chainP (ownX x) f t)[j]) p q (k + 1) = walkC (insP (ownX x) (chainP (ownX x) f t)[j]) p q k := walk_n hq hpq hk1 (by first | (refine .inl ?_; rw [← hcf, ← hv]; simpa using hg15_4) | (refine .inr ?_; rw [← hv, eq]; simpa using hc64)) hnd
              refine rn ?_
              exact ⟨hk, v, by rw [hy, hv], eA⟩
          · refine rn ?_
            refine aw_cond rfl (fun hc64 => ?_) (fun hc64 => ?_)
            · first | cases hc64 | exact absurd hc64 (by decide) | (exfalso; simp_all; done)
            · have hy : walkC (insP (ownX x) (chainP (ownX x) f t)[j]) p q (k + 1) = walkC (insP (ownX x) (chainP (ownX x) f t)[j]) p q k := walk_n hq hpq hk1 (by first | (refine .inl ?_; rw [← hcf, ← hv]; simpa using hg15_4) | (refine .inr ?_; rw [← hv, eq]; simpa using hc64)) hnd
              refine rn ?_
              exact ⟨hk, v, by rw [hy, hv], eA⟩
        · have qk := geMap hc53 lk
          have hvt : v = t := by rw [hv, qk, hWl, walk_end hq hpq, eq]
          refine aw_exit ?_
          refine thn_e ?_
          refine thn_e ?_
          refine inBlk_hit ?_
          refine thn_n ?_
          refine aw_seq (aw_region ?_)
          refine q1 ?_
          refine qq rfl rfl (qr_cmp (c := false) rfl rfl (congrArg some (rfl))) ?_
          refine q1 ?_
          refine q1 ?_
          refine q1 ?_
          refine qq rfl rfl (qr_cmp (c := false) rfl rfl (congrArg some (by rw [hvt]; exact bne_self_eq_false _))) ?_
          refine rn ?_
          refine aw_cond rfl (fun hc74 => ?_) (fun hc74 => ?_)
          · first | cases hc74 | exact absurd hc74 (by decide) | (exfalso; simp_all; done)
          · refine rn ?_
            exact ⟨hj, trivial, eA⟩
      · have qj := geMap hc40 lj
        refine rn ?_
        refine qv rfl rfl (qv_call rfl rfl (FCall.qt (FCall.of_fun (wwChainA (ownX x) (ownX_lim lb.lim) t f)) ((pt2 _ _ _ _).trans (.cons _ ((pt2 _ _ _ _).trans (.cons _ ((pt2 _ _ _ _).trans (.cons _ (pt2 _ _ _ _))))))))) ?_
        refine rn ?_
        refine aw_cond rfl (fun hc84 => ?_) (fun hc84 => ?_)
        · obtain ⟨_, hO2, _⟩ := chC_inv (eq_of_beq hc84)
          rw [hO2]
          have hB := chainP_le hc t f
          refine rn ?_
          refine aw_rng ((chainP (ownX x) t f).length) (fun m : Nat => True) (fun m => [(87, iv m)]) [(1, _), (2, _), (8, _), (85, _), (86, _)] trivial ?_
          intro m lm _
          refine rn ?_
          refine aw_cond rfl (fun hc88 => ?_) (fun hc88 => ?_)
          · have hm := ltMap hc88
            have rm := atRow (f := intR) hm
            refine rn ?_
            refine qv rfl rfl (qv_call rfl rfl (pcall (containsI (chainP (ownX x) f t) (chainP (ownX x) t f)[m] (Nat.le_trans hC0 (by decide))) (Sbs.refl _))) ?_
            refine rn ?_
            refine aw_cond rfl (fun hc93 => ?_) (fun hc93 => ?_)
            · exact absurd hc93 (by rw [chain_no hm]; decide)
            · refine rn ?_
              exact ⟨hm, trivial, eA⟩
          · have qm := geMap hc88 lm
            refine aw_exit ?_
            refine thn_e ?_
            refine thn_e ?_
            refine inBlk_hit ?_
            refine thn_n ?_
            refine aw_seq (aw_region ?_)
            refine q1 ?_
            refine q1 ?_
            refine qq rfl rfl (qr_cmp (c := true) rfl rfl (congrArg some (by simpa using hft))) ?_
            refine rn ?_
            refine qv rfl rfl (qv_call rfl rfl (pcall (isSortedI (chainP (ownX x) f t) (Nat.le_trans hC0 (by decide)) (chain_srt (ownX x) f t)) (Sbs.refl _))) ?_
            refine rn ?_
            first | (refine rq 2 ?_; exact ⟨rfl, rfl⟩) | (refine rq 2 ?_; exact ⟨rfl, congrArg bv (by rw [hz]; rfl)⟩)
        · refine aw_skip ?_
          refine thn_n ?_
          refine aw_seq (aw_region ?_)
          refine q1 ?_
          refine q1 ?_
          refine qq rfl rfl (qr_cmp (c := true) rfl rfl (congrArg some (by simpa using hft))) ?_
          refine rn ?_
          refine qv rfl rfl (qv_call rfl rfl (pcall (isSortedI (chainP (ownX x) f t) (Nat.le_trans hC0 (by decide)) (chain_srt (ownX x) f t)) (Sbs.refl _))) ?_
          refine rn ?_
          first | (refine rq 2 ?_; exact ⟨rfl, rfl⟩) | (refine rq 2 ?_; exact ⟨rfl, congrArg bv (by rw [hz]; rfl)⟩)
end Go.Proofs
