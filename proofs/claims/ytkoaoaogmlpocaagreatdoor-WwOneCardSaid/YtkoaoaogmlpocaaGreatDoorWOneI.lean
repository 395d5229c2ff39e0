/- The walks of law 18's own, small, wakes. Conditions: none. -/
import Derived.Test.YtkoaoaogmlpocaaGreatDoorWOneH
set_option linter.unusedSectionVars false
set_option linter.unusedSimpArgs false
set_option linter.unusedVariables false
set_option linter.unusedVariables false
set_option linter.unusedSimpArgs false
set_option maxRecDepth 10000
namespace Go.Proofs
open Go Go.Ab
attribute [local irreducible] QR QV OE aops aw dsoup dsoupM dalloc dallocM thn inBlk jsoup jch lsoup
open Go.H
def evRz (e : Ev) : List AV := [iv e.kind, iv e.t, iv e.s, iv e.l, iv e.o, iv e.v.t, iv e.v.k, iv e.p, .v (.slice none 0 0)]
theorem one_evz (l : List Ev) : ∀ r ∈ l.map evRz, r.all AV.one = true := by
  intro r hr; obtain ⟨a, _, rfl⟩ := List.mem_map.1 hr; rfl
set_option maxHeartbeats 4000000 in
theorem small18R  : ACall Tryz.prog 86 [] [] (fun r h' => ∃ s : SV, h' = [.row s.v 9 56 ((smE 3).map evRz)] ∧ r = .agg [.list true 1 [[sv (wT 48)], [sv (wT 49)], [sv (wT 50)]], .list true 1 [[sv bsmall]], .list true 1 [[sv bxx], [sv byy]], .v (.slice none 0 0), .v s.v, .list true 2 [[iv 0, .list true 1 [[iv 1], [iv 0], [iv 2]]], [iv 1, .list true 1 [[iv 2], [iv 0]]]], .v (.slice none 0 0), .v (.slice none 0 0)]) := by
  refine acall_of_aw Tryz.func86 rfl rfl rfl ?_
  refine rn ?_
  refine aops_e rfl (oe_alloc rfl fun b0 => ?_)
  refine rn ?_
  refine qv rfl rfl (qv_buildSlice rfl rfl) ?_
  refine qv rfl rfl (qv_buildSlice rfl rfl) ?_
  refine qv rfl rfl (qv_buildSlice rfl rfl) ?_
  refine rn ?_
  refine aops_e rfl (oe_alloc rfl fun b1 => ?_)
  refine rn ?_
  refine aw_rng1 3 (fun k s => ⟨[(7, iv k), (0, .v (.pointer (some ⟨b0, 0, none⟩))), (1, .v (.pointer (some ⟨b1, 0, none⟩)))], .row s.v 9 56 ((smE k).map evRz) :: .box b1 28 [.list true 1 [[sv (wT 48)], [sv (wT 49)], [sv (wT 50)]], .list true 1 [[sv bsmall]], .list true 1 [[sv bxx], [sv byy]], .v (.slice none 0 0), .v s.v, .v (.slice none 0 0), .v (.slice none 0 0), .v (.slice none 0 0)] :: .box b0 28 histZ :: [], []⟩) ⟨none, 0, 0⟩ (ent_trans (ent_nilrow 9 56) es) ?_
  intro k s lk
  refine rn ?_
  refine aw_cond rfl (fun hc8 => ?_) (fun hc8 => ?_)
  · have hk : k < 3 := by have q := of_decide_eq_true hc8; omega
    have hb := smE_len k
    refine aw_skip ?_
    refine thn_n ?_
    refine aw_seq ?_
    refine aw_block ?_
    refine aw_seq (aw_region ?_)
    refine q1 ?_
    refine q1 ?_
    refine aops_nil (thn_n ?_)
    refine aw_seq (aw_region ?_)
    refine q1 ?_
    refine q1 ?_
    refine q1 ?_
    refine qq rfl rfl (qr_build (out := evRz (evBg k)) rfl (by rfl)) ?_
    refine q1 ?_
    refine q1 ?_
    refine qq rfl rfl (qr_build (out := [iv k, iv 1]) rfl (by rfl)) ?_
    refine qq rfl rfl (qr_build (out := evRz (evWr k 0)) rfl (by rfl)) ?_
    refine qv rfl rfl (qv_buildSlice rfl rfl) ?_
    refine aops_e rfl (oe_append_row rfl rfl (by simp only [List.length_map, List.length_append, List.length_cons, List.length_nil]; omega) rfl (fun s19 => ?_) (one_evz [evBg k, evWr k 0]))
    refine aops_slice s19 fun sw hsw => ?_
    subst hsw
    refine rn ?_
    refine aw_cond rfl (fun hc22 => ?_) (fun hc22 => ?_)
    · have hk1 : k ≠ 1 := by have q := hc22; simp at q; omega
      refine aw_region ?_
      refine q1 ?_
      refine q1 ?_
      refine q1 ?_
      refine q1 ?_
      refine qq rfl rfl (qr_build (out := [iv k, iv 1]) rfl (by rfl)) ?_
      refine qq rfl rfl (qr_build (out := evRz (evWr k 1)) rfl (by rfl)) ?_
      refine qv rfl rfl (qv_buildSlice rfl rfl) ?_
      refine aops_e rfl (oe_append_row rfl rfl (by simp only [List.length_map, List.length_append, List.length_cons, List.length_nil]; omega) rfl (fun s30 => ?_) (one_evz [evWr k 1]))
      refine aops_slice s30 fun sw hsw => ?_
      subst hsw
      refine q1 ?_
      first | refine aops_e rfl (oe_store_all rfl rfl rfl ?_) | refine aops_e rfl (oe_store rfl rfl rfl rfl (Nat.le_of_ble_eq_true rfl) ?_)
      refine aops_nil (thn_n ?_)
      refine aw_region ?_
      refine q1 ?_
      refine q1 ?_
      refine q1 ?_
      refine qq rfl rfl (qr_build (out := evRz (evCm k)) rfl (by rfl)) ?_
      refine qv rfl rfl (qv_buildSlice rfl rfl) ?_
      refine aops_e rfl (oe_append_row rfl rfl (by simp only [List.length_map, List.length_append, List.length_cons, List.length_nil]; omega) rfl (fun s37 => ?_) (one_evz [evCm k]))
      refine aops_slice s37 fun sw hsw => ?_
      subst hsw
      refine rn ?_
      first | exact ⟨hk, sw, by rw [smE_n hk1, List.map_append, List.map_append, List.map_append]; exact eA⟩ | exact ⟨hk, sw, by rw [smE_1 hk1, List.map_append, List.map_append]; exact eA⟩
    · have hk1 : k = 1 := by have q := hc22; simp at q; omega
      refine aw_skip ?_
      refine thn_n ?_
      refine aw_region ?_
      refine q1 ?_
      refine q1 ?_
      refine q1 ?_
      refine qq rfl rfl (qr_build (out := evRz (evCm k)) rfl (by rfl)) ?_
      refine qv rfl rfl (qv_buildSlice rfl rfl) ?_
      refine aops_e rfl (oe_append_row rfl rfl (by simp only [List.length_map, List.length_append, List.length_cons, List.length_nil]; omega) rfl (fun s37 => ?_) (one_evz [evCm k]))
      refine aops_slice s37 fun sw hsw => ?_
      subst hsw
      refine rn ?_
      first | exact ⟨hk, sw, by rw [smE_n hk1, List.map_append, List.map_append, List.map_append]; exact eA⟩ | exact ⟨hk, sw, by rw [smE_1 hk1, List.map_append, List.map_append]; exact eA⟩
  · have qk : k = 3 := by have q := of_decide_eq_false hc8; omega
    refine rn ?_
    refine qv rfl rfl (qv_buildSlice rfl rfl) ?_
    refine rn ?_
    refine qv rfl rfl (qv_buildSlice rfl rfl) ?_
    refine rn ?_
    refine qv rfl rfl (qv_buildSlice rfl rfl) ?_
    refine rn ?_
    exact retq (.cons _ _ _ _ (.agg _ _ _ _ _ _ _ rfl inferInstance inferInstance inferInstance rfl) .nil) (.trans (.perm ((pt1 _ _ _).trans (.cons _ (pt1 _ _ _))) _) (.drop [_, _] _ _)) ⟨s, by rw [qk], rfl⟩
theorem small18 : ACall Tryz.prog 86 [] [] (fun r h' => h' = [] ∧ r = .agg (histC wwH)) :=
  small18R.ventR (by
    rintro _ _ ⟨s, rfl, rfl⟩
    exact ⟨_, _, .trans (vent_freeze_cell [.list true 1 [[sv (wT 48)], [sv (wT 49)], [sv (wT 50)]], .list true 1 [[sv bsmall]], .list true 1 [[sv bxx], [sv byy]], .v (.slice none 0 0)] [.list true 2 [[iv 0, .list true 1 [[iv 1], [iv 0], [iv 2]]], [iv 1, .list true 1 [[iv 2], [iv 0]]]], .v (.slice none 0 0), .v (.slice none 0 0)]) (.le (Sb.aggs (bs := histC wwH) (by exact ⟨.unfull, .unfull, .unfull, .nil _ _, (.lists (by simp) ⟨⟨.refl _, .refl _, .refl _, .refl _, .refl _, .refl _, .refl _, .refl _, .nil _ _, trivial⟩, ⟨.refl _, .refl _, .refl _, .refl _, .refl _, .refl _, .refl _, .refl _, .nil _ _, trivial⟩, ⟨.refl _, .refl _, .refl _, .refl _, .refl _, .refl _, .refl _, .refl _, .nil _ _, trivial⟩, ⟨.refl _, .refl _, .refl _, .refl _, .refl _, .refl _, .refl _, .refl _, .nil _ _, trivial⟩, ⟨.refl _, .refl _, .refl _, .refl _, .refl _, .refl _, .refl _, .refl _, .nil _ _, trivial⟩, ⟨.refl _, .refl _, .refl _, .refl _, .refl _, .refl _, .refl _, .refl _, .nil _ _, trivial⟩, ⟨.refl _, .refl _, .refl _, .refl _, .refl _, .refl _, .refl _, .refl _, .nil _ _, trivial⟩, ⟨.refl _, .refl _, .refl _, .refl _, .refl _, .refl _, .refl _, .refl _, .nil _ _, trivial⟩, ⟨.refl _, .refl _, .refl _, .refl _, .refl _, .refl _, .refl _, .refl _, .nil _ _, trivial⟩, ⟨.refl _, .refl _, .refl _, .refl _, .refl _, .refl _, .refl _, .refl _, .nil _ _, trivial⟩, ⟨.refl _, .refl _, .refl _, .refl _, .refl _, .refl _, .refl _, .refl _, .nil _ _, trivial⟩, trivial⟩), (.lists (by simp) ⟨⟨.refl _, .unfull, trivial⟩, ⟨.refl _, .unfull, trivial⟩, trivial⟩), .nil _ _, .nil _ _, trivial⟩)).le), rfl, rfl⟩)
theorem limW : Lim 4611686018427387904 wwH := ⟨by decide, by decide, by decide, by decide, by decide, by decide, by decide, by decide, by decide, by decide, by decide⟩
theorem ww20 : chC wwH 2 0 = 0 ∧ chO wwH 2 0 = [1] := by
  obtain ⟨a, b⟩ := chC_0 (h := wwH) (f := 2) (t := 0) ww_check (by decide) (by rw [ww_ch20]; decide)
  exact ⟨a, by rw [b, ww_ch20]⟩
theorem ww21 : chC wwH 2 1 = 4 ∧ chO wwH 2 1 = [] := chC_4 ww_check (by decide) (by rw [ww_ch21]; rfl)
theorem wA1 : ACall Tryz.prog 38 [.agg (histC wwH)] (.glob 0 186 limitsC :: .glob 2 287 firstC :: .glob 3 290 acceptC :: .glob 1 250 asksC :: []) (fun r h' => h' = .glob 0 186 limitsC :: .glob 2 287 firstC :: .glob 3 290 acceptC :: .glob 1 250 asksC :: [] ∧ r = .tup [confsA [⟨0, 2, 0, 1, 8, 0, 0⟩, ⟨1, 0, 0, 5, 1, 0, 0⟩, ⟨2, 0, 0, 9, 2, 1, 0⟩], iv 0]) := (wwAllA wwH limW).mono fun _ _ q => ⟨q.1, by rw [q.2, wwA_y ww_check, ww_allS, ww_check]⟩
theorem wA2 : ACall Tryz.prog 44 [.agg (histC wwH), iv 2, iv 0] (.glob 0 186 limitsC :: .glob 2 287 firstC :: .glob 3 290 acceptC :: .glob 1 250 asksC :: []) (fun r h' => h' = .glob 0 186 limitsC :: .glob 2 287 firstC :: .glob 3 290 acceptC :: .glob 1 250 asksC :: [] ∧ r = .tup [intsA [1], iv 0]) := (wwChainA wwH limW 2 0).mono fun _ _ q => ⟨q.1, by rw [q.2, ww20.1, ww20.2]⟩
theorem wA3 : ACall Tryz.prog 44 [.agg (histC wwH), iv 2, iv 1] (.glob 0 186 limitsC :: .glob 2 287 firstC :: .glob 3 290 acceptC :: .glob 1 250 asksC :: []) (fun r h' => h' = .glob 0 186 limitsC :: .glob 2 287 firstC :: .glob 3 290 acceptC :: .glob 1 250 asksC :: [] ∧ r = .tup [intsA [], iv 4]) := (wwChainA wwH limW 2 1).mono fun _ _ q => ⟨q.1, by rw [q.2, ww21.1, ww21.2]⟩
theorem equalLit18 {g : Bool} : ACall Tryz.prog 22 [intsA [1], .list g 1 [[iv 1]]] [] (fun r h' => h' = [] ∧ r = bv true) := (equalInt [1] [1] (by decide) (by decide)).mono fun _ _ q => ⟨q.1, by rw [q.2, eqF_eq intEq_eq]; simp⟩
set_option maxHeartbeats 4000000 in
theorem wakes18  : ACall Tryz.prog 33 [] (.glob 0 186 limitsC :: .glob 2 287 firstC :: .glob 3 290 acceptC :: .glob 1 250 asksC :: []) (fun r h' => h' = .glob 0 186 limitsC :: .glob 2 287 firstC :: .glob 3 290 acceptC :: .glob 1 250 asksC :: [] ∧ r = bv true) := by
  refine acall_of_aw Tryz.func33 rfl rfl rfl ?_
  refine rn ?_
  refine qv rfl rfl (qv_call rfl rfl (FCall.pure (R := fun r => r = .agg (histC wwH)) (FCall.of_fun small18))) ?_
  refine qv rfl rfl (qv_call rfl rfl (FCall.of_fun wA1)) ?_
  refine rn ?_
  refine qv rfl rfl (qv_call rfl rfl (FCall.pure (R := fun r => r = .agg (histC wwH)) (FCall.of_fun small18))) ?_
  refine qv rfl rfl (qv_call rfl rfl (FCall.of_fun wA2)) ?_
  refine rn ?_
  refine qv rfl rfl (qv_call rfl rfl (FCall.pure (R := fun r => r = .agg (histC wwH)) (FCall.of_fun small18))) ?_
  refine qv rfl rfl (qv_call rfl rfl (FCall.of_fun wA3)) ?_
  refine rn ?_
  refine qv rfl rfl (qv_buildSlice rfl rfl) ?_
  refine qv rfl rfl (qv_call rfl rfl (FCall.pure (R := fun r => r = bv true) (FCall.of_fun (equalLit18)))) ?_
  refine q1 ?_
  refine q1 ?_
  refine q1 ?_
  refine q1 ?_
  refine q1 ?_
  refine q1 ?_
  refine q1 ?_
  refine q1 ?_
  refine qq rfl rfl (qr_index_int rfl rfl (by decide) rfl) ?_
  refine q1 ?_
  refine q1 ?_
  refine q1 ?_
  refine q1 ?_
  refine q1 ?_
  refine q1 ?_
  refine qq rfl rfl (qr_index_int rfl rfl (by decide) rfl) ?_
  refine q1 ?_
  refine q1 ?_
  refine q1 ?_
  refine q1 ?_
  refine q1 ?_
  refine q1 ?_
  refine qq rfl rfl (qr_index_int rfl rfl (by decide) rfl) ?_
  refine rn ?_
  refine rq 0 ?_
  exact ⟨rfl, rfl⟩
end Go.Proofs
/- The walks of WwOrders, WwOne. Conditions: none. -/
set_option linter.unusedVariables false
set_option linter.unusedSimpArgs false
set_option maxRecDepth 10000
namespace Go.Proofs
open Go Go.Ab
attribute [local irreducible] QR QV OE aops aw dsoup dsoupM dalloc dallocM thn inBlk jsoup jch lsoup
open Go.H
theorem qr_isB18 {P : Program} {h : List Res} {f : Operand → Option AV} {o : Oper} {b c : Bool} (hq : QR P h f o (.v (.bool b))) (e : b = c) : QR P h f o (.v (.bool c)) := by subst e; exact hq
set_option maxHeartbeats 4000000 in
theorem wwOne (a b c : Conf) : ACall Tryz.prog 8 [.agg (confR a), .agg (confR b), .agg (confR c)] (.glob 0 186 limitsC :: .glob 2 287 firstC :: .glob 3 290 acceptC :: .glob 1 250 asksC :: []) (fun r h' => h' = .glob 0 186 limitsC :: .glob 2 287 firstC :: .glob 3 290 acceptC :: .glob 1 250 asksC :: [] ∧ r = bv true) := by
  refine acall_of_aw Tryz.func8 rfl rfl rfl ?_
  have hr := cmpL_range (fldC a) (fldC b)
  have hr1 : -1 ≤ cmpC a b := hr.1
  have hr2 : cmpC a b ≤ 1 := hr.2
  have h1 := ww_one a b c
  refine rn ?_
  refine aops_e rfl (oe_box rfl rfl rfl fun b3 => ?_)
  refine aops_e rfl (oe_box rfl rfl rfl fun b4 => ?_)
  refine aops_e rfl (oe_box rfl rfl rfl fun b5 => ?_)
  refine rn ?_
  refine qv rfl rfl (qv_call rfl rfl (FCall.qt (FCall.of_fun wakes18) ((pt3 _ _ _ _ _).trans (.cons _ ((pt3 _ _ _ _ _).trans (.cons _ ((pt3 _ _ _ _ _).trans (.cons _ (pt3 _ _ _ _ _))))))))) ?_
  refine rn ?_
  refine aw_cond rfl (fun hc11 => ?_) (fun hc11 => ?_)
  · exact absurd hc11 (by decide)
  · refine rn ?_
    refine aw_draw 8 rfl ?_
    refine rn ?_
    refine dv rfl rfl (by exact qv_call rfl rfl (pcall (wwCompare a b) (Sbs.refl _))) ?_
    refine rn ?_
    refine dv rfl rfl (by exact qv_call rfl rfl (pcall (wwCompare b c) (Sbs.refl _))) ?_
    refine rn ?_
    refine qv rfl rfl (qv_call rfl rfl (pcall (wwCompare a c) (Sbs.refl _))) ?_
    refine rn ?_
    refine qv rfl rfl (qv_call rfl rfl (pcall (wwCompare b a) (Sbs.refl _))) ?_
    refine q1 ?_
    refine qq rfl rfl (qr_neg rfl (by omega)) ?_
    refine qq rfl rfl (qr_cmp (c := false) rfl rfl (congrArg some (by rw [cmpC_ok.anti a b]; simp))) ?_
    refine q1 ?_
    refine q1 ?_
    refine q1 ?_
    refine q1 ?_
    refine q1 ?_
    refine q1 ?_
    refine qq rfl rfl (qr_isB18 (c := false) (qr_nebool rfl rfl) (by show ((cmpC a b == 0) != confEq a b) = false; rw [cmpC_eq0, confEq_eq]; simp)) ?_
    refine q1 ?_
    refine q1 ?_
    refine q1 ?_
    refine qq rfl rfl (qr_cmp (c := false) rfl rfl (congrArg some (decide_eq_false (by omega)))) ?_
    refine q1 ?_
    refine q1 ?_
    refine q1 ?_
    refine qq rfl rfl (qr_cmp (c := false) rfl rfl (congrArg some (decide_eq_false (by omega)))) ?_
    refine rn ?_
    refine aw_cond rfl (fun hc42 => ?_) (fun hc42 => ?_)
    · first | cases hc42 | exact absurd hc42 (by decide) | (exfalso; simp_all; done)
    · refine rn ?_
      refine asplit (fun hg6_2 => ?_) (fun hg6_2 => ?_)
      · refine rn ?_
        refine asplit (fun hg6_7 => ?_) (fun hg6_7 => ?_)
        · refine rn ?_
          refine rq 3 ?_
          exact ⟨rfl, congrArg bv (by first | (simp_all; done) | (rw [← h1]; simp_all; done))⟩
        · refine rn ?_
          refine asplit (fun hg6_10 => ?_) (fun hg6_10 => ?_)
          · refine rn ?_
            refine asplit (fun hg6_15 => ?_) (fun hg6_15 => ?_)
            · refine rn ?_
              refine rq 3 ?_
              exact ⟨rfl, congrArg bv (by first | (simp_all; done) | (rw [← h1]; simp_all; done))⟩
            · refine rn ?_
              refine rq 3 ?_
              exact ⟨rfl, congrArg bv (by first | (simp_all; done) | (rw [← h1]; simp_all; done))⟩
          · refine rn ?_
            refine rq 3 ?_
            exact ⟨rfl, congrArg bv (by first | (simp_all; done) | (rw [← h1]; simp_all; done))⟩
      · refine rn ?_
        refine rq 3 ?_
        exact ⟨rfl, congrArg bv (by first | (simp_all; done) | (rw [← h1]; simp_all; done))⟩
end Go.Proofs
