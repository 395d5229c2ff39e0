/- The walks of the reference 05's SameEdges, Same, With, Of, Out. Conditions: none. -/
import Derived.Test.YtcooiollckhdlaaGreatSGrH
set_option linter.unusedSectionVars false
set_option linter.unusedSimpArgs false
set_option linter.unusedVariables false
set_option linter.unusedVariables false
set_option linter.unusedSimpArgs false
set_option maxRecDepth 10000
namespace Go.Proofs
open Go Go.Ab
attribute [local irreducible] QR QV OE aops aw dsoup dsoupM dalloc dallocM thn inBlk jsoup jch lsoup
open Go.H
theorem with_tt {e : Ed} {l : List Ed} {k : Nat} (hk : k < l.length) (hA : (!(withK e l k).2 && !aheadE l[k] e) = true) (hx : l[k] ≠ e) : withK e l (k + 1) = ((withK e l k).1 ++ [e] ++ [l[k]], true) := by
  rw [withK_s hk]; unfold withS; simp only; rw [if_neg hx, if_pos hA]
theorem with_tf {e : Ed} {l : List Ed} {k : Nat} (hk : k < l.length) (hA : (!(withK e l k).2 && !aheadE l[k] e) = true) (hx : l[k] = e) : withK e l (k + 1) = ((withK e l k).1 ++ [e], true) := by
  rw [withK_s hk]; unfold withS; simp only; rw [if_pos hx, if_pos hA]
theorem with_ft {e : Ed} {l : List Ed} {k : Nat} (hk : k < l.length) (hA : (!(withK e l k).2 && !aheadE l[k] e) = false) (hx : l[k] ≠ e) : withK e l (k + 1) = ((withK e l k).1 ++ [l[k]], (withK e l k).2) := by
  rw [withK_s hk]; unfold withS; simp only; rw [if_neg hx, if_neg (by rw [hA]; decide)]
theorem with_ff {e : Ed} {l : List Ed} {k : Nat} (hk : k < l.length) (hA : (!(withK e l k).2 && !aheadE l[k] e) = false) (hx : l[k] = e) : withK e l (k + 1) = withK e l k := by
  rw [withK_s hk]; unfold withS; simp only; rw [if_pos hx, if_neg (by rw [hA]; decide)]
theorem neq_t {a b : Ed} (h : (!(([a.f, a.t, a.k] : List Int) == [b.f, b.t, b.k])) = true) : a ≠ b := by
  have h2 : (!edEq a b) = true := h
  rw [edEq_eq] at h2
  simpa using h2
theorem neq_f {a b : Ed} (h : (!(([a.f, a.t, a.k] : List Int) == [b.f, b.t, b.k])) = false) : a = b := by
  have h2 : (!edEq a b) = false := h
  rw [edEq_eq] at h2
  simpa using h2
def outG (g : Gr) (v : Int) : List Ed := g.es.filter fun e => decide (e.f = v)
set_option maxHeartbeats 1000000 in
theorem refSameEds (l m : List Ed) (hl : l.length ≤ 4611686018427387904) (hm : m.length ≤ 4611686018427387904) : ACall Tryz.prog 42 [edsA l, edsA m] [] (fun r h' => h' = [] ∧ r = bv (decide (l = m))) := by
  refine acall_of_aw Tryz.func42 rfl rfl rfl ?_
  refine rn ?_
  refine aw_cond rfl (fun hc10 => ?_) (fun hc10 => ?_)
  · have hne : l.length ≠ m.length := by have q := hc10; rw [List.length_map, List.length_map] at q; simp at q; omega
    refine rn ?_
    refine rq 0 ?_
    exact ⟨rfl, congrArg bv (decide_eq_false (fun q => hne (by rw [q]))).symm⟩
  · have hle : l.length = m.length := by have q := hc10; rw [List.length_map, List.length_map] at q; simp at q; omega
    refine rn ?_
    refine aw_range l.length (fun k => ∀ i, (hi : i < k) → (hl : i < l.length) → l[i] = m[i]'(by omega)) (fun k => ⟨[(13, iv k), (0, edsA l), (1, edsA m), (12, iv (l.map edR).length)], [], []⟩) (fun i hi _ => absurd hi (Nat.not_lt_zero _)) es ?_
    intro k lk zk
    refine rn ?_
    refine aw_cond rfl (fun hc14 => ?_) (fun hc14 => ?_)
    · have hk : k < l.length := by have q := of_decide_eq_true hc14; rw [List.length_map] at q; omega
      refine rn ?_
      refine aw_draw 8 rfl ?_
      refine dq rfl rfl qrA ?_
      refine dq rfl rfl qrA ?_
      refine dq rfl rfl (qr_index_list (i := k) rfl rfl (edR_at hk)) ?_
      refine dq rfl rfl qrA ?_
      refine dq rfl rfl qrA ?_
      refine dq rfl rfl qrA ?_
      refine dq rfl rfl (qr_index_list (i := k) rfl rfl (edR_at (show k < m.length by omega))) ?_
      refine rn ?_
      refine aw_cond rfl (fun hc24 => ?_) (fun hc24 => ?_)
      · have hx : l[k] ≠ m[k]'(by omega) := neq_t hc24
        refine rn ?_
        refine rq 0 ?_
        exact ⟨rfl, congrArg bv (decide_eq_false (fun q => hx (by subst q; rfl))).symm⟩
      · have hx : l[k] = m[k]'(by omega) := neq_f hc24
        refine rn ?_
        exact ⟨hk, fun i hi hl => (Nat.lt_succ_iff_lt_or_eq.1 hi).elim (fun q => zk i q hl) (fun q => by subst q; exact hx), eA⟩
    · have qk : k = l.length := by have q := of_decide_eq_false hc14; rw [List.length_map] at q; omega
      refine rn ?_
      refine rq 0 ?_
      exact ⟨rfl, congrArg bv (decide_eq_true (List.ext_getElem hle fun i h1 h2 => zk i (by omega) h1)).symm⟩
theorem refSameG (a b : Gr) (ha : a.es.length ≤ 4611686018427387904) (hb : b.es.length ≤ 4611686018427387904) : ACall Tryz.prog 19 [.agg (grR a), .agg (grR b)] [] (fun r h' => h' = [] ∧ r = bv (sameG a b)) := by
  refine acall_of_aw Tryz.func19 rfl rfl rfl ?_
  refine rn ?_
  refine aops_e rfl (oe_box rfl rfl rfl fun b2 => ?_)
  refine aops_e rfl (oe_box rfl rfl rfl fun b3 => ?_)
  refine rn ?_
  refine asplit (fun hg1_5 => ?_) (fun hg1_5 => ?_)
  · refine rn ?_
    refine qv rfl rfl (qv_call rfl rfl (FCall.pure (R := fun x => x = bv (decide (a.es = b.es))) (FCall.of_fun (refSameEds a.es b.es ha hb)))) ?_
    refine rn ?_
    refine rq 2 ?_
    exact ⟨rfl, congrArg bv (by unfold sameG; first | (simp_all; done) | (simp_all <;> omega))⟩
  · refine rn ?_
    refine rq 2 ?_
    exact ⟨rfl, congrArg bv (by unfold sameG; first | (simp_all; done) | (simp_all <;> omega))⟩
set_option maxHeartbeats 4000000 in
theorem refWith {f : Bool} (l : List Ed) (e : Ed) (hl : l.length ≤ 1000000000) : ACall Tryz.prog 72 [.list f 3 (l.map edR), .agg (edR e)] [] (fun r h' => ∃ s : SV, h' = [.row s.v 3 53 ((withE l e).map edR)] ∧ r = .v s.v) := by
  refine acall_of_aw Tryz.func72 rfl rfl rfl ?_
  refine rn ?_
  refine aops_e rfl (oe_box rfl rfl rfl fun b3 => ?_)
  refine rn ?_
  refine aw_rng1 l.length (fun k s => ⟨[(11, iv k), (5, .v s.v), (6, bv (withK e l k).2), (3, .v (.pointer (some ⟨b3, 0, none⟩))), (9, .list f 3 (l.map edR)), (10, iv (l.map edR).length)], .row s.v 3 53 ((withK e l k).1.map edR) :: .box b3 53 (edR e) :: [], []⟩) ⟨none, 0, 0⟩ (ent_trans (ent_nilrow 3 53) es) ?_
  intro k s lk
  refine rn ?_
  refine aw_cond rfl (fun hc12 => ?_) (fun hc12 => ?_)
  · have hk : k < l.length := by have q := of_decide_eq_true hc12; rw [List.length_map] at q; omega
    refine aw_skip ?_
    refine thn_n ?_
    refine aw_seq ?_
    refine aw_block ?_
    refine aw_seq (aw_region ?_)
    refine qq rfl rfl (qr_index_list (i := k) rfl rfl (edR_at hk)) ?_
    refine rn ?_
    refine aops_e rfl (oe_alloc rfl fun b8 => ?_)
    refine rn ?_
    refine asplit (fun hg6_2 => ?_) (fun hg6_2 => ?_)
    · refine rn ?_
      refine qv rfl rfl (qv_call rfl rfl (FCall.pure (R := fun x => x = bv (aheadE l[k] e)) (FCall.of_fun (refAhead l[k] e)))) ?_
      refine rn ?_
      refine aw_cond rfl (fun hc22 => ?_) (fun hc22 => ?_)
      · have hA : (!(withK e l k).2 && !aheadE l[k] e) = true := by simp_all
        have hwl := withK_len e l k
        refine rn ?_
        refine qv rfl rfl (qv_buildSlice rfl rfl) ?_
        refine aops_e rfl (oe_append_row rfl rfl (by simp only [List.length_map, List.length_append, List.length_cons, List.length_nil]; omega) rfl (fun s27 => ?_) (fun r hr => by rw [List.mem_singleton.1 hr]; rfl))
        refine aops_slice s27 fun sv hsv => ?_
        subst hsv
        refine rn ?_
        refine aw_cond rfl (fun hc29 => ?_) (fun hc29 => ?_)
        · have hx : l[k] ≠ e := neq_t hc29
          refine rn ?_
          refine qv rfl rfl (qv_buildSlice rfl rfl) ?_
          refine aops_e rfl (oe_append_row rfl rfl (by simp only [List.length_map, List.length_append, List.length_cons, List.length_nil]; omega) rfl (fun s27 => ?_) (fun r hr => by rw [List.mem_singleton.1 hr]; rfl))
          refine aops_slice s27 fun sv hsv => ?_
          subst hsv
          refine rn ?_
          first | exact ⟨hk, sv, by rw [with_tt hk hA hx]; simp only [List.map_append, List.map_cons, List.map_nil]; exact eA⟩ | exact ⟨hk, sv, by rw [with_tf hk hA hx]; simp only [List.map_append, List.map_cons, List.map_nil]; exact eA⟩ | exact ⟨hk, sv, by rw [with_ft hk hA hx]; simp only [List.map_append, List.map_cons, List.map_nil]; exact eA⟩ | exact ⟨hk, s, by rw [with_ff hk hA hx]; exact eA⟩
        · have hx : l[k] = e := neq_f hc29
          refine rn ?_
          first | exact ⟨hk, sv, by rw [with_tt hk hA hx]; simp only [List.map_append, List.map_cons, List.map_nil]; exact eA⟩ | exact ⟨hk, sv, by rw [with_tf hk hA hx]; simp only [List.map_append, List.map_cons, List.map_nil]; exact eA⟩ | exact ⟨hk, sv, by rw [with_ft hk hA hx]; simp only [List.map_append, List.map_cons, List.map_nil]; exact eA⟩ | exact ⟨hk, s, by rw [with_ff hk hA hx]; exact eA⟩
      · have hA : (!(withK e l k).2 && !aheadE l[k] e) = false := by simp_all
        have hwl := withK_len e l k
        refine rn ?_
        refine aw_cond rfl (fun hc29 => ?_) (fun hc29 => ?_)
        · have hx : l[k] ≠ e := neq_t hc29
          refine rn ?_
          refine qv rfl rfl (qv_buildSlice rfl rfl) ?_
          refine aops_e rfl (oe_append_row rfl rfl (by simp only [List.length_map, List.length_append, List.length_cons, List.length_nil]; omega) rfl (fun s27 => ?_) (fun r hr => by rw [List.mem_singleton.1 hr]; rfl))
          refine aops_slice s27 fun sv hsv => ?_
          subst hsv
          refine rn ?_
          first | exact ⟨hk, sv, by rw [with_tt hk hA hx]; simp only [List.map_append, List.map_cons, List.map_nil]; exact eA⟩ | exact ⟨hk, sv, by rw [with_tf hk hA hx]; simp only [List.map_append, List.map_cons, List.map_nil]; exact eA⟩ | exact ⟨hk, sv, by rw [with_ft hk hA hx]; simp only [List.map_append, List.map_cons, List.map_nil]; exact eA⟩ | exact ⟨hk, s, by rw [with_ff hk hA hx]; exact eA⟩
        · have hx : l[k] = e := neq_f hc29
          refine rn ?_
          first | exact ⟨hk, sv, by rw [with_tt hk hA hx]; simp only [List.map_append, List.map_cons, List.map_nil]; exact eA⟩ | exact ⟨hk, sv, by rw [with_tf hk hA hx]; simp only [List.map_append, List.map_cons, List.map_nil]; exact eA⟩ | exact ⟨hk, sv, by rw [with_ft hk hA hx]; simp only [List.map_append, List.map_cons, List.map_nil]; exact eA⟩ | exact ⟨hk, s, by rw [with_ff hk hA hx]; exact eA⟩
    · refine rn ?_
      refine aw_cf rfl ?_
      have hA : (!(withK e l k).2 && !aheadE l[k] e) = false := by simp_all
      have hwl := withK_len e l k
      refine rn ?_
      refine aw_cond rfl (fun hc29 => ?_) (fun hc29 => ?_)
      · have hx : l[k] ≠ e := neq_t hc29
        refine rn ?_
        refine qv rfl rfl (qv_buildSlice rfl rfl) ?_
        refine aops_e rfl (oe_append_row rfl rfl (by simp only [List.length_map, List.length_append, List.length_cons, List.length_nil]; omega) rfl (fun s27 => ?_) (fun r hr => by rw [List.mem_singleton.1 hr]; rfl))
        refine aops_slice s27 fun sv hsv => ?_
        subst hsv
        refine rn ?_
        first | exact ⟨hk, sv, by rw [with_tt hk hA hx]; simp only [List.map_append, List.map_cons, List.map_nil]; exact eA⟩ | exact ⟨hk, sv, by rw [with_tf hk hA hx]; simp only [List.map_append, List.map_cons, List.map_nil]; exact eA⟩ | exact ⟨hk, sv, by rw [with_ft hk hA hx]; simp only [List.map_append, List.map_cons, List.map_nil]; exact eA⟩ | exact ⟨hk, s, by rw [with_ff hk hA hx]; exact eA⟩
      · have hx : l[k] = e := neq_f hc29
        refine rn ?_
        first | exact ⟨hk, sv, by rw [with_tt hk hA hx]; simp only [List.map_append, List.map_cons, List.map_nil]; exact eA⟩ | exact ⟨hk, sv, by rw [with_tf hk hA hx]; simp only [List.map_append, List.map_cons, List.map_nil]; exact eA⟩ | exact ⟨hk, sv, by rw [with_ft hk hA hx]; simp only [List.map_append, List.map_cons, List.map_nil]; exact eA⟩ | exact ⟨hk, s, by rw [with_ff hk hA hx]; exact eA⟩
  · have qk : k = l.length := by have q := of_decide_eq_false hc12; rw [List.length_map] at q; omega
    refine rn ?_
    refine aw_cond rfl (fun hc36 => ?_) (fun hc36 => ?_)
    · have hwl := withK_len e l k
      have hd : (withK e l k).2 = false := by simpa using hc36
      refine rn ?_
      refine qv rfl rfl (qv_buildSlice rfl rfl) ?_
      refine aops_e rfl (oe_append_row rfl rfl (by simp only [List.length_map, List.length_append, List.length_cons, List.length_nil]; omega) rfl (fun s27 => ?_) (fun r hr => by rw [List.mem_singleton.1 hr]; rfl))
      refine aops_slice s27 fun sv hsv => ?_
      subst hsv
      refine rn ?_
      first | exact retq (.cons _ _ _ _ (.tmp _ _ rfl) .nil) (.trans (.perm (pt1 _ _ _) _) (.drop [_] _ _)) ⟨sv, by rw [withE_eq, ← qk, if_neg (by rw [hd]; decide), List.map_append]; rfl, rfl⟩ | exact retq (.cons _ _ _ _ (.tmp _ _ rfl) .nil) (.trans (.perm (pt1 _ _ _) _) (.drop [_] _ _)) ⟨s, by rw [withE_eq, ← qk, if_pos hd], rfl⟩
    · have hd : (withK e l k).2 = true := by simpa using hc36
      refine rn ?_
      first | exact retq (.cons _ _ _ _ (.tmp _ _ rfl) .nil) (.trans (.perm (pt1 _ _ _) _) (.drop [_] _ _)) ⟨sv, by rw [withE_eq, ← qk, if_neg (by rw [hd]; decide), List.map_append]; rfl, rfl⟩ | exact retq (.cons _ _ _ _ (.tmp _ _ rfl) .nil) (.trans (.perm (pt1 _ _ _) _) (.drop [_] _ _)) ⟨s, by rw [withE_eq, ← qk, if_pos hd], rfl⟩
set_option maxHeartbeats 1000000 in
theorem refOfG {f : Bool} (n : Int) (l : List Ed) (hl : l.length ≤ 1000000000) : ACall Tryz.prog 46 [iv n, .list f 3 (l.map edR)] [] (fun r h' => h' = [] ∧ r = .agg (grR ⟨n, ofE l⟩)) := by
  refine acall_of_aw Tryz.func46 rfl rfl rfl ?_
  refine rn ?_
  refine aops_e rfl (oe_alloc rfl fun b4 => ?_)
  refine rn ?_
  refine aops_e rfl (oe_alloc rfl fun b5 => ?_)
  refine rn ?_
  refine aw_rng1 l.length (fun k s => ⟨[(12, iv k), (4, .v (.pointer (some ⟨b4, 0, none⟩))), (5, .v (.pointer (some ⟨b5, 0, none⟩))), (10, .list f 3 (l.map edR)), (11, iv (l.map edR).length)], .box b5 24 [iv n, .v s.v] :: .row s.v 3 53 ((refOfE (l.take k)).map edR) :: .box b4 24 [iv 0, .v (.slice none 0 0)] :: [], []⟩) ⟨none, 0, 0⟩ (ent_trans (ent_nilrow 3 53) (ent_trans (ent_perm (pt1 _ _ _)) es)) ?_
  intro k s lk
  refine rn ?_
  refine aw_cond rfl (fun hc13 => ?_) (fun hc13 => ?_)
  · have hk : k < l.length := by have q := of_decide_eq_true hc13; rw [List.length_map] at q; omega
    refine aw_skip ?_
    refine thn_n ?_
    refine aw_seq ?_
    refine aw_block ?_
    refine aw_seq (aw_region ?_)
    refine qq rfl rfl (qr_index_list (i := k) rfl rfl (edR_at hk)) ?_
    refine rn ?_
    refine aops_e rfl (oe_alloc rfl fun b7 => ?_)
    refine rn ?_
    refine aops_e rfl (oe_call rfl rfl (FCall.lendG (FCall.of_fun (refWith (f := false) (refOfE (l.take k)) l[k] (by have := refOf_len l k; omega))) (by rintro _ _ ⟨s, rfl, rfl⟩; exact ⟨.v _, fun x hx => by rw [List.mem_singleton.1 hx]; exact scal_row (scalEd _)⟩) (BLe.refl _ _) (by exact ⟨ble_row, BLe.refl _ _, trivial⟩)) rfl ?_)
    rintro _ _ ⟨_, rfl, s2, rfl, rfl⟩
    simp only [List.cons_append, List.nil_append]
    refine rn ?_
    exact ⟨hk, s2, by rw [refOf_s hk]; exact ent_trans (ent_perm ((pt1 _ _ _).trans (.cons _ ((pt2 _ _ _ _).trans (.cons _ (pt1 _ _ _)))))) (ent_trans (ent_drop (h1 := [_, _])) es)⟩
  · have qk : k = l.length := by have q := of_decide_eq_false hc13; rw [List.length_map] at q; omega
    refine rn ?_
    exact retq (.cons _ _ _ _ (.agg _ _ _ _ _ _ _ rfl inferInstance inferInstance inferInstance rfl) .nil) (.trans (.perm (pt1 _ _ _) _) (.trans (vent_freeze_cell [_] []) (.drop [_, _] _ _))) ⟨rfl, by rw [qk, List.take_length, refOfE_eq]; rfl⟩
set_option maxHeartbeats 1000000 in
theorem refOut (g : Gr) (v : Int) (hl : g.es.length ≤ 1000000000) : ACall Tryz.prog 99 [.agg (grR g), iv v] [] (fun r h' => h' = [] ∧ r = edsA (outG g v)) := by
  refine acall_of_aw Tryz.func99 rfl rfl rfl ?_
  refine rn ?_
  refine aops_e rfl (oe_box rfl rfl rfl fun b2 => ?_)
  refine rn ?_
  refine aw_rng1 g.es.length (fun k s => ⟨[(11, iv k), (5, .v s.v), (1, iv v), (9, edsA g.es), (10, iv (g.es.map edR).length)], .row s.v 3 53 (((g.es.take k).filter fun e => decide (e.f = v)).map edR) :: .box b2 24 (grR g) :: [], []⟩) ⟨none, 0, 0⟩ (ent_trans (ent_nilrow 3 53) es) ?_
  intro k s lk
  refine rn ?_
  refine aw_cond rfl (fun hc12 => ?_) (fun hc12 => ?_)
  · have hk : k < g.es.length := by have q := of_decide_eq_true hc12; rw [List.length_map] at q; omega
    refine aw_skip ?_
    refine thn_n ?_
    refine aw_seq ?_
    refine aw_block ?_
    refine aw_seq (aw_region ?_)
    refine qq rfl rfl (qr_index_list (i := k) rfl rfl (edR_at hk)) ?_
    refine rn ?_
    refine aops_e rfl (oe_alloc rfl fun b7 => ?_)
    refine rn ?_
    refine aw_cond rfl (fun hc18 => ?_) (fun hc18 => ?_)
    · have hx : decide (g.es[k].f = v) = true := by simpa using hc18
      have hfl : ((g.es.take k).filter fun e => decide (e.f = v)).length ≤ k := Nat.le_trans (List.length_filter_le _ _) (by rw [List.length_take]; exact Nat.min_le_left _ _)
      refine rn ?_
      refine qv rfl rfl (qv_buildSlice rfl rfl) ?_
      refine aops_e rfl (oe_append_row rfl rfl (by simp only [List.length_map, List.length_append, List.length_cons, List.length_nil]; omega) rfl (fun s27 => ?_) (fun r hr => by rw [List.mem_singleton.1 hr]; rfl))
      refine aops_slice s27 fun sv hsv => ?_
      subst hsv
      refine rn ?_
      first | exact ⟨hk, sv, by rw [fk_y (p := fun e => decide (e.f = v)) hk hx, List.map_append]; exact eA⟩ | exact ⟨hk, s, by rw [fk_n (p := fun e => decide (e.f = v)) hk hx]; exact eA⟩
    · have hx : decide (g.es[k].f = v) = false := by simpa using hc18
      refine rn ?_
      first | exact ⟨hk, sv, by rw [fk_y (p := fun e => decide (e.f = v)) hk hx, List.map_append]; exact eA⟩ | exact ⟨hk, s, by rw [fk_n (p := fun e => decide (e.f = v)) hk hx]; exact eA⟩
  · have qk : k = g.es.length := by have q := of_decide_eq_false hc12; rw [List.length_map] at q; omega
    refine rn ?_
    exact retq (.cons _ _ _ _ (.tmp _ _ rfl) .nil) (.trans vent_freeze (.drop [_] _ _)) ⟨rfl, by rw [qk, List.take_length]; rfl⟩
end Go.Proofs
/- A row of one's own cut at its front. Conditions: none (rules over any program). -/
set_option linter.unusedVariables false
set_option linter.unusedSimpArgs false
namespace Go.Ab
open Go
theorem addr_b (a : Addr) (n : Nat) : (a.add n).block = a.block := by unfold Addr.add; split <;> rfl
theorem addr_o (a : Addr) (n : Nat) : (a.add n).off = a.off + n := by
  unfold Addr.add; split
  · rename_i h; rw [h]; rfl
  · rfl
theorem addr_s {a : Addr} (n : Nat) (h : a.spot = none) : (a.add n).spot = none := by
  unfold Addr.add; split
  · exact h
  · rfl
theorem tail_own (s : Value) (l k sz : Nat) (T : TypeId) (rows rows' : List (List AV)) : (Res.row (partV s l k sz) sz T rows').own = (Res.row s sz T rows).own := by
  cases s with
  | slice a n c =>
    cases a with
    | none =>
      show (Res.row (.slice (if c = l then none else none) (k - l) (c - l)) sz T rows').own = []
      rw [ite_self]; rfl
    | some a =>
      show (Res.row (.slice (if c = l then some a else some (a.add (l * sz))) (k - l) (c - l)) sz T rows').own = [a.block]
      split
      · rfl
      · show [(a.add (l * sz)).block] = [a.block]
        rw [addr_b]
  | _ => rfl
theorem tail_holds {w : World} {O : Nat → Prop} {s : Value} {l sz : Nat} {T : TypeId} {rows : List (List AV)} (hl : l ≤ rows.length) (h : (Res.row s sz T rows).holds w O) : (Res.row (partV s l rows.length sz) sz T (rows.drop l)).holds w O := by
  cases s with
  | slice a n c =>
    cases a with
    | none =>
      obtain ⟨rfl, rfl, rfl⟩ := h
      obtain rfl : l = 0 := by simpa using hl
      unfold partV; simp [sliced, Res.holds]
    | some a =>
      obtain ⟨h1, h2, h3, h4, cc, h5, h6, h7⟩ := h
      subst h2
      have hlen : (rows.drop l).length = rows.length - l := List.length_drop ..
      by_cases e : c = l
      · have e2 : rows.drop l = [] := List.drop_eq_nil_of_le (by omega)
        show (Res.row (.slice (if c = l then some a else some (a.add (l * sz))) (rows.length - l) (c - l)) sz T (rows.drop l)).holds w O
        rw [if_pos e]
        refine ⟨h1, by rw [hlen], by omega, (fun i hi => by rw [e2] at hi; cases hi), cc, h5, by rw [e, Nat.sub_self, Nat.zero_mul]; omega, (fun i hi => by rw [e2] at hi; cases hi)⟩
      · show (Res.row (.slice (if c = l then some a else some (a.add (l * sz))) (rows.length - l) (c - l)) sz T (rows.drop l)).holds w O
        rw [if_neg e]
        refine ⟨addr_s _ h1, by rw [hlen], by omega, fun i hi => by rw [List.getElem_drop]; exact h4 _ _, cc, by rw [addr_b]; exact h5, ?_, fun i hi j hj => ?_⟩
        · rw [addr_o]
          have : l * sz + (c - l) * sz = c * sz := by rw [← Nat.add_mul]; congr 1; omega
          omega
        · simp only [List.getElem_drop] at hj ⊢
          have hi' : l + i < rows.length := by omega
          have e3 : a.off + l * sz + i * sz + j = a.off + (l + i) * sz + j := by rw [Nat.add_mul]; omega
          rw [addr_o, e3]
          exact h7 (l + i) hi' j hj
  | _ => exact h
section
variable {P : Program} {ro : Option Nat} {nt : Nat}
theorem aops_tail {ops : Array Oper} {l : List Oper} {Q : Exit → St → Prop} {t : Fr} {h h' : List Res} {ds : List Nat} (s : Value) (k : Nat) {i sz : Nat} {T : TypeId} {rows : List (List AV)} [hr : HasRow h s i sz T rows] (hk : k ≤ rows.length) [hset : SetAt h i (.row (partV s k rows.length sz) sz T (rows.drop k)) h']
    (g : aops P ro nt ops l Q ⟨t, h', ds⟩) : aops P ro nt ops l Q ⟨t, h, ds⟩ := aops_same hr.h (tail_own s k rows.length sz T rows _) (fun _ _ q => tail_holds hk q) hset.h g
end
end Go.Ab
/- The walk of the reference 06's Leads. Conditions: none. -/
set_option linter.unusedVariables false
set_option linter.unusedSimpArgs false
set_option maxRecDepth 10000
namespace Go.Proofs
open Go Go.Ab
attribute [local irreducible] QR QV OE aops aw dsoup dsoupM dalloc dallocM thn inBlk jsoup jch lsoup
open Go.H
theorem out_len31 (g : Gr) (v : Int) : (outG g v).length ≤ g.es.length := List.length_filter_le _ _
theorem out_adj (g : Gr) (v : Nat) : adjG g v = (outG g v).map fun e => e.t.toNat := by
  unfold adjG outG
  congr 1
theorem out_at {g : Gr} {v i : Nat} (hi : i < (outG g v).length) : (adjG g v)[i]? = some (outG g v)[i].t.toNat := by
  rw [out_adj, List.getElem?_map, List.getElem?_eq_getElem hi]; rfl
theorem out_alen (g : Gr) (v : Nat) : (adjG g v).length = (outG g v).length := by rw [out_adj, List.length_map]
theorem out_in {g : Gr} (h : GOk g) {v : Int} {i : Nat} (hi : i < (outG g v).length) : ((outG g v)[i].t.toNat : Int) = (outG g v)[i].t ∧ (outG g v)[i].t.toNat < nG g := by
  have hm : (outG g v)[i] ∈ g.es := (List.mem_filter.1 (List.getElem_mem hi)).1
  have := ed_nat h hm
  exact ⟨this.2.2.2.1, this.2.1⟩
theorem rwB_upd (n : Nat) (f : Nat → Bool) (k : Nat) : (rwB n f).set k [AV.v (.bool true)] = rwB n (updB f k) := rwB_set n f k true
theorem rwB_congr {n : Nat} {f g : Nat → Bool} (h : ∀ i, i < n → f i = g i) : rwB n f = rwB n g := rng_congr fun i hi => by rw [h i hi]
theorem lead_fin {g : Gr} {s : Nat} {out : Nat → Bool} (h : BInv (nG g) (adjG g) s out []) : rwB (nG g) out = rwB (nG g) (ldB (adjG g) s) := rwB_congr fun i _ => by
  rw [Bool.eq_iff_iff, h.all, ldB_iff]
theorem natR_0 {v : Nat} {r : List Nat} : ((v :: r).map natR)[0]? = some [iv (v : Int)] := rfl
set_option maxHeartbeats 4000000 in
theorem refLeads (g : Gr) (hok : GOk g) (s : Nat) (hs : s < nG g) : ACall Tryz.prog 66 [.agg (grR g), iv (s : Int)] [] (fun r h' => h' = [] ∧ r = .list false 1 (rwB (nG g) (ldB (adjG g) s))) := by
  refine acall_of_aw Tryz.func66 rfl rfl rfl ?_
  have hn0 := hok.n0
  have hn1 := hok.n1
  have hmany := hok.many
  have hng : nG g ≤ 300 := by unfold nG; omega
  have hnn : ((nG g : Nat) : Int) = g.n := by unfold nG; omega
  refine rn ?_
  refine aops_e rfl (oe_box rfl rfl rfl fun b2 => ?_)
  refine q1 ?_
  refine aops_nil (thn_n ?_)
  refine aw_seq (aw_region ?_)
  refine q1 ?_
  refine qq rfl rfl (qr_as (qr_load_one rfl rfl) (show iv _ = iv ((nG g : Nat) : Int) from congrArg iv hnn.symm)) ?_
  refine aops_e rfl (oe_makeSlice rfl rfl rfl (by omega) (hk := fun bm => ?_))
  refine aops_slice (.slice (some ⟨bm, 0, none⟩) (nG g) (nG g)) fun so hso => ?_
  rw [hso]
  clear hso
  rw [rwB_zero]
  refine rn ?_
  refine aops_e rfl (oe_buildRow rfl rfl rfl fun s14 => ?_)
  refine aops_slice s14 fun td htd => ?_
  rw [htd]
  refine rn ?_
  refine aw_while (fun (x : (Nat → Bool) × List Nat × SV) => BInv (nG g) (adjG g) s x.1 x.2.1 ∧ x.2.1.length + 2 * cntF (nG g) x.1 ≤ 1000) (fun x => ⟨[(6, .v x.2.2.v), (2, .v (.pointer (some ⟨b2, 0, none⟩))), (5, .v so.v)], .row so.v 1 4 (rwB (nG g) x.1) :: .row x.2.2.v 1 3 (x.2.1.map natR) :: .box b2 24 (grR g) :: [], []⟩) (fun x => 2 * cntF (nG g) x.1 + x.2.1.length) (fun _ => false, [s], td) ⟨BInv.start, by simp only [List.length_cons, List.length_nil]; have : cntF (nG g) (fun _ => false) ≤ nG g := Nat.le_trans (List.length_filter_le _ _) (by simp); omega⟩ (ent_trans (ent_perm (pt1 _ _ _)) es) ?_
  rintro ⟨out, l, td⟩ ⟨hi, hlim⟩
  simp only at hi hlim
  show aw _ _ _ _ _ ⟨[(6, .v td.v), (2, .v (.pointer (some ⟨b2, 0, none⟩))), (5, .v so.v)], .row so.v 1 4 (rwB (nG g) out) :: .row td.v 1 3 (l.map natR) :: .box b2 24 (grR g) :: [], []⟩
  refine rn ?_
  refine aw_cond rfl (fun hc17 => ?_) (fun hc17 => ?_)
  · obtain ⟨v, r, rfl⟩ : ∃ v r, l = v :: r := by cases l with | nil => exact absurd hc17 (by simp) | cons v r => exact ⟨v, r, rfl⟩
    have hvn : v < nG g := (hi.todo v (by simp)).elim (fun e => e ▸ hs) (fun e => (hi.sound v e).1)
    refine aw_skip ?_
    refine thn_n ?_
    refine aw_block ?_
    refine aw_seq (aw_region ?_)
    refine q1 ?_
    refine qq rfl rfl (qr_index_row (k := 0) rfl rfl (by rw [List.length_map]; exact Nat.succ_pos _)) ?_
    refine qq rfl rfl (qr_load_rp_one rfl natR_0 rfl) ?_
    refine q1 ?_
    refine aops_nil (thn_n ?_)
    refine aw_seq (aw_region ?_)
    refine q1 ?_
    refine qq rfl rfl (qr_part_l (l := 1) rfl rfl (by rw [List.length_map]; exact Nat.succ_pos _)) ?_
    refine aops_tail td.v 1 (by rw [List.length_map]; exact Nat.succ_pos _) ?_
    refine aops_slice (partV td.v 1 (((v :: r).map natR).length) 1) fun td' htd => ?_
    rw [htd]
    rw [show ((v :: r).map natR).drop 1 = r.map natR from rfl]
    refine rn ?_
    refine qv rfl rfl (qv_call rfl rfl (FCall.pure (R := fun x => x = edsA (outG g (v : Int))) (FCall.of_fun (refOut g v (by omega))))) ?_
    refine rn ?_
    refine aw_rngX (outG g (v : Int)).length (fun i (x : (Nat → Bool) × List Nat × SV) => BMid (nG g) (adjG g) s x.1 x.2.1 v i ∧ 2 * cntF (nG g) x.1 + x.2.1.length ≤ 2 * cntF (nG g) out + r.length) (fun i x => ⟨[(27, iv i), (6, .v x.2.2.v), (2, .v (.pointer (some ⟨b2, 0, none⟩))), (5, .v so.v), (25, edsA (outG g (v : Int))), (26, iv ((outG g (v : Int)).map edR).length)], .row so.v 1 4 (rwB (nG g) x.1) :: .row x.2.2.v 1 3 (x.2.1.map natR) :: .box b2 24 (grR g) :: [], []⟩) (out, r, td') ⟨hi.pop, Nat.le_refl _⟩ es ?_
    generalize hmb : 2 * cntF (nG g) out + r.length = mb
    rw [List.length_cons] at hlim
    rintro i ⟨out', r', td⟩ li ⟨hm, hmu⟩
    simp only at hm hmu
    show aw _ _ _ _ _ ⟨[(27, iv i), (6, .v td.v), (2, .v (.pointer (some ⟨b2, 0, none⟩))), (5, .v so.v), (25, edsA (outG g (v : Int))), (26, iv ((outG g (v : Int)).map edR).length)], .row so.v 1 4 (rwB (nG g) out') :: .row td.v 1 3 (r'.map natR) :: .box b2 24 (grR g) :: [], []⟩
    refine rn ?_
    refine aw_cond rfl (fun hc28 => ?_) (fun hc28 => ?_)
    · have hii : i < (outG g (v : Int)).length := by have q := of_decide_eq_true hc28; rw [List.length_map] at q; omega
      have hyt := out_in hok hii
      have hol := out_len31 g (v : Int)
      refine aw_skip ?_
      refine thn_n ?_
      refine aw_seq ?_
      refine aw_block ?_
      refine aw_seq (aw_region ?_)
      refine qq rfl rfl (qr_index_list (i := i) rfl rfl (edR_at hii)) ?_
      refine rn ?_
      refine aops_e rfl (oe_alloc rfl fun b9 => ?_)
      first | refine aops_e rfl (oe_store_all rfl rfl rfl ?_) | refine aops_e rfl (oe_store rfl rfl rfl rfl (Nat.le_of_ble_eq_true rfl) ?_)
      refine aops_nil (thn_n ?_)
      refine aw_seq (aw_region ?_)
      refine q1 ?_
      refine q1 ?_
      refine qq rfl rfl (qr_as (qr_load_one rfl rfl) (show iv _ = iv (((outG g (v : Int))[i].t.toNat : Nat) : Int) from congrArg iv hyt.1.symm)) ?_
      refine qq rfl rfl (qr_index_row (k := (outG g (v : Int))[i].t.toNat) rfl rfl (by rw [rwB_len]; exact hyt.2)) ?_
      refine qq rfl rfl (qr_load_rp_one rfl (rwB_at _ hyt.2) rfl) ?_
      refine rn ?_
      refine aw_cond rfl (fun hc36 => ?_) (fun hc36 => ?_)
      · have ho : out' (outG g (v : Int))[i].t.toNat = false := by simpa using hc36
        have hcu := cntF_upd hyt.2 ho
        refine aw_seq (aw_region ?_)
        refine q1 ?_
        refine q1 ?_
        refine qq rfl rfl (qr_as (qr_load_one rfl rfl) (show iv _ = iv (((outG g (v : Int))[i].t.toNat : Nat) : Int) from congrArg iv hyt.1.symm)) ?_
        refine qq rfl rfl (qr_index_row (k := (outG g (v : Int))[i].t.toNat) rfl rfl (by rw [rwB_len]; exact hyt.2)) ?_
        refine aops_e rfl (oe_store_rp (k := (outG g (v : Int))[i].t.toNat) rfl rfl rfl (rwB_at _ hyt.2) rfl (Nat.le_of_ble_eq_true rfl) ?_)
        rw [st1, rwB_upd]
        refine aops_nil (thn_n ?_)
        refine aw_region ?_
        refine q1 ?_
        refine q1 ?_
        refine qq rfl rfl (qr_as (qr_load_one rfl rfl) (show iv _ = iv (((outG g (v : Int))[i].t.toNat : Nat) : Int) from congrArg iv hyt.1.symm)) ?_
        refine qv rfl rfl (qv_buildSlice rfl rfl) ?_
        refine aops_e rfl (oe_append_row rfl rfl (by simp only [List.length_map, List.length_cons, List.length_nil]; omega) rfl (fun s27 => ?_) (fun r hr => by rw [List.mem_singleton.1 hr]; rfl))
        refine aops_slice s27 fun sv hsv => ?_
        subst hsv
        refine rn ?_
        first | exact ⟨hii, (updB out' _, r' ++ [_], sv), ⟨hm.mark (out_at hii) hyt.2, by simp only [List.length_append, List.length_cons, List.length_nil]; omega⟩, by rw [List.map_append]; exact eA⟩ | exact ⟨hii, (out', r', td), ⟨hm.skip (out_at hii) ho, hmu⟩, eA⟩
      · have ho : out' (outG g (v : Int))[i].t.toNat = true := by simpa using hc36
        refine rn ?_
        first | exact ⟨hii, (updB out' _, r' ++ [_], sv), ⟨hm.mark (out_at hii) hyt.2, by simp only [List.length_append, List.length_cons, List.length_nil]; omega⟩, by rw [List.map_append]; exact eA⟩ | exact ⟨hii, (out', r', td), ⟨hm.skip (out_at hii) ho, hmu⟩, eA⟩
    · have qi : i = (outG g (v : Int)).length := by have q := of_decide_eq_false hc28; rw [List.length_map] at q; omega
      rw [qi, ← out_alen] at hm
      refine rn ?_
      exact ⟨(out', r', td), ⟨hm.fin, by simp only; omega⟩, eA, by simp only; rw [List.length_cons]; omega⟩
  · have hl0 : l = [] := by cases l with | nil => rfl | cons v r => (exfalso; have q := of_decide_eq_false hc17; rw [List.length_map, List.length_cons] at q; omega)
    refine rn ?_
    subst hl0
    exact retq (.cons _ _ _ _ (.tmp _ _ rfl) .nil) (.trans vent_freeze (.drop [_, _] _ _)) ⟨rfl, by rw [lead_fin hi]⟩
end Go.Proofs
/- The walks of the reference 06's All, Sets. Conditions: none. -/
set_option linter.unusedVariables false
set_option linter.unusedSimpArgs false
set_option maxRecDepth 10000
namespace Go.Proofs
open Go Go.Ab
attribute [local irreducible] QR QV OE aops aw dsoup dsoupM dalloc dallocM thn inBlk jsoup jch lsoup
open Go.H
noncomputable def ldR (g : Gr) : List (List AV) := (List.range (nG g)).map fun v => [AV.list false 1 (rwB (nG g) (ldB (adjG g) v))]
theorem ldR_at {g : Gr} {v : Nat} (hv : v < nG g) : (ldR g)[v]? = some [AV.list false 1 (rwB (nG g) (ldB (adjG g) v))] := by unfold ldR; simp [hv]
noncomputable def ldRK (g : Gr) (k : Nat) : List (List AV) := (List.range k).map fun v => [AV.list false 1 (rwB (nG g) (ldB (adjG g) v))]
theorem ldRK_s (g : Gr) (k : Nat) : ldRK g (k + 1) = ldRK g k ++ [[AV.list false 1 (rwB (nG g) (ldB (adjG g) k))]] := by unfold ldRK; rw [List.range_succ, List.map_append]; rfl
theorem ldRK_len (g : Gr) (k : Nat) : (ldRK g k).length = k := by unfold ldRK; simp
noncomputable def togK (g : Gr) (k j : Nat) : List Nat := (List.range j).filter (togB (adjG g) k)
noncomputable def lstK (g : Gr) (k j : Nat) : Bool := (togK g k j).all fun w => decide (k ≤ w)
theorem togK_y {g : Gr} {k j : Nat} (h : togB (adjG g) k j = true) : togK g k (j + 1) = togK g k j ++ [j] := by unfold togK; rw [List.range_succ, List.filter_append, List.filter_cons_of_pos h]; rfl
theorem togK_n {g : Gr} {k j : Nat} (h : togB (adjG g) k j = false) : togK g k (j + 1) = togK g k j := by unfold togK; rw [List.range_succ, List.filter_append, List.filter_cons_of_neg (by rw [h]; decide)]; simp
theorem lstK_y {g : Gr} {k j : Nat} (h : togB (adjG g) k j = true) : lstK g k (j + 1) = (lstK g k j && decide (k ≤ j)) := by unfold lstK; rw [togK_y h, List.all_append]; simp
theorem lstK_n {g : Gr} {k j : Nat} (h : togB (adjG g) k j = false) : lstK g k (j + 1) = lstK g k j := by unfold lstK; rw [togK_n h]
theorem togK_len (g : Gr) (k j : Nat) : (togK g k j).length ≤ j := Nat.le_trans (List.length_filter_le _ _) (by simp)
theorem togK_set (g : Gr) (k : Nat) : togK g k (nG g) = setN (nG g) (adjG g) k := rfl
theorem lstK_set (g : Gr) (k : Nat) : lstK g k (nG g) = leastV (nG g) (adjG g) k := rfl
noncomputable def setK (g : Gr) (k : Nat) : List (List AV) := ((setsK (nG g) (adjG g) k).map rowI).map lisR
theorem setK_y {g : Gr} {k : Nat} (h : leastV (nG g) (adjG g) k = true) : setK g (k + 1) = setK g k ++ [[intsA (rowI (setN (nG g) (adjG g) k))]] := by unfold setK; rw [setsK_s, if_pos h, List.map_append, List.map_append]; rfl
theorem setK_n {g : Gr} {k : Nat} (h : leastV (nG g) (adjG g) k = false) : setK g (k + 1) = setK g k := by unfold setK; rw [setsK_s, if_neg (by rw [h]; decide), List.append_nil]
theorem setK_len (g : Gr) (k : Nat) : (setK g k).length ≤ k := by unfold setK setsK; rw [List.length_map, List.length_map, List.length_map]; exact Nat.le_trans (List.length_filter_le _ _) (by simp)
noncomputable def setsA (g : Gr) : AV := .list false 1 (((setsG g).map rowI).map lisR)
set_option maxHeartbeats 1000000 in
theorem refAll6 (g : Gr) (hok : GOk g) : ACall Tryz.prog 39 [.agg (grR g)] [] (fun r h' => h' = [] ∧ r = .list false 1 (ldR g)) := by
  refine acall_of_aw Tryz.func39 rfl rfl rfl ?_
  have hn0 := hok.n0
  have hn1 := hok.n1
  have hmany := hok.many
  have hng : nG g ≤ 300 := by unfold nG; omega
  have hnn : ((nG g : Nat) : Int) = g.n := by unfold nG; omega
  refine rn ?_
  refine aops_e rfl (oe_box rfl rfl rfl fun b1 => ?_)
  refine q1 ?_
  refine aops_nil (thn_n ?_)
  refine aw_seq (aw_region ?_)
  refine q1 ?_
  refine aops_nil (thn_n ?_)
  refine aw_seq ?_
  refine aw_seq (aw_region ?_)
  refine q1 ?_
  refine qq rfl rfl (qr_as (qr_load_one rfl rfl) (show iv _ = iv ((nG g : Nat) : Int) from congrArg iv hnn.symm)) ?_
  refine rn ?_
  refine aw_rng1 (nG g) (fun k s => ⟨[(7, iv k), (3, .v s.v), (1, .v (.pointer (some ⟨b1, 0, none⟩))), (6, iv (nG g : Nat))], .row s.v 1 72 (ldRK g k) :: .box b1 24 (grR g) :: [], []⟩) ⟨none, 0, 0⟩ (ent_trans (ent_nilrow 1 72) es) ?_
  intro k s lk
  refine rn ?_
  refine aw_cond rfl (fun hc8 => ?_) (fun hc8 => ?_)
  · have hkk : k < nG g := by have q := of_decide_eq_true hc8; omega
    refine rn ?_
    refine qv rfl rfl (qv_call rfl rfl (FCall.pure (R := fun x => x = .list false 1 (rwB (nG g) (ldB (adjG g) k))) (FCall.of_fun (refLeads g hok k hkk)))) ?_
    refine qv rfl rfl (qv_buildSlice rfl rfl) ?_
    refine aops_e rfl (oe_append_row rfl rfl (by rw [ldRK_len]; simp only [List.length_cons, List.length_nil]; omega) rfl (fun s27 => ?_) (fun r hr => by rw [List.mem_singleton.1 hr]; rfl))
    refine aops_slice s27 fun sv hsv => ?_
    subst hsv
    refine rn ?_
    exact ⟨hkk, sv, by rw [ldRK_s]; exact eA⟩
  · have qk : k = nG g := by have q := of_decide_eq_false hc8; omega
    refine rn ?_
    exact retq (.cons _ _ _ _ (.tmp _ _ rfl) .nil) (.trans vent_freeze (.drop [_] _ _)) ⟨rfl, by rw [qk]; rfl⟩
set_option maxHeartbeats 4000000 in
theorem refSets6 (g : Gr) (hok : GOk g) : ACall Tryz.prog 13 [.agg (grR g)] [] (fun r h' => h' = [] ∧ r = setsA g) := by
  refine acall_of_aw Tryz.func13 rfl rfl rfl ?_
  have hn0 := hok.n0
  have hn1 := hok.n1
  have hmany := hok.many
  have hng : nG g ≤ 300 := by unfold nG; omega
  have hnn : ((nG g : Nat) : Int) = g.n := by unfold nG; omega
  refine rn ?_
  refine aops_e rfl (oe_box rfl rfl rfl fun b1 => ?_)
  refine rn ?_
  refine qv rfl rfl (qv_call rfl rfl (pcall (refAll6 g hok) (Sbs.refl _))) ?_
  refine q1 ?_
  refine aops_nil (thn_n ?_)
  refine aw_seq ?_
  refine aw_seq (aw_region ?_)
  refine q1 ?_
  refine qq rfl rfl (qr_as (qr_load_one rfl rfl) (show iv _ = iv ((nG g : Nat) : Int) from congrArg iv hnn.symm)) ?_
  refine rn ?_
  refine aw_rng1 (nG g) (fun k s => ⟨[(13, iv k), (3, .v s.v), (1, .v (.pointer (some ⟨b1, 0, none⟩))), (4, .list false 1 (ldR g)), (12, iv (nG g : Nat))], .row s.v 1 27 (setK g k) :: .box b1 24 (grR g) :: [], []⟩) ⟨none, 0, 0⟩ (ent_trans (ent_nilrow 1 27) es) ?_
  intro k s lk
  refine rn ?_
  refine aw_cond rfl (fun hc14 => ?_) (fun hc14 => ?_)
  · have hkk : k < nG g := by have q := of_decide_eq_true hc14; omega
    refine aw_skip ?_
    refine thn_n ?_
    refine aw_seq ?_
    refine aw_block ?_
    refine aw_seq (aw_region ?_)
    refine q1 ?_
    refine q1 ?_
    refine aops_nil (thn_n ?_)
    refine aw_seq (aw_region ?_)
    refine q1 ?_
    refine aops_nil (thn_n ?_)
    refine aw_seq (aw_region ?_)
    refine q1 ?_
    refine aops_nil (thn_n ?_)
    refine aw_seq ?_
    refine aw_seq (aw_region ?_)
    refine q1 ?_
    refine qq rfl rfl (qr_as (qr_load_one rfl rfl) (show iv _ = iv ((nG g : Nat) : Int) from congrArg iv hnn.symm)) ?_
    refine rn ?_
    refine aw_rng1 (nG g) (fun j t => ⟨[(18, iv j), (6, .v t.v), (7, bv (lstK g k j)), (1, .v (.pointer (some ⟨b1, 0, none⟩))), (3, .v s.v), (4, .list false 1 (ldR g)), (5, iv k), (12, iv (nG g : Nat)), (13, iv k), (17, iv (nG g : Nat))], .row t.v 1 3 ((togK g k j).map natR) :: .row s.v 1 27 (setK g k) :: .box b1 24 (grR g) :: [], []⟩) ⟨none, 0, 0⟩ (ent_trans (ent_nilrow 1 3) es) ?_
    intro j t lj
    refine rn ?_
    refine aw_cond rfl (fun hc19 => ?_) (fun hc19 => ?_)
    · have hkj : j < nG g := by have q := of_decide_eq_true hc19; omega
      refine rn ?_
      refine asplit (fun hg11_3 => ?_) (fun hg11_3 => ?_)
      · refine rn ?_
        refine aw_ct rfl ?_
        have htg : togB (adjG g) k j = true := by unfold togB; first | (simp_all; done) | (simp_all; omega)
        have htl := togK_len g k j
        refine rn ?_
        refine qv rfl rfl (qv_buildSlice rfl rfl) ?_
        refine aops_e rfl (oe_append_row rfl rfl (by simp only [List.length_map, List.length_append, List.length_cons, List.length_nil]; omega) rfl (fun s27 => ?_) (fun r hr => by rw [List.mem_singleton.1 hr]; rfl))
        refine aops_slice s27 fun tv hsv => ?_
        subst hsv
        refine rn ?_
        refine asplit (fun hg13_1 => ?_) (fun hg13_1 => ?_)
        · refine q1 ?_
          refine q1 ?_
          refine q1 ?_
          refine q1 ?_
          refine qq rfl rfl (qr_as (qr_assign rfl) (show _ = bv (lstK g k (j + 1)) from by rw [lstK_y htg]; first | (simp_all; done) | (simp_all; omega))) ?_
          refine rn ?_
          first | exact ⟨hkj, tv, by rw [togK_y htg, List.map_append]; exact eA⟩ | exact ⟨hkj, t, by rw [togK_n htg, lstK_n htg]; exact eA⟩
        · refine qs rfl rfl ?_
          refine qs rfl rfl ?_
          refine qs rfl rfl ?_
          refine q1 ?_
          refine qq rfl rfl (qr_as (qr_assign rfl) (show _ = bv (lstK g k (j + 1)) from by rw [lstK_y htg]; first | (simp_all; done) | (simp_all; omega))) ?_
          refine rn ?_
          first | exact ⟨hkj, tv, by rw [togK_y htg, List.map_append]; exact eA⟩ | exact ⟨hkj, t, by rw [togK_n htg, lstK_n htg]; exact eA⟩
      · refine q1 ?_
        refine q1 ?_
        refine qq rfl rfl (qr_index_list (i := k) rfl rfl (ldR_at hkk)) ?_
        refine q1 ?_
        refine q1 ?_
        refine qq rfl rfl (qr_index_list (i := j) rfl rfl (rwB_at _ hkj)) ?_
        refine rn ?_
        refine asplit (fun hg11_11 => ?_) (fun hg11_11 => ?_)
        · refine q1 ?_
          refine q1 ?_
          refine qq rfl rfl (qr_index_list (i := j) rfl rfl (ldR_at hkj)) ?_
          refine q1 ?_
          refine q1 ?_
          refine qq rfl rfl (qr_index_list (i := k) rfl rfl (rwB_at _ hkk)) ?_
          refine rn ?_
          refine aw_cond rfl (fun hc41 => ?_) (fun hc41 => ?_)
          · have htg : togB (adjG g) k j = true := by unfold togB; first | (simp_all; done) | (simp_all; omega)
            have htl := togK_len g k j
            refine rn ?_
            refine qv rfl rfl (qv_buildSlice rfl rfl) ?_
            refine aops_e rfl (oe_append_row rfl rfl (by simp only [List.length_map, List.length_append, List.length_cons, List.length_nil]; omega) rfl (fun s27 => ?_) (fun r hr => by rw [List.mem_singleton.1 hr]; rfl))
            refine aops_slice s27 fun tv hsv => ?_
            subst hsv
            refine rn ?_
            refine asplit (fun hg13_1 => ?_) (fun hg13_1 => ?_)
            · refine q1 ?_
              refine q1 ?_
              refine q1 ?_
              refine q1 ?_
              refine qq rfl rfl (qr_as (qr_assign rfl) (show _ = bv (lstK g k (j + 1)) from by rw [lstK_y htg]; first | (simp_all; done) | (simp_all; omega))) ?_
              refine rn ?_
              first | exact ⟨hkj, tv, by rw [togK_y htg, List.map_append]; exact eA⟩ | exact ⟨hkj, t, by rw [togK_n htg, lstK_n htg]; exact eA⟩
            · refine qs rfl rfl ?_
              refine qs rfl rfl ?_
              refine qs rfl rfl ?_
              refine q1 ?_
              refine qq rfl rfl (qr_as (qr_assign rfl) (show _ = bv (lstK g k (j + 1)) from by rw [lstK_y htg]; first | (simp_all; done) | (simp_all; omega))) ?_
              refine rn ?_
              first | exact ⟨hkj, tv, by rw [togK_y htg, List.map_append]; exact eA⟩ | exact ⟨hkj, t, by rw [togK_n htg, lstK_n htg]; exact eA⟩
          · have htg : togB (adjG g) k j = false := by unfold togB; first | (simp_all; done) | (simp_all; omega)
            refine rn ?_
            first | exact ⟨hkj, tv, by rw [togK_y htg, List.map_append]; exact eA⟩ | exact ⟨hkj, t, by rw [togK_n htg, lstK_n htg]; exact eA⟩
        · refine rn ?_
          refine aw_cf rfl ?_
          have htg : togB (adjG g) k j = false := by unfold togB; first | (simp_all; done) | (simp_all; omega)
          refine rn ?_
          first | exact ⟨hkj, tv, by rw [togK_y htg, List.map_append]; exact eA⟩ | exact ⟨hkj, t, by rw [togK_n htg, lstK_n htg]; exact eA⟩
    · have qj : j = nG g := by have q := of_decide_eq_false hc19; omega
      refine rn ?_
      refine aw_cond rfl (fun hc53 => ?_) (fun hc53 => ?_)
      · have hlv : leastV (nG g) (adjG g) k = true := by rw [← lstK_set, ← qj]; simpa using hc53
        have hsl := setK_len g k
        rw [qj, togK_set, natR_I]
        refine aw_ent (s' := ⟨[(6, intsA (rowI (setN (nG g) (adjG g) k))), (1, .v (.pointer (some ⟨b1, 0, none⟩))), (3, .v s.v), (4, .list false 1 (ldR g)), (12, iv (nG g : Nat)), (13, iv k)], .row s.v 1 27 (setK g k) :: .box b1 24 (grR g) :: [], []⟩) (by exact ent_freeze (by repeat (first | exact .nil | refine .row _ _ rfl ?_ | refine .cons _ _ _ rfl ?_))) ?_
        refine rn ?_
        refine qv rfl rfl (qv_buildSlice rfl rfl) ?_
        refine aops_e rfl (oe_append_row rfl rfl (by simp only [List.length_cons, List.length_nil]; omega) rfl (fun s27 => ?_) (fun r hr => by rw [List.mem_singleton.1 hr]; rfl))
        refine aops_slice s27 fun sv hsv => ?_
        subst hsv
        refine rn ?_
        first | exact ⟨hkk, sv, by rw [setK_y hlv]; exact eA⟩ | exact ⟨hkk, s, by rw [setK_n hlv]; exact ent_trans (ent_drop (h1 := [_])) es⟩
      · have hlv : leastV (nG g) (adjG g) k = false := by rw [← lstK_set, ← qj]; simpa using hc53
        refine rn ?_
        first | exact ⟨hkk, sv, by rw [setK_y hlv]; exact eA⟩ | exact ⟨hkk, s, by rw [setK_n hlv]; exact ent_trans (ent_drop (h1 := [_])) es⟩
  · have qk : k = nG g := by have q := of_decide_eq_false hc14; omega
    refine rn ?_
    exact retq (.cons _ _ _ _ (.tmp _ _ rfl) .nil) (.trans vent_freeze (.drop [_] _ _)) ⟨rfl, by rw [qk]; rfl⟩
end Go.Proofs
/- The walks of the reference 06's Of, Round, Inner, Fold. Conditions: none. -/
set_option linter.unusedVariables false
set_option linter.unusedSimpArgs false
set_option maxRecDepth 10000
namespace Go.Proofs
open Go Go.Ab
attribute [local irreducible] QR QV OE aops aw dsoup dsoupM dalloc dallocM thn inBlk jsoup jch lsoup
open Go.H
theorem in_y {g : Gr} {k : Nat} (hk : k < g.es.length) (h : ofG g g.es[k].f.toNat = ofG g g.es[k].t.toNat) : (g.es.take (k + 1)).filter (inP g) = (g.es.take k).filter (inP g) ++ [g.es[k]] := fk_y hk (by unfold inP; rw [h]; simp)
theorem in_n {g : Gr} {k : Nat} (hk : k < g.es.length) (h : ofG g g.es[k].f.toNat ≠ ofG g g.es[k].t.toNat) : (g.es.take (k + 1)).filter (inP g) = (g.es.take k).filter (inP g) := fk_n hk (by unfold inP; simpa using h)
set_option maxHeartbeats 4000000 in
theorem refOf6 (g : Gr) (hok : GOk g) : ACall Tryz.prog 12 [.agg (grR g)] [] (fun r h' => h' = [] ∧ r = intsA (rowI (ofGL g))) := by
  refine acall_of_aw Tryz.func12 rfl rfl rfl ?_
  have hn0 := hok.n0
  have hn1 := hok.n1
  have hmany := hok.many
  have hng : nG g ≤ 300 := by unfold nG; omega
  have hnn : ((nG g : Nat) : Int) = g.n := by unfold nG; omega
  have hsl := sets_le g
  refine rn ?_
  refine aops_e rfl (oe_box rfl rfl rfl fun b1 => ?_)
  refine q1 ?_
  refine aops_nil (thn_n ?_)
  refine aw_seq (aw_region ?_)
  refine q1 ?_
  refine qq rfl rfl (qr_as (qr_load_one rfl rfl) (show iv _ = iv ((nG g : Nat) : Int) from congrArg iv hnn.symm)) ?_
  refine aops_e rfl (oe_makeSlice rfl rfl rfl (by omega) (hk := fun bm => ?_))
  refine aops_slice (.slice (some ⟨bm, 0, none⟩) (nG g) (nG g)) fun so hso => ?_
  rw [hso]
  clear hso
  rw [rwI_zero, ← ofGK_0 g]
  refine rn ?_
  refine qv rfl rfl (qv_call rfl rfl (FCall.pure (R := fun x => x = setsA g) (FCall.of_fun (refSets6 g hok)))) ?_
  refine rn ?_
  refine aw_range (setsG g).length (fun _ => True) (fun k => ⟨[(14, iv k), (3, .v so.v), (12, setsA g), (13, iv (((setsG g).map rowI).map lisR).length)], .row so.v 1 3 (rwI (nG g) (ofGK g (((setsG g).take k).flatten))) :: .box b1 24 (grR g) :: [], []⟩) trivial es ?_
  intro k lk _
  refine rn ?_
  refine aw_cond rfl (fun hc15 => ?_) (fun hc15 => ?_)
  · have hk : k < (setsG g).length := by have q := of_decide_eq_true hc15; rw [setsR_len] at q; omega
    have hCl := set_le (List.getElem_mem hk)
    refine aw_skip ?_
    refine thn_n ?_
    refine aw_seq ?_
    refine aw_block ?_
    refine aw_seq (aw_region ?_)
    refine q1 ?_
    refine qq rfl rfl (qr_index_list (i := k) rfl rfl (sets_row hk)) ?_
    refine rn ?_
    rw [show ((setsG g).take k).flatten = ((setsG g).take k).flatten ++ (setsG g)[k].take 0 by rw [List.take_zero, List.append_nil]]
    refine aw_range (setsG g)[k].length (fun _ => True) (fun j => ⟨[(21, iv j), (3, .v so.v), (4, iv k), (12, setsA g), (13, iv (((setsG g).map rowI).map lisR).length), (14, iv k), (19, intsA (rowI (setsG g)[k])), (20, iv ((rowI (setsG g)[k]).map intR).length)], .row so.v 1 3 (rwI (nG g) (ofGK g (((setsG g).take k).flatten ++ (setsG g)[k].take j))) :: .box b1 24 (grR g) :: [], []⟩) trivial es ?_
    intro j lj _
    refine rn ?_
    refine aw_cond rfl (fun hc22 => ?_) (fun hc22 => ?_)
    · have hj : j < (setsG g)[k].length := by have q := of_decide_eq_true hc22; rw [rowI_len] at q; omega
      have hvn : (setsG g)[k][j] < nG g := set_in (List.getElem_mem hk) (List.getElem_mem hj)
      refine aw_skip ?_
      refine thn_n ?_
      refine aw_seq ?_
      refine aw_block ?_
      refine aw_seq (aw_region ?_)
      refine qq rfl rfl (qr_index_list (i := j) rfl rfl (rowI_at hj)) ?_
      refine q1 ?_
      refine q1 ?_
      refine aops_nil (thn_n ?_)
      refine aw_region ?_
      refine q1 ?_
      refine q1 ?_
      refine q1 ?_
      refine qq rfl rfl (qr_index_row (k := (setsG g)[k][j]) rfl rfl (by rw [rwI_len]; exact hvn)) ?_
      refine aops_e rfl (oe_store_rp (k := (setsG g)[k][j]) rfl rfl rfl (rwI_at _ hvn) rfl (Nat.le_of_ble_eq_true rfl) ?_)
      rw [st1, rwI_set, ofGK_s hk hj]
      refine rn ?_
      exact ⟨hj, trivial, by rw [List.take_succ_eq_append_getElem hj, ← List.append_assoc]; exact eA⟩
    · have qj : j = (setsG g)[k].length := by have q := of_decide_eq_false hc22; rw [rowI_len] at q; omega
      refine rn ?_
      exact ⟨hk, trivial, by rw [List.take_succ_eq_append_getElem hk, List.flatten_append, List.flatten_singleton]; rw [qj, List.take_length] at *; exact eA⟩
  · have qk : k = (setsG g).length := by have q := of_decide_eq_false hc15; rw [setsR_len] at q; omega
    refine rn ?_
    exact retq (.cons _ _ _ _ (.tmp _ _ rfl) .nil) (.trans vent_freeze (.drop [_] _ _)) ⟨rfl, by rw [qk, List.take_length, ofGK_all]; rfl⟩
set_option maxHeartbeats 1000000 in
theorem refInner6 (g : Gr) (hok : GOk g) : ACall Tryz.prog 22 [.agg (grR g)] [] (fun r h' => h' = [] ∧ r = .agg (grR (innerG g))) := by
  refine acall_of_aw Tryz.func22 rfl rfl rfl ?_
  have hn0 := hok.n0
  have hn1 := hok.n1
  have hmany := hok.many
  have hng : nG g ≤ 300 := by unfold nG; omega
  have hnn : ((nG g : Nat) : Int) = g.n := by unfold nG; omega
  refine rn ?_
  refine aops_e rfl (oe_box rfl rfl rfl fun b1 => ?_)
  refine aops_e rfl (oe_alloc rfl fun b2 => ?_)
  refine rn ?_
  refine qv rfl rfl (qv_call rfl rfl (pcall (refOf6 g hok) (Sbs.refl _))) ?_
  refine rn ?_
  refine aops_e rfl (oe_alloc rfl fun b4 => ?_)
  refine rn ?_
  refine aw_rng1 g.es.length (fun k s => ⟨[(15, iv k), (2, .v (.pointer (some ⟨b2, 0, none⟩))), (3, intsA (rowI (ofGL g))), (4, .v (.pointer (some ⟨b4, 0, none⟩))), (13, edsA g.es), (14, iv (g.es.map edR).length)], .box b4 24 [iv g.n, .v s.v] :: .row s.v 3 53 (((g.es.take k).filter (inP g)).map edR) :: .box b2 24 [iv 0, .v (.slice none 0 0)] :: .box b1 24 (grR g) :: [], []⟩) ⟨none, 0, 0⟩ (ent_trans (ent_nilrow 3 53) (ent_trans (ent_perm (pt1 _ _ _)) es)) ?_
  intro k s lk
  refine rn ?_
  refine aw_cond rfl (fun hc16 => ?_) (fun hc16 => ?_)
  · have hk : k < g.es.length := by have q := of_decide_eq_true hc16; rw [List.length_map] at q; omega
    obtain ⟨hfn, htn, hf, ht, _⟩ := ed_nat hok (List.getElem_mem hk)
    refine aw_skip ?_
    refine thn_n ?_
    refine aw_seq ?_
    refine aw_block ?_
    refine aw_seq (aw_region ?_)
    refine qq rfl rfl (qr_index_list (i := k) rfl rfl (edR_at hk)) ?_
    refine rn ?_
    refine aops_e rfl (oe_alloc rfl fun b6 => ?_)
    refine rn ?_
    refine aw_draw 10 rfl ?_
    refine dq rfl rfl qrA ?_
    refine dq rfl rfl qrA ?_
    refine dq rfl rfl (qr_as (qr_load_one rfl rfl) (show iv _ = iv ((g.es[k].f.toNat : Nat) : Int) from congrArg iv hf.symm)) ?_
    refine dq rfl rfl (qr_index_list (i := g.es[k].f.toNat) rfl rfl (ofGL_at hfn)) ?_
    refine dq rfl rfl qrA ?_
    refine dq rfl rfl qrA ?_
    refine dq rfl rfl qrA ?_
    refine dq rfl rfl (qr_as (qr_load_one rfl rfl) (show iv _ = iv ((g.es[k].t.toNat : Nat) : Int) from congrArg iv ht.symm)) ?_
    refine dq rfl rfl (qr_index_list (i := g.es[k].t.toNat) rfl rfl (ofGL_at htn)) ?_
    refine rn ?_
    refine aw_cond rfl (fun hc29 => ?_) (fun hc29 => ?_)
    · have hne : ofG g g.es[k].f.toNat = ofG g g.es[k].t.toNat := by have q := hc29; simp at q; omega
      have hkl : ((g.es.take k).filter (inP g)).length ≤ k := Nat.le_trans (List.length_filter_le _ _) (by rw [List.length_take]; exact Nat.min_le_left _ _)
      refine rn ?_
      refine qv rfl rfl (qv_buildSlice rfl rfl) ?_
      refine aops_e rfl (oe_append_row rfl rfl (by simp only [List.length_map, List.length_append, List.length_cons, List.length_nil]; omega) rfl (fun s27 => ?_) (fun r hr => by rw [List.mem_singleton.1 hr]; rfl))
      refine aops_slice s27 fun sv hsv => ?_
      subst hsv
      refine rn ?_
      first | exact ⟨hk, sv, by rw [in_y hk hne, List.map_append]; exact eA⟩ | exact ⟨hk, s, by rw [in_n hk hne]; exact eA⟩
    · have hne : ofG g g.es[k].f.toNat ≠ ofG g g.es[k].t.toNat := by have q := hc29; simp at q; omega
      refine rn ?_
      first | exact ⟨hk, sv, by rw [in_y hk hne, List.map_append]; exact eA⟩ | exact ⟨hk, s, by rw [in_n hk hne]; exact eA⟩
  · have qk : k = g.es.length := by have q := of_decide_eq_false hc16; rw [List.length_map] at q; omega
    refine rn ?_
    exact retq (.cons _ _ _ _ (.agg _ _ _ _ _ _ _ rfl inferInstance inferInstance inferInstance rfl) .nil) (.trans (.perm (pt1 _ _ _) _) (.trans (vent_freeze_cell [_] []) (.drop [_, _, _] _ _))) ⟨rfl, by rw [qk, List.take_length]; rfl⟩
set_option maxHeartbeats 4000000 in
theorem refFold6 (g : Gr) (hok : GOk g) : ACall Tryz.prog 23 [.agg (grR g)] [] (fun r h' => h' = [] ∧ r = .agg (grR (foldG g))) := by
  refine acall_of_aw Tryz.func23 rfl rfl rfl ?_
  have hn0 := hok.n0
  have hn1 := hok.n1
  have hmany := hok.many
  have hng : nG g ≤ 300 := by unfold nG; omega
  have hnn : ((nG g : Nat) : Int) = g.n := by unfold nG; omega
  refine rn ?_
  refine aops_e rfl (oe_box rfl rfl rfl fun b1 => ?_)
  refine aops_e rfl (oe_alloc rfl fun b2 => ?_)
  refine rn ?_
  refine qv rfl rfl (qv_call rfl rfl (pcall (refOf6 g hok) (Sbs.refl _))) ?_
  refine rn ?_
  refine aw_rng1 g.es.length (fun k s => ⟨[(12, iv k), (4, .v s.v), (1, .v (.pointer (some ⟨b1, 0, none⟩))), (2, .v (.pointer (some ⟨b2, 0, none⟩))), (3, intsA (rowI (ofGL g))), (10, edsA g.es), (11, iv (g.es.map edR).length)], .row s.v 3 53 (((g.es.take k).filterMap (foldQ g)).map edR) :: .box b2 24 [iv 0, .v (.slice none 0 0)] :: .box b1 24 (grR g) :: [], []⟩) ⟨none, 0, 0⟩ (ent_trans (ent_nilrow 3 53) es) ?_
  intro k s lk
  refine rn ?_
  refine aw_cond rfl (fun hc13 => ?_) (fun hc13 => ?_)
  · have hk : k < g.es.length := by have q := of_decide_eq_true hc13; rw [List.length_map] at q; omega
    obtain ⟨hfn, htn, hf, ht, _⟩ := ed_nat hok (List.getElem_mem hk)
    refine aw_skip ?_
    refine thn_n ?_
    refine aw_seq ?_
    refine aw_block ?_
    refine aw_seq (aw_region ?_)
    refine qq rfl rfl (qr_index_list (i := k) rfl rfl (edR_at hk)) ?_
    refine rn ?_
    refine aops_e rfl (oe_alloc rfl fun b6 => ?_)
    refine rn ?_
    refine aw_draw 10 rfl ?_
    refine dq rfl rfl qrA ?_
    refine dq rfl rfl qrA ?_
    refine dq rfl rfl (qr_as (qr_load_one rfl rfl) (show iv _ = iv ((g.es[k].f.toNat : Nat) : Int) from congrArg iv hf.symm)) ?_
    refine dq rfl rfl (qr_index_list (i := g.es[k].f.toNat) rfl rfl (ofGL_at hfn)) ?_
    refine dq rfl rfl qrA ?_
    refine dq rfl rfl qrA ?_
    refine dq rfl rfl qrA ?_
    refine dq rfl rfl (qr_as (qr_load_one rfl rfl) (show iv _ = iv ((g.es[k].t.toNat : Nat) : Int) from congrArg iv ht.symm)) ?_
    refine dq rfl rfl (qr_index_list (i := g.es[k].t.toNat) rfl rfl (ofGL_at htn)) ?_
    refine rn ?_
    refine aw_cond rfl (fun hc26 => ?_) (fun hc26 => ?_)
    · have hne : ofG g g.es[k].f.toNat ≠ ofG g g.es[k].t.toNat := by have q := hc26; simp at q; omega
      have hkl : ((g.es.take k).filterMap (foldQ g)).length ≤ k := Nat.le_trans (List.length_filterMap_le _ _) (by rw [List.length_take]; exact Nat.min_le_left _ _)
      refine aw_draw 15 rfl ?_
      refine dq rfl rfl qrA ?_
      refine dq rfl rfl qrA ?_
      refine dq rfl rfl qrA ?_
      refine dq rfl rfl (qr_as (qr_load_one rfl rfl) (show iv _ = iv ((g.es[k].f.toNat : Nat) : Int) from congrArg iv hf.symm)) ?_
      refine dq rfl rfl (qr_index_list (i := g.es[k].f.toNat) rfl rfl (ofGL_at hfn)) ?_
      refine dq rfl rfl qrA ?_
      refine dq rfl rfl qrA ?_
      refine dq rfl rfl qrA ?_
      refine dq rfl rfl (qr_as (qr_load_one rfl rfl) (show iv _ = iv ((g.es[k].t.toNat : Nat) : Int) from congrArg iv ht.symm)) ?_
      refine dq rfl rfl (qr_index_list (i := g.es[k].t.toNat) rfl rfl (ofGL_at htn)) ?_
      refine rn ?_
      refine dv rfl rfl (qv_buildSlice rfl rfl) ?_
      refine rn ?_
      refine aops_e rfl (oe_append_row rfl rfl (by simp only [List.length_map, List.length_append, List.length_cons, List.length_nil]; omega) rfl (fun s27 => ?_) (fun r hr => by rw [List.mem_singleton.1 hr]; rfl))
      refine aops_slice s27 fun sv hsv => ?_
      subst hsv
      refine rn ?_
      first | exact ⟨hk, sv, by rw [foldK_y hk hne, List.map_append]; exact eA⟩ | exact ⟨hk, s, by rw [foldK_n hk hne]; exact eA⟩
    · have hne : ofG g g.es[k].f.toNat = ofG g g.es[k].t.toNat := by have q := hc26; simp at q; omega
      refine rn ?_
      first | exact ⟨hk, sv, by rw [foldK_y hk hne, List.map_append]; exact eA⟩ | exact ⟨hk, s, by rw [foldK_n hk hne]; exact eA⟩
  · have qk : k = g.es.length := by have q := of_decide_eq_false hc13; rw [List.length_map] at q; omega
    refine aw_exit ?_
    refine rn0 ?_
    refine aw_seq ?_
    rw [qk, List.take_length]
    have hl0 := foldEs_len g
    refine aw_ent (s' := ⟨[(4, edsA (foldEs g)), (1, .v (.pointer (some ⟨b1, 0, none⟩))), (2, .v (.pointer (some ⟨b2, 0, none⟩)))], .box b2 24 [iv 0, .v (.slice none 0 0)] :: .box b1 24 (grR g) :: [], []⟩) (by exact ent_freeze (by repeat (first | exact .nil | refine .row _ _ rfl ?_ | refine .cons _ _ _ rfl ?_))) ?_
    refine rn ?_
    refine qv rfl rfl (qv_call rfl rfl (FCall.pure (R := fun x => x = setsA g) (FCall.of_fun (refSets6 g hok)))) ?_
    refine qq rfl rfl (qr_as (qr_len_list rfl) (show iv _ = iv (((setsG g).length : Nat) : Int) from congrArg iv (by rw [setsR_len]))) ?_
    refine rn ?_
    refine qv rfl rfl (qv_call rfl rfl (FCall.pure (R := fun x => x = .agg (grR ⟨((setsG g).length : Nat), ofE (foldEs g)⟩)) (FCall.of_fun (refOfG ((setsG g).length : Nat) (foldEs g) (by omega))))) ?_
    refine rn ?_
    exact retq (.cons _ _ _ _ (.agg _ _ _ _ _ _ _ rfl inferInstance inferInstance inferInstance rfl) .nil) (.drop [_, _] _ _) ⟨rfl, rfl⟩
end Go.Proofs
/- The walks of the reference 04's Has, Of. Conditions: none. -/
set_option linter.unusedVariables false
set_option linter.unusedSimpArgs false
set_option maxRecDepth 10000
namespace Go.Proofs
open Go Go.Ab
attribute [local irreducible] QR QV OE aops aw dsoup dsoupM dalloc dallocM thn inBlk jsoup jch lsoup
open Go.H
end Go.Proofs
/- The walks of the reference 04's Same, of law 06's equal, own. Conditions: none. -/
set_option linter.unusedVariables false
set_option linter.unusedSimpArgs false
set_option maxRecDepth 10000
namespace Go.Proofs
open Go Go.Ab
attribute [local irreducible] QR QV OE aops aw dsoup dsoupM dalloc dallocM thn inBlk jsoup jch lsoup
open Go.H
theorem ed_take (l : List Ed) (n : Nat) : (l.map edR).take (min (l.map edR).length n) = (l.take n).map edR := by
  rw [List.length_map, List.map_take]
  by_cases h : l.length ≤ n
  · rw [Nat.min_eq_left h, List.take_of_length_le (by simp), List.take_of_length_le (by simpa using h)]
  · rw [Nat.min_eq_right (by omega)]
def ownG (n : Nat) (g : Gr) : Gr := ⟨g.n, g.es.take n⟩
theorem ownG_len (n : Nat) (g : Gr) : (ownG n g).es.length ≤ n := by unfold ownG; rw [List.length_take]; exact Nat.min_le_left _ _
theorem sm_cyc : decide (0 < cntW (wordsL (rndO smallG))) = true := by
  rw [rndO_y (chkE_0.2 small_ok), ← grp_words small_ok, small_words]; decide
theorem sm_of : ofO smallG = [0, 1, 1, 2] := by rw [ofO_y (chkE_0.2 small_ok), small_of]; rfl
theorem sm_fold : foldO smallG = ⟨3, [⟨0, 1, 0⟩, ⟨2, 0, 0⟩]⟩ := by rw [foldO_y (chkE_0.2 small_ok), small_fold]
theorem sm_chk : chkE smallG = 0 := chkE_0.2 small_ok
def negG : Gr := ⟨-1, []⟩
theorem neg_chk : chkE negG = 150 := by decide
theorem neg_of : ofO negG = [] := ofO_n (by rw [neg_chk]; decide)
theorem cloneEd {f : Bool} (rows : List (List AV)) (hl : rows.length ≤ 1099511627776) : ACall Tryz.prog 26 [.list f 3 rows] [] (fun r h' => h' = [] ∧ r = .list false 3 rows) := by
  refine acall_of_aw Tryz.func26 rfl rfl rfl ?_
  refine rn ?_
  refine aops_e rfl (oe_eqnil rfl rfl rfl fun b4 hb4 => ?_)
  refine rn ?_
  refine aw_cond rfl (fun hc4 => ?_) (fun hc4 => ?_)
  · refine rn ?_
    have h0 := hb4 hc4
    subst h0
    exact retq (.cons _ _ _ _ (.tmp _ _ rfl) .nil) (.le (Sb.nil _ _).le) ⟨rfl, rfl⟩
  · refine rn ?_
    refine qv rfl rfl (qv_buildSlice rfl rfl) ?_
    refine rn ?_
    refine qv rfl rfl (qv_append rfl rfl (by simpa using hl)) ?_
    refine rn ?_
    exact retq (.cons _ _ _ _ (.tmp _ _ rfl) .nil) (.refl _ _) ⟨rfl, by rw [List.nil_append]; rfl⟩
theorem lawOwn (g : Gr) (hb : g.es.length ≤ 4611686018427387904) : ACall Tryz.prog 6 [.agg (grR g)] [] (fun r h' => h' = [] ∧ r = .agg (grR (ownG 600 g))) := by
  refine acall_of_aw Tryz.func6 rfl rfl rfl ?_
  refine rn ?_
  refine aops_e rfl (oe_box rfl rfl rfl fun b1 => ?_)
  refine aops_e rfl (oe_alloc rfl fun b2 => ?_)
  refine rn ?_
  refine aw_draw 10 rfl ?_
  refine dq rfl rfl qrA ?_
  refine dq rfl rfl qrA ?_
  refine dq rfl rfl qrA ?_
  refine dq rfl rfl qrA ?_
  refine dq rfl rfl qrA ?_
  refine dq rfl rfl qrA ?_
  refine dq rfl rfl qrA ?_
  refine dq rfl rfl (qr_minN (g.es.map edR).length 600 rfl rfl) ?_
  refine dq rfl rfl (qr_slice_hE (rows' := (g.es.take 600).map edR) rfl rfl (Nat.min_le_left _ _) (ed_take g.es 600)) ?_
  refine dv rfl rfl (by exact qv_call rfl rfl (FCall.pure (R := fun x => x = edsA (g.es.take 600)) (FCall.of_fun (cloneEd ((g.es.take 600).map edR) (by rw [List.length_map, List.length_take]; omega))))) ?_
  refine rn ?_
  exact retq (.cons _ _ _ _ (.agg _ _ _ _ _ _ _ rfl inferInstance inferInstance inferInstance rfl) .nil) (.drop [_, _] _ _) ⟨rfl, rfl⟩
end Go.Proofs
/- The walks of law 06's small, wakes. Conditions: none. -/
set_option linter.unusedVariables false
set_option linter.unusedSimpArgs false
set_option maxRecDepth 10000
namespace Go.Proofs
open Go Go.Ab
attribute [local irreducible] QR QV OE aops aw dsoup dsoupM dalloc dallocM thn inBlk jsoup jch lsoup
open Go.H
theorem lawSmall  : ACall Tryz.prog 24 [] [] (fun r h' => h' = [] ∧ r = .agg (grR smallG)) := by
  refine acall_of_aw Tryz.func24 rfl rfl rfl ?_
  refine rn ?_
  refine aops_e rfl (oe_alloc rfl fun b0 => ?_)
  refine rn ?_
  refine qv rfl rfl (qv_buildSlice rfl rfl) ?_
  refine rn ?_
  exact retq (.cons _ _ _ _ (.agg _ _ _ _ _ _ _ rfl inferInstance inferInstance inferInstance rfl) .nil) (.trans (.drop [_] _ _) (.le (Sb.aggs (aS := [iv 4, .list true 3 (smallG.es.map edR)]) (bs := grR smallG) ⟨.refl _, Sb.lists (fun h => by cases h) (Sbr.refl _), trivial⟩).le)) ⟨rfl, rfl⟩
theorem wOf : ACall Tryz.prog 7 [.agg (grR smallG)] [] (fun r h' => h' = [] ∧ r = .tup [intsA [0, 1, 1, 2], iv 0]) := (scOf smallG (by decide)).mono fun _ _ q => ⟨q.1, by rw [q.2, sm_of, sm_chk]⟩
theorem wCyc : ACall Tryz.prog 9 [.agg (grR smallG)] [] (fun r h' => h' = [] ∧ r = .tup [bv true, iv 0]) := (scCyclic smallG (by decide)).mono fun _ _ q => ⟨q.1, by rw [q.2, sm_cyc, sm_chk]⟩
theorem wFold : ACall Tryz.prog 21 [.agg (grR smallG)] [] (fun r h' => h' = [] ∧ r = .tup [.agg (grR ⟨3, [⟨0, 1, 0⟩, ⟨2, 0, 0⟩]⟩), iv 0]) := (scFoldF smallG (by decide)).mono fun _ _ q => ⟨q.1, by rw [q.2, sm_fold, sm_chk]⟩
theorem wNeg : ACall Tryz.prog 7 [.agg (grR negG)] [] (fun r h' => h' = [] ∧ r = .tup [intsA [], iv 150]) := (scOf negG (by decide)).mono fun _ _ q => ⟨q.1, by rw [q.2, neg_of, neg_chk]⟩
set_option maxHeartbeats 4000000 in
theorem lawWakes  : ACall Tryz.prog 5 [] [] (fun r h' => h' = [] ∧ r = bv true) := by
  refine acall_of_aw Tryz.func5 rfl rfl rfl ?_
  refine rn ?_
  refine qv rfl rfl (qv_call rfl rfl (FCall.pure (R := fun x => x = .agg (grR smallG)) (FCall.of_fun lawSmall))) ?_
  refine qv rfl rfl (qv_call rfl rfl (FCall.pure (R := fun x => x = .tup [intsA [0, 1, 1, 2], iv 0]) (FCall.of_fun wOf))) ?_
  refine rn ?_
  refine qv rfl rfl (qv_call rfl rfl (FCall.pure (R := fun x => x = .agg (grR smallG)) (FCall.of_fun lawSmall))) ?_
  refine qv rfl rfl (qv_call rfl rfl (FCall.pure (R := fun x => x = .tup [bv true, iv 0]) (FCall.of_fun wCyc))) ?_
  refine rn ?_
  refine qv rfl rfl (qv_call rfl rfl (FCall.pure (R := fun x => x = .agg (grR smallG)) (FCall.of_fun lawSmall))) ?_
  refine qv rfl rfl (qv_call rfl rfl (FCall.pure (R := fun x => x = .tup [.agg (grR ⟨3, [⟨0, 1, 0⟩, ⟨2, 0, 0⟩]⟩), iv 0]) (FCall.of_fun wFold))) ?_
  refine rn ?_
  refine aops_e rfl (oe_alloc rfl fun b5 => ?_)
  refine rn ?_
  refine qv rfl rfl (qv_call rfl rfl (FCall.pure (R := fun x => x = .tup [intsA [], iv 150]) (FCall.le (FCall.of_fun wNeg) ⟨(Sb.aggs (aS := [iv (-1), .v (.slice none 0 0)]) (bs := grR negG) ⟨.refl _, .nil _ _, trivial⟩).le, trivial⟩))) ?_
  refine rn ?_
  refine qv rfl rfl (qv_buildSlice rfl rfl) ?_
  refine qv rfl rfl (qv_call rfl rfl (FCall.pure (R := fun x => x = bv true) (FCall.of_fun (eqInt [0, 1, 1, 2] (by decide))))) ?_
  refine rn ?_
  refine qv rfl rfl (qv_buildSlice rfl rfl) ?_
  refine qv rfl rfl (qv_call rfl rfl (FCall.pure (R := fun x => x = bv true) (FCall.of_fun (eqEd [⟨0, 1, 0⟩, ⟨2, 0, 0⟩] (by decide))))) ?_
  refine rn ?_
  refine rq 1 ?_
  exact ⟨rfl, rfl⟩
end Go.Proofs
/- The walk of SccSets. Conditions: none. -/
set_option linter.unusedVariables false
set_option linter.unusedSimpArgs false
set_option maxRecDepth 10000
namespace Go.Proofs
open Go Go.Ab
attribute [local irreducible] QR QV OE aops aw dsoup dsoupM dalloc dallocM thn inBlk jsoup jch lsoup
open Go.H
theorem sameGT (a : Gr) (ha : a.es.length ≤ 4611686018427387904) : ACall Tryz.prog 19 [.agg (grR a), .agg (grR a)] [] (fun r h' => h' = [] ∧ r = bv true) := (refSameG a a ha ha).mono fun _ _ q => ⟨q.1, by rw [q.2, sameG_self]⟩
end Go.Proofs
/- Structs within an array that is a value; a struct with a row of one's own, lent. Conditions: none (rules over any program). -/
set_option linter.unusedVariables false
namespace Go.Ab
open Go
section
variable {P : Program} {h : List Res} {f : Operand → Option AV} {dst : Option Tmp} {ty : TypeId} {pos : String} {after : Array Edge} {guard : Option (Nat × Bool)} {x : Operand}
theorem qr_index_arr_agg {T E : TypeId} {n i sz : Nat} {cells : List AV} {y : Operand} (hx : f x = some (.agg cells)) (hy : f y = some (.v (.int .i64 i))) [Und P T (.array n E)] [IsA P E true] [Siz P E sz]
    (hi : i < n) (hle : i * sz + sz ≤ cells.length) : QR P h f ⟨dst, .index T x y, ty, pos, after, guard⟩ (.agg ((cells.drop (i * sz)).take sz)) := fun X ρ w he => by
  have hr := he.rel x _ hx
  generalize hv : ρ x = v at hr
  cases hr with
  | agg _ cs g1 g2 =>
    refine ⟨.agg (cs.extract (i * sz) (i * sz + sz)), run_v _ ?_, .agg _ _ (by simp; omega) fun j a b => ?_⟩
    · rw [hv, (he.rel y _ hy).v_eq]
      simp only [Instr.index, asIntOf, Sem.run_bind, Sem.run_pure, Result.andThen_ok, run_underlying (d := TypeDesc.array n E)]
      rw [if_pos (by omega)]
      simp only [Sem.run_bind, run_sizeOf (n := sz), Result.andThen_ok, part, run_isAgg (b := true), if_true, Int.toNat_natCast, Sem.run_pure]
    · simp at a
      simpa using g2 (i * sz + j) (by omega) (by omega)
end
theorem ble_gr {h : List Res} {s : Value} {sz i : Nat} {T : TypeId} {rows : List (List AV)} {a : AV} [hr : HasRow h s i sz T rows] : BLe h (.agg [a, .v s]) (.agg [a, .list false sz rows]) := fun X w v hh hv => by
  cases hv with
  | agg _ cs hl hc =>
    refine .agg _ cs (by simpa using hl) fun j h1 h2 => ?_
    match j, h1 with
    | 0, _ => exact (BLe.refl h a) X w _ hh (hc 0 (by simp) h2)
    | 1, _ => exact (ble_row (hr := hr)) X w _ hh (hc 1 (by simp) h2)
end Go.Ab
/- The walk of SccGraphs. Conditions: none. -/
set_option linter.unusedVariables false
set_option linter.unusedSimpArgs false
set_option maxRecDepth 10000
namespace Go.Proofs
open Go Go.Ab
attribute [local irreducible] QR QV OE aops aw dsoup dsoupM dalloc dallocM thn inBlk jsoup jch lsoup
open Go.H
theorem zero_ok : GOk (⟨0, []⟩ : Gr) := chkB_iff.1 (by decide)
theorem innerO_ok (g : Gr) : GOk (innerO g) := by
  unfold innerO; split
  · rename_i h; exact inner_ok (chkB_iff.1 h)
  · exact zero_ok
theorem foldO_ok (g : Gr) : GOk (foldO g) := by
  unfold foldO; split
  · rename_i h; exact fold_ok (chkB_iff.1 h)
  · exact zero_ok
def incE (e : Ed) : Ed := ⟨e.f + 1, e.t, e.k⟩
def incL (l : List Ed) (j : Nat) : List Ed := (l.take j).map incE ++ l.drop j
theorem incL_len (l : List Ed) (j : Nat) : (incL l j).length = l.length := by
  unfold incL; rw [List.length_append, List.length_map, List.length_take, List.length_drop]; omega
theorem incL_0 (l : List Ed) : incL l 0 = l := by unfold incL; simp
theorem incL_at {l : List Ed} {j : Nat} (hj : j < l.length) : ((incL l j).map edR)[j]? = some (edR l[j]) := by
  rw [List.getElem?_map]
  have : (incL l j)[j]? = some l[j] := by
    unfold incL
    rw [List.getElem?_append_right (by simp; omega)]
    simp only [List.length_map, List.length_take, Nat.min_eq_left (Nat.le_of_lt hj), Nat.sub_self]
    rw [List.getElem?_drop, Nat.add_zero, List.getElem?_eq_getElem hj]
  rw [this]; rfl
theorem incL_set {l : List Ed} {j : Nat} (hj : j < l.length) : ((incL l j).map edR).set j [iv (l[j].f + 1), iv l[j].t, iv l[j].k] = (incL l (j + 1)).map edR := by
  rw [show ([iv (l[j].f + 1), iv l[j].t, iv l[j].k] : List AV) = edR (incE l[j]) from rfl, ← List.map_set]
  congr 1
  unfold incL
  rw [List.set_append_right _ _ (by simp; omega)]
  simp only [List.length_map, List.length_take, Nat.min_eq_left (Nat.le_of_lt hj), Nat.sub_self]
  rw [List.drop_eq_getElem_cons hj, List.set_cons_zero, List.take_succ_eq_append_getElem hj, List.map_append, List.append_assoc]; rfl
theorem st3 {rows : List (List AV)} {k : Nat} {o p q n : AV} : rows.set k (List.take 0 [o, p, q] ++ [n] ++ List.drop (0 + [n].length) [o, p, q]) = rows.set k [n, p, q] := rfl
def sA (s1 s2 : SV) (k : Nat) : SV := if k = 0 then s1 else s2
def sB (s1 s2 : SV) (k : Nat) : SV := if k = 0 then s2 else s1
def lA (l1 l2 : List Ed) (k : Nat) : List Ed := if k = 0 then l1 else l2
def nA (n1 n2 : Int) (k : Nat) : Int := if k = 0 then n1 else n2
theorem arr_at {n1 n2 : Int} {s1 s2 : SV} {k : Nat} (hk : k < 2) : (AV.agg ((([iv n1, .v s1.v, iv n2, .v s2.v] : List AV).drop (k * 2)).take 2)) = .agg [iv (nA n1 n2 k), .v (sA s1 s2 k).v] := by
  rcases (show k = 0 ∨ k = 1 by omega) with rfl | rfl <;> rfl
theorem gr_b {g : Gr} (h : GOk g) : g.es.length ≤ 40000 ∧ ∀ e ∈ g.es, 0 ≤ e.f ∧ e.f ≤ 1000 := ⟨h.many, fun e he => by
  have h1 := edge_iff.1 (h.each e he)
  have h2 := h.n1
  omega⟩
theorem lA_b {g1 g2 : Gr} (h1 : GOk g1) (h2 : GOk g2) (k : Nat) : (lA g1.es g2.es k).length ≤ 40000 ∧ ∀ e ∈ lA g1.es g2.es k, 0 ≤ e.f ∧ e.f ≤ 1000 := by
  unfold lA; split
  · exact gr_b h1
  · exact gr_b h2
def PG (l1 l2 : List Ed) (k : Nat) (x : List (List AV) × List (List AV)) : Prop := (k = 0 → x.1 = l1.map edR ∧ x.2 = l2.map edR) ∧ (k = 1 → x.1 = l2.map edR)
theorem PG_cur {l1 l2 : List Ed} {k : Nat} (hk : k < 2) {x : List (List AV) × List (List AV)} (h : PG l1 l2 k x) : x.1 = (lA l1 l2 k).map edR := by
  rcases (show k = 0 ∨ k = 1 by omega) with rfl | rfl
  · exact (h.1 rfl).1
  · exact h.2 rfl
set_option maxHeartbeats 8000000 in
theorem sccGraphs (x : Gr) (hb : x.es.length ≤ 4611686018427387904) : ACall Tryz.prog 4 [.agg (grR x)] [] (fun r h' => h' = [] ∧ r = bv true) := by
  refine acall_of_aw Tryz.func4 rfl rfl rfl ?_
  have hg : (ownG 600 x).es.length ≤ 4611686018427387904 := Nat.le_trans (ownG_len 600 x) (by decide)
  obtain ⟨X1, hX1⟩ : ∃ X, X = innerO (ownG 600 x) := ⟨_, rfl⟩
  obtain ⟨X2, hX2⟩ : ∃ X, X = foldO (ownG 600 x) := ⟨_, rfl⟩
  have ok1 : GOk X1 := by rw [hX1]; exact innerO_ok _
  have ok2 : GOk X2 := by rw [hX2]; exact foldO_ok _
  have hl1 : X1.es.length ≤ 4611686018427387904 := Nat.le_trans ok1.many (by decide)
  have hl2 : X2.es.length ≤ 4611686018427387904 := Nat.le_trans ok2.many (by decide)
  refine rn ?_
  refine aops_e rfl (oe_box rfl rfl rfl fun b1 => ?_)
  refine rn ?_
  refine qv rfl rfl (qv_call rfl rfl (FCall.pure (R := fun z => z = bv true) (FCall.of_fun (lawWakes)))) ?_
  refine rn ?_
  refine aw_cond rfl (fun hc15 => ?_) (fun hc15 => ?_)
  · exact absurd hc15 (by decide)
  · refine rn ?_
    refine qv rfl rfl (qv_call rfl rfl (FCall.pure (R := fun z => z = .agg (grR (ownG 600 x))) (FCall.of_fun (lawOwn x hb)))) ?_
    refine aops_e rfl (oe_alloc rfl fun b3 => ?_)
    refine rn ?_
    refine aops_e rfl (oe_call rfl rfl (FCall.fr (FCall.of_fun (scInner (ownG 600 x) hg)) (.refl _)) rfl ?_)
    rintro _ _ ⟨_, rfl, s1, rfl, rfl⟩
    simp only [List.cons_append, List.nil_append]
    rw [← hX1]
    refine rn ?_
    refine aops_e rfl (oe_alloc rfl fun b4 => ?_)
    refine rn ?_
    refine aops_e rfl (oe_call rfl rfl (FCall.fr (FCall.of_fun (scFold (ownG 600 x) hg)) (.refl _)) rfl ?_)
    rintro _ _ ⟨_, rfl, s2, rfl, rfl⟩
    simp only [List.cons_append, List.nil_append]
    rw [← hX2]
    refine rn ?_
    refine aops_e rfl (oe_alloc rfl fun b6 => ?_)
    refine rn ?_
    refine aops_e rfl (oe_alloc rfl fun b8 => ?_)
    refine aops_e rfl (oe_alloc rfl fun b9 => ?_)
    refine rn ?_
    refine qv rfl rfl (qv_call rfl rfl (FCall.pure (R := fun z => z = bv (chkB (ownG 600 x))) (FCall.of_fun (refRight (ownG 600 x) hg)))) ?_
    refine rn ?_
    refine aw_cond rfl (fun hc29 => ?_) (fun hc29 => ?_)
    · have hR : chkB (ownG 600 x) = true := hc29
      have he : chkE (ownG 600 x) = 0 := chkE_t hR
      have hok := chkE_0.1 he
      have hRI : FCall Tryz.prog (.fn (.func 22) [] []) [.agg (grR (ownG 600 x))] [] (fun r h' => h' = [] ∧ r = .agg (grR X1)) := by rw [hX1, innerO_y he]; exact FCall.of_fun (refInner6 (ownG 600 x) hok)
      have hRF : FCall Tryz.prog (.fn (.func 23) [] []) [.agg (grR (ownG 600 x))] [] (fun r h' => h' = [] ∧ r = .agg (grR X2)) := by rw [hX2, foldO_y he]; exact FCall.of_fun (refFold6 (ownG 600 x) hok)
      have hle1 : ∀ h, BLe h (.agg (grR X1)) (.agg (grR X1)) := fun h => .refl h _
      have hle2 : ∀ h, BLe h (.agg (grR X2)) (.agg (grR X2)) := fun h => .refl h _
      rw [he]
      refine aw_draw 3 rfl ?_
      refine rn ?_
      refine dv rfl rfl (by exact qv_call rfl rfl (FCall.pure hRI)) ?_
      refine rn ?_
      refine qv rfl rfl (qv_call rfl rfl (FCall.pure hRF)) ?_
      refine rn ?_
      refine qv rfl rfl (qv_call rfl rfl (FCall.lend (R := fun z => z = bv true) (FCall.of_fun (sameGT X1 hl1)) (fun r hr => by rw [hr]; rfl) (.refl _ _) ⟨ble_gr, hle1 _, trivial⟩)) ?_
      refine rn ?_
      refine qv rfl rfl (qv_call rfl rfl (FCall.lend (R := fun z => z = bv true) (FCall.of_fun (sameGT X2 hl2)) (fun r hr => by rw [hr]; rfl) (.refl _ _) ⟨ble_gr, hle2 _, trivial⟩)) ?_
      refine rn ?_
      refine aw_cond rfl (fun hc53 => ?_) (fun hc53 => ?_)
      · exact absurd hc53 (by decide)
      · refine rn ?_
        refine aw_rngX 2 (fun k (z : List (List AV) × List (List AV)) => PG X1.es X2.es k z) (fun k z => ⟨[(57, iv k), (1, .v (.pointer (some ⟨b1, 0, none⟩))), (3, .v (.pointer (some ⟨b3, 0, none⟩))), (56, .agg [iv X1.n, .v s1.v, iv X2.n, .v s2.v])], .row (sA s1 s2 k).v 3 53 z.1 :: .row (sB s1 s2 k).v 3 53 z.2 :: .box b3 24 (grR (ownG 600 x)) :: .box b1 24 (grR x) :: [], []⟩) (X1.es.map edR, X2.es.map edR) ⟨fun _ => ⟨rfl, rfl⟩, fun q => absurd q (by decide)⟩ (ent_trans (ent_perm (.cons _ (.cons _ (.cons _ ((pt1 _ _ _).trans (.cons _ (pt1 _ _ _))))))) (ent_trans (ent_drop (h1 := [_, _, _, _])) es)) ?_
        rintro k ⟨lc, lo⟩ lk hP
        show aw _ _ _ _ _ ⟨[(57, iv k), (1, .v (.pointer (some ⟨b1, 0, none⟩))), (3, .v (.pointer (some ⟨b3, 0, none⟩))), (56, .agg [iv X1.n, .v s1.v, iv X2.n, .v s2.v])], .row (sA s1 s2 k).v 3 53 lc :: .row (sB s1 s2 k).v 3 53 lo :: .box b3 24 (grR (ownG 600 x)) :: .box b1 24 (grR x) :: [], []⟩
        refine rn ?_
        refine aw_cond rfl (fun hc58 => ?_) (fun hc58 => ?_)
        · have hk : k < 2 := by have q := of_decide_eq_true hc58; omega
          obtain rfl := PG_cur hk hP
          obtain ⟨hLl, hLb⟩ := lA_b ok1 ok2 k
          refine aw_skip ?_
          refine thn_n ?_
          refine aw_seq ?_
          refine aw_block ?_
          refine aw_seq (aw_region ?_)
          refine qq rfl rfl (qr_as (qr_index_arr_agg (i := k) (sz := 2) rfl rfl hk (by simp; omega)) (arr_at hk)) ?_
          refine aops_e rfl (oe_alloc rfl fun b12 => ?_)
          first | refine aops_e rfl (oe_store_all rfl rfl rfl ?_) | refine aops_e rfl (oe_store rfl rfl rfl rfl (Nat.le_of_ble_eq_true rfl) ?_)
          refine aops_nil (thn_n ?_)
          refine aw_seq (aw_region ?_)
          refine q1 ?_
          refine q1 ?_
          refine qq rfl rfl (qr_as (qr_len_row rfl) (show iv _ = iv (((lA X1.es X2.es k).length : Nat) : Int) from congrArg iv (by rw [List.length_map]))) ?_
          refine rn ?_
          rw [show (lA X1.es X2.es k).map edR = (incL (lA X1.es X2.es k) 0).map edR by rw [incL_0]]
          refine aw_range (lA X1.es X2.es k).length (fun _ => True) (fun j => ⟨[(63, iv j), (1, .v (.pointer (some ⟨b1, 0, none⟩))), (3, .v (.pointer (some ⟨b3, 0, none⟩))), (12, .v (.pointer (some ⟨b12, 0, none⟩))), (56, .agg [iv X1.n, .v s1.v, iv X2.n, .v s2.v]), (57, iv k), (62, iv ((lA X1.es X2.es k).length : Nat))], .box b12 24 [iv (nA X1.n X2.n k), .v (sA s1 s2 k).v] :: .row (sA s1 s2 k).v 3 53 ((incL (lA X1.es X2.es k) j).map edR) :: .row (sB s1 s2 k).v 3 53 lo :: .box b3 24 (grR (ownG 600 x)) :: .box b1 24 (grR x) :: [], []⟩) trivial es ?_
          intro j lj _
          refine rn ?_
          refine aw_cond rfl (fun hc64 => ?_) (fun hc64 => ?_)
          · have hkj : j < (lA X1.es X2.es k).length := by have q := of_decide_eq_true hc64; omega
            refine aw_skip ?_
            refine thn_n ?_
            refine aw_seq ?_
            refine aw_block ?_
            refine aw_seq (aw_region ?_)
            refine q1 ?_
            refine q1 ?_
            refine aops_nil (thn_n ?_)
            refine aw_region ?_
            refine q1 ?_
            refine q1 ?_
            refine q1 ?_
            refine qq rfl rfl (qr_index_row (k := j) rfl rfl (by rw [row_len, incL_len]; exact hkj)) ?_
            refine q1 ?_
            refine qq rfl rfl (qr_load_rp_one rfl (incL_at hkj) rfl) ?_
            refine qq rfl rfl (qr_ari rfl rfl rfl (by have := hLb _ (List.getElem_mem hkj); omega)) ?_
            refine qq rfl rfl (qr_index_row (k := j) rfl rfl (by rw [row_len, incL_len]; exact hkj)) ?_
            refine rn ?_
            refine aops_e rfl (oe_store_rp (k := j) rfl rfl rfl (incL_at hkj) rfl (Nat.le_of_ble_eq_true rfl) ?_)
            rw [show edR (lA X1.es X2.es k)[j] = [iv (lA X1.es X2.es k)[j].f, iv (lA X1.es X2.es k)[j].t, iv (lA X1.es X2.es k)[j].k] from rfl, st3, incL_set hkj]
            refine rn ?_
            exact ⟨hkj, trivial, eA⟩
          · have qj : j = (lA X1.es X2.es k).length := by have q := of_decide_eq_false hc64; omega
            refine rn ?_
            rcases (show k = 0 ∨ k = 1 by omega) with rfl | rfl
            · exact ⟨hk, (lo, (incL (lA X1.es X2.es 0) (lA X1.es X2.es 0).length).map edR), ⟨fun q => absurd q (by decide), fun _ => (hP.1 rfl).2⟩, by rw [qj]; exact ent_trans (ent_perm (.cons _ (pt1 _ _ _))) (ent_trans ent_drop1 es)⟩
            · exact ⟨hk, ((incL (lA X1.es X2.es 1) (lA X1.es X2.es 1).length).map edR, lo), ⟨fun q => absurd q (by decide), fun q => absurd q (by decide)⟩, by rw [qj]; exact ent_trans ent_drop1 es⟩
        · have qk : k = 2 := by have q := of_decide_eq_false hc58; omega
          refine rn ?_
          refine aw_draw 3 rfl ?_
          refine rn ?_
          refine dv rfl rfl (by exact qv_call rfl rfl (FCall.pure (R := fun z => z = .agg (grR (ownG 600 x))) (FCall.of_fun (lawOwn x hb)))) ?_
          refine rn ?_
          refine qv rfl rfl (qv_call rfl rfl (FCall.pure (R := fun z => z = bv true) (FCall.of_fun (sameGT (ownG 600 x) hg)))) ?_
          refine rn ?_
          exact retq (.cons _ _ _ _ (.tmp _ _ rfl) .nil) (.drop [_, _, _, _] _ _) ⟨rfl, rfl⟩
    · have hR : chkB (ownG 600 x) = false := hc29
      have he : chkE (ownG 600 x) = 150 := chkE_f hR
      have hne : chkE (ownG 600 x) ≠ 0 := by rw [he]; decide
      have hle1 : ∀ h, BLe h (.agg [iv 0, .v (.slice none 0 0)]) (.agg (grR X1)) := fun h => by rw [hX1, innerO_n hne]; exact .of_le (Sb.aggs (aS := [iv 0, .v (.slice none 0 0)]) (bs := grR ⟨0, []⟩) ⟨.refl _, .nil _ _, trivial⟩).le
      have hle2 : ∀ h, BLe h (.agg [iv 0, .v (.slice none 0 0)]) (.agg (grR X2)) := fun h => by rw [hX2, foldO_n hne]; exact .of_le (Sb.aggs (aS := [iv 0, .v (.slice none 0 0)]) (bs := grR ⟨0, []⟩) ⟨.refl _, .nil _ _, trivial⟩).le
      rw [he]
      refine rn ?_
      refine qv rfl rfl (qv_call rfl rfl (FCall.lend (R := fun z => z = bv true) (FCall.of_fun (sameGT X1 hl1)) (fun r hr => by rw [hr]; rfl) (.refl _ _) ⟨ble_gr, hle1 _, trivial⟩)) ?_
      refine rn ?_
      refine qv rfl rfl (qv_call rfl rfl (FCall.lend (R := fun z => z = bv true) (FCall.of_fun (sameGT X2 hl2)) (fun r hr => by rw [hr]; rfl) (.refl _ _) ⟨ble_gr, hle2 _, trivial⟩)) ?_
      refine rn ?_
      refine aw_cond rfl (fun hc53 => ?_) (fun hc53 => ?_)
      · exact absurd hc53 (by decide)
      · refine rn ?_
        refine aw_rngX 2 (fun k (z : List (List AV) × List (List AV)) => PG X1.es X2.es k z) (fun k z => ⟨[(57, iv k), (1, .v (.pointer (some ⟨b1, 0, none⟩))), (3, .v (.pointer (some ⟨b3, 0, none⟩))), (56, .agg [iv X1.n, .v s1.v, iv X2.n, .v s2.v])], .row (sA s1 s2 k).v 3 53 z.1 :: .row (sB s1 s2 k).v 3 53 z.2 :: .box b3 24 (grR (ownG 600 x)) :: .box b1 24 (grR x) :: [], []⟩) (X1.es.map edR, X2.es.map edR) ⟨fun _ => ⟨rfl, rfl⟩, fun q => absurd q (by decide)⟩ (ent_trans (ent_perm (.cons _ (.cons _ (.cons _ ((pt1 _ _ _).trans (.cons _ (pt1 _ _ _))))))) (ent_trans (ent_drop (h1 := [_, _, _, _])) es)) ?_
        rintro k ⟨lc, lo⟩ lk hP
        show aw _ _ _ _ _ ⟨[(57, iv k), (1, .v (.pointer (some ⟨b1, 0, none⟩))), (3, .v (.pointer (some ⟨b3, 0, none⟩))), (56, .agg [iv X1.n, .v s1.v, iv X2.n, .v s2.v])], .row (sA s1 s2 k).v 3 53 lc :: .row (sB s1 s2 k).v 3 53 lo :: .box b3 24 (grR (ownG 600 x)) :: .box b1 24 (grR x) :: [], []⟩
        refine rn ?_
        refine aw_cond rfl (fun hc58 => ?_) (fun hc58 => ?_)
        · have hk : k < 2 := by have q := of_decide_eq_true hc58; omega
          obtain rfl := PG_cur hk hP
          obtain ⟨hLl, hLb⟩ := lA_b ok1 ok2 k
          refine aw_skip ?_
          refine thn_n ?_
          refine aw_seq ?_
          refine aw_block ?_
          refine aw_seq (aw_region ?_)
          refine qq rfl rfl (qr_as (qr_index_arr_agg (i := k) (sz := 2) rfl rfl hk (by simp; omega)) (arr_at hk)) ?_
          refine aops_e rfl (oe_alloc rfl fun b12 => ?_)
          first | refine aops_e rfl (oe_store_all rfl rfl rfl ?_) | refine aops_e rfl (oe_store rfl rfl rfl rfl (Nat.le_of_ble_eq_true rfl) ?_)
          refine aops_nil (thn_n ?_)
          refine aw_seq (aw_region ?_)
          refine q1 ?_
          refine q1 ?_
          refine qq rfl rfl (qr_as (qr_len_row rfl) (show iv _ = iv (((lA X1.es X2.es k).length : Nat) : Int) from congrArg iv (by rw [List.length_map]))) ?_
          refine rn ?_
          rw [show (lA X1.es X2.es k).map edR = (incL (lA X1.es X2.es k) 0).map edR by rw [incL_0]]
          refine aw_range (lA X1.es X2.es k).length (fun _ => True) (fun j => ⟨[(63, iv j), (1, .v (.pointer (some ⟨b1, 0, none⟩))), (3, .v (.pointer (some ⟨b3, 0, none⟩))), (12, .v (.pointer (some ⟨b12, 0, none⟩))), (56, .agg [iv X1.n, .v s1.v, iv X2.n, .v s2.v]), (57, iv k), (62, iv ((lA X1.es X2.es k).length : Nat))], .box b12 24 [iv (nA X1.n X2.n k), .v (sA s1 s2 k).v] :: .row (sA s1 s2 k).v 3 53 ((incL (lA X1.es X2.es k) j).map edR) :: .row (sB s1 s2 k).v 3 53 lo :: .box b3 24 (grR (ownG 600 x)) :: .box b1 24 (grR x) :: [], []⟩) trivial es ?_
          intro j lj _
          refine rn ?_
          refine aw_cond rfl (fun hc64 => ?_) (fun hc64 => ?_)
          · have hkj : j < (lA X1.es X2.es k).length := by have q := of_decide_eq_true hc64; omega
            refine aw_skip ?_
            refine thn_n ?_
            refine aw_seq ?_
            refine aw_block ?_
            refine aw_seq (aw_region ?_)
            refine q1 ?_
            refine q1 ?_
            refine aops_nil (thn_n ?_)
            refine aw_region ?_
            refine q1 ?_
            refine q1 ?_
            refine q1 ?_
            refine qq rfl rfl (qr_index_row (k := j) rfl rfl (by rw [row_len, incL_len]; exact hkj)) ?_
            refine q1 ?_
            refine qq rfl rfl (qr_load_rp_one rfl (incL_at hkj) rfl) ?_
            refine qq rfl rfl (qr_ari rfl rfl rfl (by have := hLb _ (List.getElem_mem hkj); omega)) ?_
            refine qq rfl rfl (qr_index_row (k := j) rfl rfl (by rw [row_len, incL_len]; exact hkj)) ?_
            refine rn ?_
            refine aops_e rfl (oe_store_rp (k := j) rfl rfl rfl (incL_at hkj) rfl (Nat.le_of_ble_eq_true rfl) ?_)
            rw [show edR (lA X1.es X2.es k)[j] = [iv (lA X1.es X2.es k)[j].f, iv (lA X1.es X2.es k)[j].t, iv (lA X1.es X2.es k)[j].k] from rfl, st3, incL_set hkj]
            refine rn ?_
            exact ⟨hkj, trivial, eA⟩
          · have qj : j = (lA X1.es X2.es k).length := by have q := of_decide_eq_false hc64; omega
            refine rn ?_
            rcases (show k = 0 ∨ k = 1 by omega) with rfl | rfl
            · exact ⟨hk, (lo, (incL (lA X1.es X2.es 0) (lA X1.es X2.es 0).length).map edR), ⟨fun q => absurd q (by decide), fun _ => (hP.1 rfl).2⟩, by rw [qj]; exact ent_trans (ent_perm (.cons _ (pt1 _ _ _))) (ent_trans ent_drop1 es)⟩
            · exact ⟨hk, ((incL (lA X1.es X2.es 1) (lA X1.es X2.es 1).length).map edR, lo), ⟨fun q => absurd q (by decide), fun q => absurd q (by decide)⟩, by rw [qj]; exact ent_trans ent_drop1 es⟩
        · have qk : k = 2 := by have q := of_decide_eq_false hc58; omega
          refine rn ?_
          refine aw_draw 3 rfl ?_
          refine rn ?_
          refine dv rfl rfl (by exact qv_call rfl rfl (FCall.pure (R := fun z => z = .agg (grR (ownG 600 x))) (FCall.of_fun (lawOwn x hb)))) ?_
          refine rn ?_
          refine qv rfl rfl (qv_call rfl rfl (FCall.pure (R := fun z => z = bv true) (FCall.of_fun (sameGT (ownG 600 x) hg)))) ?_
          refine rn ?_
          exact retq (.cons _ _ _ _ (.tmp _ _ rfl) .nil) (.drop [_, _, _, _] _ _) ⟨rfl, rfl⟩
end Go.Proofs
