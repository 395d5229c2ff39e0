/- The walks of cmp.Compare, slices.Compare, ww's and the reference's Compare. Conditions: none. -/
import Derived.Test.YtkoaoaogmlpocaaGreatDoorWPaH
set_option linter.unusedSectionVars false
set_option linter.unusedSimpArgs false
set_option linter.unusedVariables false
set_option linter.unusedVariables false
set_option linter.unusedSimpArgs false
set_option maxRecDepth 10000
namespace Go.Proofs
open Go Go.Ab
attribute [local irreducible] QR QV OE aops aw dsoup dsoupM dalloc dallocM thn inBlk jsoup jch lsoup
open Go.H
theorem isNaN (a : Int) : ACall Tryz.prog 136 [iv a] [] (fun r h' => h' = [] ∧ r = bv false) := by
  refine acall_of_aw Tryz.func136 rfl rfl rfl ?_
  refine rn ?_
  refine rq 0 ?_
  exact ⟨rfl, congrArg bv (bne_self_eq_false a)⟩
def cmpN (a b : Int) : Int := if a < b then -1 else if b < a then 1 else 0
theorem cmpL_cons (a b : Int) (l m : List Int) : cmpL (a :: l) (b :: m) = if cmpN a b = 0 then cmpL l m else cmpN a b := by
  rw [cmpL, cmpN]
  by_cases h1 : a < b
  · rw [if_pos h1, if_pos h1]; rfl
  · rw [if_neg h1, if_neg h1]
    by_cases h2 : b < a
    · rw [if_pos h2, if_pos h2]; rfl
    · rw [if_neg h2, if_neg h2]; rfl
theorem cmpL_nil_r : ∀ (l : List Int), l ≠ [] → cmpL l [] = 1
  | [], h => absurd rfl h
  | _ :: _, _ => rfl
theorem cmpL_nil_l : ∀ (l : List Int), l ≠ [] → cmpL [] l = -1
  | [], h => absurd rfl h
  | _ :: _, _ => rfl
theorem cmpInt (a b : Int) : ACall Tryz.prog 125 [iv a, iv b] [] (fun r h' => h' = [] ∧ r = iv (cmpN a b)) := by
  refine acall_of_aw Tryz.func125 rfl rfl rfl ?_
  refine rn ?_
  refine qv rfl rfl (qv_call rfl rfl (pcall (isNaN _) (Sbs.refl _))) ?_
  refine rn ?_
  refine qv rfl rfl (qv_call rfl rfl (pcall (isNaN _) (Sbs.refl _))) ?_
  refine rn ?_
  refine aw_cond rfl (fun hc11 => ?_) (fun hc11 => ?_)
  · exact absurd hc11 (by decide)
  · refine rn ?_
    refine aw_cond rfl (fun hc13 => ?_) (fun hc13 => ?_)
    · exact absurd hc13 (by decide)
    · refine rn ?_
      refine aw_cond rfl (fun hc16 => ?_) (fun hc16 => ?_)
      · refine rn ?_
        refine rq 0 ?_
        exact ⟨rfl, congrArg iv (by rw [cmpN, if_pos (of_decide_eq_true hc16)])⟩
      · refine rn ?_
        refine aw_cond rfl (fun hc19 => ?_) (fun hc19 => ?_)
        · refine rn ?_
          refine rq 0 ?_
          exact ⟨rfl, congrArg iv (by rw [cmpN, if_neg (of_decide_eq_false hc16), if_pos (of_decide_eq_true hc19)])⟩
        · refine rn ?_
          refine rq 0 ?_
          exact ⟨rfl, congrArg iv (by rw [cmpN, if_neg (of_decide_eq_false hc16), if_neg (of_decide_eq_false hc19)])⟩
theorem slicesCmp {f g : Bool} (l m : List Int) (hl : l.length ≤ 4611686018427387904) (hm : m.length ≤ 4611686018427387904) : ACall Tryz.prog 88 [.list f 1 (l.map intR), .list g 1 (m.map intR)] [] (fun r h' => h' = [] ∧ r = iv (cmpL l m)) := by
  refine acall_of_aw Tryz.func88 rfl rfl rfl ?_
  refine rn ?_
  refine aw_rng (l.length) (fun k : Nat => k ≤ m.length ∧ cmpL l m = cmpL (l.drop k) (m.drop k)) (fun k => [(11, iv k)]) [(0, _), (1, _), (9, _), (10, _)] ⟨Nat.zero_le _, rfl⟩ ?_
  rintro k lk ⟨km, zk⟩
  refine rn ?_
  refine aw_cond rfl (fun hc12 => ?_) (fun hc12 => ?_)
  · have hk := ltMap hc12
    have rk := atRow (f := intR) hk
    refine rn ?_
    refine aw_cond rfl (fun hc19 => ?_) (fun hc19 => ?_)
    · have q := of_decide_eq_true hc19
      rw [List.length_map] at q
      have qm : k = m.length := by omega
      refine rn ?_
      refine rq 0 ?_
      exact ⟨rfl, congrArg iv (by rw [zk, qm, List.drop_length, cmpL_nil_r _ (by rw [List.drop_eq_getElem_cons (by omega)]; exact List.cons_ne_nil _ _)])⟩
    · have q := of_decide_eq_false hc19
      rw [List.length_map] at q
      have hkm : k < m.length := by omega
      have rm := atRow (f := intR) hkm
      refine rn ?_
      refine qv rfl rfl (qv_call rfl rfl (pcall (cmpInt l[k] m[k]) (Sbs.refl _))) ?_
      refine rn ?_
      refine aw_cond rfl (fun hc28 => ?_) (fun hc28 => ?_)
      · have hn : ¬ cmpN l[k] m[k] = 0 := by simpa using hc28
        refine rn ?_
        refine rq 0 ?_
        exact ⟨rfl, congrArg iv (by rw [zk, List.drop_eq_getElem_cons hk, List.drop_eq_getElem_cons hkm, cmpL_cons, if_neg hn])⟩
      · refine rn ?_
        exact ⟨hk, ⟨hkm, by rw [zk, List.drop_eq_getElem_cons hk, List.drop_eq_getElem_cons hkm, cmpL_cons, if_pos (by simpa using hc28)]⟩, eA⟩
  · have qk := geMap hc12 lk
    refine rn ?_
    refine aw_cond rfl (fun hc35 => ?_) (fun hc35 => ?_)
    · have q := of_decide_eq_true hc35
      rw [List.length_map, List.length_map] at q
      refine rn ?_
      refine rq 0 ?_
      exact ⟨rfl, congrArg iv (by rw [zk, qk, List.drop_length, cmpL_nil_l _ (by rw [List.drop_eq_getElem_cons (by omega)]; exact List.cons_ne_nil _ _)])⟩
    · have q := of_decide_eq_false hc35
      rw [List.length_map, List.length_map] at q
      have qm : k = m.length := by omega
      refine rn ?_
      refine rq 0 ?_
      exact ⟨rfl, congrArg iv (by rw [zk, List.drop_eq_nil_of_le (by omega), List.drop_eq_nil_of_le (by omega)]; rfl)⟩
def confEq (a b : Conf) : Bool := ([a.f, a.t, a.k, a.a, a.b, a.o, a.p] : List Int) == [b.f, b.t, b.k, b.a, b.b, b.o, b.p]
theorem confEq_eq (a b : Conf) : confEq a b = decide (a = b) := by
  rw [confEq, Bool.eq_iff_iff, decide_eq_true_iff]
  obtain ⟨a1, a2, a3, a4, a5, a6, a7⟩ := a
  obtain ⟨b1, b2, b3, b4, b5, b6, b7⟩ := b
  simp
theorem wwFields (c : Conf) : ACall Tryz.prog 87 [.agg (confR c)] [] (fun r h' => h' = [] ∧ r = .agg (confR c)) := by
  refine acall_of_aw Tryz.func87 rfl rfl rfl ?_
  refine rn ?_
  refine aops_e rfl (oe_box rfl rfl rfl fun b1 => ?_)
  refine aops_e rfl (oe_alloc rfl fun b2 => ?_)
  refine aops_nil (thn_n ?_)
  refine aw_seq (aw_region ?_)
  refine q1 ?_
  refine q1 ?_
  refine q1 ?_
  refine q1 ?_
  refine q1 ?_
  refine q1 ?_
  refine q1 ?_
  refine q1 ?_
  refine q1 ?_
  refine q1 ?_
  refine q1 ?_
  refine q1 ?_
  refine q1 ?_
  refine q1 ?_
  refine qq rfl rfl (qr_buildArr (out := confR c) rfl (by rfl)) ?_
  refine rn ?_
  exact retq (.cons _ _ _ _ (.agg _ _ _ _ _ _ _ rfl inferInstance inferInstance inferInstance rfl) .nil) (.drop [_, _] _ _) ⟨rfl, rfl⟩
set_option maxHeartbeats 4000000 in
theorem wwCompare (a b : Conf) : ACall Tryz.prog 34 [.agg (confR a), .agg (confR b)] [] (fun r h' => h' = [] ∧ r = iv (cmpC a b)) := by
  refine acall_of_aw Tryz.func34 rfl rfl rfl ?_
  refine rn ?_
  refine aops_e rfl (oe_box rfl rfl rfl fun b2 => ?_)
  refine aops_e rfl (oe_box rfl rfl rfl fun b3 => ?_)
  refine rn ?_
  refine aw_cond rfl (fun hc9 => ?_) (fun hc9 => ?_)
  · have he : a = b := of_decide_eq_true (by rw [← confEq_eq]; exact hc9)
    refine rn ?_
    refine rq 2 ?_
    exact ⟨rfl, congrArg iv (by rw [he, cmpC_self])⟩
  · refine rn ?_
    refine aw_draw 6 rfl ?_
    refine rn ?_
    refine dv rfl rfl (by exact qv_call rfl rfl (pcall (wwFields a) (Sbs.refl _))) ?_
    refine rn ?_
    refine dv rfl rfl (by exact qv_call rfl rfl (pcall (wwFields b) (Sbs.refl _))) ?_
    refine rn ?_
    refine dalloc_a rfl fun b5 => ?_
    refine dalloc_a rfl fun b6 => ?_
    refine rn ?_
    refine aw_draw 2 rfl ?_
    refine dq rfl rfl (qr_slice_arr rfl) ?_
    refine dq rfl rfl (qr_slice_arr rfl) ?_
    refine rn2 ?_
    refine aops_arr b5 ?_
    refine aops_arr b6 ?_
    show aops _ _ _ _ _ _ ⟨_, .row (boxS b6 7) 1 137 ((fldC b).map intR) :: .row (boxS b5 7) 1 137 ((fldC a).map intR) :: .box b3 70 (confR b) :: .box b2 70 (confR a) :: [], _⟩
    refine qv rfl rfl (qv_call rfl rfl (FCall.lend (R := fun x => x = iv (cmpC a b)) (FCall.of_fun (slicesCmp (fldC a) (fldC b) (by show 7 ≤ 4611686018427387904; decide) (by show 7 ≤ 4611686018427387904; decide))) (fun r hr => by rw [hr]; rfl) (.refl _ _) (by exact ⟨ble_row, ble_row, trivial⟩))) ?_
    refine rn ?_
    refine rq 4 ?_
    exact ⟨rfl, rfl⟩
end Go.Proofs
/- The walk of order.Merge. Conditions: none. -/
set_option linter.unusedVariables false
set_option linter.unusedSimpArgs false
set_option maxRecDepth 10000
namespace Go.Proofs
open Go Go.Ab
attribute [local irreducible] QR QV OE aops aw dsoup dsoupM dalloc dallocM thn inBlk jsoup jch lsoup
open Go.H
def runsR (sz : Nat) (T : TypeId) {α : Type} (R : α → List AV) (x : List (SV × List α)) : List Res := x.map fun p => .row p.1.v sz T (p.2.map R)
abbrev cellsS {α : Type} (x : List (SV × List α)) : List (List AV) := x.map fun p => [.v p.1.v]
theorem runsR_snoc {sz : Nat} {T : TypeId} {α : Type} {R : α → List AV} (x : List (SV × List α)) (p : SV × List α) : runsR sz T R (x ++ [p]) = runsR sz T R x ++ [.row p.1.v sz T (p.2.map R)] := by simp [runsR]
theorem cellsS_snoc {α : Type} (x : List (SV × List α)) (p : SV × List α) : cellsS (x ++ [p]) = cellsS x ++ [[.v p.1.v]] := by simp [cellsS]
theorem cellsS_len {α : Type} (x : List (SV × List α)) : (cellsS x).length = x.length := List.length_map _
theorem runsR_nil (sz : Nat) (T : TypeId) {α : Type} (R : α → List AV) : runsR sz T R [] = [] := rfl
theorem runsR_cons {sz : Nat} {T : TypeId} {α : Type} {R : α → List AV} {x : List (SV × List α)} {k : Nat} (hk : k < x.length) : runsR sz T R (x.drop k) = .row (x[k]).1.v sz T ((x[k]).2.map R) :: runsR sz T R (x.drop (k + 1)) := by
  rw [List.drop_eq_getElem_cons hk]; rfl
theorem cellsS_at {α : Type} {x : List (SV × List α)} {k : Nat} (hk : k < x.length) : (cellsS x)[k]? = some [.v (x[k]).1.v] := by simp [cellsS, hk]
theorem perm_last {β : Type} (m : β) (A B : List β) : (m :: (A ++ B)).Perm (A ++ (B ++ [m])) := by
  rw [← List.append_assoc]; exact List.perm_append_comm (l₁ := [m])
theorem tail_start {sz : Nat} {T : TypeId} {α : Type} {R : α → List AV} (x : List (SV × List α)) : runsR sz T R x = runsR sz T R (x.drop (2 * 0)) ++ runsR sz T R [] := by rw [Nat.mul_zero, List.drop_zero, runsR_nil, List.append_nil]
theorem tail_end {sz : Nat} {T : TypeId} {α : Type} {R : α → List AV} {x y : List (SV × List α)} {n : Nat} (h : x.length ≤ 2 * n) : runsR sz T R (x.drop (2 * n)) ++ runsR sz T R y = runsR sz T R y := by rw [List.drop_eq_nil_of_le h, runsR_nil, List.nil_append]
theorem tail_odd {sz : Nat} {T : TypeId} {α : Type} {R : α → List AV} {x y : List (SV × List α)} {i : Nat} (h : 2 * i + 1 = x.length) : (runsR sz T R (x.drop (2 * i)) ++ runsR sz T R y).Perm (runsR sz T R (x.drop (2 * (i + 1))) ++ runsR sz T R (y ++ [x[2 * i]'(by omega)])) := by
  rw [List.drop_eq_nil_of_le (show x.length ≤ 2 * (i + 1) by omega), runsR_cons (by omega), List.drop_eq_nil_of_le (by omega), runsR_nil, List.nil_append, runsR_snoc]
  exact List.perm_append_comm
theorem tail_two {sz : Nat} {T : TypeId} {α : Type} {R : α → List AV} {x y : List (SV × List α)} {i : Nat} {m : SV} {l : List α} : (.row m.v sz T (l.map R) :: (runsR sz T R (x.drop (2 * i + 1 + 1)) ++ runsR sz T R y)).Perm (runsR sz T R (x.drop (2 * (i + 1))) ++ runsR sz T R (y ++ [(m, l)])) := by
  rw [runsR_snoc, show 2 * (i + 1) = 2 * i + 1 + 1 by omega]
  exact perm_last _ _ _
theorem one_cellS (s : SV) : ∀ r ∈ ([[.v s.v]] : List (List AV)), r.all AV.one = true := by
  intro r hr; rw [List.mem_singleton.1 hr]; rfl
theorem take_one {β : Type} {l : List β} {k : Nat} (hk : k < l.length) : (l.take (k + 1)).drop k = [l[k]] := by
  rw [List.take_succ_eq_append_getElem hk, List.drop_left' (by simp; omega)]
set_option maxHeartbeats 4000000 in
theorem mergeConf (a b : List Conf) (fv : AV) (cmp : Conf → Conf → Int) (hp : ∀ x y, FCall Tryz.prog fv [.agg (confR x), .agg (confR y)] [] (fun r h' => h' = [] ∧ r = iv (cmp x y))) (ha : a.length ≤ 1000000000) (hb : b.length ≤ 1000000000) : ACall Tryz.prog 170 [.list false 7 (a.map confR), .list false 7 (b.map confR), fv] [] (fun r h' => ∃ s : SV, h' = [.row s.v 7 70 ((mrg cmp a b).map confR)] ∧ r = .v s.v) := by
  refine acall_of_aw Tryz.func170 rfl rfl rfl ?_
  refine rn ?_
  refine aw_scope ?_
  refine aw_seq (aw_region ?_)
  refine q1 ?_
  refine q1 ?_
  refine q1 ?_
  refine q1 ?_
  refine qq rfl rfl (qr_ari rfl rfl rfl (by simp only [List.length_map]; omega)) ?_
  refine aops_e rfl (oe_makeG (n := 0) (c := ((a.map confR).length + (b.map confR).length)) rfl rfl rfl (Nat.zero_le _) (by simp only [List.length_map]; omega) (hk := fun b7 => ?_))
  refine aops_slice (.slice (some ⟨b7, 0, none⟩) 0 ((a.map confR).length + (b.map confR).length)) fun s0 hs0 => ?_
  rw [hs0]
  clear hs0
  refine rn ?_
  refine aw_while (fun x : Nat × Nat × List Conf × SV => x.1 ≤ a.length ∧ x.2.1 ≤ b.length ∧ x.2.2.1.length = x.1 + x.2.1 ∧ x.2.2.1 ++ mrg cmp (a.drop x.1) (b.drop x.2.1) = mrg cmp a b) (fun x => ⟨[(0, .list false 7 ((a.drop x.1).map confR)), (1, .list false 7 ((b.drop x.2.1).map confR)), (2, fv), (7, .v x.2.2.2.v)], .row x.2.2.2.v 7 70 (x.2.2.1.map confR) :: [], []⟩) (fun x => (a.length - x.1) + (b.length - x.2.1)) (0, 0, [], s0) ⟨Nat.zero_le _, Nat.zero_le _, rfl, rfl⟩ es ?_
  rintro ⟨i, j, p, s⟩ ⟨hi0, hj0, hpl, hm⟩
  simp only at hi0 hj0 hpl hm
  show aw _ _ _ _ _ ⟨[(0, .list false 7 ((a.drop i).map confR)), (1, .list false 7 ((b.drop j).map confR)), (2, fv), (7, .v s.v)], .row s.v 7 70 (p.map confR) :: [], []⟩
  refine rn ?_
  refine asplit (fun hg3_3 => ?_) (fun hg3_3 => ?_)
  · refine rn ?_
    refine aw_ct rfl ?_
    have hov : a.drop i = [] ∨ b.drop j = [] := by first | (have q := hg3_3; simp at q; exact .inl (List.drop_eq_nil_of_le (by omega))) | (have q := hc22; simp at q; exact .inr (List.drop_eq_nil_of_le (by omega)))
    refine rn ?_
    refine aops_e rfl (oe_append_row rfl rfl (by simp only [List.length_map, List.length_drop]; omega) rfl (fun s51 => ?_) (one_conf _))
    refine aops_slice s51 fun sv1 hsv1 => ?_
    subst hsv1
    refine rn ?_
    refine aops_e rfl (oe_append_row rfl rfl (by simp only [List.length_map, List.length_append, List.length_drop]; omega) rfl (fun s53 => ?_) (one_conf _))
    refine aops_slice s53 fun sv2 hsv2 => ?_
    subst hsv2
    refine rn ?_
    refine ⟨fun l h => (by cases h), ?_⟩
    exact retq (.cons _ _ _ _ (.tmp _ _ rfl) .nil) (.refl _ _) ⟨sv2, by rw [← hm, mrg_over cmp hov, List.map_append, List.map_append, List.append_assoc], rfl⟩
  · refine rn ?_
    refine aw_cond rfl (fun hc22 => ?_) (fun hc22 => ?_)
    · have hov : a.drop i = [] ∨ b.drop j = [] := by first | (have q := hg3_3; simp at q; exact .inl (List.drop_eq_nil_of_le (by omega))) | (have q := hc22; simp at q; exact .inr (List.drop_eq_nil_of_le (by omega)))
      refine rn ?_
      refine aops_e rfl (oe_append_row rfl rfl (by simp only [List.length_map, List.length_drop]; omega) rfl (fun s51 => ?_) (one_conf _))
      refine aops_slice s51 fun sv1 hsv1 => ?_
      subst hsv1
      refine rn ?_
      refine aops_e rfl (oe_append_row rfl rfl (by simp only [List.length_map, List.length_append, List.length_drop]; omega) rfl (fun s53 => ?_) (one_conf _))
      refine aops_slice s53 fun sv2 hsv2 => ?_
      subst hsv2
      refine rn ?_
      refine ⟨fun l h => (by cases h), ?_⟩
      exact retq (.cons _ _ _ _ (.tmp _ _ rfl) .nil) (.refl _ _) ⟨sv2, by rw [← hm, mrg_over cmp hov, List.map_append, List.map_append, List.append_assoc], rfl⟩
    · have hi : i < a.length := by have q := hg3_3; simp at q; omega
      have hj : j < b.length := by have q := hc22; simp at q; omega
      have ia : ((a.drop i).map confR)[0]? = some (confR a[i]) := by rw [List.getElem?_map, List.getElem?_drop, Nat.add_zero, List.getElem?_eq_getElem hi]; rfl
      have ib : ((b.drop j).map confR)[0]? = some (confR b[j]) := by rw [List.getElem?_map, List.getElem?_drop, Nat.add_zero, List.getElem?_eq_getElem hj]; rfl
      refine rn ?_
      refine aw_draw 7 rfl ?_
      refine dq rfl rfl qrA ?_
      refine dq rfl rfl qrA ?_
      refine dq rfl rfl (qr_index_int rfl rfl (by decide) ib) ?_
      refine dq rfl rfl qrA ?_
      refine dq rfl rfl qrA ?_
      refine dq rfl rfl (qr_index_int rfl rfl (by decide) ia) ?_
      refine rn ?_
      refine qv rfl rfl (qv_call rfl rfl (FCall.pure (R := fun r => r = iv (cmp b[j] a[i])) (hp b[j] a[i]))) ?_
      refine rn ?_
      refine aw_cond rfl (fun hc31 => ?_) (fun hc31 => ?_)
      · have hlt : cmp b[j] a[i] < 0 := of_decide_eq_true hc31
        refine aw_drawU 9 [5] [8] (fun he => ∃ s' rows, he = [.row s' 7 70 rows]) rfl rfl ⟨_, _, rfl⟩ ?_
        refine jq rfl (fun he hC => by obtain ⟨s2, rows, rfl⟩ := hC <;> exact qrA) ?_
        refine jq rfl (fun he hC => by obtain ⟨s2, rows, rfl⟩ := hC <;> exact qrA) ?_
        refine jq rfl (fun he hC => by obtain ⟨s2, rows, rfl⟩ := hC <;> exact (by exact qr_index_int rfl rfl (by decide) ib)) ?_
        refine jq rfl (fun he hC => by obtain ⟨s2, rows, rfl⟩ := hC <;> exact qrA) ?_
        refine jv rfl (fun he hC => by obtain ⟨s2, rows, rfl⟩ := hC <;> exact (by exact qv_buildSlice rfl rfl)) ?_
        refine je rfl ?_
        refine jq rfl (fun he hC => by obtain ⟨s2, rows, rfl⟩ := hC <;> exact qrA) ?_
        refine jq rfl (fun he hC => by obtain ⟨s2, rows, rfl⟩ := hC <;> exact (by exact qr_as (qr_slice_l (l := 1) rfl rfl (by simp; omega)) (show AV.list false 7 _ = .list false 7 ((b.drop (j + 1)).map confR) by rw [← List.map_drop, List.drop_drop]))) ?_
        refine je rfl ?_
        refine jnil ?_
        refine jce rfl fun u => ?_
        refine oe_append_row rfl rfl (by simp only [List.length_map, List.length_cons, List.length_nil]; omega) rfl (fun s46 => ⟨_, _, rfl, ⟨_, _, rfl⟩, ?_⟩) (one_conf [b[j]])
        refine jcn ?_
        refine lq rfl rfl (by exact qrA) ?_
        refine ln ?_
        refine aops_slice s46 fun sv hsv => ?_
        subst hsv
        refine rn ?_
        exact ⟨(i, j + 1, p ++ [b[j]], sv), ⟨hi0, hj, by simp; omega, by rw [← hm, mrg_y cmp hi hj hlt, List.append_assoc]; rfl⟩, by rw [List.map_append]; exact eA, by simp only; omega⟩
      · have hlt : ¬ cmp b[j] a[i] < 0 := of_decide_eq_false hc31
        refine aw_drawU 9 [5] [8] (fun he => ∃ s' rows, he = [.row s' 7 70 rows]) rfl rfl ⟨_, _, rfl⟩ ?_
        refine jq rfl (fun he hC => by obtain ⟨s2, rows, rfl⟩ := hC <;> exact qrA) ?_
        refine jq rfl (fun he hC => by obtain ⟨s2, rows, rfl⟩ := hC <;> exact qrA) ?_
        refine jq rfl (fun he hC => by obtain ⟨s2, rows, rfl⟩ := hC <;> exact (by exact qr_index_int rfl rfl (by decide) ia)) ?_
        refine jq rfl (fun he hC => by obtain ⟨s2, rows, rfl⟩ := hC <;> exact qrA) ?_
        refine jv rfl (fun he hC => by obtain ⟨s2, rows, rfl⟩ := hC <;> exact (by exact qv_buildSlice rfl rfl)) ?_
        refine je rfl ?_
        refine jq rfl (fun he hC => by obtain ⟨s2, rows, rfl⟩ := hC <;> exact qrA) ?_
        refine jq rfl (fun he hC => by obtain ⟨s2, rows, rfl⟩ := hC <;> exact (by exact qr_as (qr_slice_l (l := 1) rfl rfl (by simp; omega)) (show AV.list false 7 _ = .list false 7 ((a.drop (i + 1)).map confR) by rw [← List.map_drop, List.drop_drop]))) ?_
        refine je rfl ?_
        refine jnil ?_
        refine jce rfl fun u => ?_
        refine oe_append_row rfl rfl (by simp only [List.length_map, List.length_cons, List.length_nil]; omega) rfl (fun s46 => ⟨_, _, rfl, ⟨_, _, rfl⟩, ?_⟩) (one_conf [a[i]])
        refine jcn ?_
        refine lq rfl rfl (by exact qrA) ?_
        refine ln ?_
        refine aops_slice s46 fun sv hsv => ?_
        subst hsv
        refine rn ?_
        exact ⟨(i + 1, j, p ++ [a[i]], sv), ⟨hi, hj0, by simp; omega, by rw [← hm, mrg_n cmp hi hj hlt, List.append_assoc]; rfl⟩, by rw [List.map_append]; exact eA, by simp only; omega⟩
end Go.Proofs
/- A loop over so many places with a state of its own; an append behind what was cut off. Conditions: none. -/
set_option linter.unusedVariables false
namespace Go.Ab
open Go
section
variable {P : Program} {ro : Option Nat} {nt : Nat} {c : Code} {Q : Exit → St → Prop} {t : Fr} {h : List Res} {ds : List Nat}
theorem aw_rngX {σ : Type} (n : Nat) (p : Nat → σ → Prop) (inv : Nat → σ → St) (x0 : σ) (hp : p 0 x0) (h0 : Ent nt ⟨t, h, ds⟩ (inv 0 x0))
    (round : ∀ k x, k ≤ n → p k x → aw P ro nt c (thn (fun s' => k < n ∧ ∃ x', p (k + 1) x' ∧ Ent nt s' (inv (k + 1) x')) Q) (inv k x)) : aw P ro nt (.loop c) Q ⟨t, h, ds⟩ :=
  aw_loop' (fun x : Nat × σ => x.1 ≤ n ∧ p x.1 x.2) (fun x => inv x.1 x.2) (fun x => n - x.1) (0, x0) ⟨Nat.zero_le _, hp⟩ h0 fun x hk => aw_mono (fun e s' hq => by
    cases e with
    | normal =>
      obtain ⟨h1, x', h2, h3⟩ := hq
      exact ⟨(x.1 + 1, x'), ⟨h1, h2⟩, h3, by simp only; omega⟩
    | _ => exact hq) (round x.1 x.2 hk.1 hk.2)
end
end Go.Ab
/- The walk of order.Sort. Conditions: none. -/
set_option linter.unusedVariables false
set_option linter.unusedSimpArgs false
set_option maxRecDepth 10000
namespace Go.Proofs
open Go Go.Ab
attribute [local irreducible] QR QV OE aops aw dsoup dsoupM dalloc dallocM thn inBlk jsoup jch lsoup
open Go.H
theorem both1Conf (x : List (SV × List Conf)) (sr : SV) (b5 b3 k : Nat) (hk : k + 1 = x.length) (hx : x.length ≤ 1000000000) : ACall Tryz.prog 169 [iv k, .v (.pointer (some ⟨b5, 0, none⟩)), .v (.pointer (some ⟨b3, 0, none⟩))] (.row sr.v 1 68 (cellsS x) :: .box b5 149 [.v sr.v] :: []) (fun r h' => h' = .row sr.v 1 68 (cellsS x) :: .box b5 149 [.v sr.v] :: [] ∧ r = .v (x[k]'(by omega)).1.v) := by
  refine acall_of_aw Tryz.func169 rfl rfl rfl ?_
  refine aw_seq (aw_region ?_)
  refine q1 ?_
  refine aops_nil (thn_n ?_)
  refine aw_seq ?_
  refine aw_seq (aw_region ?_)
  refine q1 ?_
  refine qq rfl rfl (qr_ari rfl rfl rfl (by omega)) ?_
  refine q1 ?_
  refine q1 ?_
  refine qq rfl rfl (qr_cmp (c := true) rfl rfl (congrArg some (by rw [List.length_map]; simp; omega))) ?_
  refine rn ?_
  refine aw_cond rfl (fun hc9 => ?_) (fun hc9 => ?_)
  · refine aw_seq (aw_region ?_)
    refine q1 ?_
    refine q1 ?_
    refine qq rfl rfl (qr_index_row (k := k) rfl rfl (by rw [List.length_map]; omega)) ?_
    refine qq rfl rfl (qr_load_rp_one rfl (cellsS_at (by omega)) rfl) ?_
    refine rn ?_
    refine rq 0 ?_
    exact ⟨rfl, rfl⟩
  · first | cases hc9 | exact absurd hc9 (by decide) | (exfalso; simp_all; done)
theorem scalConf (l : List Conf) : ∀ r ∈ l.map confR, ∀ a ∈ r, Scal a := by
  intro r hr a ha
  obtain ⟨c, _, rfl⟩ := List.mem_map.1 hr
  simp only [confR, List.mem_cons, List.not_mem_nil, or_false] at ha
  rcases ha with rfl | rfl | rfl | rfl | rfl | rfl | rfl <;> exact .v _
set_option maxHeartbeats 4000000 in
theorem both2Conf (x : List (SV × List Conf)) (sr : SV) (b5 b3 k : Nat) (hk : k + 1 < x.length) (hx : x.length ≤ 1000000000) (ha : ∀ p ∈ x, p.2.length ≤ 1000000000) (fv : AV) (cmp : Conf → Conf → Int) (hp : ∀ x y, FCall Tryz.prog fv [.agg (confR x), .agg (confR y)] [] (fun r h' => h' = [] ∧ r = iv (cmp x y))) : ACall Tryz.prog 169 [iv k, .v (.pointer (some ⟨b5, 0, none⟩)), .v (.pointer (some ⟨b3, 0, none⟩))] (.row sr.v 1 68 (cellsS x) :: .box b5 149 [.v sr.v] :: .box b3 71 [fv] :: .row (x[k]'(by omega)).1.v 7 70 ((x[k]'(by omega)).2.map confR) :: .row (x[k + 1]).1.v 7 70 ((x[k + 1]).2.map confR) :: []) (fun r h' => ∃ s : SV, h' = .row s.v 7 70 ((mrg cmp (x[k]'(by omega)).2 (x[k + 1]).2).map confR) :: .row sr.v 1 68 (cellsS x) :: .box b5 149 [.v sr.v] :: .box b3 71 [fv] :: .row (x[k]'(by omega)).1.v 7 70 ((x[k]'(by omega)).2.map confR) :: .row (x[k + 1]).1.v 7 70 ((x[k + 1]).2.map confR) :: [] ∧ r = .v s.v) := by
  refine acall_of_aw Tryz.func169 rfl rfl rfl ?_
  refine aw_seq (aw_region ?_)
  refine q1 ?_
  refine aops_nil (thn_n ?_)
  refine aw_seq ?_
  refine aw_seq (aw_region ?_)
  refine q1 ?_
  refine qq rfl rfl (qr_ari rfl rfl rfl (by omega)) ?_
  refine q1 ?_
  refine q1 ?_
  refine qq rfl rfl (qr_cmp (c := false) rfl rfl (congrArg some (by rw [List.length_map]; simp; omega))) ?_
  refine rn ?_
  refine aw_cond rfl (fun hc9 => ?_) (fun hc9 => ?_)
  · first | cases hc9 | exact absurd hc9 (by decide) | (exfalso; simp_all; done)
  · refine rn ?_
    refine aw_draw 10 rfl ?_
    refine dq rfl rfl qrA ?_
    refine dq rfl rfl qrA ?_
    refine dq rfl rfl (qr_index_row (k := k) rfl rfl (by rw [List.length_map]; omega)) ?_
    refine dq rfl rfl (qr_load_rp_one rfl (cellsS_at (by omega)) rfl) ?_
    refine dq rfl rfl qrA ?_
    refine dq rfl rfl qrA ?_
    refine dq rfl rfl (qr_ari rfl rfl rfl (by omega)) ?_
    refine dq rfl rfl (qr_index_row (k := k + 1) rfl rfl (by rw [List.length_map]; omega)) ?_
    refine dq rfl rfl (qr_load_rp_one rfl (cellsS_at hk) rfl) ?_
    refine rn ?_
    refine aops_e rfl (oe_call rfl rfl (FCall.lendG (FCall.of_fun (mergeConf (x[k]'(by omega)).2 (x[k + 1]).2 fv cmp hp (ha _ (List.getElem_mem _)) (ha _ (List.getElem_mem _)))) (by rintro _ _ ⟨s, rfl, rfl⟩; exact ⟨.v _, fun x hx => by rw [List.mem_singleton.1 hx]; exact scal_row (scalConf _)⟩) (BLe.refl _ _) (by exact ⟨ble_row, ble_row, BLe.refl _ _, trivial⟩)) rfl ?_)
    rintro _ _ ⟨_, rfl, s, rfl, rfl⟩
    refine rn ?_
    exact retq (.cons _ _ _ _ (.tmp _ _ rfl) .nil) (.refl _ _) ⟨s, rfl, rfl⟩
set_option maxHeartbeats 4000000 in
theorem sortConf (l : List Conf) (fv : AV) (hone : fv.cellsOf = some [fv]) (cmp : Conf → Conf → Int) (hp : ∀ x y, FCall Tryz.prog fv [.agg (confR x), .agg (confR y)] [] (fun r h' => h' = [] ∧ r = iv (cmp x y))) (hl : l.length ≤ 1000000000) : ACall Tryz.prog 132 [.list false 7 (l.map confR), fv] [] (fun r h' => ∃ s : SV, h' = [.row s.v 7 70 ((sortL cmp l).map confR)] ∧ r = .v s.v) := by
  refine acall_of_aw Tryz.func132 rfl rfl rfl ?_
  refine rn ?_
  refine aops_e rfl (oe_box rfl hone rfl fun b3 => ?_)
  refine rn ?_
  refine aops_e rfl (oe_alloc rfl fun b5 => ?_)
  refine rn ?_
  refine aw_rngX l.length (fun k (z : SV × List (SV × List Conf)) => z.2.map (·.2) = (l.take k).map fun a => [a]) (fun k z => ⟨[(13, iv k), (0, .list false 7 (l.map confR)), (3, .v (.pointer (some ⟨b3, 0, none⟩))), (5, .v (.pointer (some ⟨b5, 0, none⟩))), (12, iv (l.map confR).length)], .row z.1.v 1 68 (cellsS z.2) :: .box b5 149 [.v z.1.v] :: .box b3 71 [fv] :: runsR 7 70 confR z.2, []⟩) (⟨none, 0, 0⟩, []) rfl (ent_trans (ent_nilrow 1 68) es) ?_
  rintro k ⟨s, x⟩ lk zk
  simp only at zk
  have hxl : x.length = k := by have q := congrArg List.length zk; rw [List.length_map, List.length_map, List.length_take] at q; omega
  show aw _ _ _ _ _ ⟨[(13, iv k), (0, .list false 7 (l.map confR)), (3, .v (.pointer (some ⟨b3, 0, none⟩))), (5, .v (.pointer (some ⟨b5, 0, none⟩))), (12, iv (l.map confR).length)], .row s.v 1 68 (cellsS x) :: .box b5 149 [.v s.v] :: .box b3 71 [fv] :: runsR 7 70 confR x, []⟩
  refine rn ?_
  refine aw_cond rfl (fun hc14 => ?_) (fun hc14 => ?_)
  · have hk : k < l.length := by have q := of_decide_eq_true hc14; rw [List.length_map] at q; omega
    refine rn ?_
    refine aops_e rfl (oe_makeG (n := 1) (c := 1) rfl rfl rfl (Nat.le_refl _) (by decide) (hk := fun b16 => ?_))
    refine aops_slice (.slice (some ⟨b16, 0, none⟩) 1 1) fun s1 hs1 => ?_
    rw [hs1]
    clear hs1
    refine q1 ?_
    refine aops_nil (thn_n ?_)
    refine aw_seq (aw_region ?_)
    refine q1 ?_
    refine q1 ?_
    refine q1 ?_
    refine q1 ?_
    refine qq rfl rfl (qr_ari rfl rfl rfl (by omega)) ?_
    refine q1 ?_
    refine qq rfl rfl (qr_ari rfl rfl rfl (by omega)) ?_
    refine qq rfl rfl (qr_as (qr_slice_lhm (l := k) (k := k + 1) rfl rfl rfl rfl (by omega) (by rw [List.length_map]; exact hk)) (show AV.list true 7 _ = .list true 7 [confR l[k]] by rw [take_one (by rw [List.length_map]; exact hk), List.getElem_map])) ?_
    refine aops_e rfl (oe_copy_ln 1 rfl rfl rfl rfl (hk := ?_) (one_conf [l[k]]))
    refine rn ?_
    refine qv rfl rfl (qv_buildSlice rfl rfl) ?_
    refine aops_e rfl (oe_append_row rfl rfl (by simp only [List.length_map, List.length_cons, List.length_nil]; omega) rfl (fun s29 => ?_) (one_cellS s1))
    refine aops_slice s29 fun sv hsv => ?_
    subst hsv
    refine rn ?_
    exact ⟨hk, (sv, x ++ [(s1, [l[k]])]), by simp only; rw [List.map_append, zk, List.take_succ_eq_append_getElem hk, List.map_append]; rfl, ent_trans (ent_perm (perm_swap [_] _)) (by simp only; rw [cellsS_snoc, runsR_snoc]; exact es)⟩
  · have qk : k = l.length := by have q := of_decide_eq_false hc14; rw [List.length_map] at q; omega
    refine rn ?_
    refine aw_while (fun z : SV × List (SV × List Conf) => srtR cmp (z.2.map (·.2)) = srtR cmp (l.map fun a => [a]) ∧ (z.2.map (·.2)).flatten.length = l.length ∧ z.2.length ≤ l.length) (fun z => ⟨[(5, .v (.pointer (some ⟨b5, 0, none⟩))), (8, .fn (.func 169) [] [.v (.pointer (some ⟨b5, 0, none⟩)), .v (.pointer (some ⟨b3, 0, none⟩))])], .row z.1.v 1 68 (cellsS z.2) :: .box b5 149 [.v z.1.v] :: .box b3 71 [fv] :: runsR 7 70 confR z.2, []⟩) (fun z => z.2.length) (s, x) ⟨by simp only; rw [zk, qk, List.take_length], by simp only; rw [zk, qk, List.take_length, one_flat], by simp only; omega⟩ es ?_
    rintro ⟨sr, x⟩ ⟨zk, hfl, hxl⟩
    simp only at zk hfl hxl
    show aw _ _ _ _ _ ⟨[(5, .v (.pointer (some ⟨b5, 0, none⟩))), (8, .fn (.func 169) [] [.v (.pointer (some ⟨b5, 0, none⟩)), .v (.pointer (some ⟨b3, 0, none⟩))])], .row sr.v 1 68 (cellsS x) :: .box b5 149 [.v sr.v] :: .box b3 71 [fv] :: runsR 7 70 confR x, []⟩
    refine rn ?_
    refine aw_cond rfl (fun hc34 => ?_) (fun hc34 => ?_)
    · have h1 : 1 < x.length := by have q := of_decide_eq_true hc34; rw [cellsS_len] at q; omega
      have hcl := cellsS_len x
      have hxa : ∀ p ∈ x, p.2.length ≤ 1000000000 := fun p hm => Nat.le_trans (flat_mem (show p.2 ∈ x.map (·.2) from List.mem_map_of_mem hm)) (by rw [hfl]; exact hl)
      refine aw_skip ?_
      refine thn_n ?_
      refine aw_block ?_
      refine aw_seq (aw_region ?_)
      refine q1 ?_
      refine aops_nil (thn_n ?_)
      refine aw_seq ?_
      refine aw_seq (aw_region ?_)
      refine q1 ?_
      refine q1 ?_
      refine qq rfl rfl (qr_ari rfl rfl rfl (by omega)) ?_
      refine qq rfl rfl (qr_quo (c := (((((cellsS x).length + 1) / 2) : Nat) : Int)) rfl rfl (by decide) rfl (by omega)) ?_
      refine rn ?_
      rw [tail_start x]
      refine aw_rngX (((cellsS x).length + 1) / 2) (fun i (z : SV × List (SV × List Conf)) => z.2.map (·.2) = (pairUp cmp (x.map (·.2))).take i) (fun i z => ⟨[(39, iv i), (9, .v z.1.v), (5, .v (.pointer (some ⟨b5, 0, none⟩))), (8, .fn (.func 169) [] [.v (.pointer (some ⟨b5, 0, none⟩)), .v (.pointer (some ⟨b3, 0, none⟩))]), (38, iv ((((cellsS x).length + 1) / 2) : Nat))], .row z.1.v 1 68 (cellsS z.2) :: .row sr.v 1 68 (cellsS x) :: .box b5 149 [.v sr.v] :: .box b3 71 [fv] :: (runsR 7 70 confR (x.drop (2 * i)) ++ runsR 7 70 confR z.2), []⟩) (⟨none, 0, 0⟩, []) rfl (ent_trans (ent_nilrow 1 68) es) ?_
      rintro i ⟨sn, y⟩ li zi
      simp only at zi
      show aw _ _ _ _ _ ⟨[(39, iv i), (9, .v sn.v), (5, .v (.pointer (some ⟨b5, 0, none⟩))), (8, .fn (.func 169) [] [.v (.pointer (some ⟨b5, 0, none⟩)), .v (.pointer (some ⟨b3, 0, none⟩))]), (38, iv ((((cellsS x).length + 1) / 2) : Nat))], .row sn.v 1 68 (cellsS y) :: .row sr.v 1 68 (cellsS x) :: .box b5 149 [.v sr.v] :: .box b3 71 [fv] :: (runsR 7 70 confR (x.drop (2 * i)) ++ runsR 7 70 confR y), []⟩
      refine rn ?_
      refine aw_cond rfl (fun hc40 => ?_) (fun hc40 => ?_)
      · have hi : i < (((cellsS x).length + 1) / 2) := by have q := of_decide_eq_true hc40; omega
        have hyl : y.length = i := by have q := congrArg List.length zi; rw [List.length_map, List.length_take, pairUp_len, List.length_map] at q; omega
        refine aw_skip ?_
        refine thn_n ?_
        refine aw_seq ?_
        refine aw_block ?_
        refine aw_seq (aw_region ?_)
        refine q1 ?_
        refine q1 ?_
        refine aops_nil (thn_n ?_)
        refine aw_region ?_
        refine q1 ?_
        refine q1 ?_
        refine q1 ?_
        refine qq rfl rfl (qr_ari rfl rfl rfl (by omega)) ?_
        by_cases ho : 2 * i + 1 = x.length
        refine aops_e rfl (oe_call rfl rfl (FCall.qt (FCall.of_acall (fs := []) (cs := [.v (.pointer (some ⟨b5, 0, none⟩)), .v (.pointer (some ⟨b3, 0, none⟩))]) (both1Conf x sr b5 b3 (2 * i) ho (by omega))) ((pt1 _ _ _).trans (.cons _ (pt1 _ _ _)))) rfl ?_)
        rintro _ _ ⟨rfl, rfl⟩
        rotate_left
        rw [runsR_cons (x := x) (k := 2 * i) (by omega), runsR_cons (x := x) (k := 2 * i + 1) (by omega), List.cons_append, List.cons_append]
        refine aops_e rfl (oe_call rfl rfl (FCall.fr (FCall.of_acall (fs := []) (cs := [.v (.pointer (some ⟨b5, 0, none⟩)), .v (.pointer (some ⟨b3, 0, none⟩))]) (both2Conf x sr b5 b3 (2 * i) (by omega) (by omega) hxa fv cmp hp)) ((pt1 _ _ _).trans (.cons _ ((pt1 _ _ _).trans (.cons _ ((pt1 _ _ _).trans (.cons _ ((pt1 _ _ _).trans (.cons _ (pt1 _ _ _)))))))))) rfl ?_)
        rintro _ _ ⟨_, rfl, m, rfl, rfl⟩
        refine aops_ent (ent_perm (pt6 _ _ _ _ _ _ _ _)) ?_
        rotate_right
        · refine qv rfl rfl (qv_buildSlice rfl rfl) ?_
          refine aops_e rfl (oe_append_row rfl rfl (by simp only [List.length_map, List.length_cons, List.length_nil]; omega) rfl (fun s48 => ?_) (one_cellS _))
          refine aops_slice s48 fun sv hsv => ?_
          subst hsv
          refine rn ?_
          exact ⟨hi, (sv, y ++ [x[2 * i]'(by omega)]), by simp only; rw [List.map_append, zi, pair_take cmp (by rw [List.length_map]; omega), pair_odd cmp (by rw [List.length_map]; exact ho), List.getElem_map]; rfl, ent_trans (ent_perm (.cons _ (.cons _ (.cons _ (.cons _ (tail_odd ho)))))) (by simp only; rw [cellsS_snoc]; exact es)⟩
        · refine qv rfl rfl (qv_buildSlice rfl rfl) ?_
          refine aops_e rfl (oe_append_row rfl rfl (by simp only [List.length_map, List.length_cons, List.length_nil]; omega) rfl (fun s48 => ?_) (one_cellS _))
          refine aops_slice s48 fun sv hsv => ?_
          subst hsv
          refine rn ?_
          exact ⟨hi, (sv, y ++ [(m, mrg cmp (x[2 * i]'(by omega)).2 (x[2 * i + 1]'(by omega)).2)]), by simp only; rw [List.map_append, zi, pair_take cmp (by rw [List.length_map]; omega), pair_two cmp (by rw [List.length_map]; omega), List.getElem_map, List.getElem_map]; rfl, ent_trans (ent_perm ((pt5 _ _ _ _ _ _ _).trans (.cons _ ((pt5 _ _ _ _ _ _ _).trans (.cons _ (.cons _ ((pt1 _ _ _).trans (.cons _ ((pt1 _ _ _).trans (.cons _ (pt1 _ _ _))))))))))) (ent_trans (ent_drop (h1 := [_, _])) (ent_trans (ent_perm (.cons _ (.cons _ (.cons _ (.cons _ tail_two))))) (by simp only; rw [cellsS_snoc]; exact es)))⟩
      · have qi : i = (((cellsS x).length + 1) / 2) := by have q := of_decide_eq_false hc40; omega
        refine rn ?_
        exact ⟨(sn, y), ⟨by simp only; rw [zi, pair_all cmp (by rw [List.length_map]; omega), ← srtR_go cmp (by rw [List.length_map]; exact h1)]; exact zk, by simp only; rw [zi, pair_all cmp (by rw [List.length_map]; omega), (pairUp_perm cmp _).length_eq]; exact hfl, by simp only; have q := congrArg List.length zi; rw [List.length_map, pair_all cmp (by rw [List.length_map]; omega), pairUp_len, List.length_map] at q; omega⟩, ent_trans (ent_perm (pt1 _ _ _)) (ent_trans (ent_drop (h1 := [_])) (by rw [tail_end (by omega)]; exact es)), by simp only; have q := congrArg List.length zi; rw [List.length_map, pair_all cmp (by rw [List.length_map]; omega), pairUp_len, List.length_map] at q; omega⟩
    · have h1 : ¬ 1 < x.length := by have q := of_decide_eq_false hc34; rw [cellsS_len] at q; omega
      refine rn ?_
      refine aw_cond rfl (fun hc53 => ?_) (fun hc53 => ?_)
      · have h0 : x.length = 0 := by have q := of_decide_eq_true (show decide (((cellsS x).length : Int) = 0) = true from hc53); rw [cellsS_len] at q; omega
        obtain rfl := List.length_eq_zero_iff.1 h0
        refine rn ?_
        exact retq (.cons _ _ _ _ (.tmp _ _ rfl) .nil) (.trans (.drop [_, _, _] _ _) (vent_nilrow 7 70 _)) ⟨⟨none, 0, 0⟩, by rw [sort_nil cmp zk rfl]; rfl, rfl⟩
      · have h0 : ¬ x.length = 0 := by intro q; have e : (((cellsS x).length : Int) == 0) = false := hc53; rw [cellsS_len, q] at e; cases e
        obtain ⟨p, rfl⟩ := List.length_eq_one_iff.1 (show x.length = 1 by omega)
        refine aw_skip ?_
        refine thn_n ?_
        refine aw_seq (aw_region ?_)
        refine q1 ?_
        refine qq rfl rfl (qr_index_row (k := 0) rfl rfl (show 0 < (cellsS [p]).length from Nat.zero_lt_one)) ?_
        refine qq rfl rfl (qr_load_rp_one rfl rfl rfl) ?_
        refine rn ?_
        exact retq (.cons _ _ _ _ (.tmp _ _ rfl) .nil) (.drop [_, _, _] _ _) ⟨p.1, by rw [sort_one cmp zk]; rfl, rfl⟩
end Go.Proofs
/- The walks of the reference 18's Put, slices.Grow. Conditions: none. -/
set_option linter.unusedVariables false
set_option linter.unusedSimpArgs false
set_option maxRecDepth 10000
namespace Go.Proofs
open Go Go.Ab
attribute [local irreducible] QR QV OE aops aw dsoup dsoupM dalloc dallocM thn inBlk jsoup jch lsoup
open Go.H
set_option maxHeartbeats 4000000 in
theorem growConf (n : Nat) (hn : n ≤ 1000000000) : ACall Tryz.prog 171 [.v (.slice none 0 0), iv n] [] (fun r h' => ∃ s : SV, h' = [.row s.v 7 70 []] ∧ r = .v s.v) := by
  refine acall_of_aw Tryz.func171 rfl rfl rfl ?_
  refine rn ?_
  refine aw_cond rfl (fun hc6 => ?_) (fun hc6 => ?_)
  · exact absurd hc6 (by simp)
  · refine aw_skip ?_
    refine thn_n ?_
    refine aw_seq ?_
    refine aw_seq (aw_region ?_)
    refine aops_ent (ent_nilrow 7 70) ?_
    refine q1 ?_
    refine q1 ?_
    refine qq rfl rfl (qr_cap_nil rfl) ?_
    refine q1 ?_
    refine q1 ?_
    refine qq rfl rfl (qr_ari rfl rfl rfl (by have e : ([] : List (List AV)).length = 0 := rfl; omega)) ?_
    refine qq rfl rfl (qr_as (qr_ari rfl rfl rfl (by have e : ([] : List (List AV)).length = 0 := rfl; omega)) (show AV.v (.int .i64 ((n : Int) - (0 - (([] : List (List AV)).length : Int)))) = iv n by simp)) ?_
    refine rn ?_
    refine aw_cond rfl (fun hc16 => ?_) (fun hc16 => ?_)
    · refine aw_region ?_
      refine aops_ent (ent_nilrow 7 70) ?_
      refine q1 ?_
      refine q1 ?_
      refine qq rfl rfl (qr_cap_nil rfl) ?_
      refine qq rfl rfl (qr_slice_nil rfl rfl) ?_
      refine rn ?_
      refine aops_e rfl (oe_append_zeros (n := n) rfl rfl (by simp at hc16; omega) (by omega) rfl (hk := fun s22 => ?_))
      refine aops_slice s22 fun sv hsv => ?_
      subst hsv
      refine q1 ?_
      refine q1 ?_
      refine qq rfl rfl (qr_part_h (k := 0) rfl rfl (Nat.zero_le _)) ?_
      refine aops_short sv.v 0 (Nat.zero_le _) ?_
      refine aops_slice (partV sv.v 0 0 7) fun s1 hs1 => ?_
      rw [hs1]
      refine rn ?_
      first | exact retq (.cons _ _ _ _ (.tmp _ _ rfl) .nil) (.trans (.perm (pt1 _ _ _) _) (.drop [_] _ _)) ⟨s1, rfl, rfl⟩ | exact retq (.cons _ _ _ _ (.tmp _ _ rfl) .nil) (.refl _ _) ⟨⟨none, 0, 0⟩, rfl, rfl⟩
    · refine rn ?_
      first | exact retq (.cons _ _ _ _ (.tmp _ _ rfl) .nil) (.trans (.perm (pt1 _ _ _) _) (.drop [_] _ _)) ⟨s1, rfl, rfl⟩ | exact retq (.cons _ _ _ _ (.tmp _ _ rfl) .nil) (.refl _ _) ⟨⟨none, 0, 0⟩, rfl, rfl⟩
end Go.Proofs
/- The walks of slices.Concat, of ww's joined. Conditions: none. -/
set_option linter.unusedVariables false
set_option linter.unusedSimpArgs false
set_option maxRecDepth 10000
namespace Go.Proofs
open Go Go.Ab
attribute [local irreducible] QR QV OE aops aw dsoup dsoupM dalloc dallocM thn inBlk jsoup jch lsoup
open Go.H
abbrev confLL (ll : List (List Conf)) : List (List AV) := ll.map fun l => [.list false 7 (l.map confR)]
theorem fl_take {α : Type} (ll : List (List α)) (k : Nat) : (ll.take k).flatten.length ≤ ll.flatten.length := by
  conv => rhs; rw [← List.take_append_drop k ll, List.flatten_append, List.length_append]
  omega
theorem fl_s {α : Type} {ll : List (List α)} {k : Nat} (hk : k < ll.length) : (ll.take (k + 1)).flatten = (ll.take k).flatten ++ ll[k] := by
  rw [List.take_succ_eq_append_getElem hk, List.flatten_append]; simp
theorem fl_sl {α : Type} {ll : List (List α)} {k : Nat} (hk : k < ll.length) : (ll.take k).flatten.length + ll[k].length = (ll.take (k + 1)).flatten.length := by rw [fl_s hk, List.length_append]
/-- What is kept of those behind the k-th. -/
def ctl {α : Type} (q : α → α → Bool) (l : List α) (k : Nat) : List α := (compF q (l.drop k)).tail
theorem ctl_y {α : Type} {q : α → α → Bool} {l : List α} {k : Nat} (hk : k + 1 < l.length) (h : q l[k + 1] l[k] = true) : ctl q l k = ctl q l (k + 1) := by
  rw [ctl, ctl, List.drop_eq_getElem_cons (show k < l.length by omega), List.drop_eq_getElem_cons hk, compF, compF, compG, if_pos h]; rfl
theorem ctl_n {α : Type} {q : α → α → Bool} {l : List α} {k : Nat} (hk : k + 1 < l.length) (h : q l[k + 1] l[k] = false) : ctl q l k = l[k + 1] :: ctl q l (k + 1) := by
  rw [ctl, ctl, List.drop_eq_getElem_cons (show k < l.length by omega), List.drop_eq_getElem_cons hk, compF, compF, compG, if_neg (by rw [h]; decide)]; rfl
theorem ctl_end {α : Type} {q : α → α → Bool} {l : List α} {k : Nat} (hk : k < l.length) (h : l.length ≤ k + 1) : ctl q l k = [] := by
  rw [ctl, List.drop_eq_getElem_cons hk, List.drop_eq_nil_of_le h]; rfl
theorem ctl_0 {α : Type} {q : α → α → Bool} {l : List α} (h : 0 < l.length) : compF q l = l.take (0 + 1) ++ ctl q l 0 := by
  cases l with
  | nil => cases h
  | cons x r => rfl
theorem compF_short {α : Type} {q : α → α → Bool} {l : List α} (h : l.length < 2) : compF q l = l := by
  match l with
  | [] => rfl
  | [x] => rfl
  | _ :: _ :: _ => simp at h; omega
theorem drop_at {α : Type} {m l : List α} {a i : Nat} (h : m.drop a = l.drop a) : m[a + i]? = l[a + i]? := by
  rw [← List.getElem?_drop, ← List.getElem?_drop, h]
theorem map_at {α β : Type} {f : α → β} {m l : List α} {a : Nat} (h : m[a]? = l[a]?) (hk : a < l.length) : (m.map f)[a]? = some (f l[a]) := by
  rw [List.getElem?_map, h, List.getElem?_eq_getElem hk]; rfl
theorem drop_set {α : Type} {m l : List α} {a k : Nat} {x : α} (h : m.drop a = l.drop a) (hk : k ≤ a) : (m.set k x).drop (a + 1) = l.drop (a + 1) := by
  rw [List.drop_set_of_lt (by omega), ← List.drop_drop, h, List.drop_drop]
theorem drop_one {α : Type} {m l : List α} {a : Nat} (h : m.drop a = l.drop a) : m.drop (a + 1) = l.drop (a + 1) := by
  rw [← List.drop_drop, h, List.drop_drop]
theorem take_set {α : Type} {m : List α} {k : Nat} {x : α} (hk : k < m.length) : (m.set k x).take (k + 1) = m.take k ++ [x] := by
  rw [List.take_succ_eq_append_getElem (by simpa using hk), List.getElem_set_self, List.take_set, List.set_eq_of_length_le (by simp; omega)]
set_option maxHeartbeats 4000000 in
theorem concatConf {f : Bool} (ll : List (List Conf)) (hl : ll.flatten.length ≤ 1000000000) (hn : ll.length ≤ 1000000000) : ACall Tryz.prog 133 [.list f 1 (confLL ll)] [] (fun r h' => ∃ s : SV, h' = [.row s.v 7 70 (ll.flatten.map confR)] ∧ r = .v s.v) := by
  refine acall_of_aw Tryz.func133 rfl rfl rfl ?_
  refine rn ?_
  refine aw_range ll.length (fun k => True) (fun k => ⟨[(11, iv k), (3, iv ((ll.take (k)).flatten.length : Nat)), (0, .list f 1 (confLL ll)), (9, .list f 1 (confLL ll)), (10, iv (confLL ll).length)], [], []⟩) trivial es ?_
  intro k lk _
  refine rn ?_
  refine aw_cond rfl (fun hc12 => ?_) (fun hc12 => ?_)
  · have hk : k < ll.length := by have q := of_decide_eq_true hc12; simp at q; omega
    have rk : (confLL ll)[k]? = some [.list false 7 (ll[k].map confR)] := by rw [List.getElem?_map, List.getElem?_eq_getElem hk]; rfl
    have hb := fl_take ll k
    have hb1 := fl_take ll (k + 1)
    have hs := fl_sl hk
    refine aw_skip ?_
    refine thn_n ?_
    refine aw_seq ?_
    refine aw_block ?_
    refine aw_seq (aw_region ?_)
    refine qq rfl rfl (qr_index_list rfl rfl rk) ?_
    refine q1 ?_
    refine q1 ?_
    refine aops_nil (thn_n ?_)
    refine aw_seq (aw_region ?_)
    refine q1 ?_
    refine q1 ?_
    refine q1 ?_
    refine qq rfl rfl (qr_as (qr_ari rfl rfl rfl (by simp only [List.length_map]; omega)) (show AV.v (.int .i64 (((ll.take k).flatten.length : Nat) + ((ll[k].map confR).length : Nat))) = iv ((ll.take (k + 1)).flatten.length : Nat) by rw [List.length_map, ← hs]; rfl)) ?_
    refine rn ?_
    refine aw_cond rfl (fun hc20 => ?_) (fun hc20 => ?_)
    · exfalso
      have q := of_decide_eq_true hc20
      omega
    · refine rn ?_
      exact ⟨hk, trivial, eA⟩
  · have qk : k = ll.length := by have q := of_decide_eq_false hc12; simp at q; omega
    refine rn ?_
    refine aops_e rfl (oe_call rfl rfl (FCall.of_fun (growConf _ (by rw [qk, List.take_length]; exact hl))) rfl ?_)
    rintro _ _ ⟨s, rfl, rfl⟩
    refine rn ?_
    refine aw_rng1 ll.length (fun k s => ⟨[(27, iv k), (6, .v s.v), (25, .list f 1 (confLL ll)), (26, iv (confLL ll).length)], .row s.v 7 70 ((ll.take k).flatten.map confR) :: [], []⟩) s es ?_
    intro k s lk
    refine rn ?_
    refine aw_cond rfl (fun hc28 => ?_) (fun hc28 => ?_)
    · have hk : k < ll.length := by have q := of_decide_eq_true hc28; simp at q; omega
      have rk : (confLL ll)[k]? = some [.list false 7 (ll[k].map confR)] := by rw [List.getElem?_map, List.getElem?_eq_getElem hk]; rfl
      have hb := fl_take ll k
      have hb1 := fl_take ll (k + 1)
      have hs := fl_sl hk
      refine aw_skip ?_
      refine thn_n ?_
      refine aw_seq ?_
      refine aw_block ?_
      refine aw_seq (aw_region ?_)
      refine qq rfl rfl (qr_index_list rfl rfl rk) ?_
      refine rn ?_
      refine aops_e rfl (oe_append_row rfl rfl (by simp only [List.length_map]; omega) rfl (fun s33 => ?_) (one_conf _))
      refine aops_slice s33 fun sv hsv => ?_
      subst hsv
      refine rn ?_
      exact ⟨hk, sv, by rw [fl_s hk, List.map_append]; exact eA⟩
    · have qk : k = ll.length := by have q := of_decide_eq_false hc28; simp at q; omega
      refine rn ?_
      exact retq (.cons _ _ _ _ (.tmp _ _ rfl) .nil) (.refl _ _) ⟨s, by rw [qk, List.take_length], rfl⟩
theorem wwJoined {f : Bool} (ll : List (List Conf)) (hl : ll.flatten.length ≤ 1000000000) (hn : ll.length ≤ 1000000000) : ACall Tryz.prog 98 [.list f 1 (confLL ll)] [] (fun r h' => ∃ s : SV, h' = [.row s.v 7 70 ((sortL cmpC ll.flatten).map confR)] ∧ r = .v s.v) := by
  refine acall_of_aw Tryz.func98 rfl rfl rfl ?_
  refine rn ?_
  refine aops_e rfl (oe_call rfl rfl (FCall.of_fun (concatConf ll hl hn)) rfl ?_)
  rintro _ _ ⟨s, rfl, rfl⟩
  refine aops_e rfl (oe_call rfl rfl (FCall.lendG (FCall.of_fun (sortConf ll.flatten (.fn (.func 34) [] []) rfl cmpC (fun x y => FCall.of_fun (wwCompare x y)) hl)) (by rintro _ _ ⟨s, rfl, rfl⟩; exact ⟨.v _, fun x hx => by rw [List.mem_singleton.1 hx]; exact scal_row (scalConf _)⟩) (BLe.refl _ _) (by exact ⟨ble_row, BLe.refl _ _, trivial⟩)) rfl ?_)
  rintro _ _ ⟨_, rfl, s2, rfl, rfl⟩
  refine rn ?_
  exact retq (.cons _ _ _ _ (.tmp _ _ rfl) .nil) (.trans (.perm (pt1 _ _ _) _) (.drop [_] _ _)) ⟨s2, rfl, rfl⟩
theorem wwSame (a b : Conf) : ACall Tryz.prog 99 [.agg (confR a), .agg (confR b)] [] (fun r h' => h' = [] ∧ r = bv (sameFT a b)) := by
  refine acall_of_aw Tryz.func99 rfl rfl rfl ?_
  refine rn ?_
  refine aops_e rfl (oe_box rfl rfl rfl fun b2 => ?_)
  refine aops_e rfl (oe_box rfl rfl rfl fun b3 => ?_)
  refine rn ?_
  refine asplit (fun hg1_5 => ?_) (fun hg1_5 => ?_)
  · refine rn ?_
    refine rq 2 ?_
    exact ⟨rfl, congrArg bv (by rw [sameFT]; first | rfl | (simp_all; done))⟩
  · refine rn ?_
    refine rq 2 ?_
    exact ⟨rfl, congrArg bv (by rw [sameFT]; first | rfl | (simp_all; done))⟩
end Go.Proofs
/- The walk of slices.CompactFunc. Conditions: none. -/
set_option linter.unusedVariables false
set_option linter.unusedSimpArgs false
set_option maxRecDepth 10000
namespace Go.Proofs
open Go Go.Ab
attribute [local irreducible] QR QV OE aops aw dsoup dsoupM dalloc dallocM thn inBlk jsoup jch lsoup
open Go.H
set_option maxHeartbeats 4000000 in
theorem compactConf (l : List Conf) (sv : SV) (fv : AV) (q : Conf → Conf → Bool) (hp : ∀ x y, FCall Tryz.prog fv [.agg (confR x), .agg (confR y)] [] (fun r h' => h' = [] ∧ r = bv (q x y))) (hl : l.length ≤ 1000000000) : ACall Tryz.prog 97 [.v sv.v, fv] (.row sv.v 7 70 (l.map confR) :: []) (fun r h' => ∃ s : SV, h' = [.row s.v 7 70 ((compF q l).map confR)] ∧ r = .v s.v) := by
  refine acall_of_aw Tryz.func97 rfl rfl rfl ?_
  refine rn ?_
  refine aw_cond rfl (fun hc10 => ?_) (fun hc10 => ?_)
  · have h2 : l.length < 2 := by have q := of_decide_eq_true hc10; rw [List.length_map] at q; omega
    refine rn ?_
    exact retq (.cons _ _ _ _ (.tmp _ _ rfl) .nil) (.refl _ _) ⟨sv, by rw [compF_short h2], rfl⟩
  · have h2 : ¬ l.length < 2 := by have q := of_decide_eq_false hc10; rw [List.length_map] at q; omega
    refine rn ?_
    refine aw_while (fun p : Nat => p + 1 ≤ l.length ∧ compF q l = l.take (p + 1) ++ ctl q l p) (fun p => ⟨[(5, iv (p + 1 : Nat)), (0, .v sv.v), (1, fv)], .row sv.v 7 70 (l.map confR) :: [], []⟩) (fun p => l.length - p) 0 ⟨by omega, ctl_0 (by omega)⟩ es ?_
    rintro p ⟨hp0, zk⟩
    refine rn ?_
    refine aw_cond rfl (fun hc15 => ?_) (fun hc15 => ?_)
    · have hk : p + 1 < l.length := by have q := of_decide_eq_true hc15; rw [List.length_map] at q; omega
      have r1 : (l.map confR)[p + 1]? = some (confR l[p + 1]) := map_at rfl hk
      have r0 : (l.map confR)[p]? = some (confR (l[p]'(by omega))) := map_at rfl (by omega)
      refine rn ?_
      refine aw_draw 10 rfl ?_
      refine dq rfl rfl qrA ?_
      refine dq rfl rfl qrA ?_
      refine dq rfl rfl qrA ?_
      refine dq rfl rfl (qr_index_row (k := p + 1) rfl rfl (by rw [List.length_map]; omega)) ?_
      refine dq rfl rfl (qr_load_rp_all (row := confR l[p + 1]) rfl (r1) rfl) ?_
      refine dq rfl rfl qrA ?_
      refine dq rfl rfl qrA ?_
      refine dq rfl rfl (qr_as (qr_ari rfl rfl rfl (by omega)) (show AV.v (.int .i64 (((p + 1 : Nat) : Int) - 1)) = iv (p : Nat) by rw [Int.natCast_add]; simp)) ?_
      refine dq rfl rfl (qr_index_row (k := p) rfl rfl (by rw [List.length_map]; omega)) ?_
      refine dq rfl rfl (qr_load_rp_all (row := confR (l[p]'(by omega))) rfl (r0) rfl) ?_
      refine rn ?_
      refine qv rfl rfl (qv_call rfl rfl (FCall.pure (R := fun r => r = bv (q l[p + 1] (l[p]'(by omega)))) (hp l[p + 1] (l[p]'(by omega))))) ?_
      refine rn ?_
      refine aw_cond rfl (fun hc28 => ?_) (fun hc28 => ?_)
      · refine aw_seq (aw_region ?_)
        refine q1 ?_
        refine q1 ?_
        refine qq rfl rfl (qr_part_l (l := p + 1) rfl rfl (by rw [List.length_map]; omega)) ?_
        rw [List.length_map]
        refine rn ?_
        refine aw_while (fun z : Nat × Nat × List Conf => z.2.1 ≤ p + 1 + z.1 ∧ p + 1 + z.1 < l.length ∧ z.2.2.length = l.length ∧ z.2.2.drop (p + 1 + z.1) = l.drop (p + 1 + z.1) ∧ compF q l = z.2.2.take z.2.1 ++ ctl q l (p + 1 + z.1)) (fun z => ⟨[(5, iv z.2.1), (7, iv (z.1 + 1 : Nat)), (0, .v sv.v), (1, fv), (6, .v (partV sv.v (p + 1) l.length 7))], .row sv.v 7 70 (z.2.2.map confR) :: [], []⟩) (fun z => l.length - z.1) (0, p + 1, l) ⟨Nat.le_refl _, hk, rfl, rfl, by rw [zk, ctl_y hk hc28]; rfl⟩ es ?_
        rintro ⟨j, kk, m⟩ ⟨hkk, hj, hml, hd, zm⟩
        simp only at hkk hj hml hd zm
        show aw _ _ _ _ _ ⟨[(5, iv kk), (7, iv (j + 1 : Nat)), (0, .v sv.v), (1, fv), (6, .v (partV sv.v (p + 1) l.length 7))], .row sv.v 7 70 (m.map confR) :: [], []⟩
        refine aw_seq ?_
        refine aw_seq (aw_region ?_)
        refine q1 ?_
        refine q1 ?_
        refine qq rfl rfl (qr_len_part rfl) ?_
        refine rn ?_
        refine aw_cond rfl (fun hc35 => ?_) (fun hc35 => ?_)
        · have ha : p + 1 + j + 1 < l.length := by have q := of_decide_eq_true hc35; omega
          have r1 : (m.map confR)[p + 1 + (j + 1)]? = some (confR l[p + 1 + j + 1]) := map_at (a := p + 1 + j + 1) (drop_at (i := 1) hd) ha
          have r0 : (m.map confR)[p + 1 + j]? = some (confR (l[p + 1 + j]'(by omega))) := map_at (drop_at (i := 0) hd) (by omega)
          have rk : (m.map confR)[kk]? = some (confR (m[kk]'(by omega))) := map_at rfl (by omega)
          refine rn ?_
          refine aw_draw 10 rfl ?_
          refine dq rfl rfl qrA ?_
          refine dq rfl rfl qrA ?_
          refine dq rfl rfl qrA ?_
          refine dq rfl rfl (qr_index_part (k := j + 1) rfl rfl (by omega) (by rw [List.length_map]; omega)) ?_
          refine dq rfl rfl (qr_load_rp_all (row := confR l[p + 1 + j + 1]) rfl (r1) rfl) ?_
          refine dq rfl rfl qrA ?_
          refine dq rfl rfl qrA ?_
          refine dq rfl rfl (qr_as (qr_ari rfl rfl rfl (by omega)) (show AV.v (.int .i64 (((j + 1 : Nat) : Int) - 1)) = iv (j : Nat) by rw [Int.natCast_add]; simp)) ?_
          refine dq rfl rfl (qr_index_part (k := j) rfl rfl (by omega) (by rw [List.length_map]; omega)) ?_
          refine dq rfl rfl (qr_load_rp_all (row := confR (l[p + 1 + j]'(by omega))) rfl (r0) rfl) ?_
          refine rn ?_
          refine qv rfl rfl (qv_call rfl rfl (FCall.pure (R := fun r => r = bv (q l[p + 1 + j + 1] (l[p + 1 + j]'(by omega)))) (hp l[p + 1 + j + 1] (l[p + 1 + j]'(by omega))))) ?_
          refine rn ?_
          refine aw_cond rfl (fun hc49 => ?_) (fun hc49 => ?_)
          · have hq : q l[p + 1 + j + 1] (l[p + 1 + j]'(by omega)) = false := by simpa using hc49
            refine aw_seq (aw_region ?_)
            refine q1 ?_
            refine q1 ?_
            refine q1 ?_
            refine q1 ?_
            refine qq rfl rfl (qr_index_part (k := j + 1) rfl rfl (by omega) (by rw [List.length_map]; omega)) ?_
            refine qq rfl rfl (qr_load_rp_all (row := confR l[p + 1 + j + 1]) rfl (r1) rfl) ?_
            refine qq rfl rfl (qr_index_row (k := kk) rfl rfl (by rw [List.length_map]; omega)) ?_
            refine aops_e rfl (oe_store_rp rfl rfl rfl rk rfl (Nat.le_of_ble_eq_true rfl) ?_)
            refine rn ?_
            exact ⟨(j + 1, kk + 1, m.set kk l[p + 1 + j + 1]), ⟨by simp only; omega, by simp only; omega, by simp only [List.length_set]; exact hml, drop_set hd hkk, by simp only; rw [zm, ctl_n ha hq, take_set (by omega), List.append_assoc]; rfl⟩, by simp only; rw [List.map_set]; exact es, by simp only; omega⟩
          · have hq : q l[p + 1 + j + 1] (l[p + 1 + j]'(by omega)) = true := by simpa using hc49
            refine rn ?_
            exact ⟨(j + 1, kk, m), ⟨by simp only; omega, by simp only; omega, hml, drop_one hd, by simp only; rw [zm, ctl_y ha hq]; rfl⟩, eA, by simp only; omega⟩
        · have qa : l.length ≤ p + 1 + j + 1 := by have q := of_decide_eq_false hc35; omega
          refine aw_exit ?_
          refine thn_e ?_
          refine thn_e ?_
          refine inBlk_hit ?_
          refine thn_n ?_
          refine aw_seq (aw_region ?_)
          refine q1 ?_
          refine q1 ?_
          refine qq rfl rfl (qr_part_l (l := kk) rfl rfl (by rw [List.length_map]; omega)) ?_
          refine aops_e rfl (oe_clear_part (d := kk) (bytes := 0) rfl (by rw [List.length_map]; omega) (hk := ?_))
          refine aops_nil (thn_n ?_)
          refine aw_seq (aw_region ?_)
          refine q1 ?_
          refine q1 ?_
          refine qq rfl rfl (qr_part_h (k := kk) rfl rfl (by simp; omega)) ?_
          refine aops_short sv.v kk (by simp; omega) ?_
          refine aops_slice (partV sv.v 0 kk 7) fun s1 hs1 => ?_
          rw [hs1]
          refine rn ?_
          exact retq (.cons _ _ _ _ (.tmp _ _ rfl) .nil) (.refl _ _) ⟨s1, by rw [List.take_left' (by simp; omega), ← List.map_take, zm, ctl_end hj qa, List.append_nil], rfl⟩
      · refine rn ?_
        exact ⟨p + 1, ⟨by omega, by rw [zk, ctl_n hk hc28, List.take_succ_eq_append_getElem hk, List.append_assoc]; rfl⟩, eA, by omega⟩
    · have qk : l.length ≤ p + 1 := by have q := of_decide_eq_false hc15; rw [List.length_map] at q; omega
      refine rn ?_
      exact retq (.cons _ _ _ _ (.tmp _ _ rfl) .nil) (.refl _ _) ⟨sv, by rw [zk, ctl_end (by omega) qk, List.append_nil, List.take_of_length_le qk], rfl⟩
end Go.Proofs
/- The walks of the index's Check and events. Conditions: none. -/
set_option linter.unusedVariables false
set_option linter.unusedSimpArgs false
set_option maxRecDepth 10000
namespace Go.Proofs
open Go Go.Ab
attribute [local irreducible] QR QV OE aops aw dsoup dsoupM dalloc dallocM thn inBlk jsoup jch lsoup
open Go.H
theorem ixCheck (h : Hist) (la : Lim 4611686018427387904 h) : ACall Tryz.prog 50 [.agg (histC h)] [.glob 0 186 limitsC, .glob 2 287 firstC, .glob 3 290 acceptC, .glob 1 250 asksC] (fun r h' => h' = [.glob 0 186 limitsC, .glob 2 287 firstC, .glob 3 290 acceptC, .glob 1 250 asksC] ∧ r = iv (checkI h)) := by
  refine acall_of_aw Tryz.func50 rfl rfl rfl ?_
  refine rn ?_
  refine aops_e rfl (oe_box rfl rfl rfl fun b1 => ?_)
  refine rn ?_
  refine qv rfl rfl (qv_call rfl rfl (FCall.qt (FCall.of_fun (check h la)) ((pt1 _ _ _).trans (.cons _ ((pt1 _ _ _).trans (.cons _ (pt1 _ _ _))))))) ?_
  refine rn ?_
  refine aw_cond rfl (fun hc7 => ?_) (fun hc7 => ?_)
  · have hm : ¬ mayB h = true := by intro q; rw [checkE, if_pos q] at hc7; cases hc7
    have he : checkE h = 210 := by rw [checkE, if_neg hm]
    refine rn ?_
    refine rq 1 ?_
    exact ⟨rfl, by rw [checkI, if_neg hm, he]; rfl⟩
  · have hm : mayB h = true := check_0.1 (by simpa using hc7)
    refine rn ?_
    refine qv rfl rfl (qv_call rfl rfl (FCall.qt (FCall.of_fun (rSound h la)) ((pt1 _ _ _).trans (.cons _ ((pt1 _ _ _).trans (.cons _ ((pt1 _ _ _).trans (.cons _ (pt1 _ _ _))))))))) ?_
    refine rn ?_
    refine aw_cond rfl (fun hc11 => ?_) (fun hc11 => ?_)
    · refine rn ?_
      refine rq 1 ?_
      exact ⟨rfl, by rw [checkI, if_pos hm]; simp_all; rfl⟩
    · refine rn ?_
      refine rq 1 ?_
      exact ⟨rfl, by rw [checkI, if_pos hm]; simp_all; rfl⟩
theorem ixEvents (h : Hist) (kd : Int) (W : List Res) : ACall Tryz.prog 119 [.agg (histC h), iv kd] W (fun r h' => ∃ b1 b2, h' = .box b1 28 (histC h) :: .box b2 3 [iv kd] :: W ∧ r = .fn (.func 148) [] [.v (.pointer (some ⟨b1, 0, none⟩)), .v (.pointer (some ⟨b2, 0, none⟩))]) := by
  refine acall_of_aw Tryz.func119 rfl rfl rfl ?_
  refine rn ?_
  refine aops_e rfl (oe_box rfl rfl rfl fun b2 => ?_)
  refine aops_e rfl (oe_box rfl rfl rfl fun b3 => ?_)
  refine rn ?_
  exact retq (.cons _ _ _ _ (.tmp _ _ rfl) .nil) (.perm (pt1 _ _ _) _) ⟨_, _, rfl, rfl⟩
set_option maxHeartbeats 4000000 in
theorem ixEvents1 {σ : Type} (h : Hist) (la : h.evs.length ≤ 1000000) (kd : Int) (y : AV) (b1 b2 : Nat) (p q : Nat → σ → Prop) (I F : Nat → σ → List Res) (x0 : σ) (hp0 : p 0 x0) (hy : ∀ k x, (hk : k < h.evs.length) → p k x → (h.evs[k].kind == kd) = true → FCall Tryz.prog y [iv k, .agg (evR h.evs[k])] (.box b1 28 (histC h) :: .box b2 3 [iv kd] :: I k x) (fun r h' => ∃ x', (r = bv true ∧ p (k + 1) x' ∧ h' = .box b1 28 (histC h) :: .box b2 3 [iv kd] :: I (k + 1) x') ∨ (r = bv false ∧ q k x' ∧ h' = .box b1 28 (histC h) :: .box b2 3 [iv kd] :: F k x'))) (hs : ∀ k x, (hk : k < h.evs.length) → p k x → (h.evs[k].kind == kd) = false → ∃ x', p (k + 1) x' ∧ I (k + 1) x' = I k x) : ACall Tryz.prog 148 [y, .v (.pointer (some ⟨b1, 0, none⟩)), .v (.pointer (some ⟨b2, 0, none⟩))] (.box b1 28 (histC h) :: .box b2 3 [iv kd] :: I 0 x0) (fun r h' => (∃ x, p h.evs.length x ∧ h' = I h.evs.length x) ∨ ∃ k x, q k x ∧ h' = F k x) := by
  refine acall_of_aw Tryz.func148 rfl rfl rfl ?_
  refine rn ?_
  refine aw_rngX h.evs.length p (fun k x => ⟨[(9, iv k), (0, y), (2, .v (.pointer (some ⟨b2, 0, none⟩))), (7, evsA h.evs), (8, iv (h.evs.map evR).length)], .box b1 28 (histC h) :: .box b2 3 [iv kd] :: I k x, []⟩) x0 hp0 es ?_
  intro k x lk zk
  refine rn ?_
  refine aw_cond rfl (fun hc10 => ?_) (fun hc10 => ?_)
  · have hk := ltMap hc10
    have rk := atRow (f := evR) hk
    refine rn ?_
    refine aops_e rfl (oe_alloc rfl fun b5 => ?_)
    refine rn ?_
    refine asplit (fun hg3_4 => ?_) (fun hg3_4 => ?_)
    · refine q1 ?_
      refine q1 ?_
      refine q1 ?_
      refine aops_e rfl (oe_call rfl rfl (FCall.fr1 (hy k x hk zk (by simpa using hg3_4))) rfl ?_)
      rintro _ _ ⟨_, rfl, x', ⟨rfl, hp, rfl⟩ | ⟨rfl, hq, rfl⟩⟩
      · refine rn ?_
        refine aw_cond rfl (fun hc24 => ?_) (fun hc24 => ?_)
        · first | cases hc24 | exact absurd hc24 (by decide) | (exfalso; simp_all; done)
        · refine rn ?_
          exact ⟨hk, x', hp, eA⟩
      · refine rn ?_
        refine aw_cond rfl (fun hc24 => ?_) (fun hc24 => ?_)
        · refine rn ?_
          exact retq .nil (.drop [_, _, _] _ _) (.inr ⟨k, x', hq, rfl⟩)
        · first | cases hc24 | exact absurd hc24 (by decide) | (exfalso; simp_all; done)
    · refine rn ?_
      refine aw_cf rfl ?_
      refine rn ?_
      obtain ⟨x', hp, e⟩ := hs k x hk zk (by simpa using hg3_4)
      exact ⟨hk, x', hp, by rw [e]; exact eA⟩
  · have qk := geMap hc10 lk
    subst qk
    refine rn ?_
    exact retq_n .nil (.drop [_, _] _ _) (.inl ⟨x, zk, rfl⟩)
end Go.Proofs
/- The walks of the index's gather. Conditions: none. -/
set_option linter.unusedVariables false
set_option linter.unusedSimpArgs false
set_option maxRecDepth 10000
namespace Go.Proofs
open Go Go.Ab
attribute [local irreducible] QR QV OE aops aw dsoup dsoupM dalloc dallocM thn inBlk jsoup jch lsoup
open Go.H
def gatF {α : Type} (kd : Int) (x : Nat → Ev → α) (p : Nat → Ev → Bool) (k : Nat) (e : Ev) : Option α := if (e.kind == kd && p k e) = true then some (x k e) else none
theorem gatF_k {α : Type} {kd : Int} {x : Nat → Ev → α} {p : Nat → Ev → Bool} {k : Nat} {e : Ev} (h : (e.kind == kd) = false) : gatF kd x p k e = none := by rw [gatF, h]; simp
theorem gatF_n {α : Type} {kd : Int} {x : Nat → Ev → α} {p : Nat → Ev → Bool} {k : Nat} {e : Ev} (h : p k e = false) : gatF kd x p k e = none := by rw [gatF, h]; simp
theorem gatF_y {α : Type} {kd : Int} {x : Nat → Ev → α} {p : Nat → Ev → Bool} {k : Nat} {e : Ev} (h1 : (e.kind == kd) = true) (h : p k e = true) : gatF kd x p k e = some (x k e) := by rw [gatF, h1, h]; simp
theorem gatK_n {α : Type} {f : Nat → Ev → Option α} {l : List Ev} {k : Nat} (h : k < l.length) (hf : f k l[k] = none) : gatK f l (k + 1) = gatK f l k := by rw [gatK_s h, hf]; simp
theorem gatK_y {α : Type} {f : Nat → Ev → Option α} {l : List Ev} {k : Nat} {a : α} (h : k < l.length) (hf : f k l[k] = some a) : gatK f l (k + 1) = gatK f l k ++ [a] := by rw [gatK_s h, hf]; rfl
set_option maxHeartbeats 4000000 in
theorem ixGatI (h : Hist) (la : h.evs.length ≤ 1000000) (kd : Int) (fv : AV) (hone : fv.cellsOf = some [fv]) (W : List Res) (x : Nat → Ev → Int) (p : Nat → Ev → Bool) (hp : ∀ k, (hk : k < h.evs.length) → (h.evs[k].kind == kd) = true → FCall Tryz.prog fv [iv k, .agg (evR h.evs[k])] W (fun r h' => h' = W ∧ r = .tup [iv (x k h.evs[k]), bv (p k h.evs[k])])) : ACall Tryz.prog 73 [.agg (histC h), iv kd, fv] W (fun r h' => ∃ s : SV, h' = .row s.v 1 3 ((gatK (gatF kd x p) h.evs h.evs.length).map intR) :: W ∧ r = .v s.v) := by
  refine acall_of_aw Tryz.func73 rfl rfl rfl ?_
  refine rn ?_
  refine aops_e rfl (oe_box rfl rfl rfl fun b3 => ?_)
  refine aops_e rfl (oe_box rfl hone rfl fun b5 => ?_)
  refine rn ?_
  refine aops_e rfl (oe_alloc rfl fun b7 => ?_)
  refine rn ?_
  refine aops_e rfl (oe_call rfl rfl (FCall.of_fun (ixEvents h kd _)) rfl ?_)
  rintro _ _ ⟨b1, b2, rfl, rfl⟩
  refine rn ?_
  refine aw_ent (s' := ⟨[(14, .fn (.func 148) [] [.v (.pointer (some ⟨b1, 0, none⟩)), .v (.pointer (some ⟨b2, 0, none⟩))]), (5, .v (.pointer (some ⟨b5, 0, none⟩))), (7, .v (.pointer (some ⟨b7, 0, none⟩)))], .box b1 28 (histC h) :: .box b2 3 [iv kd] :: .box b7 29 [.v (⟨none, 0, 0⟩ : SV).v] :: .row (⟨none, 0, 0⟩ : SV).v 1 3 ((gatK (gatF kd x p) h.evs 0).map intR) :: .box b5 122 [fv] :: .box b3 28 (histC h) :: W, []⟩) (ent_trans (ent_trans (ent_nilrow 1 3) (ent_perm ((pt1 _ _ _).trans (.cons _ ((pt1 _ _ _).trans (.cons _ (pt1 _ _ _))))))) es) ?_
  refine aw_rf (fun pend h'' => pend = none ∧ ∃ s : SV, h'' = .box b7 29 [.v s.v] :: .row s.v 1 3 ((gatK (gatF kd x p) h.evs h.evs.length).map intR) :: .box b5 122 [fv] :: .box b3 28 (histC h) :: W) rfl (fun fn l q lp hlp => ?_) (fun q h'' hK => ?_) (fun q h'' c hK => ?_)
  · suffices hy : ∀ k (s : SV), (hk : k < h.evs.length) → True → (h.evs[k].kind == kd) = true → FCall Tryz.prog (yv l) [iv k, .agg (evR h.evs[k])] (.box b1 28 (histC h) :: .box b2 3 [iv kd] :: lp .ready none :: .defs q :: .box b7 29 [.v s.v] :: .row s.v 1 3 ((gatK (gatF kd x p) h.evs k).map intR) :: .box b5 122 [fv] :: .box b3 28 (histC h) :: W) (fun r h' => ∃ s' : SV, (r = bv true ∧ True ∧ h' = .box b1 28 (histC h) :: .box b2 3 [iv kd] :: lp .ready none :: .defs q :: .box b7 29 [.v s'.v] :: .row s'.v 1 3 ((gatK (gatF kd x p) h.evs (k + 1)).map intR) :: .box b5 122 [fv] :: .box b3 28 (histC h) :: W) ∨ (r = bv false ∧ False ∧ h' = .box b1 28 (histC h) :: .box b2 3 [iv kd] :: [])) by
      refine ACall.mono (ACall.perm ((pt2 _ _ _ _).trans (.cons _ (pt2 _ _ _ _))) (ixEvents1 h la kd (yv l) b1 b2 (fun _ _ => True) (fun _ _ => False) (fun k (s : SV) => lp .ready none :: .defs q :: .box b7 29 [.v s.v] :: .row s.v 1 3 ((gatK (gatF kd x p) h.evs k).map intR) :: .box b5 122 [fv] :: .box b3 28 (histC h) :: W) (fun _ _ => []) ⟨none, 0, 0⟩ trivial hy (fun k s hk _ hn => ⟨s, trivial, by rw [gatK_n hk (gatF_k hn)]⟩))) ?_
      rintro _ _ (⟨s, _, rfl⟩ | ⟨_, _, hF, _⟩)
      · exact ⟨none, .ready, _, .refl _, by simp, rfl, s, rfl⟩
      · exact hF.elim
    intro k s hk _ hkd
    refine FCall.perm (pt2 _ _ _ _) (FCall.ventE ?_)
    refine fcall_yl2 hlp rfl rfl ?_
    refine rn ?_
    refine aops_e rfl (oe_alloc rfl fun b9 => ?_)
    refine rn ?_
    refine ⟨[(8, iv k), (9, .v (.pointer (some ⟨b9, 0, none⟩))), (5, .v (.pointer (some ⟨b5, 0, none⟩))), (7, .v (.pointer (some ⟨b7, 0, none⟩)))], .box b9 56 (evR h.evs[k]) :: .box b1 28 (histC h) :: .box b2 3 [iv kd] :: .defs q :: .box b7 29 [.v s.v] :: .row s.v 1 3 ((gatK (gatF kd x p) h.evs k).map intR) :: .box b5 122 [fv] :: .box b3 28 (histC h) :: W, ent_trans (ent_perm (pt1 _ _ _)) es, ?_⟩
    refine rn ?_
    refine qv rfl rfl (qv_call rfl rfl (FCall.qt (h2 := [_, _, _, _, _, _, _, _, _]) (hp k hk hkd) (perm_swap [_, _, _, _, _, _, _, _, _] _))) ?_
    refine rn ?_
    refine aw_cond rfl (fun hc24 => ?_) (fun hc24 => ?_)
    · refine aw_region ?_
      refine q1 ?_
      refine q1 ?_
      refine q1 ?_
      refine q1 ?_
      refine q1 ?_
      refine qq rfl rfl (qr_cut_row rfl (by rfl) (by rfl)) ?_
      refine rn ?_
      refine qv rfl rfl (qv_buildSlice rfl rfl) ?_
      refine aops_cut s.v ?_
      refine aops_e rfl (oe_append_row rfl rfl (by simp only [List.length_map, List.length_cons, List.length_nil]; have := gatK_len (gatF kd x p) h.evs k; omega) rfl (fun s33 => ?_) (one_int [x k h.evs[k]]))
      refine aops_slice s33 fun sv hsv => ?_
      subst hsv
      refine rn ?_
      exact round_n (.refl _) ⟨_, _, .trans (.perm ((pt1 _ _ _).trans (.cons _ ((pt1 _ _ _).trans (.cons _ (pt1 _ _ _))))) _) (.drop [_] _ _), sv, .inl ⟨rfl, trivial, by rw [gatK_y hk (gatF_y hkd hc24), List.map_append]; rfl⟩⟩
    · refine rn ?_
      exact round_n (.refl _) ⟨_, _, .trans (.perm ((pt1 _ _ _).trans (.cons _ ((pt1 _ _ _).trans (.cons _ (pt1 _ _ _))))) _) (.drop [_] _ _), s, .inl ⟨rfl, trivial, by rw [gatK_n hk (gatF_n hc24)]⟩⟩
  · obtain ⟨_, s, rfl⟩ := hK
    refine rn ?_
    exact retqd (.refl _) (.cons _ _ _ _ (.tmp _ _ rfl) .nil) (.trans (.drop1 _ _ _) (.trans (.perm (pt1 _ _ _) _) (.trans (.drop [_] _ _) (.trans (.perm (pt1 _ _ _) _) (.drop [_] _ _))))) ⟨s, rfl, rfl⟩
  · obtain ⟨hc, _⟩ := hK
    exact absurd hc (by simp)
end Go.Proofs
/- The walks of the index's closures. Conditions: none. -/
set_option linter.unusedVariables false
set_option linter.unusedSimpArgs false
set_option maxRecDepth 10000
namespace Go.Proofs
open Go Go.Ab
attribute [local irreducible] QR QV OE aops aw dsoup dsoupM dalloc dallocM thn inBlk jsoup jch lsoup
open Go.H
theorem ixTellO (k s : Int) (e : Ev) (b2 b3 rm : Nat) (M : List (Int × Bool)) : ACall Tryz.prog 144 [iv k, .agg (evR e), .v (.pointer (some ⟨b2, 0, none⟩)), .v (.pointer (some ⟨b3, 0, none⟩))] [.box b2 3 [iv s], .box b3 164 [mpv rm], .map rm (encM intK (mapA bv M))] (fun r h' => h' = [.box b2 3 [iv s], .box b3 164 [mpv rm], .map rm (encM intK (mapA bv M))] ∧ r = .tup [iv e.t, bv (e.o == s && (getT e.t M).getD false)]) := by
  refine acall_of_aw Tryz.func144 rfl rfl rfl ?_
  refine rn ?_
  refine aops_e rfl (oe_box rfl rfl rfl fun b5 => ?_)
  refine rn ?_
  refine aw_draw 13 rfl ?_
  refine rn ?_
  refine dsplit (fun hg1_6 => ?_) (fun hg1_6 => ?_)
  · refine dq rfl rfl qrA ?_
    refine dq rfl rfl qrA ?_
    refine dq rfl rfl qrA ?_
    refine dq rfl rfl (qr_lookT (enc := intK) (k := e.t) false rfl rfl) ?_
    refine rn ?_
    refine rq 1 ?_
    exact ⟨rfl, by rw [hg1_6]; rfl⟩
  · refine rn ?_
    refine rq 1 ?_
    exact ⟨rfl, by rw [hg1_6]; rfl⟩
theorem ixIsO (x : Int) (s : Ord) (b1 : Nat) : ACall Tryz.prog 142 [.agg (ordR s), .v (.pointer (some ⟨b1, 0, none⟩))] [.box b1 3 [iv x]] (fun r h' => h' = [.box b1 3 [iv x]] ∧ r = bv (s.o == x)) := by
  refine acall_of_aw Tryz.func142 rfl rfl rfl ?_
  refine rn ?_
  refine aops_e rfl (oe_box rfl rfl rfl fun b2 => ?_)
  refine rn ?_
  refine rq 1 ?_
  exact ⟨rfl, rfl⟩
set_option maxHeartbeats 4000000 in
theorem ixEnded (h : Hist) (la : h.evs.length ≤ 1000000) (W : List Res) : ACall Tryz.prog 143 [.agg (histC h)] W (fun r h' => ∃ rm, h' = .map rm (encM intK (mapA bv (endM h.evs))) :: W ∧ r = mpv rm) := by
  refine acall_of_aw Tryz.func143 rfl rfl rfl ?_
  refine rn ?_
  refine aops_e rfl (oe_box rfl rfl rfl fun b1 => ?_)
  refine rn ?_
  refine aops_e rfl (oe_makeMap (enc := intK) rfl fun b6 => ?_)
  refine aops_e rfl (oe_alloc rfl fun b3 => ?_)
  refine rn ?_
  refine aops_e rfl (oe_call rfl rfl (FCall.of_fun (ixEvents h 5 _)) rfl ?_)
  rintro _ _ ⟨e1, e2, rfl, rfl⟩
  refine rn ?_
  refine aw_ent (s' := ⟨[(8, .fn (.func 148) [] [.v (.pointer (some ⟨e1, 0, none⟩)), .v (.pointer (some ⟨e2, 0, none⟩))]), (3, .v (.pointer (some ⟨b3, 0, none⟩)))], .box e1 28 (histC h) :: .box e2 3 [iv 5] :: .box b3 164 [mpv b6] :: .map b6 (encM intK (mapA bv (endM (h.evs.take 0)))) :: .box b1 28 (histC h) :: W, []⟩) es ?_
  refine aw_rf (fun pend h'' => pend = none ∧ h'' = .box b3 164 [mpv b6] :: .map b6 (encM intK (mapA bv (endM (h.evs.take h.evs.length)))) :: .box b1 28 (histC h) :: W) rfl (fun fn l q lp hlp => ?_) (fun q h'' hK => ?_) (fun q h'' c hK => ?_)
  · suffices hy : ∀ k (x : Unit), (hk : k < h.evs.length) → True → (h.evs[k].kind == 5) = true → FCall Tryz.prog (yv l) [iv k, .agg (evR h.evs[k])] (.box e1 28 (histC h) :: .box e2 3 [iv 5] :: lp .ready none :: .defs q :: .box b3 164 [mpv b6] :: .map b6 (encM intK (mapA bv (endM (h.evs.take k)))) :: .box b1 28 (histC h) :: W) (fun r h' => ∃ x' : Unit, (r = bv true ∧ True ∧ h' = .box e1 28 (histC h) :: .box e2 3 [iv 5] :: lp .ready none :: .defs q :: .box b3 164 [mpv b6] :: .map b6 (encM intK (mapA bv (endM (h.evs.take (k + 1))))) :: .box b1 28 (histC h) :: W) ∨ (r = bv false ∧ False ∧ h' = .box e1 28 (histC h) :: .box e2 3 [iv 5] :: [])) by
      refine ACall.mono (ACall.perm ((pt2 _ _ _ _).trans (.cons _ (pt2 _ _ _ _))) (ixEvents1 h la 5 (yv l) e1 e2 (fun _ _ => True) (fun _ _ => False) (fun k (_ : Unit) => lp .ready none :: .defs q :: .box b3 164 [mpv b6] :: .map b6 (encM intK (mapA bv (endM (h.evs.take k)))) :: .box b1 28 (histC h) :: W) (fun _ _ => []) () trivial hy (fun k s hk _ hn => ⟨s, trivial, by rw [endM_n hk hn]⟩))) ?_
      rintro _ _ (⟨s, _, rfl⟩ | ⟨_, _, hF, _⟩)
      · exact ⟨none, .ready, _, .refl _, by simp, rfl, rfl⟩
      · exact hF.elim
    intro k s hk _ hkd
    refine FCall.perm (pt2 _ _ _ _) (FCall.ventE ?_)
    refine fcall_yl2 hlp rfl rfl ?_
    refine rn ?_
    refine aops_e rfl (oe_alloc rfl fun b5 => ?_)
    refine rn ?_
    refine ⟨[(5, .v (.pointer (some ⟨b5, 0, none⟩))), (3, .v (.pointer (some ⟨b3, 0, none⟩)))], .box b5 56 (evR h.evs[k]) :: .box e1 28 (histC h) :: .box e2 3 [iv 5] :: .defs q :: .box b3 164 [mpv b6] :: .map b6 (encM intK (mapA bv (endM (h.evs.take k)))) :: .box b1 28 (histC h) :: W, ent_trans (ent_perm (pt1 _ _ _)) es, ?_⟩
    refine rn ?_
    refine aops_e rfl (oe_mapUpdT (g := bv) (enc := intK) (k := h.evs[k].t) (v := true) rfl rfl rfl ?_)
    refine rn ?_
    exact round_n (.refl _) ⟨_, _, .trans (.perm ((pt1 _ _ _).trans (.cons _ ((pt1 _ _ _).trans (.cons _ (pt1 _ _ _))))) _) (.drop [_] _ _), (), .inl ⟨rfl, trivial, by rw [endM_y hk hkd]⟩⟩
  · obtain ⟨_, rfl⟩ := hK
    refine rn ?_
    exact retqd (.refl _) (.cons _ _ _ _ (.tmp _ _ rfl) .nil) (.trans (.drop1 _ _ _) (.trans (.perm (pt1 _ _ _) _) (.drop [_] _ _))) ⟨b6, by rw [List.take_length], rfl⟩
  · obtain ⟨hc, _⟩ := hK
    exact absurd hc (by simp)
end Go.Proofs
/- The walks of the index's ask. Conditions: none. -/
set_option linter.unusedVariables false
set_option linter.unusedSimpArgs false
set_option maxRecDepth 10000
namespace Go.Proofs
open Go Go.Ab
attribute [local irreducible] QR QV OE aops aw dsoup dsoupM dalloc dallocM thn inBlk jsoup jch lsoup
open Go.H
theorem ask_no {h : Hist} {n many : Int} (he : askE h n many ≠ 0) (X : List Int) : (onE (askE h n many) X).map intR = [] := by rw [onE, if_neg he]; rfl
theorem gat_all {α : Type} (kd : Int) (g : Ev → α) (q : Ev → Bool) (l : List Ev) : gatK (gatF kd (fun _ e => g e) (fun _ e => q e)) l l.length = (l.filter fun e => e.kind == kd && q e).map g := gatK_all (fun _ _ => rfl) l
theorem ixAskI (h : Hist) (la : Lim 4611686018427387904 h) (n many : Int) (fv : AV) (hone : fv.cellsOf = some [fv]) (X : List Int) (W : List Res) (hp : askE h n many = 0 → FCall Tryz.prog fv [] (.glob 0 186 limitsC :: .glob 2 287 firstC :: .glob 3 290 acceptC :: .glob 1 250 asksC :: W) (fun r h' => ∃ s : SV, h' = .row s.v 1 3 (X.map intR) :: .glob 0 186 limitsC :: .glob 2 287 firstC :: .glob 3 290 acceptC :: .glob 1 250 asksC :: W ∧ r = .v s.v)) : ACall Tryz.prog 71 [.agg (histC h), iv n, iv many, fv] (.glob 0 186 limitsC :: .glob 2 287 firstC :: .glob 3 290 acceptC :: .glob 1 250 asksC :: W) (fun r h' => ∃ s : SV, h' = .row s.v 1 3 ((onE (askE h n many) X).map intR) :: .glob 0 186 limitsC :: .glob 2 287 firstC :: .glob 3 290 acceptC :: .glob 1 250 asksC :: W ∧ r = .tup [.v s.v, iv (askE h n many)]) := by
  refine acall_of_aw Tryz.func71 rfl rfl rfl ?_
  refine rn ?_
  refine aops_e rfl (oe_box rfl rfl rfl fun b4 => ?_)
  refine rn ?_
  refine qv rfl rfl (qv_call rfl rfl (FCall.qt (FCall.of_fun (ixCheck h la)) ((pt1 _ _ _).trans (.cons _ ((pt1 _ _ _).trans (.cons _ ((pt1 _ _ _).trans (.cons _ (pt1 _ _ _))))))))) ?_
  refine rn ?_
  refine aw_cond rfl (fun hc15 => ?_) (fun hc15 => ?_)
  · have hc : checkI h ≠ 0 := by simpa using hc15
    refine rn ?_
    exact retq (.cons _ _ _ _ (.tmp _ _ rfl) (.cons _ _ _ _ (.tmp _ _ rfl) .nil)) (.trans (.drop [_] _ _) (vent_nilrow 1 3 _)) ⟨⟨none, 0, 0⟩, by rw [ask_no (by rw [ask_c hc]; exact hc)]; rfl, by rw [ask_c hc]; rfl⟩
  · have hc : checkI h = 0 := by simpa using hc15
    refine rn ?_
    refine asplit (fun hg5_2 => ?_) (fun hg5_2 => ?_)
    · refine rn ?_
      refine aw_ct rfl ?_
      have hn : ¬ (0 ≤ n ∧ n < many) := by first | (have q := of_decide_eq_true hg5_2; omega) | (have q := of_decide_eq_true hc24; omega)
      refine rn ?_
      exact retq (.cons _ _ _ _ (.tmp _ _ rfl) (.cons _ _ _ _ (.tmp _ _ rfl) .nil)) (.trans (.drop [_] _ _) (vent_nilrow 1 3 _)) ⟨⟨none, 0, 0⟩, by rw [ask_no (by rw [ask_a hc hn]; decide)]; rfl, by rw [ask_a hc hn]; rfl⟩
    · refine rn ?_
      refine aw_cond rfl (fun hc24 => ?_) (fun hc24 => ?_)
      · have hn : ¬ (0 ≤ n ∧ n < many) := by first | (have q := of_decide_eq_true hg5_2; omega) | (have q := of_decide_eq_true hc24; omega)
        refine rn ?_
        exact retq (.cons _ _ _ _ (.tmp _ _ rfl) (.cons _ _ _ _ (.tmp _ _ rfl) .nil)) (.trans (.drop [_] _ _) (vent_nilrow 1 3 _)) ⟨⟨none, 0, 0⟩, by rw [ask_no (by rw [ask_a hc hn]; decide)]; rfl, by rw [ask_a hc hn]; rfl⟩
      · have hn : 0 ≤ n ∧ n < many := by have q := of_decide_eq_false hg5_2; have q' := of_decide_eq_false hc24; omega
        refine rn ?_
        refine aops_e rfl (oe_call rfl rfl (FCall.fr1 (hp (ask_y hc hn))) rfl ?_)
        rintro _ _ ⟨_, rfl, s, rfl, rfl⟩
        refine rn ?_
        exact retq (.cons _ _ _ _ (.tmp _ _ rfl) (.cons _ _ _ _ (.tmp _ _ rfl) .nil)) (.drop [_] _ _) ⟨s, by rw [ask_y hc hn]; rfl, by rw [ask_y hc hn]; rfl⟩
end Go.Proofs
/- The walks of the index's Committed, Line, Installed. Conditions: none. -/
set_option linter.unusedVariables false
set_option linter.unusedSimpArgs false
set_option maxRecDepth 10000
namespace Go.Proofs
open Go Go.Ab
attribute [local irreducible] QR QV OE aops aw dsoup dsoupM dalloc dallocM thn inBlk jsoup jch lsoup
open Go.H
theorem ask_lim {h : Hist} {n many : Int} (he : askE h n many = 0) : Lim 3000 h := may3000 (sound_may (ask_0 he).1).1
theorem chk_lim {h : Hist} (he : checkI h = 0) : Lim 3000 h := may3000 (sound_may (checkI_0.1 he)).1
theorem ins_gat (l : List Ev) (x : Int) : gatK (gatF 2 (fun _ e => e.t) (fun _ e => e.o == x && (getT e.t (endM l)).getD false)) l l.length = insL l x := by
  rw [gat_all 2 Ev.t (fun e => e.o == x && (getT e.t (endM l)).getD false), insL]; simp only [endM_get]
theorem ord_at {h : Hist} {x : Int} (hc : decide (fidx (fun o : Ord => o.o == x) 0 h.ords ≥ 0) = true) : ∃ k, ∃ hk : k < h.ords.length, fidx (fun o : Ord => o.o == x) 0 h.ords = (k : Int) ∧ insP h x = h.ords[k].ts := by
  have := fidx_find (fun o : Ord => o.o == x) h.ords 0
  cases hf : h.ords.find? (fun o => o.o == x) with
  | none => rw [hf] at this; simp only at this; rw [this] at hc; exact absurd hc (by decide)
  | some o =>
    rw [hf] at this
    obtain ⟨k, hk, e, eo, _⟩ := this
    exact ⟨k, hk, by rw [e, Nat.zero_add], by rw [insP, hf, eo]⟩
theorem ord_no {h : Hist} {x : Int} (hc : decide (fidx (fun o : Ord => o.o == x) 0 h.ords ≥ 0) = false) : insP h x = cmpct (insL h.evs x) := by
  have := fidx_find (fun o : Ord => o.o == x) h.ords 0
  cases hf : h.ords.find? (fun o => o.o == x) with
  | none => rw [insP, hf]
  | some o =>
    rw [hf] at this
    obtain ⟨k, hk, e, eo, _⟩ := this
    rw [e] at hc
    have := of_decide_eq_false hc
    omega
set_option maxHeartbeats 4000000 in
theorem ixInsR (h : Hist) (la : Lim 3000 h) (x : Int) (W : List Res) : ACall Tryz.prog 110 [.agg (histC h), iv x] W (fun r h' => ∃ s : SV, h' = .row s.v 1 3 ((insP h x).map intR) :: W ∧ r = .v s.v) := by
  refine acall_of_aw Tryz.func110 rfl rfl rfl ?_
  have le : h.evs.length ≤ 1000000 := Nat.le_trans la.evs (by decide)
  have lo := la.ords
  refine rn ?_
  refine aops_e rfl (oe_box rfl rfl rfl fun b2 => ?_)
  refine aops_e rfl (oe_box rfl rfl rfl fun b3 => ?_)
  refine rn ?_
  refine qv rfl rfl (qv_call rfl rfl (FCall.of_fun (indexFuncOrd h.ords _ (fun o : Ord => o.o == x) _ (fun a _ => FCall.qt (FCall.of_acall (fs := []) (cs := [.v (.pointer (some ⟨b3, 0, none⟩))]) (ixIsO x a b3)) (.refl _)) (Nat.le_trans la.ords (by decide))))) ?_
  refine rn ?_
  refine aw_cond rfl (fun hc13 => ?_) (fun hc13 => ?_)
  · obtain ⟨k, hk, ek, hx⟩ := ord_at hc13
    have rk := atRow (f := ordR) hk
    rw [ek]
    refine rn ?_
    refine aops_e rfl (oe_call rfl rfl (FCall.fr (FCall.rowS (FCall.of_fun (cloneRowInt (h.ords[k].ts.map intR) (by rw [List.length_map]; exact Nat.le_trans (la.ordts h.ords[k] (List.getElem_mem hk)) (by decide)) (one_int _)))) (.refl _)) rfl ?_)
    rintro _ _ ⟨_, rfl, s, rfl, rfl⟩
    refine rn ?_
    exact retq (.cons _ _ _ _ (.tmp _ _ rfl) .nil) (.trans (.perm ((pt1 _ _ _).trans (.cons _ (pt1 _ _ _))) _) (.drop [_, _] _ _)) ⟨s, by rw [hx], rfl⟩
  · have hx := ord_no hc13
    refine rn ?_
    refine aops_e rfl (oe_call rfl rfl (FCall.of_fun (ixEnded h le _)) rfl ?_)
    rintro _ _ ⟨rm, rfl, rfl⟩
    refine aops_e rfl (oe_alloc rfl fun b6 => ?_)
    refine rn ?_
    refine aops_e rfl (oe_call rfl rfl (FCall.of_fun (ixGatI h le 2 _ rfl _ (fun _ e => e.t) (fun _ e => e.o == x && (getT e.t (endM h.evs)).getD false) (fun k hk _ => FCall.qt (FCall.of_acall (fs := []) (cs := [.v (.pointer (some ⟨b3, 0, none⟩)), .v (.pointer (some ⟨b6, 0, none⟩))]) (ixTellO k x h.evs[k] b3 b6 rm (endM h.evs))) (pt2 _ _ _ _)))) rfl ?_)
    rintro _ _ ⟨s, rfl, rfl⟩
    refine rn ?_
    refine aops_e rfl (oe_call rfl rfl (fcall_row (FCall.of_fun (compI s _ (by have := (gatK_len (gatF 2 (fun _ e => e.t) (fun _ e => e.o == x && (getT e.t (endM h.evs)).getD false)) h.evs h.evs.length); omega)))) rfl ?_)
    rintro _ _ ⟨s', rfl, rfl⟩
    refine rn ?_
    exact retq (.cons _ _ _ _ (.tmp _ _ rfl) .nil) (.trans (.perm ((pt1 _ _ _).trans (.cons _ ((pt1 _ _ _).trans (.cons _ ((pt1 _ _ _).trans (.cons _ (pt1 _ _ _))))))) _) (.drop [_, _, _, _] _ _)) ⟨s', by rw [hx, ins_gat], rfl⟩
theorem ixInsS (h : Hist) (la : Lim 3000 h) (x : Int) (b2 b3 : Nat) : ACall Tryz.prog 109 [.v (.pointer (some ⟨b2, 0, none⟩)), .v (.pointer (some ⟨b3, 0, none⟩))] (.glob 0 186 limitsC :: .glob 2 287 firstC :: .glob 3 290 acceptC :: .glob 1 250 asksC :: .box b2 28 (histC h) :: .box b3 3 [iv x] :: []) (fun r h' => ∃ s : SV, h' = .row s.v 1 3 ((insP h x).map intR) :: .glob 0 186 limitsC :: .glob 2 287 firstC :: .glob 3 290 acceptC :: .glob 1 250 asksC :: .box b2 28 (histC h) :: .box b3 3 [iv x] :: [] ∧ r = .v s.v) := by
  refine acall_of_aw Tryz.func109 rfl rfl rfl ?_
  refine rn ?_
  refine aops_e rfl (oe_call rfl rfl (FCall.of_fun (ixInsR h la x _)) rfl ?_)
  rintro _ _ ⟨s, rfl, rfl⟩
  refine rn ?_
  exact retq (.cons _ _ _ _ (.tmp _ _ rfl) .nil) (.refl _ _) ⟨s, rfl, rfl⟩
set_option maxHeartbeats 4000000 in
theorem ixInstR (h : Hist) (la : Lim 4611686018427387904 h) (x : Int) : ACall Tryz.prog 51 [.agg (histC h), iv x] (.glob 0 186 limitsC :: .glob 2 287 firstC :: .glob 3 290 acceptC :: .glob 1 250 asksC :: []) (fun r h' => ∃ s : SV, h' = .row s.v 1 3 ((onE (askE h x h.os.length) (insP h x)).map intR) :: .glob 0 186 limitsC :: .glob 2 287 firstC :: .glob 3 290 acceptC :: .glob 1 250 asksC :: [] ∧ r = .tup [.v s.v, iv (askE h x h.os.length)]) := by
  refine acall_of_aw Tryz.func51 rfl rfl rfl ?_
  refine rn ?_
  refine aops_e rfl (oe_box rfl rfl rfl fun b2 => ?_)
  refine aops_e rfl (oe_box rfl rfl rfl fun b3 => ?_)
  refine rn ?_
  refine aops_e rfl (oe_call rfl rfl (FCall.perm ((pt2 _ _ _ _).trans (.cons _ ((pt2 _ _ _ _).trans (.cons _ ((pt2 _ _ _ _).trans (.cons _ ((pt2 _ _ _ _).trans (.cons _ (pt1 _ _ _))))))))) (FCall.of_fun (ixAskI h la x (h.os.map strR).length (.fn (.func 109) [] [.v (.pointer (some ⟨b2, 0, none⟩)), .v (.pointer (some ⟨b3, 0, none⟩))]) rfl (insP h x) [.box b2 28 (histC h), .box b3 3 [iv x]] (fun he => FCall.of_acall (fs := []) (cs := [.v (.pointer (some ⟨b2, 0, none⟩)), .v (.pointer (some ⟨b3, 0, none⟩))]) (ixInsS h (ask_lim he) x b2 b3))))) rfl ?_)
  rintro _ _ ⟨s, rfl, rfl⟩
  refine rn ?_
  exact retq (.cons _ _ _ _ (.tmp _ _ rfl) (.cons _ _ _ _ (.tmp _ _ rfl) .nil)) (.trans (.perm ((pt5 _ _ _ _ _ _ _).trans (.cons _ (pt5 _ _ _ _ _ _ _))) _) (.drop [_, _] _ _)) ⟨s, by simp only [List.length_map], by simp only [List.length_map]; rfl⟩
theorem ixInst (h : Hist) (la : Lim 4611686018427387904 h) (x : Int) : ACall Tryz.prog 51 [.agg (histC h), iv x] (.glob 0 186 limitsC :: .glob 2 287 firstC :: .glob 3 290 acceptC :: .glob 1 250 asksC :: []) (fun r h' => h' = .glob 0 186 limitsC :: .glob 2 287 firstC :: .glob 3 290 acceptC :: .glob 1 250 asksC :: [] ∧ r = .tup [intsA (onE (askE h x h.os.length) (insP h x)), iv (askE h x h.os.length)]) :=
  (ixInstR h la x).ventR (by rintro _ _ ⟨s, rfl, rfl⟩; exact ⟨_, _, vent_freeze_tup [] [_], rfl, rfl⟩)
end Go.Proofs
/- The walks of the index's writes, final, Final. Conditions: none. -/
set_option linter.unusedVariables false
set_option linter.unusedSimpArgs false
set_option maxRecDepth 10000
namespace Go.Proofs
open Go Go.Ab
attribute [local irreducible] QR QV OE aops aw dsoup dsoupM dalloc dallocM thn inBlk jsoup jch lsoup
open Go.H
end Go.Proofs
/- The walks of the reference's Has, Committed, some, Writers. Conditions: none. -/
set_option linter.unusedVariables false
set_option linter.unusedSimpArgs false
set_option maxRecDepth 10000
namespace Go.Proofs
open Go Go.Ab
attribute [local irreducible] QR QV OE aops aw dsoup dsoupM dalloc dallocM thn inBlk jsoup jch lsoup
open Go.H
end Go.Proofs
/- The walks of the reference's rules of rows. Conditions: none. -/
set_option linter.unusedVariables false
set_option linter.unusedSimpArgs false
set_option maxRecDepth 10000
namespace Go.Proofs
open Go Go.Ab
attribute [local irreducible] QR QV OE aops aw dsoup dsoupM dalloc dallocM thn inBlk jsoup jch lsoup
open Go.H
end Go.Proofs
/- The walks of the reference's Seen, wrote. Conditions: none. -/
set_option linter.unusedVariables false
set_option linter.unusedSimpArgs false
set_option maxRecDepth 10000
namespace Go.Proofs
open Go Go.Ab
attribute [local irreducible] QR QV OE aops aw dsoup dsoupM dalloc dallocM thn inBlk jsoup jch lsoup
open Go.H
end Go.Proofs
/- The walk of the reference's event. Conditions: none. -/
set_option linter.unusedVariables false
set_option linter.unusedSimpArgs false
set_option maxRecDepth 10000
namespace Go.Proofs
open Go Go.Ab
attribute [local irreducible] QR QV OE aops aw dsoup dsoupM dalloc dallocM thn inBlk jsoup jch lsoup
open Go.H
end Go.Proofs
/- The walk of the reference's broken. Conditions: none. -/
set_option linter.unusedVariables false
set_option linter.unusedSimpArgs false
set_option maxRecDepth 10000
namespace Go.Proofs
open Go Go.Ab
attribute [local irreducible] QR QV OE aops aw dsoup dsoupM dalloc dallocM thn inBlk jsoup jch lsoup
open Go.H
end Go.Proofs
/- The walk of the reference's Place. Conditions: none. -/
set_option linter.unusedVariables false
set_option linter.unusedSimpArgs false
set_option maxRecDepth 10000
namespace Go.Proofs
open Go Go.Ab
attribute [local irreducible] QR QV OE aops aw dsoup dsoupM dalloc dallocM thn inBlk jsoup jch lsoup
open Go.H
end Go.Proofs
/- The walk of the reference's First. Conditions: none. -/
set_option linter.unusedVariables false
set_option linter.unusedSimpArgs false
set_option maxRecDepth 10000
namespace Go.Proofs
open Go Go.Ab
attribute [local irreducible] QR QV OE aops aw dsoup dsoupM dalloc dallocM thn inBlk jsoup jch lsoup
open Go.H
end Go.Proofs
/- The walk of the reference's test of an event. Conditions: none. -/
set_option linter.unusedVariables false
set_option linter.unusedSimpArgs false
set_option maxRecDepth 10000
namespace Go.Proofs
open Go Go.Ab
attribute [local irreducible] QR QV OE aops aw dsoup dsoupM dalloc dallocM thn inBlk
open Go.H
end Go.Proofs
/- A rune's text. Conditions: none (a rule over any program). -/
set_option linter.unusedVariables false
namespace Go.Ab
open Go
section
variable {P : Program} {dst : Option Tmp} {ty : TypeId} {pos : String} {after : Array Edge} {guard : Option (Nat × Bool)} {x : Operand} {h : List Res} {f : Operand → Option AV}
end
end Go.Ab
/- The walk of the reference's first. Conditions: none. -/
set_option linter.unusedVariables false
set_option linter.unusedSimpArgs false
set_option maxRecDepth 10000
namespace Go.Proofs
open Go Go.Ab
attribute [local irreducible] QR QV OE aops aw dsoup dsoupM dalloc dallocM thn inBlk
open Go.H
end Go.Proofs
/- The walks of the reference's Word and RightNames. Conditions: none. -/
set_option linter.unusedVariables false
set_option linter.unusedSimpArgs false
set_option maxRecDepth 10000
namespace Go.Proofs
open Go Go.Ab
attribute [local irreducible] QR QV OE aops aw dsoup dsoupM dalloc dallocM thn inBlk
open Go.H
end Go.Proofs
/- The walk of the reference's Shaped. Conditions: none. -/
set_option linter.unusedVariables false
set_option linter.unusedSimpArgs false
set_option maxRecDepth 10000
namespace Go.Proofs
open Go Go.Ab
attribute [local irreducible] QR QV OE aops aw dsoup dsoupM dalloc dallocM thn inBlk
open Go.H
end Go.Proofs
/- The walks of the reference's first and made. Conditions: none. -/
set_option linter.unusedVariables false
set_option linter.unusedSimpArgs false
set_option maxRecDepth 10000
namespace Go.Proofs
open Go Go.Ab
attribute [local irreducible] QR QV OE aops aw dsoup dsoupM dalloc dallocM thn inBlk
open Go.H
end Go.Proofs
/- The walk of the reference's Spoken. Conditions: none. -/
set_option linter.unusedVariables false
set_option linter.unusedSimpArgs false
set_option maxRecDepth 10000
namespace Go.Proofs
open Go Go.Ab
attribute [local irreducible] QR QV OE aops aw dsoup dsoupM dalloc dallocM thn inBlk
open Go.H
end Go.Proofs
/- The walk of the reference's Right. Conditions: none. -/
set_option linter.unusedVariables false
set_option linter.unusedSimpArgs false
set_option maxRecDepth 10000
namespace Go.Proofs
open Go Go.Ab
attribute [local irreducible] QR QV OE aops aw dsoup dsoupM dalloc dallocM thn inBlk
open Go.H
end Go.Proofs
/- The walks of the reference's Check, Final, Sees, Sights. Conditions: none. -/
set_option linter.unusedVariables false
set_option linter.unusedSimpArgs false
set_option maxRecDepth 10000
namespace Go.Proofs
open Go Go.Ab
attribute [local irreducible] QR QV OE aops aw dsoup dsoupM dalloc dallocM thn inBlk jsoup jch lsoup
open Go.H
theorem lw_hit {l : List Ev} {t x : Int} {j : Nat} (h : j < l.length) (hw : wroteQ t x l[j] = true) : lastW l t x (j + 1) = some (l[j].v, j) := by
  rw [lastW, List.getElem?_eq_getElem h]; simp only [hw, if_true]
theorem lw_miss {l : List Ev} {t x : Int} {j : Nat} (h : j < l.length) (hw : wroteQ t x l[j] = false) : lastW l t x (j + 1) = lastW l t x j := by
  rw [lastW, List.getElem?_eq_getElem h]; simp [hw]
end Go.Proofs
/- The walks of the reference's Committed, Begun, Line, Installed, Next, Rank. Conditions: none. -/
set_option linter.unusedVariables false
set_option linter.unusedSimpArgs false
set_option maxRecDepth 10000
namespace Go.Proofs
open Go Go.Ab
attribute [local irreducible] QR QV OE aops aw dsoup dsoupM dalloc dallocM thn inBlk jsoup jch lsoup
open Go.H
end Go.Proofs
/- The walks of dirty's of, aborted. Conditions: none. -/
set_option linter.unusedVariables false
set_option linter.unusedSimpArgs false
set_option maxRecDepth 10000
namespace Go.Proofs
open Go Go.Ab
attribute [local irreducible] QR QV OE aops aw dsoup dsoupM dalloc dallocM thn inBlk jsoup jch lsoup
open Go.H
theorem nzT {a : Int} (h : (a != 0) = true) : a ≠ 0 := by simpa using h
theorem nzF {a : Int} (h : (a != 0) = false) : a = 0 := by simpa using h
end Go.Proofs
/- The walk of dirty's all. Conditions: none. -/
set_option linter.unusedVariables false
set_option linter.unusedSimpArgs false
set_option maxRecDepth 10000
namespace Go.Proofs
open Go Go.Ab
attribute [local irreducible] QR QV OE aops aw dsoup dsoupM dalloc dallocM thn inBlk jsoup jch lsoup
open Go.H
end Go.Proofs
/- The walks of dirty's All, First, Is. Conditions: none. -/
set_option linter.unusedVariables false
set_option linter.unusedSimpArgs false
set_option maxRecDepth 10000
namespace Go.Proofs
open Go Go.Ab
attribute [local irreducible] QR QV OE aops aw dsoup dsoupM dalloc dallocM thn inBlk jsoup jch lsoup
open Go.H
end Go.Proofs
/- The walks of ww's of, and of what a past tells. Conditions: none. -/
set_option linter.unusedVariables false
set_option linter.unusedSimpArgs false
set_option maxRecDepth 10000
namespace Go.Proofs
open Go Go.Ab
attribute [local irreducible] QR QV OE aops aw dsoup dsoupM dalloc dallocM thn inBlk jsoup jch lsoup
open Go.H
def wlM (l : List Ev) : Nat → List ((Int × Int) × Int)
  | 0 => []
  | k + 1 => match l[k]? with
    | some e => if (e.kind == 2) = true then putT (e.t, e.o) (k : Int) (wlM l k) else wlM l k
    | none => wlM l k
theorem wlM_t {l : List Ev} {k : Nat} (hk : k < l.length) (hw : (l[k].kind == 2) = true) : wlM l (k + 1) = putT (l[k].t, l[k].o) (k : Int) (wlM l k) := by
  rw [wlM, List.getElem?_eq_getElem hk]; simp only [hw, if_true]
theorem wlM_f {l : List Ev} {k : Nat} (hk : k < l.length) (hw : (l[k].kind == 2) = false) : wlM l (k + 1) = wlM l k := by
  rw [wlM, List.getElem?_eq_getElem hk]; simp only [hw]; rfl
theorem wlM_get (l : List Ev) (t x : Int) : ∀ k, k ≤ l.length → (getT (t, x) (wlM l k)).getD 0 = atO (lastW l t x k)
  | 0, _ => rfl
  | k + 1, hk => by
    have ih := wlM_get l t x k (by omega)
    have hk' : k < l.length := hk
    cases hw : l[k].kind == 2 with
    | false =>
      have : wroteQ t x l[k] = false := by rw [wroteQ, hw]; rfl
      rw [wlM_f hk' hw, lw_miss hk' this, ih]
    | true =>
      rw [wlM_t hk' hw, get_put]
      cases hq : wroteQ t x l[k] with
      | true =>
        rw [lw_hit hk' hq, if_pos]
        · rfl
        · simp only [wroteQ, Bool.and_eq_true, beq_iff_eq] at hq
          rw [hq.1.2, hq.2]
      | false =>
        rw [lw_miss hk' hq, if_neg, ih]
        intro e
        rw [Prod.mk.injEq] at e
        simp [wroteQ, hw, e.1, e.2] at hq
theorem wlM_last (h : Hist) (t x : Int) : (getT (t, x) (wlM h.evs h.evs.length)).getD 0 = lastAt h t x := wlM_get _ _ _ _ (Nat.le_refl _)
abbrev instsA (h : Hist) : AV := .list false 1 (((upR h.os.length).map (insP h)).map rowL)
abbrev pastC (h : Hist) (rm : Nat) : List AV := [instsA h, mpv rm]
abbrev lastR (h : Hist) (rm : Nat) : Res := .map rm (encM int2K (mapA iv (wlM h.evs h.evs.length)))
theorem insts_at (h : Hist) {x : Int} (h0 : 0 ≤ x) (h1 : x < h.os.length) : (((upR h.os.length).map (insP h)).map rowL)[x.toNat]? = some (rowL (insP h x)) := by
  have hx : (upR h.os.length)[x.toNat]? = some x := by
    rw [upR, List.getElem?_map, List.getElem?_range (by omega)]; simp [Int.toNat_of_nonneg h0]
  rw [List.getElem?_map, List.getElem?_map, hx]; rfl
theorem ixInsW (h : Hist) (la : Lim 4611686018427387904 h) (hc : checkI h = 0) (x : Int) (h0 : 0 ≤ x) (h1 : x < h.os.length) : ACall Tryz.prog 51 [.agg (histC h), iv x] (.glob 0 186 limitsC :: .glob 2 287 firstC :: .glob 3 290 acceptC :: .glob 1 250 asksC :: []) (fun r h' => h' = .glob 0 186 limitsC :: .glob 2 287 firstC :: .glob 3 290 acceptC :: .glob 1 250 asksC :: [] ∧ r = .tup [intsA (insP h x), iv 0]) := (ixInst h la x).mono fun _ _ q => ⟨q.1, by rw [q.2, ask_y hc ⟨h0, h1⟩]; rfl⟩
set_option maxHeartbeats 4000000 in
theorem wwOf (h : Hist) (la : Lim 4611686018427387904 h) : ACall Tryz.prog 94 [.agg (histC h)] (.glob 0 186 limitsC :: .glob 2 287 firstC :: .glob 3 290 acceptC :: .glob 1 250 asksC :: []) (fun r h' => (checkI h = 0 ∧ ∃ rm, h' = lastR h rm :: .glob 0 186 limitsC :: .glob 2 287 firstC :: .glob 3 290 acceptC :: .glob 1 250 asksC :: [] ∧ r = .tup [.agg (pastC h rm), iv 0]) ∨ (checkI h ≠ 0 ∧ h' = .glob 0 186 limitsC :: .glob 2 287 firstC :: .glob 3 290 acceptC :: .glob 1 250 asksC :: [] ∧ r = .tup [.agg [.v (.slice none 0 0), nmp], iv (checkI h)])) := by
  refine acall_of_aw Tryz.func94 rfl rfl rfl ?_
  refine rn ?_
  refine aops_e rfl (oe_box rfl rfl rfl fun b1 => ?_)
  refine aops_e rfl (oe_alloc rfl fun b2 => ?_)
  refine rn ?_
  refine qv rfl rfl (qv_call rfl rfl (FCall.qt (FCall.of_fun (ixCheck h la)) ((pt2 _ _ _ _).trans (.cons _ ((pt2 _ _ _ _).trans (.cons _ ((pt2 _ _ _ _).trans (.cons _ (pt2 _ _ _ _))))))))) ?_
  refine rn ?_
  refine aw_cond rfl (fun hc14 => ?_) (fun hc14 => ?_)
  · have hc := nzT hc14
    refine aw_seq (aw_region ?_)
    refine qq rfl rfl (qr_build (out := [.v (.slice none 0 0), nmp]) rfl (by rfl)) ?_
    refine rn ?_
    exact retq (.cons _ _ _ _ (.agg _ _ _ _ _ _ _ rfl inferInstance inferInstance inferInstance rfl) (.cons _ _ _ _ (.tmp _ _ rfl) .nil)) (.drop [_, _] _ _) (.inr ⟨hc, rfl, rfl⟩)
  · have hc := nzF hc14
    have lA := chk_lim hc
    have lO := lA.os
    have lE := lA.evs
    refine rn ?_
    refine aops_e rfl (oe_makeMap (enc := int2K) rfl fun b17 => ?_)
    refine qq rfl rfl (qr_build (out := [.v (.slice none 0 0), mpv b17]) rfl (by rfl)) ?_
    refine aops_e rfl (oe_alloc rfl fun b5 => ?_)
    refine rn ?_
    refine aw_rng1 h.os.length (fun k s => ⟨[(22, iv k), (1, .v (.pointer (some ⟨b1, 0, none⟩))), (2, .v (.pointer (some ⟨b2, 0, none⟩))), (5, .v (.pointer (some ⟨b5, 0, none⟩))), (21, iv (h.os.map strR).length)], .row s.v 1 29 (((upR k).map (insP h)).map rowL) :: .box b5 145 [.v s.v, mpv b17] :: .map b17 (encM int2K (mapA iv (wlM h.evs 0))) :: .box b2 145 [.v (.slice none 0 0), nmp] :: .box b1 28 (histC h) :: .glob 0 186 limitsC :: .glob 2 287 firstC :: .glob 3 290 acceptC :: .glob 1 250 asksC :: [], []⟩) ⟨none, 0, 0⟩ (ent_trans (ent_nilrow 1 29) es) ?_
    intro k s lk
    refine rn ?_
    refine aw_cond rfl (fun hc23 => ?_) (fun hc23 => ?_)
    · have hk : k < h.os.length := by have q := of_decide_eq_true hc23; rw [List.length_map] at q; omega
      refine rn ?_
      refine qv rfl rfl (qv_call rfl rfl (FCall.qt (FCall.of_fun (ixInsW h la hc k (by omega) (by omega))) ((pt5 _ _ _ _ _ _ _).trans (.cons _ ((pt5 _ _ _ _ _ _ _).trans (.cons _ ((pt5 _ _ _ _ _ _ _).trans (.cons _ (pt5 _ _ _ _ _ _ _))))))))) ?_
      refine rn ?_
      refine qv rfl rfl (qv_buildSlice rfl rfl) ?_
      refine aops_e rfl (oe_append_row rfl rfl (by simp only [List.length_map, upR, List.length_range, List.length_cons, List.length_nil]; omega) rfl (fun s35 => ?_) (fun r hr => by rw [List.mem_singleton.1 hr]; rfl))
      refine aops_slice s35 fun sv hsv => ?_
      subst hsv
      refine rn ?_
      exact ⟨hk, sv, by rw [upR_s, List.map_append, List.map_append]; exact eA⟩
    · have qk : k = h.os.length := by have q := of_decide_eq_false hc23; rw [List.length_map] at q; omega
      refine rn ?_
      refine aw_range h.evs.length (fun _ => True) (fun j => ⟨[(41, iv j), (2, .v (.pointer (some ⟨b2, 0, none⟩))), (5, .v (.pointer (some ⟨b5, 0, none⟩))), (39, evsA h.evs), (40, iv (h.evs.map evR).length)], .row s.v 1 29 (((upR h.os.length).map (insP h)).map rowL) :: .box b5 145 [.v s.v, mpv b17] :: .map b17 (encM int2K (mapA iv (wlM h.evs j))) :: .box b2 145 [.v (.slice none 0 0), nmp] :: .box b1 28 (histC h) :: .glob 0 186 limitsC :: .glob 2 287 firstC :: .glob 3 290 acceptC :: .glob 1 250 asksC :: [], []⟩) trivial (by rw [← qk]; exact es) ?_
      intro j lj _
      refine rn ?_
      refine aw_cond rfl (fun hc42 => ?_) (fun hc42 => ?_)
      · have hj := ltMap hc42
        have rj := atRow (f := evR) hj
        refine rn ?_
        refine aops_e rfl (oe_alloc rfl fun b10 => ?_)
        refine rn ?_
        refine aw_cond rfl (fun hc48 => ?_) (fun hc48 => ?_)
        · have hw : (h.evs[j].kind == 2) = true := by simpa using hc48
          refine aw_region ?_
          refine q1 ?_
          refine q1 ?_
          refine q1 ?_
          refine q1 ?_
          refine q1 ?_
          refine q1 ?_
          refine qq rfl rfl (qr_buildArr (out := [iv h.evs[j].t, iv h.evs[j].o]) rfl (by rfl)) ?_
          refine rn ?_
          refine aops_e rfl (oe_mapUpdT (g := iv) (enc := int2K) (k := (h.evs[j].t, h.evs[j].o)) (v := (j : Int)) rfl rfl rfl ?_)
          refine rn ?_
          first | exact ⟨hj, trivial, by rw [wlM_t hj hw]; exact eA⟩ | exact ⟨hj, trivial, by rw [wlM_f hj hw]; exact eA⟩
        · have hw : (h.evs[j].kind == 2) = false := by simpa using hc48
          refine rn ?_
          first | exact ⟨hj, trivial, by rw [wlM_t hj hw]; exact eA⟩ | exact ⟨hj, trivial, by rw [wlM_f hj hw]; exact eA⟩
      · have qj := geMap hc42 lj
        refine aw_exit ?_
        refine thn_e ?_
        refine thn_e ?_
        refine inBlk_hit ?_
        refine thn_n ?_
        refine aw_seq (aw_region ?_)
        refine aops_ent (ent_freeze_box [] [mpv b17]) ?_
        refine rn ?_
        exact retq (.cons _ _ _ _ (.agg _ _ _ _ _ _ _ rfl inferInstance inferInstance inferInstance rfl) (.cons _ _ _ _ (.tmp _ _ rfl) .nil)) (.trans (.perm (.cons _ ((pt1 _ _ _).trans (.cons _ (pt1 _ _ _)))) _) (.drop [_, _, _] _ _)) (.inl ⟨hc, b17, by rw [qj], rfl⟩)
theorem wwConf0 (h : Hist) (rm : Nat) (x : Int) (W : List Res) : ACall Tryz.prog 95 [.agg (pastC h rm), iv x] W (fun r h' => ∃ bo bp, h' = .box bo 3 [iv x] :: .box bp 145 (pastC h rm) :: W ∧ r = .fn (.func 129) [] [.v (.pointer (some ⟨bp, 0, none⟩)), .v (.pointer (some ⟨bo, 0, none⟩))]) := by
  refine acall_of_aw Tryz.func95 rfl rfl rfl ?_
  refine rn ?_
  refine aops_e rfl (oe_box rfl rfl rfl fun b2 => ?_)
  refine aops_e rfl (oe_box rfl rfl rfl fun b3 => ?_)
  refine rn ?_
  exact retq (.cons _ _ _ _ (.tmp _ _ rfl) .nil) (.refl _ _) ⟨_, _, rfl, rfl⟩
theorem wwAt (h : Hist) (rm : Nat) (x t : Int) (bp bo : Nat) (W : List Res) : ACall Tryz.prog 130 [iv t, .v (.pointer (some ⟨bp, 0, none⟩)), .v (.pointer (some ⟨bo, 0, none⟩))] (.box bo 3 [iv x] :: .box bp 145 (pastC h rm) :: lastR h rm :: W) (fun r h' => h' = .box bo 3 [iv x] :: .box bp 145 (pastC h rm) :: lastR h rm :: W ∧ r = iv (lastAt h t x)) := by
  refine acall_of_aw Tryz.func130 rfl rfl rfl ?_
  refine aw_seq (aw_region ?_)
  refine q1 ?_
  refine aops_nil (thn_n ?_)
  refine aw_seq (aw_region ?_)
  refine q1 ?_
  refine q1 ?_
  refine q1 ?_
  refine q1 ?_
  refine qq rfl rfl (qr_buildArr (out := [iv t, iv x]) rfl (by rfl)) ?_
  refine qq rfl rfl (qr_lookT (enc := int2K) (k := (t, x)) 0 rfl rfl) ?_
  refine rn ?_
  refine rq 0 ?_
  exact ⟨rfl, congrArg iv (wlM_last h t x)⟩
end Go.Proofs
/- The walks of what tells an object's conflicts, of Collect. Conditions: none. -/
set_option linter.unusedVariables false
set_option linter.unusedSimpArgs false
set_option maxRecDepth 10000
namespace Go.Proofs
open Go Go.Ab
attribute [local irreducible] QR QV OE aops aw dsoup dsoupM dalloc dallocM thn inBlk jsoup jch lsoup
open Go.H
theorem max_pred (n : Nat) : max ((n : Int) - 1) 0 = ((n - 1 : Nat) : Int) := by omega
theorem wwL_len (h : Hist) (x : Int) (l : List Int) : (wwL h x l).length = l.length - 1 := by simp [wwL]
theorem wwL_at {h : Hist} {x : Int} {l : List Int} {k : Nat} (hk : k + 1 < l.length) : (wwL h x l)[k]'(by rw [wwL_len]; omega) = wwC h x l[k] l[k + 1] := by
  simp only [wwL, List.getElem_map, List.getElem_range, wwN]
  rw [List.getElem?_eq_getElem (by omega), List.getElem?_eq_getElem hk]; rfl
theorem wwL_split {h : Hist} {x : Int} {l : List Int} {k : Nat} (hk : k + 1 < l.length) : wwL h x l = (wwL h x l).take k ++ wwC h x l[k] l[k + 1] :: (wwL h x l).drop (k + 1) := by
  rw [← wwL_at hk, ← List.drop_eq_getElem_cons, List.take_append_drop]
theorem wwL_take {h : Hist} {x : Int} {l : List Int} {k : Nat} (hk : k + 1 < l.length) : (wwL h x l).take (k + 1) = (wwL h x l).take k ++ [wwC h x l[k] l[k + 1]] := by
  rw [List.take_succ_eq_append_getElem (by rw [wwL_len]; omega), wwL_at hk]
theorem ins_le {h : Hist} (hc : checkI h = 0) {x : Int} (h0 : 0 ≤ x) (h1 : x < h.os.length) : (insP h x).length ≤ 3000 := by
  rw [(ins_writers (checkI_0.1 hc) h0 h1).2.1]
  exact Nat.le_trans (writers_le h.evs x) (chk_lim hc).evs
set_option maxHeartbeats 4000000 in
theorem wwTell {σ : Type} (h : Hist) (x : Int) (h0 : 0 ≤ x) (h1 : x < h.os.length) (hb : (insP h x).length ≤ 3000) (y : AV) (bo bp rm : Nat) (I : List Conf → σ → List Res) (x0 : σ) (hy : ∀ pre d rest (s : σ), wwP h x = pre ++ d :: rest → FCall Tryz.prog y [.agg (confR d)] (.box bo 3 [iv x] :: .box bp 145 (pastC h rm) :: lastR h rm :: I pre s) (fun r h' => ∃ s', r = bv true ∧ h' = .box bo 3 [iv x] :: .box bp 145 (pastC h rm) :: lastR h rm :: I (pre ++ [d]) s')) : ACall Tryz.prog 129 [y, .v (.pointer (some ⟨bp, 0, none⟩)), .v (.pointer (some ⟨bo, 0, none⟩))] (.box bo 3 [iv x] :: .box bp 145 (pastC h rm) :: lastR h rm :: I [] x0) (fun r h' => ∃ z, h' = .box bo 3 [iv x] :: .box bp 145 (pastC h rm) :: lastR h rm :: I (wwP h x) z) := by
  refine acall_of_aw Tryz.func129 rfl rfl rfl ?_
  refine aw_seq (aw_region ?_)
  refine q1 ?_
  refine q1 ?_
  refine q1 ?_
  refine qq rfl rfl (qr_index_int rfl rfl h0 (insts_at h h0 h1)) ?_
  refine q1 ?_
  refine q1 ?_
  refine aops_nil (thn_n ?_)
  refine aw_seq (aw_region ?_)
  refine q1 ?_
  refine q1 ?_
  refine aops_nil (thn_n ?_)
  refine aw_seq (aw_region ?_)
  refine q1 ?_
  refine q1 ?_
  refine qq rfl rfl (qr_ari rfl rfl rfl (by rw [List.length_map]; omega)) ?_
  refine qq rfl rfl (qr_as (qr_max2 rfl rfl) (show AV.v (.int .i64 (max ((((insP h x).map intR).length : Nat) - 1 : Int) 0)) = iv (((insP h x).length - 1) : Nat) from congrArg iv (by rw [List.length_map, max_pred]))) ?_
  refine rn ?_
  refine aw_rngX ((insP h x).length - 1) (fun _ _ => True) (fun k z => ⟨[(17, iv k), (0, y), (2, .v (.pointer (some ⟨bo, 0, none⟩))), (4, intsA (insP h x)), (5, .fn (.func 130) [] [.v (.pointer (some ⟨bp, 0, none⟩)), .v (.pointer (some ⟨bo, 0, none⟩))]), (16, iv (((insP h x).length - 1) : Nat))], .box bo 3 [iv x] :: .box bp 145 (pastC h rm) :: lastR h rm :: I ((wwP h x).take k) z, []⟩) x0 trivial es ?_
  intro k z lk _
  refine rn ?_
  refine aw_cond rfl (fun hc18 => ?_) (fun hc18 => ?_)
  · have hk : k < ((insP h x).length - 1) := by have q := of_decide_eq_true hc18; omega
    have hk1 : k + 1 < (insP h x).length := by omega
    have rk : ((insP h x).map intR)[k]? = some (intR ((insP h x)[k]'(by omega))) := atRow (by omega)
    have rk1 : ((insP h x).map intR)[k + 1]? = some (intR (insP h x)[k + 1]) := atRow hk1
    have hkl : k < ((insP h x).map intR).length := by rw [List.length_map]; omega
    have hkl1 : k + 1 < ((insP h x).map intR).length := by rw [List.length_map]; omega
    refine rn ?_
    refine aw_draw 25 rfl ?_
    refine dq rfl rfl qrA ?_
    refine dq rfl rfl qrA ?_
    refine dq rfl rfl qrA ?_
    refine dq rfl rfl (qr_index_list rfl rfl rk) ?_
    refine dq rfl rfl qrA ?_
    refine dq rfl rfl qrA ?_
    refine dq rfl rfl qrA ?_
    refine dq rfl rfl (qr_ari rfl rfl rfl (by omega)) ?_
    refine dq rfl rfl (qr_index_list rfl rfl rk1) ?_
    refine dq rfl rfl qrA ?_
    refine dq rfl rfl qrA ?_
    refine dq rfl rfl qrA ?_
    refine dq rfl rfl qrA ?_
    refine dq rfl rfl (qr_index_list rfl rfl rk) ?_
    refine rn ?_
    refine dv rfl rfl (by exact qv_call rfl rfl (FCall.of_acall (fs := []) (cs := [.v (.pointer (some ⟨bp, 0, none⟩)), .v (.pointer (some ⟨bo, 0, none⟩))]) (wwAt h rm x ((insP h x)[k]'(by omega)) bp bo (I ((wwP h x).take k) z)))) ?_
    refine dq rfl rfl qrA ?_
    refine dq rfl rfl qrA ?_
    refine dq rfl rfl qrA ?_
    refine dq rfl rfl (qr_ari rfl rfl rfl (by omega)) ?_
    refine dq rfl rfl (qr_index_list rfl rfl rk1) ?_
    refine rn ?_
    refine dv rfl rfl (by exact qv_call rfl rfl (FCall.of_acall (fs := []) (cs := [.v (.pointer (some ⟨bp, 0, none⟩)), .v (.pointer (some ⟨bo, 0, none⟩))]) (wwAt h rm x (insP h x)[k + 1] bp bo (I ((wwP h x).take k) z)))) ?_
    refine dq rfl rfl qrA ?_
    refine dq rfl rfl (qr_build (out := confR (wwC h x ((insP h x)[k]'(by omega)) (insP h x)[k + 1])) rfl (by rfl)) ?_
    refine rn ?_
    refine aops_e rfl (oe_call rfl rfl (hy ((wwP h x).take k) (wwC h x ((insP h x)[k]'(by omega)) (insP h x)[k + 1]) _ z (wwL_split hk1)) rfl ?_)
    rintro _ _ ⟨z', rfl, rfl⟩
    refine rn ?_
    refine aw_cond rfl (fun hc46 => ?_) (fun hc46 => ?_)
    · exact absurd hc46 (by decide)
    · refine aw_skip ?_
      refine inBlk_n ?_
      refine thn_n ?_
      refine aw_region ?_
      refine qq rfl rfl (qr_ari rfl rfl rfl (by omega)) ?_
      refine rn ?_
      exact ⟨hk, z', trivial, by rw [show (wwP h x).take (k + 1) = (wwP h x).take k ++ [_] from wwL_take hk1]; exact eA⟩
  · have qk : k = ((insP h x).length - 1) := by have q := of_decide_eq_false hc18; omega
    refine rn ?_
    exact retq_n .nil (.refl _ _) ⟨z, by rw [qk, List.take_of_length_le (by rw [wwP, wwL_len]; exact Nat.le_refl _)]⟩
set_option maxHeartbeats 4000000 in
theorem appSeqConf {μ : Type} (f : FuncId) [Go.Ab.Enters Tryz.prog f] (cs : List AV) (w1 w2 w3 : Res)  (K : μ → Prop) (m0 : μ) (L : List (Conf)) (hL : L.length ≤ 1000000) (W : List Res) (hseq : ∀ (y : AV) (I : List (Conf) → SV → List Res) (x0 : SV), (∀ pre d rest (s : SV) m, L = pre ++ d :: rest → K m → FCall Tryz.prog y [.agg (confR d)] (w1 :: w2 :: w3 :: I pre s) (fun r h' => ∃ s' : SV, r = bv true ∧ h' = w1 :: w2 :: w3 :: I (pre ++ [d]) s')) → ACall Tryz.prog f (y :: cs) (w1 :: w2 :: w3 :: I [] x0) (fun _ h' => ∃ x m, K m ∧ h' = w1 :: w2 :: w3 :: I L x)) : ACall Tryz.prog 131 [.v (.slice none 0 0), .fn (.func f) [] cs] (w1 :: w2 :: w3 :: W) (fun r h' => ∃ (s : SV) (m : μ), K m ∧ h' = .row s.v 7 70 (L.map confR) :: w1 :: w2 :: w3 :: W ∧ r = .v s.v) := by
  refine acall_of_aw Tryz.func131 rfl rfl rfl ?_
  refine rn ?_
  refine aops_e rfl (oe_box rfl rfl rfl fun b2 => ?_)
  refine rn ?_
  refine aw_ent (s' := ⟨[(6, .fn (.func f) [] cs), (2, .v (.pointer (some ⟨b2, 0, none⟩)))], w1 :: w2 :: w3 :: .box b2 68 [.v (⟨none, 0, 0⟩ : SV).v] :: .row (⟨none, 0, 0⟩ : SV).v 7 70 ((([] : List (Conf))).map confR) :: W, []⟩) (ent_trans (ent_trans (ent_nilrow 7 70) (ent_perm ((pt2 _ _ _ _).trans (.cons _ ((pt2 _ _ _ _).trans (.cons _ ((pt2 _ _ _ _).trans (.cons _ (pt1 _ _ _))))))))) es) ?_
  refine aw_rf (fun pend h'' => pend = none ∧ ∃ (s : SV) (m : μ), K m ∧ h'' = w1 :: w2 :: w3 :: .box b2 68 [.v s.v] :: .row s.v 7 70 ((L).map confR) :: W) rfl (fun fn l q lp hlp => ?_) (fun q h'' hK => ?_) (fun q h'' c hK => ?_)
  · suffices hy : ∀ pre d rest (s : SV) m, L = pre ++ d :: rest → K m → FCall Tryz.prog (yv l) [.agg (confR d)] (w1 :: w2 :: w3 :: lp .ready none :: .defs q :: .box b2 68 [.v s.v] :: .row s.v 7 70 ((pre).map confR) :: W) (fun r h' => ∃ s' : SV, r = bv true ∧ h' = w1 :: w2 :: w3 :: lp .ready none :: .defs q :: .box b2 68 [.v s'.v] :: .row s'.v 7 70 (((pre ++ [d])).map confR) :: W) by
      refine ACall.mono (ACall.perm ((pt2 _ _ _ _).trans (.cons _ ((pt2 _ _ _ _).trans (.cons _ (pt2 _ _ _ _))))) (hseq (yv l) (fun pre (s : SV) => lp .ready none :: .defs q :: .box b2 68 [.v s.v] :: .row s.v 7 70 ((pre).map confR) :: W) ⟨none, 0, 0⟩ hy)) ?_
      rintro _ _ ⟨s, m, hK, rfl⟩
      exact ⟨none, .ready, _, ((pt3 _ _ _ _ _).trans (.cons _ (pt3 _ _ _ _ _))), by simp, rfl, s, m, hK, rfl⟩
    intro pre d rest s m hpre hK
    have hlen : pre.length < L.length := by rw [hpre, List.length_append, List.length_cons]; omega
    refine FCall.perm (pt3 _ _ _ _ _) (FCall.ventE ?_)
    refine fcall_yl2 hlp rfl rfl ?_
    refine rn ?_
    refine aops_e rfl (oe_alloc rfl fun b5 => ?_)
    refine rn ?_
    refine ⟨[(5, .v (.pointer (some ⟨b5, 0, none⟩))), (2, .v (.pointer (some ⟨b2, 0, none⟩)))], .box b5 70 (confR d) :: w1 :: w2 :: w3 :: .defs q :: .box b2 68 [.v s.v] :: .row s.v 7 70 ((pre).map confR) :: W, ent_trans (ent_perm (pt1 _ _ _)) es, ?_⟩
    refine rn ?_
    refine qv rfl rfl (qv_buildSlice rfl rfl) ?_
    refine aops_e rfl (oe_append_row rfl rfl (by simp only [List.length_map, List.length_cons, List.length_nil]; have := hlen; omega) rfl (fun s11 => ?_) (one_conf [d]))
    refine aops_slice s11 fun sv hsv => ?_
    subst hsv
    refine rn ?_
    exact round_n (.refl _) ⟨_, _, .trans (.perm ((pt1 _ _ _).trans (.cons _ ((pt1 _ _ _).trans (.cons _ ((pt1 _ _ _).trans (.cons _ (pt1 _ _ _))))))) _) (.drop [_] _ _), sv, rfl, by rw [List.map_append]; rfl⟩
  · obtain ⟨_, s, m, hK, rfl⟩ := hK
    refine rn ?_
    exact retqd (.refl _) (.cons _ _ _ _ (.tmp _ _ rfl) .nil) (.trans (.perm ((pt3 _ _ _ _ _).trans (.cons _ (pt3 _ _ _ _ _))) _) (.drop1 _ _ _)) ⟨s, m, hK, rfl, rfl⟩
  · obtain ⟨hc, _⟩ := hK
    exact absurd hc (by simp)
theorem collectConf {μ : Type} (f : FuncId) [Go.Ab.Enters Tryz.prog f] (cs : List AV) (w1 w2 w3 : Res)  (K : μ → Prop) (m0 : μ) (L : List (Conf)) (hL : L.length ≤ 1000000) (W : List Res) (hseq : ∀ (y : AV) (I : List (Conf) → SV → List Res) (x0 : SV), (∀ pre d rest (s : SV) m, L = pre ++ d :: rest → K m → FCall Tryz.prog y [.agg (confR d)] (w1 :: w2 :: w3 :: I pre s) (fun r h' => ∃ s' : SV, r = bv true ∧ h' = w1 :: w2 :: w3 :: I (pre ++ [d]) s')) → ACall Tryz.prog f (y :: cs) (w1 :: w2 :: w3 :: I [] x0) (fun _ h' => ∃ x m, K m ∧ h' = w1 :: w2 :: w3 :: I L x)) : ACall Tryz.prog 96 [.fn (.func f) [] cs] (w1 :: w2 :: w3 :: W) (fun r h' => ∃ (s : SV) (m : μ), K m ∧ h' = .row s.v 7 70 (L.map confR) :: w1 :: w2 :: w3 :: W ∧ r = .v s.v) := by
  refine acall_of_aw Tryz.func96 rfl rfl rfl ?_
  refine rn ?_
  refine aops_e rfl (oe_call rfl rfl (FCall.of_fun (appSeqConf f cs w1 w2 w3  K m0 L hL W hseq)) rfl ?_)
  rintro _ _ ⟨s, m, hK, rfl, rfl⟩
  refine rn ?_
  exact retq (.cons _ _ _ _ (.tmp _ _ rfl) .nil) (.refl _ _) ⟨s, m, hK, rfl, rfl⟩
theorem wwRow (h : Hist) (x : Int) (h0 : 0 ≤ x) (h1 : x < h.os.length) (hb : (insP h x).length ≤ 3000) (bo bp rm : Nat) (W : List Res) : ACall Tryz.prog 96 [.fn (.func 129) [] [.v (.pointer (some ⟨bp, 0, none⟩)), .v (.pointer (some ⟨bo, 0, none⟩))]] (.box bo 3 [iv x] :: .box bp 145 (pastC h rm) :: lastR h rm :: W) (fun r h' => h' = .box bo 3 [iv x] :: .box bp 145 (pastC h rm) :: lastR h rm :: W ∧ r = confsA (wwP h x)) :=
  (collectConf (μ := Unit) 129 [.v (.pointer (some ⟨bp, 0, none⟩)), .v (.pointer (some ⟨bo, 0, none⟩))] (.box bo 3 [iv x]) (.box bp 145 (pastC h rm)) (lastR h rm) (fun _ => True) () (wwP h x) (by rw [wwP, wwL_len]; omega) W (fun y I x0 hy => (wwTell h x h0 h1 hb y bo bp rm I x0 (fun pre d rest s e => (hy pre d rest s () e trivial))).mono (fun _ _ ⟨z, e⟩ => ⟨z, (), trivial, e⟩))).ventR
    (by rintro _ _ ⟨s, _, _, rfl, rfl⟩; exact ⟨_, _, vent_freeze, rfl, rfl⟩)
end Go.Proofs
/- The walks of ww's Of, All. Conditions: none. -/
set_option linter.unusedVariables false
set_option linter.unusedSimpArgs false
set_option maxRecDepth 10000
namespace Go.Proofs
open Go Go.Ab
attribute [local irreducible] QR QV OE aops aw dsoup dsoupM dalloc dallocM thn inBlk jsoup jch lsoup
open Go.H
def wwO (h : Hist) (x : Int) : List Conf := if askE h x h.os.length = 0 then wwP h x else []
theorem wwO_y {h : Hist} {x : Int} (he : askE h x h.os.length = 0) : wwO h x = wwP h x := by rw [wwO, if_pos he]
theorem wwO_n {h : Hist} {x : Int} (he : askE h x h.os.length ≠ 0) : wwO h x = [] := by rw [wwO, if_neg he]
theorem ask_c {h : Hist} {x n : Int} (hc : checkI h ≠ 0) : askE h x n = checkI h := by rw [askE, if_neg hc]
theorem ask_r {h : Hist} {x n : Int} (hc : checkI h = 0) (hn : ¬ (0 ≤ x ∧ x < n)) : askE h x n = 2 := by rw [askE, if_pos hc, if_neg hn]
def wwA (h : Hist) : List Conf := if checkI h = 0 then wwAll h else []
theorem wwA_y {h : Hist} (he : checkI h = 0) : wwA h = wwAll h := by rw [wwA, if_pos he]
theorem wwA_n {h : Hist} (he : checkI h ≠ 0) : wwA h = [] := by rw [wwA, if_neg he]
theorem rows_len (h : Hist) : (wwRows h).length = h.os.length := by rw [wwRows, List.length_map, upR, List.length_map, List.length_range]
theorem rows_flat {h : Hist} (hc : checkI h = 0) : (wwRows h).flatten.length ≤ 9000000 := by
  have hO := (chk_lim hc).os
  have hk : ∀ k : Nat, k ≤ h.os.length → ((upR k).map (wwP h)).flatten.length ≤ k * 3000 := by
    intro k
    induction k with
    | zero => intro _; exact Nat.zero_le _
    | succ k ih =>
      intro hk
      have h1 := ih (by omega)
      have h2 := ins_le hc (x := k) (by omega) (by omega)
      have h3 : (wwP h k).length ≤ 3000 := by rw [wwP, wwL_len]; omega
      rw [upR_s, List.map_append, List.flatten_append, List.length_append, Nat.succ_mul]
      simp only [List.map_cons, List.map_nil, List.flatten_cons, List.flatten_nil, List.append_nil]
      omega
  have := hk h.os.length (Nat.le_refl _)
  rw [wwRows]; omega
theorem confLL_s (h : Hist) (k : Nat) : confLL ((upR (k + 1)).map (wwP h)) = confLL ((upR k).map (wwP h)) ++ [[confsA (wwP h k)]] := by rw [upR_s, List.map_append, confLL, List.map_append]; rfl
def AhI (l : List Int) (f t : Int) (k : Nat) (w : Bool) : Prop := w = (l.take k).contains f ∧ (f ≠ t → t ∉ l.take k)
def AhE (l : List Int) (f t : Int) (w : Bool) : Prop := f ≠ t → w = (l.takeWhile fun z => !(z == t)).contains f
theorem ahI_0 (l : List Int) (f t : Int) : AhI l f t 0 false := ⟨by simp, fun _ => by simp⟩
theorem ahI_f {l : List Int} {f t : Int} {k : Nat} {w : Bool} (hk : k < l.length) (h : l[k] = f) (hw : AhI l f t k w) : AhI l f t (k + 1) true := by
  refine ⟨?_, fun hn => ?_⟩
  · rw [List.take_succ_eq_append_getElem hk, h]; simp
  · rw [List.take_succ_eq_append_getElem hk, List.mem_append, List.mem_singleton, h]
    rintro (q | q)
    · exact hw.2 hn q
    · exact hn q.symm
theorem ahI_o {l : List Int} {f t : Int} {k : Nat} {w : Bool} (hk : k < l.length) (hf : l[k] ≠ f) (ht : l[k] ≠ t) (hw : AhI l f t k w) : AhI l f t (k + 1) w := by
  refine ⟨?_, fun hn => ?_⟩
  · rw [List.take_succ_eq_append_getElem hk, hw.1, Bool.eq_iff_iff, List.contains_iff_mem, List.contains_iff_mem, List.mem_append, List.mem_singleton]
    exact ⟨.inl, fun q => q.elim id fun e => absurd e.symm hf⟩
  · rw [List.take_succ_eq_append_getElem hk, List.mem_append, List.mem_singleton]
    rintro (q | q)
    · exact hw.2 hn q
    · exact ht q.symm
theorem tw_take {l : List Int} {t : Int} {k : Nat} (h : t ∉ l.take k) (he : l.drop k = [] ∨ ∃ r, l.drop k = t :: r) : (l.takeWhile fun z => !(z == t)) = l.take k := by
  conv => lhs; rw [← List.take_append_drop k l]
  rw [List.takeWhile_append_of_pos]
  · rcases he with e | ⟨r, e⟩ <;> rw [e] <;> simp
  · intro a ha
    have : a ≠ t := fun e => h (e ▸ ha)
    simpa using this
theorem ahE_x {l : List Int} {f t : Int} {k : Nat} {w : Bool} (hk : k < l.length) (ht : l[k] = t) (hw : AhI l f t k w) : AhE l f t w := fun hn => by
  rw [tw_take (hw.2 hn) (.inr ⟨l.drop (k + 1), by rw [List.drop_eq_getElem_cons hk, ht]⟩)]; exact hw.1
theorem ahE_n {l : List Int} {f t : Int} {k : Nat} {w : Bool} (hk : k = l.length) (hw : AhI l f t k w) : AhE l f t w := fun hn => by
  rw [tw_take (hw.2 hn) (.inl (by rw [hk, List.drop_length]))]; exact hw.1
theorem ahead_of {l : List Int} {f t : Int} {w : Bool} (hw : AhE l f t w) : (w && !(f == t) && l.contains t) = aheadP l f t := by
  rw [aheadP]
  by_cases e : f = t
  · subst e; simp
  · rw [hw e]
def chC (h : Hist) (f t : Int) : Int := if checkI h = 0 then (if (0 ≤ f ∧ 0 ≤ t) ∧ (f < h.ts.length ∧ t < h.ts.length) then (if (chainP h f t).length = 0 then 4 else 0) else 2) else checkI h
def chO (h : Hist) (f t : Int) : List Int := if chC h f t = 0 then chainP h f t else []
theorem chC_1 {h : Hist} {f t : Int} (hc : checkI h ≠ 0) : chC h f t = checkI h ∧ chO h f t = [] := by
  have e : chC h f t = checkI h := by rw [chC, if_neg hc]
  exact ⟨e, by rw [chO, e, if_neg hc]⟩
theorem chC_2 {h : Hist} {f t : Int} (hc : checkI h = 0) (hn : ¬ ((0 ≤ f ∧ 0 ≤ t) ∧ (f < h.ts.length ∧ t < h.ts.length))) : chC h f t = 2 ∧ chO h f t = [] := by
  have e : chC h f t = 2 := by rw [chC, if_pos hc, if_neg hn]
  exact ⟨e, by rw [chO, e]; rfl⟩
theorem chC_4 {h : Hist} {f t : Int} (hc : checkI h = 0) (hn : (0 ≤ f ∧ 0 ≤ t) ∧ (f < h.ts.length ∧ t < h.ts.length)) (h0 : (chainP h f t).length = 0) : chC h f t = 4 ∧ chO h f t = [] := by
  have e : chC h f t = 4 := by rw [chC, if_pos hc, if_pos hn, if_pos h0]
  exact ⟨e, by rw [chO, e]; rfl⟩
theorem chC_0 {h : Hist} {f t : Int} (hc : checkI h = 0) (hn : (0 ≤ f ∧ 0 ≤ t) ∧ (f < h.ts.length ∧ t < h.ts.length)) (h0 : (chainP h f t).length ≠ 0) : chC h f t = 0 ∧ chO h f t = chainP h f t := by
  have e : chC h f t = 0 := by rw [chC, if_pos hc, if_pos hn, if_neg h0]
  exact ⟨e, by rw [chO, if_pos e]⟩
def chK (h : Hist) (f t : Int) (k : Nat) : List Int := (upR k).filter fun x => aheadP (insP h x) f t
theorem chK_t {h : Hist} {f t : Int} {k : Nat} (ha : aheadP (insP h k) f t = true) : (chK h f t (k + 1)).map intR = (chK h f t k).map intR ++ [[iv k]] := by
  rw [chK, upR_s, List.filter_append, List.map_append]; simp [chK, ha, intR]
theorem chK_f {h : Hist} {f t : Int} {k : Nat} (ha : aheadP (insP h k) f t = false) : chK h f t (k + 1) = chK h f t k := by
  rw [chK, upR_s, List.filter_append]; simp [chK, ha]
theorem chK_len (h : Hist) (f t : Int) (k : Nat) : (chK h f t k).length ≤ k := by
  refine Nat.le_trans (List.length_filter_le _ _) ?_
  rw [upR, List.length_map, List.length_range]; exact Nat.le_refl _
set_option maxHeartbeats 4000000 in
theorem wwOfR (h : Hist) (la : Lim 4611686018427387904 h) (x : Int) : ACall Tryz.prog 41 [.agg (histC h), iv x] (.glob 0 186 limitsC :: .glob 2 287 firstC :: .glob 3 290 acceptC :: .glob 1 250 asksC :: []) (fun r h' => h' = .glob 0 186 limitsC :: .glob 2 287 firstC :: .glob 3 290 acceptC :: .glob 1 250 asksC :: [] ∧ ∃ a, r = .tup [a, iv (askE h x h.os.length)] ∧ (a = confsA (wwO h x) ∨ (a = .v (.slice none 0 0) ∧ wwO h x = []))) := by
  refine acall_of_aw Tryz.func41 rfl rfl rfl ?_
  refine rn ?_
  refine aops_e rfl (oe_box rfl rfl rfl fun b2 => ?_)
  refine q1 ?_
  refine q1 ?_
  refine aops_nil (thn_n ?_)
  refine aw_seq (aw_region ?_)
  refine q1 ?_
  refine aops_e rfl (oe_call rfl rfl (FCall.fr1 (FCall.of_fun (wwOf h la))) rfl ?_)
  rintro _ _ ⟨_, rfl, ⟨hd, rm, rfl, rfl⟩ | ⟨hd, rfl, rfl⟩⟩
  · refine rn ?_
    refine aops_e rfl (oe_alloc rfl fun b6 => ?_)
    refine rn ?_
    refine aw_cond rfl (fun hc14 => ?_) (fun hc14 => ?_)
    · first | cases hc14 | exact absurd hc14 (by decide) | (exfalso; simp_all; done)
    · refine rn ?_
      refine asplit (fun hg4_2 => ?_) (fun hg4_2 => ?_)
      · refine rn ?_
        refine aw_cond rfl (fun hc24 => ?_) (fun hc24 => ?_)
        · have hn : ¬ (0 ≤ x ∧ x < h.os.length) := by first | (have q := of_decide_eq_true hg4_2; omega) | (have q := of_decide_eq_true hc24; rw [List.length_map] at q; omega)
          refine rn ?_
          exact retq (.cons _ _ _ _ (.tmp _ _ rfl) (.cons _ _ _ _ (.tmp _ _ rfl) .nil)) (.drop [_, _, _] _ _) ⟨rfl, _, by rw [ask_r hd hn]; rfl, .inr ⟨rfl, wwO_n (by rw [ask_r hd hn]; decide)⟩⟩
        · first | cases hc24 | exact absurd hc24 (by decide) | (exfalso; simp_all; done)
      · refine rn ?_
        refine aw_cond rfl (fun hc24 => ?_) (fun hc24 => ?_)
        · have hn : ¬ (0 ≤ x ∧ x < h.os.length) := by first | (have q := of_decide_eq_true hg4_2; omega) | (have q := of_decide_eq_true hc24; rw [List.length_map] at q; omega)
          refine rn ?_
          exact retq (.cons _ _ _ _ (.tmp _ _ rfl) (.cons _ _ _ _ (.tmp _ _ rfl) .nil)) (.drop [_, _, _] _ _) ⟨rfl, _, by rw [ask_r hd hn]; rfl, .inr ⟨rfl, wwO_n (by rw [ask_r hd hn]; decide)⟩⟩
        · have h0 : 0 ≤ x := by have q := of_decide_eq_false hg4_2; omega
          have h1 : x < h.os.length := by have q := of_decide_eq_false hc24; rw [List.length_map] at q; omega
          refine rn ?_
          refine aops_e rfl (oe_call rfl rfl (FCall.of_fun (wwConf0 h rm x _)) rfl ?_)
          rintro _ _ ⟨bo, bp, rfl, rfl⟩
          refine qv rfl rfl (qv_call rfl rfl (FCall.qt (FCall.of_fun (wwRow h x h0 h1 (ins_le hd h0 h1) bo bp rm [])) (.cons _ (.cons _ (pt2 _ _ _ _))))) ?_
          refine rn ?_
          exact retq (.cons _ _ _ _ (.tmp _ _ rfl) (.cons _ _ _ _ (.tmp _ _ rfl) .nil)) (.drop [_, _, _, _, _] _ _) ⟨rfl, _, by rw [ask_y hd ⟨h0, h1⟩]; rfl, .inl (by rw [wwO_y (ask_y hd ⟨h0, h1⟩)])⟩
  · refine rn ?_
    refine aops_e rfl (oe_alloc rfl fun b6 => ?_)
    refine rn ?_
    refine aw_cond rfl (fun hc14 => ?_) (fun hc14 => ?_)
    · refine rn ?_
      exact retq (.cons _ _ _ _ (.tmp _ _ rfl) (.cons _ _ _ _ (.tmp _ _ rfl) .nil)) (.drop [_, _] _ _) ⟨rfl, _, by rw [ask_c hd]; rfl, .inr ⟨rfl, wwO_n (by rw [ask_c hd]; exact hd)⟩⟩
    · first | cases hc14 | exact absurd hc14 (by decide) | (exfalso; simp_all; done)
theorem wwOfA (h : Hist) (la : Lim 4611686018427387904 h) (x : Int) : ACall Tryz.prog 41 [.agg (histC h), iv x] (.glob 0 186 limitsC :: .glob 2 287 firstC :: .glob 3 290 acceptC :: .glob 1 250 asksC :: []) (fun r h' => h' = .glob 0 186 limitsC :: .glob 2 287 firstC :: .glob 3 290 acceptC :: .glob 1 250 asksC :: [] ∧ r = .tup [confsA (wwO h x), iv (askE h x h.os.length)]) := (wwOfR h la x).ventR (by rintro _ _ ⟨rfl, a, rfl, rfl | ⟨rfl, e⟩⟩; exact ⟨_, _, .refl _ _, rfl, rfl⟩; exact ⟨_, _, .trans (vent_nilrow 7 70 _) (vent_freeze_tup [] [_]), rfl, by rw [e]; rfl⟩)
set_option maxHeartbeats 4000000 in
theorem wwAllR (h : Hist) (la : Lim 4611686018427387904 h) : ACall Tryz.prog 38 [.agg (histC h)] (.glob 0 186 limitsC :: .glob 2 287 firstC :: .glob 3 290 acceptC :: .glob 1 250 asksC :: []) (fun r h' => ∃ s : SV, h' = .row s.v 7 70 ((wwA h).map confR) :: .glob 0 186 limitsC :: .glob 2 287 firstC :: .glob 3 290 acceptC :: .glob 1 250 asksC :: [] ∧ r = .tup [.v s.v, iv (checkI h)]) := by
  refine acall_of_aw Tryz.func38 rfl rfl rfl ?_
  have hO0 := la.os
  refine rn ?_
  refine aops_e rfl (oe_box rfl rfl rfl fun b1 => ?_)
  refine q1 ?_
  refine q1 ?_
  refine aops_nil (thn_n ?_)
  refine aw_seq (aw_region ?_)
  refine q1 ?_
  refine aops_e rfl (oe_call rfl rfl (FCall.fr1 (FCall.of_fun (wwOf h la))) rfl ?_)
  rintro _ _ ⟨_, rfl, ⟨hd, rm, rfl, rfl⟩ | ⟨hd, rfl, rfl⟩⟩
  · refine rn ?_
    refine aops_e rfl (oe_alloc rfl fun b4 => ?_)
    refine rn ?_
    refine aw_cond rfl (fun hc15 => ?_) (fun hc15 => ?_)
    · first | cases hc15 | exact absurd hc15 (by decide) | (exfalso; simp_all; done)
    · refine rn ?_
      have lO := (chk_lim hd).os
      refine aw_rng1 h.os.length (fun k s => ⟨[(22, iv k), (7, .v s.v), (6, .fn (.func 95) [.agg (pastC h rm)] []), (21, iv (h.os.map strR).length)], .row s.v 1 68 (confLL ((upR k).map (wwP h))) :: .box b4 145 (pastC h rm) :: .box b1 28 (histC h) :: lastR h rm :: .glob 0 186 limitsC :: .glob 2 287 firstC :: .glob 3 290 acceptC :: .glob 1 250 asksC :: [], []⟩) ⟨none, 0, 0⟩ (ent_trans (ent_nilrow 1 68) es) ?_
      intro k s lk
      refine rn ?_
      refine aw_cond rfl (fun hc23 => ?_) (fun hc23 => ?_)
      · have hk : k < h.os.length := by have q := of_decide_eq_true hc23; rw [List.length_map] at q; omega
        refine rn ?_
        refine aops_e rfl (oe_call rfl rfl (FCall.of_acall (fs := [.agg (pastC h rm)]) (cs := []) (wwConf0 h rm k _)) rfl ?_)
        rintro _ _ ⟨bo, bp, rfl, rfl⟩
        refine qv rfl rfl (qv_call rfl rfl (FCall.qt (FCall.of_fun (wwRow h k (by omega) (by omega) (ins_le hd (by omega) (by omega)) bo bp rm [])) (.cons _ (.cons _ (pt3 _ _ _ _ _))))) ?_
        refine qv rfl rfl (qv_buildSlice rfl rfl) ?_
        refine aops_e rfl (oe_append_row rfl rfl (by simp only [List.length_map, upR, List.length_range, List.length_cons, List.length_nil]; omega) rfl (fun s31 => ?_) (fun r hr => by rw [List.mem_singleton.1 hr]; rfl))
        refine aops_slice s31 fun sv hsv => ?_
        subst hsv
        refine rn ?_
        exact ⟨hk, sv, by rw [confLL_s]; exact eA⟩
      · have qk : k = h.os.length := by have q := of_decide_eq_false hc23; rw [List.length_map] at q; omega
        refine aw_exit ?_
        refine thn_e ?_
        refine thn_e ?_
        refine inBlk_hit ?_
        refine thn_n ?_
        refine aw_seq (aw_region ?_)
        rw [qk]
        show aops _ _ _ _ _ _ ⟨_, .row s.v 1 68 (confLL (wwRows h)) :: _, _⟩
        refine rn ?_
        refine aops_e rfl (oe_call rfl rfl (FCall.lendG (FCall.of_fun (wwJoined (wwRows h) (Nat.le_trans (rows_flat hd) (by decide)) (by rw [rows_len]; omega))) (by rintro _ _ ⟨s, rfl, rfl⟩; exact ⟨.v _, fun x hx => by rw [List.mem_singleton.1 hx]; exact scal_row (scalConf _)⟩) (BLe.refl _ _) (by exact ⟨ble_row, trivial⟩)) rfl ?_)
        rintro _ _ ⟨_, rfl, s2, rfl, rfl⟩
        refine aops_e rfl (oe_call rfl rfl (FCall.fr (FCall.of_fun (compactConf (sortL cmpC (wwRows h).flatten) s2 _ sameFT (fun a b => FCall.of_fun (wwSame a b)) (by rw [(sortL_perm cmpC _).length_eq]; exact Nat.le_trans (rows_flat hd) (by decide)))) (.refl _)) rfl ?_)
        rintro _ _ ⟨_, rfl, s3, rfl, rfl⟩
        refine rn ?_
        exact retq (.cons _ _ _ _ (.tmp _ _ rfl) (.cons _ _ _ _ (.tmp _ _ rfl) .nil)) (.trans (.perm ((pt1 _ _ _).trans (.cons _ ((pt1 _ _ _).trans (.cons _ ((pt1 _ _ _).trans (.cons _ (pt1 _ _ _))))))) _) (.drop [_, _, _, _] _ _)) ⟨s3, by rw [wwA_y hd, wwAll], by rw [hd]; rfl⟩
  · refine rn ?_
    refine aops_e rfl (oe_alloc rfl fun b4 => ?_)
    refine rn ?_
    refine aw_cond rfl (fun hc15 => ?_) (fun hc15 => ?_)
    · refine rn ?_
      exact retq (.cons _ _ _ _ (.tmp _ _ rfl) (.cons _ _ _ _ (.tmp _ _ rfl) .nil)) (.trans (.drop [_, _] _ _) (vent_nilrow 7 70 _)) ⟨⟨none, 0, 0⟩, by rw [wwA_n hd]; rfl, rfl⟩
    · first | cases hc15 | exact absurd hc15 (by decide) | (exfalso; simp_all; done)
theorem wwAllA (h : Hist) (la : Lim 4611686018427387904 h) : ACall Tryz.prog 38 [.agg (histC h)] (.glob 0 186 limitsC :: .glob 2 287 firstC :: .glob 3 290 acceptC :: .glob 1 250 asksC :: []) (fun r h' => h' = .glob 0 186 limitsC :: .glob 2 287 firstC :: .glob 3 290 acceptC :: .glob 1 250 asksC :: [] ∧ r = .tup [confsA (wwA h), iv (checkI h)]) := (wwAllR h la).ventR (by rintro _ _ ⟨s, rfl, rfl⟩; exact ⟨_, _, vent_freeze_tup [] [_], rfl, rfl⟩)
end Go.Proofs
/- The walks of ww's ahead, Chain. Conditions: none. -/
set_option linter.unusedVariables false
set_option linter.unusedSimpArgs false
set_option maxRecDepth 10000
namespace Go.Proofs
open Go Go.Ab
attribute [local irreducible] QR QV OE aops aw dsoup dsoupM dalloc dallocM thn inBlk jsoup jch lsoup
open Go.H
set_option maxHeartbeats 4000000 in
theorem wwAhead (h : Hist) (x f t : Int) (h0 : 0 ≤ x) (h1 : x < h.os.length) (hb : (insP h x).length ≤ 3000) (rm : Nat) (W : List Res) : ACall Tryz.prog 103 [.agg (pastC h rm), iv x, iv f, iv t] W (fun r h' => h' = W ∧ r = bv (aheadP (insP h x) f t)) := by
  refine acall_of_aw Tryz.func103 rfl rfl rfl ?_
  refine rn ?_
  refine aops_e rfl (oe_box rfl rfl rfl fun b4 => ?_)
  refine rn ?_
  refine aw_scope ?_
  refine aw_seq (aw_region ?_)
  refine rn0 ?_
  refine aw_seq ?_
  refine aw_label ?_
  refine rn0 ?_
  refine aw_cutE (fun w : Bool => AhE (insP h x) f t w) (fun w => ⟨[(9, bv w), (1, iv x), (2, iv f), (3, iv t), (4, .v (.pointer (some ⟨b4, 0, none⟩)))], .box b4 145 (pastC h rm) :: W, []⟩) ?_ ?_
  · refine aw_seq (aw_region ?_)
    refine q1 ?_
    refine q1 ?_
    refine q1 ?_
    refine qq rfl rfl (qr_index_int rfl rfl h0 (insts_at h h0 h1)) ?_
    refine rn ?_
    refine aw_rngS (insP h x).length (fun k w => AhI (insP h x) f t k w) (fun k w => [(18, iv k), (9, bv w)]) [(1, iv x), (2, iv f), (3, iv t), (4, .v (.pointer (some ⟨b4, 0, none⟩))), (16, intsA (insP h x)), (17, iv ((insP h x).map intR).length)] false (ahI_0 _ _ _) ?_
    intro k w lk hw
    refine rn ?_
    refine aw_cond rfl (fun hc19 => ?_) (fun hc19 => ?_)
    · have hk : k < (insP h x).length := by have q := of_decide_eq_true hc19; rw [List.length_map] at q; omega
      have rk : ((insP h x).map intR)[k]? = some (intR (insP h x)[k]) := atRow hk
      have hkl : k < ((insP h x).map intR).length := by rw [List.length_map]; exact hk
      refine rn ?_
      refine aw_cond rfl (fun hc23 => ?_) (fun hc23 => ?_)
      · have hf : (insP h x)[k] = f := by simpa using hc23
        refine rn ?_
        first | exact ⟨hk, true, ahI_f hk hf hw, eA⟩ | exact ⟨hk, w, ahI_o hk hf ht hw, eA⟩
      · have hf : (insP h x)[k] ≠ f := by simpa using hc23
        refine rn ?_
        refine aw_cond rfl (fun hc26 => ?_) (fun hc26 => ?_)
        · have ht : (insP h x)[k] = t := by simpa using hc26
          refine rn ?_
          first | exact ⟨w, ahE_x hk ht hw, eA⟩ | exact ⟨w, ahE_n qk hw, eA⟩
        · have ht : (insP h x)[k] ≠ t := by simpa using hc26
          refine rn ?_
          first | exact ⟨hk, true, ahI_f hk hf hw, eA⟩ | exact ⟨hk, w, ahI_o hk hf ht hw, eA⟩
    · have qk : k = (insP h x).length := by have q := of_decide_eq_false hc19; rw [List.length_map] at q; omega
      refine rn ?_
      first | exact ⟨w, ahE_x hk ht hw, eA⟩ | exact ⟨w, ahE_n qk hw, eA⟩
  · intro w hw
    refine rn ?_
    refine asplit (fun hg10_1 => ?_) (fun hg10_1 => ?_)
    · refine rn ?_
      refine asplit (fun hg10_6 => ?_) (fun hg10_6 => ?_)
      · refine q1 ?_
        refine q1 ?_
        refine q1 ?_
        refine qq rfl rfl (qr_index_int rfl rfl h0 (insts_at h h0 h1)) ?_
        refine rn ?_
        refine qv rfl rfl (qv_call rfl rfl (pcall (containsI (insP h x) t (by omega)) (Sbs.refl _))) ?_
        refine rn ?_
        refine ⟨fun l h => (by cases h), ?_⟩
        refine rq 1 ?_
        exact ⟨rfl, congrArg bv (by rw [← ahead_of hw]; first | rfl | (simp_all; done))⟩
      · refine rn ?_
        refine ⟨fun l h => (by cases h), ?_⟩
        refine rq 1 ?_
        exact ⟨rfl, congrArg bv (by rw [← ahead_of hw]; first | rfl | (simp_all; done))⟩
    · refine rn ?_
      refine ⟨fun l h => (by cases h), ?_⟩
      refine rq 1 ?_
      exact ⟨rfl, congrArg bv (by rw [← ahead_of hw]; first | rfl | (simp_all; done))⟩
set_option maxHeartbeats 4000000 in
theorem wwChainR (h : Hist) (la : Lim 4611686018427387904 h) (f t : Int) : ACall Tryz.prog 44 [.agg (histC h), iv f, iv t] (.glob 0 186 limitsC :: .glob 2 287 firstC :: .glob 3 290 acceptC :: .glob 1 250 asksC :: []) (fun r h' => ∃ s : SV, h' = .row s.v 1 3 ((chO h f t).map intR) :: .glob 0 186 limitsC :: .glob 2 287 firstC :: .glob 3 290 acceptC :: .glob 1 250 asksC :: [] ∧ r = .tup [.v s.v, iv (chC h f t)]) := by
  refine acall_of_aw Tryz.func44 rfl rfl rfl ?_
  refine rn ?_
  refine aops_e rfl (oe_box rfl rfl rfl fun b3 => ?_)
  refine q1 ?_
  refine q1 ?_
  refine aops_nil (thn_n ?_)
  refine aw_seq (aw_region ?_)
  refine q1 ?_
  refine aops_e rfl (oe_call rfl rfl (FCall.fr1 (FCall.of_fun (wwOf h la))) rfl ?_)
  rintro _ _ ⟨_, rfl, ⟨hd, rm, rfl, rfl⟩ | ⟨hd, rfl, rfl⟩⟩
  · refine rn ?_
    refine aops_e rfl (oe_alloc rfl fun b8 => ?_)
    refine rn ?_
    refine aw_cond rfl (fun hc19 => ?_) (fun hc19 => ?_)
    · first | cases hc19 | exact absurd hc19 (by decide) | (exfalso; simp_all; done)
    · refine rn ?_
      refine asplit (fun hg5_4 => ?_) (fun hg5_4 => ?_)
      · refine rn ?_
        refine aw_cond rfl (fun hc34 => ?_) (fun hc34 => ?_)
        · have hn : ¬ ((0 ≤ f ∧ 0 ≤ t) ∧ (f < h.ts.length ∧ t < h.ts.length)) := by first | (have q := of_decide_eq_true hg5_4; omega) | (have q := of_decide_eq_true hc34; rw [List.length_map] at q; omega)
          refine rn ?_
          exact retq (.cons _ _ _ _ (.tmp _ _ rfl) (.cons _ _ _ _ (.tmp _ _ rfl) .nil)) (.trans (.drop [_, _, _] _ _) (vent_nilrow 1 3 _)) ⟨⟨none, 0, 0⟩, by rw [(chC_2 hd hn).2]; rfl, by rw [(chC_2 hd hn).1]; rfl⟩
        · first | cases hc34 | exact absurd hc34 (by decide) | (exfalso; simp_all; done)
      · refine rn ?_
        refine aw_cond rfl (fun hc34 => ?_) (fun hc34 => ?_)
        · have hn : ¬ ((0 ≤ f ∧ 0 ≤ t) ∧ (f < h.ts.length ∧ t < h.ts.length)) := by first | (have q := of_decide_eq_true hg5_4; omega) | (have q := of_decide_eq_true hc34; rw [List.length_map] at q; omega)
          refine rn ?_
          exact retq (.cons _ _ _ _ (.tmp _ _ rfl) (.cons _ _ _ _ (.tmp _ _ rfl) .nil)) (.trans (.drop [_, _, _] _ _) (vent_nilrow 1 3 _)) ⟨⟨none, 0, 0⟩, by rw [(chC_2 hd hn).2]; rfl, by rw [(chC_2 hd hn).1]; rfl⟩
        · have hn : ((0 ≤ f ∧ 0 ≤ t) ∧ (f < h.ts.length ∧ t < h.ts.length)) := by have q := of_decide_eq_false hg5_4; have q2 := of_decide_eq_false hc34; rw [List.length_map] at q2; omega
          refine rn ?_
          have lO := (chk_lim hd).os
          refine aw_rng1 h.os.length (fun k s => ⟨[(38, iv k), (11, .v s.v), (1, iv f), (2, iv t), (8, .v (.pointer (some ⟨b8, 0, none⟩))), (37, iv (h.os.map strR).length)], .row s.v 1 3 ((chK h f t k).map intR) :: .box b8 145 (pastC h rm) :: .box b3 28 (histC h) :: lastR h rm :: .glob 0 186 limitsC :: .glob 2 287 firstC :: .glob 3 290 acceptC :: .glob 1 250 asksC :: [], []⟩) ⟨none, 0, 0⟩ (ent_trans (ent_nilrow 1 3) es) ?_
          intro k s lk
          refine rn ?_
          refine aw_cond rfl (fun hc39 => ?_) (fun hc39 => ?_)
          · have hk : k < h.os.length := by have q := of_decide_eq_true hc39; rw [List.length_map] at q; omega
            have bk := chK_len h f t k
            refine rn ?_
            refine qv rfl rfl (qv_call rfl rfl (FCall.of_fun (wwAhead h k f t (by omega) (by omega) (ins_le hd (by omega) (by omega)) rm _))) ?_
            refine rn ?_
            refine aw_cond rfl (fun hc45 => ?_) (fun hc45 => ?_)
            · refine rn ?_
              refine qv rfl rfl (qv_buildSlice rfl rfl) ?_
              refine aops_e rfl (oe_append_row rfl rfl (by simp only [List.length_map, List.length_cons, List.length_nil]; omega) rfl (fun s49 => ?_) (one_int [(k : Int)]))
              refine aops_slice s49 fun sv hsv => ?_
              subst hsv
              refine rn ?_
              first | exact ⟨hk, sv, by rw [chK_t (by first | exact hc45)]; exact eA⟩ | exact ⟨hk, s, by rw [chK_f (by exact hc45)]; exact eA⟩
            · refine rn ?_
              first | exact ⟨hk, sv, by rw [chK_t (by first | exact hc45)]; exact eA⟩ | exact ⟨hk, s, by rw [chK_f (by exact hc45)]; exact eA⟩
          · have qk : k = h.os.length := by have q := of_decide_eq_false hc39; rw [List.length_map] at q; omega
            subst qk
            refine rn ?_
            refine aw_cond rfl (fun hc53 => ?_) (fun hc53 => ?_)
            · have h0 : (chainP h f t).length = 0 := by have q : ((((chainP h f t).map intR).length : Int) == 0) = true := hc53; rw [List.length_map] at q; simpa using q
              refine rn ?_
              exact retq (.cons _ _ _ _ (.tmp _ _ rfl) (.cons _ _ _ _ (.tmp _ _ rfl) .nil)) (.trans (.drop [_, _, _, _] _ _) (vent_nilrow 1 3 _)) ⟨⟨none, 0, 0⟩, by rw [(chC_4 hd hn h0).2]; rfl, by rw [(chC_4 hd hn h0).1]; rfl⟩
            · have h0 : (chainP h f t).length ≠ 0 := by have q : ((((chainP h f t).map intR).length : Int) == 0) = false := hc53; rw [List.length_map] at q; simpa using q
              refine rn ?_
              exact retq (.cons _ _ _ _ (.tmp _ _ rfl) (.cons _ _ _ _ (.tmp _ _ rfl) .nil)) (.trans (.perm ((pt1 _ _ _).trans (.cons _ ((pt1 _ _ _).trans (.cons _ (pt1 _ _ _))))) _) (.drop [_, _, _] _ _)) ⟨s, by rw [(chC_0 hd hn h0).2]; rfl, by rw [(chC_0 hd hn h0).1]; rfl⟩
  · refine rn ?_
    refine aops_e rfl (oe_alloc rfl fun b8 => ?_)
    refine rn ?_
    refine aw_cond rfl (fun hc19 => ?_) (fun hc19 => ?_)
    · refine rn ?_
      exact retq (.cons _ _ _ _ (.tmp _ _ rfl) (.cons _ _ _ _ (.tmp _ _ rfl) .nil)) (.trans (.drop [_, _] _ _) (vent_nilrow 1 3 _)) ⟨⟨none, 0, 0⟩, by rw [(chC_1 hd).2]; rfl, by rw [(chC_1 hd).1]; rfl⟩
    · first | cases hc19 | exact absurd hc19 (by decide) | (exfalso; simp_all; done)
theorem wwChainA (h : Hist) (la : Lim 4611686018427387904 h) (f t : Int) : ACall Tryz.prog 44 [.agg (histC h), iv f, iv t] (.glob 0 186 limitsC :: .glob 2 287 firstC :: .glob 3 290 acceptC :: .glob 1 250 asksC :: []) (fun r h' => h' = .glob 0 186 limitsC :: .glob 2 287 firstC :: .glob 3 290 acceptC :: .glob 1 250 asksC :: [] ∧ r = .tup [intsA (chO h f t), iv (chC h f t)]) := (wwChainR h la f t).ventR (by rintro _ _ ⟨s, rfl, rfl⟩; exact ⟨_, _, vent_freeze_tup [] [_], rfl, rfl⟩)
end Go.Proofs
/- The walk of the reference's Same. Conditions: none. -/
set_option linter.unusedVariables false
set_option linter.unusedSimpArgs false
set_option maxRecDepth 10000
namespace Go.Proofs
open Go Go.Ab
attribute [local irreducible] QR QV OE aops aw dsoup dsoupM dalloc dallocM thn inBlk
open Go.H
end Go.Proofs
/- The walks of rows of conflicts, of ww's Justified. Conditions: none. -/
set_option linter.unusedVariables false
set_option linter.unusedSimpArgs false
set_option maxRecDepth 10000
namespace Go.Proofs
open Go Go.Ab
attribute [local irreducible] QR QV OE aops aw dsoup dsoupM dalloc dallocM thn inBlk jsoup jch lsoup
open Go.H
theorem first_f {b : Bool} (h : b = false) : b = false := h
theorem first_t {b : Bool} (h : b = true) : b = true := h
theorem any_dec {α : Type} [DecidableEq α] {p : α → α → Bool} (hp : ∀ a b, p a b = decide (a = b)) {l : List α} {s : α} : l.any (fun a => p s a) = decide (s ∈ l) := by
  rw [Bool.eq_iff_iff, List.any_eq_true, decide_eq_true_iff]
  constructor
  · rintro ⟨a, ha, e⟩
    rw [hp, decide_eq_true_iff] at e
    exact e ▸ ha
  · intro h; exact ⟨s, h, by rw [hp]; simp⟩
theorem indexConf {f : Bool} (l : List Conf) (s : Conf) (hl : l.length ≤ 4611686018427387904) : ACall Tryz.prog 135 [.list f 7 (l.map confR), .agg (confR s)] [] (fun r h' => h' = [] ∧ r = iv (fidx (fun a => confEq s a) 0 l)) := by
  refine acall_of_aw Tryz.func135 rfl rfl rfl ?_
  refine rn ?_
  refine aops_e rfl (oe_box rfl rfl rfl fun b3 => ?_)
  refine rn ?_
  refine aw_rng (l.length) (fun k : Nat => fidx (fun a => confEq s a) 0 l = fidx (fun a => confEq s a) k (l.drop k)) (fun k => [(8, iv k)]) [(0, _), (3, _), (7, _)] (by simp) ?_
  intro k lk zk
  refine rn ?_
  refine aw_cond rfl (fun hc9 => ?_) (fun hc9 => ?_)
  · have hk := ltMap hc9
    have rk := atRow (f := confR) hk
    refine rn ?_
    refine aw_draw 5 rfl ?_
    refine rn ?_
    refine aw_cond rfl (fun hc16 => ?_) (fun hc16 => ?_)
    · refine rn ?_
      refine rq 1 ?_
      exact ⟨rfl, congrArg iv (by rw [zk, List.drop_eq_getElem_cons hk, fidx, if_pos (show confEq s l[k] = true from first_t hc16)])⟩
    · refine rn ?_
      exact ⟨hk, by rw [zk, List.drop_eq_getElem_cons hk, fidx, if_neg (by rw [show confEq s l[k] = false from first_f hc16]; decide)], eA⟩
  · have qk := geMap hc9 lk
    refine rn ?_
    refine rq 1 ?_
    exact ⟨rfl, congrArg iv (by rw [zk, qk, List.drop_length]; rfl)⟩
theorem containsConf {f : Bool} (l : List Conf) (s : Conf) (hl : l.length ≤ 4611686018427387904) : ACall Tryz.prog 105 [.list f 7 (l.map confR), .agg (confR s)] [] (fun r h' => h' = [] ∧ r = bv (decide (s ∈ l))) := by
  refine acall_of_aw Tryz.func105 rfl rfl rfl ?_
  refine rn ?_
  refine aops_e rfl (oe_box rfl rfl rfl fun b3 => ?_)
  refine rn ?_
  refine qv rfl rfl (qv_call rfl rfl (pcall (indexConf _ _ hl) (Sbs.refl _))) ?_
  refine rn ?_
  refine rq 1 ?_
  exact ⟨rfl, congrArg bv (by rw [fidx_ge]; exact any_dec confEq_eq)⟩
theorem wwP_len {h : Hist} {x : Int} (he : askE h x h.os.length = 0) : (wwP h x).length ≤ 3000 := by
  obtain ⟨hs, h0, h1⟩ := ask_0 he
  have := ins_le (checkI_0.2 hs) h0 h1
  rw [wwP, wwL_len]; omega
theorem wwO_len (h : Hist) (x : Int) : (wwO h x).length ≤ 3000 := by
  by_cases he : askE h x h.os.length = 0
  · rw [wwO_y he]; exact wwP_len he
  · rw [wwO_n he]; exact Nat.zero_le _
theorem just_n {h : Hist} {c : Conf} (he : (askE h c.o h.os.length == 0) = false) : decide (c ∈ wwO h c.o) = false := by
  rw [wwO_n (by simpa using he)]; simp
set_option maxHeartbeats 4000000 in
theorem wwJust (h : Hist) (la : Lim 4611686018427387904 h) (c : Conf) : ACall Tryz.prog 47 [.agg (histC h), .agg (confR c)] (.glob 0 186 limitsC :: .glob 2 287 firstC :: .glob 3 290 acceptC :: .glob 1 250 asksC :: []) (fun r h' => h' = .glob 0 186 limitsC :: .glob 2 287 firstC :: .glob 3 290 acceptC :: .glob 1 250 asksC :: [] ∧ r = bv (decide (c ∈ wwO h c.o))) := by
  refine acall_of_aw Tryz.func47 rfl rfl rfl ?_
  refine rn ?_
  refine aops_e rfl (oe_box rfl rfl rfl fun b2 => ?_)
  refine aops_e rfl (oe_box rfl rfl rfl fun b3 => ?_)
  refine rn ?_
  refine qv rfl rfl (qv_call rfl rfl (FCall.qt (FCall.of_fun (wwOfA h la c.o)) ((pt2 _ _ _ _).trans (.cons _ ((pt2 _ _ _ _).trans (.cons _ ((pt2 _ _ _ _).trans (.cons _ (pt2 _ _ _ _))))))))) ?_
  refine rn ?_
  refine asplit (fun hg2_2 => ?_) (fun hg2_2 => ?_)
  · refine rn ?_
    refine qv rfl rfl (qv_call rfl rfl (pcall (containsConf (wwO h c.o) c (Nat.le_trans (wwO_len h c.o) (by decide))) (Sbs.refl _))) ?_
    refine rn ?_
    first | exact retq (.cons _ _ _ _ (.tmp _ _ rfl) .nil) (.drop [_, _] _ _) ⟨rfl, congrArg bv (just_n hg2_2).symm⟩ | exact retq (.cons _ _ _ _ (.tmp _ _ rfl) .nil) (.drop [_, _] _ _) ⟨rfl, rfl⟩
  · refine rn ?_
    first | exact retq (.cons _ _ _ _ (.tmp _ _ rfl) .nil) (.drop [_, _] _ _) ⟨rfl, congrArg bv (just_n hg2_2).symm⟩ | exact retq (.cons _ _ _ _ (.tmp _ _ rfl) .nil) (.drop [_, _] _ _) ⟨rfl, rfl⟩
end Go.Proofs
/- The walks of law 23's small, wakes, levels. Conditions: none. -/
set_option linter.unusedVariables false
set_option linter.unusedSimpArgs false
set_option maxRecDepth 10000
namespace Go.Proofs
open Go Go.Ab
attribute [local irreducible] QR QV OE aops aw dsoup dsoupM dalloc dallocM thn inBlk jsoup jch lsoup
open Go.H
end Go.Proofs
/- The walks of law 18's own, small, wakes. Conditions: none. -/
set_option linter.unusedVariables false
set_option linter.unusedSimpArgs false
set_option maxRecDepth 10000
namespace Go.Proofs
open Go Go.Ab
attribute [local irreducible] QR QV OE aops aw dsoup dsoupM dalloc dallocM thn inBlk jsoup jch lsoup
open Go.H
theorem own_take18 (l : List Ev) : (l.map evR).take (min (l.map evR).length 80) = (l.take 80).map evR := by
  rw [List.length_map, ← List.map_take, Nat.min_comm, ← List.take_take, List.take_length]
set_option maxHeartbeats 4000000 in
theorem own18R (h : Hist) (la : Big h) : ACall Tryz.prog 36 [.agg (histC h)] [] (fun r h' => ∃ (sE sO : SV) (O : List (SV × H.Ord)), O.map (·.2) = h.ords ∧ h' = .row sE.v 9 56 ((h.evs.take 80).map evR) :: .row sO.v 2 101 (O.map ordRw) :: otR 3 O ∧ r = .agg [strsA h.ts, strsA h.ss, strsA h.os, strsA h.ps, .v sE.v, .v sO.v, matsA h.mats, wansA h.wants]) := by
  refine acall_of_aw Tryz.func36 rfl rfl rfl ?_
  refine rn ?_
  refine aops_e rfl (oe_box rfl rfl rfl fun b1 => ?_)
  refine aops_e rfl (oe_alloc rfl fun b2 => ?_)
  refine aops_nil (thn_n ?_)
  refine aw_seq (aw_region ?_)
  refine q1 ?_
  refine q1 ?_
  refine q1 ?_
  refine q1 ?_
  refine q1 ?_
  refine qq rfl rfl (qr_minN (h.evs.map evR).length 80 rfl rfl) ?_
  refine qq rfl rfl (qr_slice_hE (rows' := (h.evs.take 80).map evR) rfl rfl (Nat.min_le_left _ _) (own_take18 h.evs)) ?_
  refine aops_e rfl (oe_call rfl rfl (FCall.fr2 (FCall.rowS (FCall.of_fun (cloneRowEv ((h.evs.take 80).map evR) (by rw [List.length_map, List.length_take]; omega) (one_ev _))))) rfl ?_)
  rintro _ _ ⟨_, rfl, s11, rfl, rfl⟩
  refine rn ?_
  refine aops_e rfl (oe_call rfl rfl (FCall.fr3 (FCall.rowS (FCall.of_fun (cloneRowOrdB (h.ords.map ordR) (by rw [List.length_map]; have := la.ords; omega) (one_ord _))))) rfl ?_)
  rintro _ _ ⟨_, rfl, s15, rfl, rfl⟩
  refine rn ?_
  refine aw_loop' (fun x : Nat × List (SV × H.Ord) => x.1 ≤ h.ords.length ∧ x.2.map (·.2) = h.ords.take x.1) (fun x => ⟨[(20, iv x.1), (19, iv (h.ords.map ordR).length), (1, .v (.pointer (some ⟨b1, 0, none⟩))), (2, .v (.pointer (some ⟨b2, 0, none⟩)))], .box b2 28 histZ :: .box b1 28 [strsA h.ts, strsA h.ss, strsA h.os, strsA h.ps, .v s11.v, .v s15.v, matsA h.mats, wansA h.wants] :: .row s11.v 9 56 ((h.evs.take 80).map evR) :: .row s15.v 2 101 (x.2.map ordRw ++ (h.ords.drop x.1).map ordR) :: otR 3 x.2, []⟩) (fun x => h.ords.length - x.1) (0, []) ⟨by omega, rfl⟩
    (ent_sub (.cons _ _ _ rfl (.cons _ _ _ rfl (.cons _ _ _ rfl (.cons _ _ _ rfl (.nil)))))) ?_
  rintro ⟨k, x⟩ ⟨hk, hx⟩
  simp only at hk hx
  have hxl := mid_len2 hx hk
  refine rn ?_
  refine aw_cond rfl (fun hc21 => ?_) (fun hc21 => ?_)
  · have hk2 : k < h.ords.length := by have q := of_decide_eq_true hc21; rw [List.length_map] at q; omega
    obtain ⟨e, he⟩ : ∃ e, e = h.ords[k] := ⟨_, rfl⟩
    have hd := List.drop_eq_getElem_cons hk2
    rw [← he] at hd
    have hrow : (x.map ordRw ++ (h.ords.drop k).map ordR)[k]? = some (ordR e) := mid_get hxl hd
    have hmem : e ∈ h.ords := by rw [he]; exact List.getElem_mem hk2
    have hle := la.lim.ords
    have hk3 : k < (x.map ordRw ++ (h.ords.drop k).map ordR).length := by rw [mid_len hxl hk]; exact hk2
    refine rn ?_
    refine aw_drawM 10 rfl ?_
    refine mq rfl rfl qrA ?_
    refine mq rfl rfl qrA ?_
    refine mq rfl rfl qrA ?_
    refine mq rfl rfl qrA ?_
    refine mq rfl rfl qrA ?_
    refine mq rfl rfl qrA ?_
    refine mq rfl rfl (qr_index_row rfl rfl hk3) ?_
    refine mq rfl rfl qrA ?_
    refine mq rfl rfl (qr_load_rp_one rfl hrow rfl) ?_
    refine mcall (mrow 1 3 (e.ts.map intR)) rfl rfl rfl (mk_row (FCall.of_fun (cloneRowIntB _ (by rw [List.length_map]; have := (la.ordts e hmem); omega) (one_int _)))) ?_
    refine mnil ⟨.refl _, ?_⟩
    refine rn ?_
    refine mal_row fun s32 => ?_
    refine rn2 ?_
    refine qq rfl rfl (qr_index_row rfl rfl hk3) ?_
    refine rn ?_
    refine aops_e rfl (oe_store_rp rfl rfl rfl hrow rfl (Nat.le_of_ble_eq_true rfl) ?_)
    refine rn ?_
    have hset := mid_set (f := ordRw) (g := ordR) (a := (s32, e)) (r := (ordR e).take 1 ++ [.v s32.v] ++ (ordR e).drop (1 + 1)) hxl hd rfl
    have htl : otR 3 (x ++ [(s32, e)]) = otR 3 x ++ [.row s32.v 1 3 (e.ts.map intR)] := by simp [otR]
    exact ⟨(k + 1, x ++ [(s32, e)]), ⟨by omega, mid_snoc hx hk2 he⟩, by simp only [htl]; exact ent_trans (ent_perm (perm_swap [_] _)) (by rw [← hset]; exact (ent_sub (.cons _ _ _ rfl (.cons _ _ _ rfl (.cons _ _ _ rfl (.cons _ _ _ rfl (.nil))))))), by simp only; omega⟩
  · obtain rfl : k = h.ords.length := by
      have q := of_decide_eq_false hc21
      rw [List.length_map] at q
      omega
    rw [List.take_length] at hx
    rw [List.drop_length, List.map_nil, List.append_nil]
    refine rn ?_
    exact retq (.cons _ _ _ _ (.agg _ _ _ _ _ _ _ rfl inferInstance inferInstance inferInstance rfl) .nil) (.drop [_, _] _ _) ⟨s11, s15, x, hx, rfl, rfl⟩
theorem own18 (h : Hist) (la : Big h) : ACall Tryz.prog 36 [.agg (histC h)] [] (fun r h' => h' = [] ∧ r = .agg (histC (ownX h))) :=
  (own18R h la).ventR (by
    rintro _ _ ⟨sE, sO, O, hO, rfl, rfl⟩
    exact ⟨_, _, own_freeze [] sE.v sO.v (ownX h) O 56 101 3 _ hO (by simp [ownX]) (by simp) (fun r hr => by simp [hr]), rfl, rfl⟩)
def evRz (e : Ev) : List AV := [iv e.kind, iv e.t, iv e.s, iv e.l, iv e.o, iv e.v.t, iv e.v.k, iv e.p, .v (.slice none 0 0)]
theorem one_evz (l : List Ev) : ∀ r ∈ l.map evRz, r.all AV.one = true := by
  intro r hr; obtain ⟨a, _, rfl⟩ := List.mem_map.1 hr; rfl
set_option maxHeartbeats 4000000 in
theorem small18R  : ACall Tryz.prog 86 [] [] (fun r h' => ∃ s : SV, h' = [.row s.v 9 56 ((smE 3).map evRz)] ∧ r = .agg [.list true 1 [[sv (wT 48)], [sv (wT 49)], [sv (wT 50)]], .list true 1 [[sv bsmall]], .list true 1 [[sv bxx], [sv byy]], .v (.slice none 0 0), .v s.v, .list true 2 [[iv 0, .list true 1 [[iv 1], [iv 0], [iv 2]]], [iv 1, .list true 1 [[iv 2], [iv 0]]]], .v (.slice none 0 0), .v (.slice none 0 0)]) := by
  refine acall_of_aw Tryz.func86 rfl rfl rfl ?_
  refine rn ?_
  refine aops_e rfl (oe_alloc rfl fun b0 => ?_)
  refine rn ?_
  refine qv rfl rfl (qv_buildSlice rfl rfl) ?_
  refine qv rfl rfl (qv_buildSlice rfl rfl) ?_
  refine qv rfl rfl (qv_buildSlice rfl rfl) ?_
  refine rn ?_
  refine aops_e rfl (oe_alloc rfl fun b1 => ?_)
  refine rn ?_
  refine aw_rng1 3 (fun k s => ⟨[(7, iv k), (0, .v (.pointer (some ⟨b0, 0, none⟩))), (1, .v (.pointer (some ⟨b1, 0, none⟩)))], .row s.v 9 56 ((smE k).map evRz) :: .box b1 28 [.list true 1 [[sv (wT 48)], [sv (wT 49)], [sv (wT 50)]], .list true 1 [[sv bsmall]], .list true 1 [[sv bxx], [sv byy]], .v (.slice none 0 0), .v s.v, .v (.slice none 0 0), .v (.slice none 0 0), .v (.slice none 0 0)] :: .box b0 28 histZ :: [], []⟩) ⟨none, 0, 0⟩ (ent_trans (ent_nilrow 9 56) es) ?_
  intro k s lk
  refine rn ?_
  refine aw_cond rfl (fun hc8 => ?_) (fun hc8 => ?_)
  · have hk : k < 3 := by have q := of_decide_eq_true hc8; omega
    have hb := smE_len k
    refine aw_skip ?_
    refine thn_n ?_
    refine aw_seq ?_
    refine aw_block ?_
    refine aw_seq (aw_region ?_)
    refine q1 ?_
    refine q1 ?_
    refine aops_nil (thn_n ?_)
    refine aw_seq (aw_region ?_)
    refine q1 ?_
    refine q1 ?_
    refine q1 ?_
    refine qq rfl rfl (qr_build (out := evRz (evBg k)) rfl (by rfl)) ?_
    refine q1 ?_
    refine q1 ?_
    refine qq rfl rfl (qr_build (out := [iv k, iv 1]) rfl (by rfl)) ?_
    refine qq rfl rfl (qr_build (out := evRz (evWr k 0)) rfl (by rfl)) ?_
    refine qv rfl rfl (qv_buildSlice rfl rfl) ?_
    refine aops_e rfl (oe_append_row rfl rfl (by simp only [List.length_map, List.length_append, List.length_cons, List.length_nil]; omega) rfl (fun s19 => ?_) (one_evz [evBg k, evWr k 0]))
    refine aops_slice s19 fun sw hsw => ?_
    subst hsw
    refine rn ?_
    refine aw_cond rfl (fun hc22 => ?_) (fun hc22 => ?_)
    · have hk1 : k ≠ 1 := by have q := hc22; simp at q; omega
      refine aw_region ?_
      refine q1 ?_
      refine q1 ?_
      refine q1 ?_
      refine q1 ?_
      refine qq rfl rfl (qr_build (out := [iv k, iv 1]) rfl (by rfl)) ?_
      refine qq rfl rfl (qr_build (out := evRz (evWr k 1)) rfl (by rfl)) ?_
      refine qv rfl rfl (qv_buildSlice rfl rfl) ?_
      refine aops_e rfl (oe_append_row rfl rfl (by simp only [List.length_map, List.length_append, List.length_cons, List.length_nil]; omega) rfl (fun s30 => ?_) (one_evz [evWr k 1]))
      refine aops_slice s30 fun sw hsw => ?_
      subst hsw
      refine q1 ?_
      first | refine aops_e rfl (oe_store_all rfl rfl rfl ?_) | refine aops_e rfl (oe_store rfl rfl rfl rfl (Nat.le_of_ble_eq_true rfl) ?_)
      refine aops_nil (thn_n ?_)
      refine aw_region ?_
      refine q1 ?_
      refine q1 ?_
      refine q1 ?_
      refine qq rfl rfl (qr_build (out := evRz (evCm k)) rfl (by rfl)) ?_
      refine qv rfl rfl (qv_buildSlice rfl rfl) ?_
      refine aops_e rfl (oe_append_row rfl rfl (by simp only [List.length_map, List.length_append, List.length_cons, List.length_nil]; omega) rfl (fun s37 => ?_) (one_evz [evCm k]))
      refine aops_slice s37 fun sw hsw => ?_
      subst hsw
      refine rn ?_
      first | exact ⟨hk, sw, by rw [smE_n hk1, List.map_append, List.map_append, List.map_append]; exact eA⟩ | exact ⟨hk, sw, by rw [smE_1 hk1, List.map_append, List.map_append]; exact eA⟩
    · have hk1 : k = 1 := by have q := hc22; simp at q; omega
      refine aw_skip ?_
      refine thn_n ?_
      refine aw_region ?_
      refine q1 ?_
      refine q1 ?_
      refine q1 ?_
      refine qq rfl rfl (qr_build (out := evRz (evCm k)) rfl (by rfl)) ?_
      refine qv rfl rfl (qv_buildSlice rfl rfl) ?_
      refine aops_e rfl (oe_append_row rfl rfl (by simp only [List.length_map, List.length_append, List.length_cons, List.length_nil]; omega) rfl (fun s37 => ?_) (one_evz [evCm k]))
      refine aops_slice s37 fun sw hsw => ?_
      subst hsw
      refine rn ?_
      first | exact ⟨hk, sw, by rw [smE_n hk1, List.map_append, List.map_append, List.map_append]; exact eA⟩ | exact ⟨hk, sw, by rw [smE_1 hk1, List.map_append, List.map_append]; exact eA⟩
  · have qk : k = 3 := by have q := of_decide_eq_false hc8; omega
    refine rn ?_
    refine qv rfl rfl (qv_buildSlice rfl rfl) ?_
    refine rn ?_
    refine qv rfl rfl (qv_buildSlice rfl rfl) ?_
    refine rn ?_
    refine qv rfl rfl (qv_buildSlice rfl rfl) ?_
    refine rn ?_
    exact retq (.cons _ _ _ _ (.agg _ _ _ _ _ _ _ rfl inferInstance inferInstance inferInstance rfl) .nil) (.trans (.perm ((pt1 _ _ _).trans (.cons _ (pt1 _ _ _))) _) (.drop [_, _] _ _)) ⟨s, by rw [qk], rfl⟩
theorem small18 : ACall Tryz.prog 86 [] [] (fun r h' => h' = [] ∧ r = .agg (histC wwH)) :=
  small18R.ventR (by
    rintro _ _ ⟨s, rfl, rfl⟩
    exact ⟨_, _, .trans (vent_freeze_cell [.list true 1 [[sv (wT 48)], [sv (wT 49)], [sv (wT 50)]], .list true 1 [[sv bsmall]], .list true 1 [[sv bxx], [sv byy]], .v (.slice none 0 0)] [.list true 2 [[iv 0, .list true 1 [[iv 1], [iv 0], [iv 2]]], [iv 1, .list true 1 [[iv 2], [iv 0]]]], .v (.slice none 0 0), .v (.slice none 0 0)]) (.le (Sb.aggs (bs := histC wwH) (by exact ⟨.unfull, .unfull, .unfull, .nil _ _, (.lists (by simp) ⟨⟨.refl _, .refl _, .refl _, .refl _, .refl _, .refl _, .refl _, .refl _, .nil _ _, trivial⟩, ⟨.refl _, .refl _, .refl _, .refl _, .refl _, .refl _, .refl _, .refl _, .nil _ _, trivial⟩, ⟨.refl _, .refl _, .refl _, .refl _, .refl _, .refl _, .refl _, .refl _, .nil _ _, trivial⟩, ⟨.refl _, .refl _, .refl _, .refl _, .refl _, .refl _, .refl _, .refl _, .nil _ _, trivial⟩, ⟨.refl _, .refl _, .refl _, .refl _, .refl _, .refl _, .refl _, .refl _, .nil _ _, trivial⟩, ⟨.refl _, .refl _, .refl _, .refl _, .refl _, .refl _, .refl _, .refl _, .nil _ _, trivial⟩, ⟨.refl _, .refl _, .refl _, .refl _, .refl _, .refl _, .refl _, .refl _, .nil _ _, trivial⟩, ⟨.refl _, .refl _, .refl _, .refl _, .refl _, .refl _, .refl _, .refl _, .nil _ _, trivial⟩, ⟨.refl _, .refl _, .refl _, .refl _, .refl _, .refl _, .refl _, .refl _, .nil _ _, trivial⟩, ⟨.refl _, .refl _, .refl _, .refl _, .refl _, .refl _, .refl _, .refl _, .nil _ _, trivial⟩, ⟨.refl _, .refl _, .refl _, .refl _, .refl _, .refl _, .refl _, .refl _, .nil _ _, trivial⟩, trivial⟩), (.lists (by simp) ⟨⟨.refl _, .unfull, trivial⟩, ⟨.refl _, .unfull, trivial⟩, trivial⟩), .nil _ _, .nil _ _, trivial⟩)).le), rfl, rfl⟩)
theorem limW : Lim 4611686018427387904 wwH := ⟨by decide, by decide, by decide, by decide, by decide, by decide, by decide, by decide, by decide, by decide, by decide⟩
theorem ww20 : chC wwH 2 0 = 0 ∧ chO wwH 2 0 = [1] := by
  obtain ⟨a, b⟩ := chC_0 (h := wwH) (f := 2) (t := 0) ww_check (by decide) (by rw [ww_ch20]; decide)
  exact ⟨a, by rw [b, ww_ch20]⟩
theorem ww21 : chC wwH 2 1 = 4 ∧ chO wwH 2 1 = [] := chC_4 ww_check (by decide) (by rw [ww_ch21]; rfl)
theorem wA1 : ACall Tryz.prog 38 [.agg (histC wwH)] (.glob 0 186 limitsC :: .glob 2 287 firstC :: .glob 3 290 acceptC :: .glob 1 250 asksC :: []) (fun r h' => h' = .glob 0 186 limitsC :: .glob 2 287 firstC :: .glob 3 290 acceptC :: .glob 1 250 asksC :: [] ∧ r = .tup [confsA [⟨0, 2, 0, 1, 8, 0, 0⟩, ⟨1, 0, 0, 5, 1, 0, 0⟩, ⟨2, 0, 0, 9, 2, 1, 0⟩], iv 0]) := (wwAllA wwH limW).mono fun _ _ q => ⟨q.1, by rw [q.2, wwA_y ww_check, ww_allS, ww_check]⟩
theorem wA2 : ACall Tryz.prog 44 [.agg (histC wwH), iv 2, iv 0] (.glob 0 186 limitsC :: .glob 2 287 firstC :: .glob 3 290 acceptC :: .glob 1 250 asksC :: []) (fun r h' => h' = .glob 0 186 limitsC :: .glob 2 287 firstC :: .glob 3 290 acceptC :: .glob 1 250 asksC :: [] ∧ r = .tup [intsA [1], iv 0]) := (wwChainA wwH limW 2 0).mono fun _ _ q => ⟨q.1, by rw [q.2, ww20.1, ww20.2]⟩
theorem wA3 : ACall Tryz.prog 44 [.agg (histC wwH), iv 2, iv 1] (.glob 0 186 limitsC :: .glob 2 287 firstC :: .glob 3 290 acceptC :: .glob 1 250 asksC :: []) (fun r h' => h' = .glob 0 186 limitsC :: .glob 2 287 firstC :: .glob 3 290 acceptC :: .glob 1 250 asksC :: [] ∧ r = .tup [intsA [], iv 4]) := (wwChainA wwH limW 2 1).mono fun _ _ q => ⟨q.1, by rw [q.2, ww21.1, ww21.2]⟩
theorem equalLit18 {g : Bool} : ACall Tryz.prog 22 [intsA [1], .list g 1 [[iv 1]]] [] (fun r h' => h' = [] ∧ r = bv true) := (equalInt [1] [1] (by decide) (by decide)).mono fun _ _ q => ⟨q.1, by rw [q.2, eqF_eq intEq_eq]; simp⟩
set_option maxHeartbeats 4000000 in
theorem wakes18  : ACall Tryz.prog 33 [] (.glob 0 186 limitsC :: .glob 2 287 firstC :: .glob 3 290 acceptC :: .glob 1 250 asksC :: []) (fun r h' => h' = .glob 0 186 limitsC :: .glob 2 287 firstC :: .glob 3 290 acceptC :: .glob 1 250 asksC :: [] ∧ r = bv true) := by
  refine acall_of_aw Tryz.func33 rfl rfl rfl ?_
  refine rn ?_
  refine qv rfl rfl (qv_call rfl rfl (FCall.pure (R := fun r => r = .agg (histC wwH)) (FCall.of_fun small18))) ?_
  refine qv rfl rfl (qv_call rfl rfl (FCall.of_fun wA1)) ?_
  refine rn ?_
  refine qv rfl rfl (qv_call rfl rfl (FCall.pure (R := fun r => r = .agg (histC wwH)) (FCall.of_fun small18))) ?_
  refine qv rfl rfl (qv_call rfl rfl (FCall.of_fun wA2)) ?_
  refine rn ?_
  refine qv rfl rfl (qv_call rfl rfl (FCall.pure (R := fun r => r = .agg (histC wwH)) (FCall.of_fun small18))) ?_
  refine qv rfl rfl (qv_call rfl rfl (FCall.of_fun wA3)) ?_
  refine rn ?_
  refine qv rfl rfl (qv_buildSlice rfl rfl) ?_
  refine qv rfl rfl (qv_call rfl rfl (FCall.pure (R := fun r => r = bv true) (FCall.of_fun (equalLit18)))) ?_
  refine q1 ?_
  refine q1 ?_
  refine q1 ?_
  refine q1 ?_
  refine q1 ?_
  refine q1 ?_
  refine q1 ?_
  refine q1 ?_
  refine qq rfl rfl (qr_index_int rfl rfl (by decide) rfl) ?_
  refine q1 ?_
  refine q1 ?_
  refine q1 ?_
  refine q1 ?_
  refine q1 ?_
  refine q1 ?_
  refine qq rfl rfl (qr_index_int rfl rfl (by decide) rfl) ?_
  refine q1 ?_
  refine q1 ?_
  refine q1 ?_
  refine q1 ?_
  refine q1 ?_
  refine q1 ?_
  refine qq rfl rfl (qr_index_int rfl rfl (by decide) rfl) ?_
  refine rn ?_
  refine rq 0 ?_
  exact ⟨rfl, rfl⟩
end Go.Proofs
/- The walks of cmp.Less, slices.IsSorted, IsSortedFunc. Conditions: none. -/
set_option linter.unusedVariables false
set_option linter.unusedSimpArgs false
set_option maxRecDepth 10000
namespace Go.Proofs
open Go Go.Ab
attribute [local irreducible] QR QV OE aops aw dsoup dsoupM dalloc dallocM thn inBlk jsoup jch lsoup
open Go.H
theorem pw_at {α : Type} {R : α → α → Prop} {l : List α} (h : l.Pairwise R) {k : Nat} (hk : k + 1 < l.length) : R (l[k]'(by omega)) l[k + 1] := (List.pairwise_iff_getElem.1 h) k (k + 1) (by omega) hk (by omega)
set_option maxHeartbeats 4000000 in
theorem isSortedConf {f : Bool} (l : List Conf) (fv : AV) (cmp : Conf → Conf → Int) (hp : ∀ x y, FCall Tryz.prog fv [.agg (confR x), .agg (confR y)] [] (fun r h' => h' = [] ∧ r = iv (cmp x y))) (hl : l.length ≤ 4611686018427387904) (hs : l.Pairwise (fun a b => cmp b a ≥ 0)) : ACall Tryz.prog 54 [.list f 7 (l.map confR), fv] [] (fun r h' => h' = [] ∧ r = bv true) := by
  refine acall_of_aw Tryz.func54 rfl rfl rfl ?_
  refine aw_seq (aw_region ?_)
  refine q1 ?_
  refine aops_nil (thn_n ?_)
  refine aw_seq ?_
  refine aw_seq (aw_region ?_)
  refine q1 ?_
  refine q1 ?_
  refine qq rfl rfl (qr_ari rfl rfl rfl (by rw [List.length_map]; omega)) ?_
  refine rn ?_
  refine aw_while (fun k : Nat => k ≤ l.length) (fun k => ⟨[(5, iv ((k : Int) - 1)), (0, .list f 7 (l.map confR)), (1, fv)], [], []⟩) (fun k => k) l.length (Nat.le_refl _) (by rw [List.length_map]; exact es) ?_
  rintro k lk
  refine rn ?_
  refine aw_cond rfl (fun hc10 => ?_) (fun hc10 => ?_)
  · have h2 : 2 ≤ k := by have q := of_decide_eq_true hc10; omega
    obtain ⟨j, rfl⟩ : ∃ j, k = j + 2 := ⟨k - 2, by omega⟩
    have hj : j + 1 < l.length := by omega
    have r1 : (l.map confR)[((((j + 2 : Nat) : Int) - 1)).toNat]? = some (confR l[j + 1]) := by rw [show ((((j + 2 : Nat) : Int) - 1)).toNat = j + 1 by omega]; exact atRow hj
    have r0 : (l.map confR)[((((j + 2 : Nat) : Int) - 1 - 1)).toNat]? = some (confR (l[j]'(by omega))) := by rw [show ((((j + 2 : Nat) : Int) - 1 - 1)).toNat = j by omega]; exact atRow (by omega)
    have hle := pw_at hs hj
    refine rn ?_
    refine aw_draw 10 rfl ?_
    refine dq rfl rfl qrA ?_
    refine dq rfl rfl qrA ?_
    refine dq rfl rfl qrA ?_
    refine dq rfl rfl (qr_index_int rfl rfl (by omega) r1) ?_
    refine dq rfl rfl qrA ?_
    refine dq rfl rfl qrA ?_
    refine dq rfl rfl qrA ?_
    refine dq rfl rfl (qr_ari rfl rfl rfl (by omega)) ?_
    refine dq rfl rfl (qr_index_int rfl rfl (by omega) r0) ?_
    refine rn ?_
    refine qv rfl rfl (qv_call rfl rfl (hp l[j + 1] (l[j]'(by omega)))) ?_
    refine rn ?_
    refine aw_cond rfl (fun hc24 => ?_) (fun hc24 => ?_)
    · exfalso
      have q := of_decide_eq_true hc24
      omega
    · refine aw_skip ?_
      refine inBlk_n ?_
      refine thn_n ?_
      refine aw_region ?_
      refine q1 ?_
      refine qq rfl rfl (qr_ari rfl rfl rfl (by omega)) ?_
      refine rn ?_
      exact ⟨j + 1, by omega, by rw [show (((j + 2 : Nat) : Int) - 1 - 1) = ((j + 1 : Nat) : Int) - 1 by omega]; exact eA, by omega⟩
  · refine rn ?_
    refine rq 0 ?_
    exact ⟨rfl, rfl⟩
end Go.Proofs
/- The walk of WwParts. Conditions: none. -/
set_option linter.unusedVariables false
set_option linter.unusedSimpArgs false
set_option maxRecDepth 10000
namespace Go.Proofs
open Go Go.Ab
attribute [local irreducible] QR QV OE aops aw dsoup dsoupM dalloc dallocM thn inBlk jsoup jch lsoup
open Go.H
theorem wwJustT (h : Hist) (la : Lim 4611686018427387904 h) (c : Conf) (hm : c ∈ wwO h c.o) : ACall Tryz.prog 47 [.agg (histC h), .agg (confR c)] (.glob 0 186 limitsC :: .glob 2 287 firstC :: .glob 3 290 acceptC :: .glob 1 250 asksC :: []) (fun r h' => h' = .glob 0 186 limitsC :: .glob 2 287 firstC :: .glob 3 290 acceptC :: .glob 1 250 asksC :: [] ∧ r = bv true) := (wwJust h la c).mono fun _ _ q => ⟨q.1, by rw [q.2, decide_eq_true hm]⟩
theorem wwP_at {h : Hist} {x : Int} {k : Nat} (hk : k < (wwP h x).length) : (wwP h x)[k] = wwN h x (insP h x) k := by simp [wwP, wwL]
theorem mem_rows {h : Hist} {c : Conf} {j : Nat} (hj : j < h.os.length) (hc : c ∈ wwP h j) : c ∈ (wwRows h).flatten := by
  have ho := (wwL_o hc).1
  rw [wwRows_mem, ho]; exact ⟨by omega, by omega, hc⟩
theorem mem_of_all {h : Hist} (hc : checkI h = 0) {c : Conf} (hm : c ∈ wwAll h) : c ∈ wwO h c.o := by
  obtain ⟨a, b, q⟩ := wwRows_mem.1 (all_sub hm)
  rw [wwO_y (ask_y hc ⟨a, b⟩)]; exact q
def metN (h : Hist) (j : Nat) (l : List Conf) : List ((Int × Int) × Bool) := metK (((upR j).map (wwP h)).flatten ++ l)
theorem metK_app (a b : List Conf) : metK (a ++ b) = setT (fun _ : Conf => true) keyC (metK a) b := by rw [metK, metK, setT, setT, setT, List.foldl_append]
theorem metN_s (h : Hist) {j k : Nat} {l : List Conf} (hk : k < l.length) : metN h j (l.take (k + 1)) = putT (l[k].f, l[k].t) true (metN h j (l.take k)) := by
  rw [metN, metN, List.take_succ_eq_append_getElem hk, ← List.append_assoc, metK_app]; rfl
theorem metN_0 (h : Hist) (j : Nat) (l : List Conf) : metN h j (l.take 0) = metN h j [] := by rw [List.take_zero]
theorem metN_j (h : Hist) (j : Nat) : metN h j (wwP h j) = metN h (j + 1) [] := by
  rw [metN, metN, upR_s, List.map_append, List.flatten_append]; simp
theorem metN_all (h : Hist) : (metN h h.os.length []).length = (wwAll h).length := by rw [metN, List.append_nil, ← metK_len]; rfl
theorem wwAll_le {h : Hist} (hc : checkI h = 0) : (wwAll h).length ≤ 9000000 := by
  rw [wwAll]
  refine Nat.le_trans (compF_sub _ _).length_le ?_
  rw [(sortL_perm cmpC _).length_eq]; exact rows_flat hc
theorem all_back (h : Hist) : (wwAll h).Pairwise (fun a b => cmpC b a ≥ 0) := (all_srt h).imp fun {a b} q => by
  have h1 := cmpC_ok.anti a b
  have h2 : cmpC a b ≤ 0 := q
  omega
theorem wwParts1 (a c : Conf) (b : Nat) (G : List Res) : ACall Tryz.prog 53 [.agg (confR a), .v (.pointer (some ⟨b, 0, none⟩))] (.box b 70 (confR c) :: G) (fun r h' => h' = .box b 70 (confR c) :: G ∧ r = bv (a.f == c.f && a.t == c.t)) := by
  refine acall_of_aw Tryz.func53 rfl rfl rfl ?_
  refine rn ?_
  refine aops_e rfl (oe_box rfl rfl rfl fun b2 => ?_)
  refine rn ?_
  refine asplit (fun hg1_5 => ?_) (fun hg1_5 => ?_)
  · refine rn ?_
    refine rq 1 ?_
    exact ⟨rfl, congrArg bv (by first | rfl | (simp_all; done))⟩
  · refine rn ?_
    refine rq 1 ?_
    exact ⟨rfl, congrArg bv (by first | rfl | (simp_all; done))⟩
theorem indexFuncConf {full : Bool} (l : List Conf) (fv : AV) (p : Conf → Bool) (G : List Res) (hp : ∀ a ∈ l, FCall Tryz.prog fv [.agg (confR a)] G (fun r h' => h' = G ∧ r = bv (p a))) (hlen : l.length ≤ 4611686018427387904) : ACall Tryz.prog 52 [.list full 7 (l.map confR), fv] G (fun r h' => h' = G ∧ r = iv (fidx p 0 l)) := by
  refine acall_of_aw Tryz.func52 rfl rfl rfl ?_
  refine rn ?_
  refine aw_loop' (fun k : Nat => k ≤ l.length ∧ fidx p 0 l = fidx p k (l.drop k)) (fun k => ⟨[(8, iv k), (7, iv (l.map confR).length), (0, .list full 7 (l.map confR)), (1, fv)], G, []⟩) (fun k => l.length - k) 0 ⟨Nat.zero_le _, by simp⟩
    (ent_sub (.cons _ _ _ rfl (.cons _ _ _ rfl (.cons _ _ _ rfl (.cons _ _ _ rfl (.nil)))))) ?_
  rintro k ⟨hk, hnot⟩
  refine rn ?_
  refine aw_cond rfl (fun hc9 => ?_) (fun hc9 => ?_)
  · have hk2 : k < l.length := by simpa using hc9
    have hrow : (l.map confR)[k]? = some (confR l[k]) := by simp [hk2]
    have hd := List.drop_eq_getElem_cons hk2
    refine rn ?_
    refine qv rfl rfl (qv_call rfl rfl (hp l[k] (by simp))) ?_
    refine rn ?_
    refine aw_cond rfl (fun hc16 => ?_) (fun hc16 => ?_)
    · refine rn ?_
      exact retq (.cons _ _ _ _ (.tmp _ _ rfl) .nil) (.refl _ _) ⟨rfl, by rw [hnot, hd, fidx, if_pos hc16]; rfl⟩
    · refine rn ?_
      exact ⟨k + 1, ⟨by omega, by rw [hnot, hd, fidx, if_neg (by simp [hc16])]⟩, (ent_sub (.cons _ _ _ rfl (.cons _ _ _ rfl (.cons _ _ _ rfl (.cons _ _ _ rfl (.nil)))))), by omega⟩
  · have hk3 : k = l.length := by
      have : l.length ≤ k := by simpa using hc9
      omega
    refine rn ?_
    exact retq (.cons _ _ _ _ (.tmp _ _ rfl) .nil) (.refl _ _) ⟨rfl, by rw [hnot, hk3, List.drop_length, fidx]; rfl⟩
set_option maxHeartbeats 4000000 in
theorem wwPartsL (x : Hist)  (lb : Big x)  : ACall Tryz.prog 12 [.agg (histC x)] (.glob 0 186 limitsC :: .glob 2 287 firstC :: .glob 3 290 acceptC :: .glob 1 250 asksC :: []) (fun r h' => h' = .glob 0 186 limitsC :: .glob 2 287 firstC :: .glob 3 290 acceptC :: .glob 1 250 asksC :: [] ∧ r = bv true) := by
  refine acall_of_aw Tryz.func12 rfl rfl rfl ?_
  refine rn ?_
  refine aops_e rfl (oe_box rfl rfl rfl fun b1 => ?_)
  refine rn ?_
  refine qv rfl rfl (qv_call rfl rfl (FCall.qt (FCall.of_fun wakes18) ((pt1 _ _ _).trans (.cons _ ((pt1 _ _ _).trans (.cons _ ((pt1 _ _ _).trans (.cons _ (pt1 _ _ _))))))))) ?_
  refine rn ?_
  refine aw_cond rfl (fun hc22 => ?_) (fun hc22 => ?_)
  · exact absurd hc22 (by decide)
  · refine rn ?_
    refine qv rfl rfl (qv_call rfl rfl (pcall (own18 x lb) (Sbs.refl _))) ?_
    refine aops_e rfl (oe_alloc rfl fun b3 => ?_)
    refine rn ?_
    refine qv rfl rfl (qv_call rfl rfl (FCall.qt (FCall.of_fun (wwAllA (ownX x) (ownX_lim lb.lim))) ((pt2 _ _ _ _).trans (.cons _ ((pt2 _ _ _ _).trans (.cons _ ((pt2 _ _ _ _).trans (.cons _ (pt2 _ _ _ _))))))))) ?_
    refine rn ?_
    refine aw_cond rfl (fun hc31 => ?_) (fun hc31 => ?_)
    · have hc := nzT hc31
      rw [wwA_n hc]
      refine rn ?_
      refine qv rfl rfl (qv_call rfl rfl (FCall.qt (FCall.of_fun (ixCheck (ownX x) (ownX_lim lb.lim))) ((pt2 _ _ _ _).trans (.cons _ ((pt2 _ _ _ _).trans (.cons _ ((pt2 _ _ _ _).trans (.cons _ (pt2 _ _ _ _))))))))) ?_
      refine rn ?_
      first | (refine rq 3 ?_; exact ⟨rfl, rfl⟩) | (refine rq 2 ?_; exact ⟨rfl, congrArg bv (beq_self_eq_true _)⟩)
    · have hc := nzF hc31
      rw [wwA_y hc, hc]
      have hs := checkI_0.1 hc
      have lO := (chk_lim hc).os
      have hA := wwAll_le hc
      refine rn ?_
      refine aops_e rfl (oe_makeMap (enc := int2K) rfl fun b41 => ?_)
      refine rn ?_
      refine aw_range (ownX x).os.length (fun _ => True) (fun j => ⟨[(45, iv j), (3, .v (.pointer (some ⟨b3, 0, none⟩))), (4, confsA (wwAll (ownX x))), (6, mpv b41), (44, iv ((ownX x).os.map strR).length)], .map b41 (encM int2K (mapA bv (metN (ownX x) j []))) :: .box b3 28 (histC (ownX x)) :: .box b1 28 (histC x) :: .glob 0 186 limitsC :: .glob 2 287 firstC :: .glob 3 290 acceptC :: .glob 1 250 asksC :: [], []⟩) trivial es ?_
      intro j lj _
      refine rn ?_
      refine aw_cond rfl (fun hc46 => ?_) (fun hc46 => ?_)
      · have hj : j < (ownX x).os.length := by have q := of_decide_eq_true hc46; rw [List.length_map] at q; omega
        have h0 : (0 : Int) ≤ j := by omega
        have h1 : (j : Int) < (ownX x).os.length := by omega
        have he := ask_y hc ⟨h0, h1⟩
        have hle := ins_le hc h0 h1
        have hWl : (wwP (ownX x) j).length = (insP (ownX x) j).length - 1 := wwL_len _ _ _
        refine rn ?_
        refine qv rfl rfl (qv_call rfl rfl (FCall.qt (FCall.of_fun (wwOfA (ownX x) (ownX_lim lb.lim) j)) ((pt3 _ _ _ _ _).trans (.cons _ ((pt3 _ _ _ _ _).trans (.cons _ ((pt3 _ _ _ _ _).trans (.cons _ (pt3 _ _ _ _ _))))))))) ?_
        rw [wwO_y he, he]
        refine rn ?_
        refine qv rfl rfl (qv_call rfl rfl (FCall.qt (FCall.of_fun (ixInsW (ownX x) (ownX_lim lb.lim) hc j h0 h1)) ((pt3 _ _ _ _ _).trans (.cons _ ((pt3 _ _ _ _ _).trans (.cons _ ((pt3 _ _ _ _ _).trans (.cons _ (pt3 _ _ _ _ _))))))))) ?_
        refine q1 ?_
        refine q1 ?_
        refine q1 ?_
        refine q1 ?_
        refine q1 ?_
        refine aops_nil (thn_n ?_)
        refine aw_seq ?_
        refine aw_seq (aw_region ?_)
        refine q1 ?_
        refine qq rfl rfl (qr_cmp (c := false) rfl rfl (congrArg some (rfl))) ?_
        refine q1 ?_
        refine q1 ?_
        refine qq rfl rfl (qr_cmp (c := false) rfl rfl (congrArg some (rfl))) ?_
        refine q1 ?_
        refine q1 ?_
        refine q1 ?_
        refine q1 ?_
        refine q1 ?_
        refine q1 ?_
        refine qq rfl rfl (qr_ari rfl rfl rfl (by rw [List.length_map]; omega)) ?_
        refine qq rfl rfl (qr_as (qr_max2 rfl rfl) (show AV.v (.int .i64 (max ((((insP (ownX x) j).map intR).length : Nat) - 1 : Int) 0)) = iv (((insP (ownX x) j).length - 1 : Nat)) from congrArg iv (by rw [List.length_map, max_pred]))) ?_
        refine qq rfl rfl (qr_cmp (c := false) rfl rfl (congrArg some (by rw [List.length_map, hWl]; exact bne_self_eq_false _))) ?_
        refine rn ?_
        refine aw_cond rfl (fun hc74 => ?_) (fun hc74 => ?_)
        · first | cases hc74 | exact absurd hc74 (by decide) | (exfalso; simp_all; done)
        · refine rn ?_
          refine aw_rng ((wwP (ownX x) j).length) (fun k : Nat => True) (fun k => [(77, iv k)]) [(3, _), (4, _), (6, _), (7, _), (8, _), (10, _), (44, _), (45, _), (75, _), (76, _)] trivial ?_
          intro k lk _
          refine rn ?_
          refine aw_cond rfl (fun hc78 => ?_) (fun hc78 => ?_)
          · have hk := ltMap hc78
            have rk := atRow (f := confR) hk
            have hk1 : k + 1 < (insP (ownX x) j).length := by omega
            obtain ⟨i1, i2, hi1, hi2, ew, w1, w2, hne⟩ := part_at hs h0 h1 hk1
            have hW : (wwP (ownX x) j)[k] = ⟨(insP (ownX x) j)[k], (insP (ownX x) j)[k + 1], 0, i1, i2, j, 0⟩ := by rw [wwP_at]; exact ew
            have hmem : (⟨(insP (ownX x) j)[k], (insP (ownX x) j)[k + 1], 0, i1, i2, j, 0⟩ : Conf) ∈ (wwP (ownX x) j) := by rw [← hW]; exact List.getElem_mem hk
            have hmo : (⟨(insP (ownX x) j)[k], (insP (ownX x) j)[k + 1], 0, i1, i2, j, 0⟩ : Conf) ∈ wwO (ownX x) j := by rw [wwO_y he]; exact hmem
            have rl : ((insP (ownX x) j).map intR)[k]? = some (intR ((insP (ownX x) j)[k]'(by omega))) := atRow (by omega)
            have rl1 : ((insP (ownX x) j).map intR)[k + 1]? = some (intR (insP (ownX x) j)[k + 1]) := atRow hk1
            have re1 : ((ownX x).evs.map evR)[i1]? = some (evR (ownX x).evs[i1]) := atRow hi1
            have re2 : ((ownX x).evs.map evR)[i2]? = some (evR (ownX x).evs[i2]) := atRow hi2
            have hkl : k < ((insP (ownX x) j).map intR).length := by rw [List.length_map]; omega
            have hkl1 : k + 1 < ((insP (ownX x) j).map intR).length := by rw [List.length_map]; omega
            simp only [wroteQ, Bool.and_eq_true, beq_iff_eq] at w1 w2
            rw [hW] at rk
            refine rn ?_
            refine aops_e rfl (oe_alloc rfl fun b13 => ?_)
            refine rn ?_
            refine aw_draw 43 rfl ?_
            refine dq rfl rfl qrA ?_
            refine dq rfl rfl qrA ?_
            refine dq rfl rfl qrA ?_
            refine dq rfl rfl qrA ?_
            refine dq rfl rfl (qr_index_list rfl rfl rl) ?_
            refine dq rfl rfl qrA ?_
            refine dq rfl rfl (qr_cmp (c := false) rfl rfl (congrArg some (bne_self_eq_false _))) ?_
            refine dq rfl rfl qrA ?_
            refine dq rfl rfl qrA ?_
            refine dq rfl rfl qrA ?_
            refine dq rfl rfl qrA ?_
            refine dq rfl rfl qrA ?_
            refine dq rfl rfl (qr_ari rfl rfl rfl (by omega)) ?_
            refine dq rfl rfl (qr_index_list rfl rfl rl1) ?_
            refine dq rfl rfl qrA ?_
            refine dq rfl rfl (qr_cmp (c := false) rfl rfl (congrArg some (bne_self_eq_false _))) ?_
            refine dq rfl rfl qrA ?_
            refine dq rfl rfl qrA ?_
            refine dq rfl rfl qrA ?_
            refine dq rfl rfl qrA ?_
            refine dq rfl rfl qrA ?_
            refine dq rfl rfl qrA ?_
            refine dq rfl rfl (qr_cmp (c := false) rfl rfl (congrArg some (beq_eq_false_iff_ne.2 hne))) ?_
            refine dq rfl rfl qrA ?_
            refine dq rfl rfl qrA ?_
            refine dq rfl rfl qrA ?_
            refine dq rfl rfl qrA ?_
            refine dq rfl rfl (qr_cmp (c := false) rfl rfl (congrArg some (rfl))) ?_
            refine dq rfl rfl qrA ?_
            refine dq rfl rfl qrA ?_
            refine dq rfl rfl qrA ?_
            refine dq rfl rfl qrA ?_
            refine dq rfl rfl qrA ?_
            refine dq rfl rfl (qr_cmp (c := false) rfl rfl (congrArg some (bne_self_eq_false _))) ?_
            refine dq rfl rfl qrA ?_
            refine dq rfl rfl qrA ?_
            refine dq rfl rfl qrA ?_
            refine dq rfl rfl qrA ?_
            refine dq rfl rfl (qr_cmp (c := false) rfl rfl (congrArg some (rfl))) ?_
            refine rn ?_
            refine qv rfl rfl (qv_call rfl rfl (FCall.qt (FCall.of_fun (wwJustT (ownX x) (ownX_lim lb.lim) ⟨(insP (ownX x) j)[k], (insP (ownX x) j)[k + 1], 0, i1, i2, j, 0⟩ hmo)) ((pt4 _ _ _ _ _ _).trans (.cons _ ((pt4 _ _ _ _ _ _).trans (.cons _ ((pt4 _ _ _ _ _ _).trans (.cons _ (pt4 _ _ _ _ _ _))))))))) ?_
            refine rn ?_
            refine aw_cond rfl (fun hc127 => ?_) (fun hc127 => ?_)
            · exact absurd hc127 (by decide)
            · refine aw_skip ?_
              refine rn0 ?_
              refine aw_seq ?_
              refine aw_drawAA 15 12 13 14 14 15 56 (evR (ownX x).evs[i1]) rfl rfl rfl rfl rfl rfl rfl rfl rfl rfl rfl rfl rfl rfl rfl ?_
              refine jq rfl (fun he hC => by rcases hC with rfl | ⟨b, c, rfl⟩ | ⟨b, c, b', c', rfl⟩ <;> exact qrA) ?_
              refine jq rfl (fun he hC => by rcases hC with rfl | ⟨b, c, rfl⟩ | ⟨b, c, b', c', rfl⟩ <;> exact qrA) ?_
              refine jq rfl (fun he hC => by rcases hC with rfl | ⟨b, c, rfl⟩ | ⟨b, c, b', c', rfl⟩ <;> exact qrA) ?_
              refine jq rfl (fun he hC => by rcases hC with rfl | ⟨b, c, rfl⟩ | ⟨b, c, b', c', rfl⟩ <;> exact qrA) ?_
              refine jq rfl (fun he hC => by rcases hC with rfl | ⟨b, c, rfl⟩ | ⟨b, c, b', c', rfl⟩ <;> exact (by exact qr_index_list rfl rfl re1)) ?_
              refine jq rfl (fun he hC => by rcases hC with rfl | ⟨b, c, rfl⟩ | ⟨b, c, b', c', rfl⟩ <;> exact qrA) ?_
              refine jq rfl (fun he hC => by rcases hC with rfl | ⟨b, c, rfl⟩ | ⟨b, c, b', c', rfl⟩ <;> exact qrA) ?_
              refine jq rfl (fun he hC => by rcases hC with rfl | ⟨b, c, rfl⟩ | ⟨b, c, b', c', rfl⟩ <;> exact qrA) ?_
              refine jq rfl (fun he hC => by rcases hC with rfl | ⟨b, c, rfl⟩ | ⟨b, c, b', c', rfl⟩ <;> exact qrA) ?_
              refine jq rfl (fun he hC => by rcases hC with rfl | ⟨b, c, rfl⟩ | ⟨b, c, b', c', rfl⟩ <;> exact qrA) ?_
              refine jq rfl (fun he hC => by rcases hC with rfl | ⟨b, c, rfl⟩ | ⟨b, c, b', c', rfl⟩ <;> exact (by exact qr_index_list rfl rfl re2)) ?_
              refine jq rfl (fun he hC => by rcases hC with rfl | ⟨b, c, rfl⟩ | ⟨b, c, b', c', rfl⟩ <;> exact qrA) ?_
              refine je rfl ?_
              refine je rfl ?_
              refine je rfl ?_
              refine jnil ⟨?_, fun b14 b15 => ?_⟩
              · rintro ee u (⟨b, rfl⟩ | ⟨b, c, rfl⟩ | ⟨b, c, rfl⟩) <;> exact ⟨rfl, rfl⟩
              first | refine aops_e rfl (oe_store_all rfl rfl rfl ?_) | refine aops_e rfl (oe_store rfl rfl rfl rfl (Nat.le_of_ble_eq_true rfl) ?_)
              refine aops_nil (thn_n ?_)
              refine aw_seq (aw_region ?_)
              refine q1 ?_
              refine q1 ?_
              refine qq rfl rfl (qr_cmp (c := false) rfl rfl (congrArg some (by rw [w1.1.1]; rfl))) ?_
              refine q1 ?_
              refine q1 ?_
              refine q1 ?_
              refine qq rfl rfl (qr_cmp (c := false) rfl rfl (congrArg some (by rw [w2.1.1]; rfl))) ?_
              refine q1 ?_
              refine q1 ?_
              refine q1 ?_
              refine q1 ?_
              refine q1 ?_
              refine q1 ?_
              refine qq rfl rfl (qr_cmp (c := false) rfl rfl (congrArg some (by rw [w1.1.2]; exact bne_self_eq_false _))) ?_
              refine q1 ?_
              refine q1 ?_
              refine q1 ?_
              refine q1 ?_
              refine q1 ?_
              refine q1 ?_
              refine qq rfl rfl (qr_cmp (c := false) rfl rfl (congrArg some (by rw [w2.1.2]; exact bne_self_eq_false _))) ?_
              refine q1 ?_
              refine q1 ?_
              refine q1 ?_
              refine q1 ?_
              refine q1 ?_
              refine qq rfl rfl (qr_cmp (c := false) rfl rfl (congrArg some (by rw [w1.2]; exact bne_self_eq_false _))) ?_
              refine q1 ?_
              refine q1 ?_
              refine q1 ?_
              refine q1 ?_
              refine q1 ?_
              refine qq rfl rfl (qr_cmp (c := false) rfl rfl (congrArg some (by rw [w2.2]; exact bne_self_eq_false _))) ?_
              refine rn ?_
              refine aw_cond rfl (fun hc173 => ?_) (fun hc173 => ?_)
              · first | cases hc173 | exact absurd hc173 (by decide) | (exfalso; simp_all; done)
              · refine rn ?_
                exact ⟨hk, trivial, eA⟩
          · have qk := geMap hc78 lk
            refine rn ?_
            refine aw_range (wwP (ownX x) j).length (fun _ => True) (fun k => ⟨[(177, iv k), (3, .v (.pointer (some ⟨b3, 0, none⟩))), (4, confsA (wwAll (ownX x))), (6, mpv b41), (44, iv ((ownX x).os.map strR).length), (45, iv j), (175, confsA (wwP (ownX x) j)), (176, iv ((wwP (ownX x) j).map confR).length)], .map b41 (encM int2K (mapA bv (metN (ownX x) j ((wwP (ownX x) j).take k)))) :: .box b3 28 (histC (ownX x)) :: .box b1 28 (histC x) :: .glob 0 186 limitsC :: .glob 2 287 firstC :: .glob 3 290 acceptC :: .glob 1 250 asksC :: [], []⟩) trivial (by rw [metN_0]; exact es) ?_
            intro k lk _
            refine rn ?_
            refine aw_cond rfl (fun hc178 => ?_) (fun hc178 => ?_)
            · have hk := ltMap hc178
              have rk := atRow (f := confR) hk
              have hmr := mem_rows hj (List.getElem_mem hk)
              obtain ⟨ia, hia, ei, hle2⟩ := all_idx hmr
              have ria : ((wwAll (ownX x)).map confR)[ia]? = some (confR (wwAll (ownX x))[ia]) := atRow hia
              refine rn ?_
              refine aops_e rfl (oe_alloc rfl fun b17 => ?_)
              first | refine aops_e rfl (oe_store_all rfl rfl rfl ?_) | refine aops_e rfl (oe_store rfl rfl rfl rfl (Nat.le_of_ble_eq_true rfl) ?_)
              refine aops_nil (thn_n ?_)
              refine aw_seq (aw_region ?_)
              refine q1 ?_
              refine q1 ?_
              refine q1 ?_
              refine q1 ?_
              refine q1 ?_
              refine qq rfl rfl (qr_buildArr (out := [iv (wwP (ownX x) j)[k].f, iv (wwP (ownX x) j)[k].t]) rfl (by rfl)) ?_
              refine aops_e rfl (oe_mapUpdT (g := bv) (enc := int2K) (k := ((wwP (ownX x) j)[k].f, (wwP (ownX x) j)[k].t)) (v := true) rfl rfl rfl ?_)
              refine rn ?_
              refine qv rfl rfl (qv_call rfl rfl (FCall.qt (FCall.of_fun (indexFuncConf (wwAll (ownX x)) _ (fun z : Conf => z.f == (wwP (ownX x) j)[k].f && z.t == (wwP (ownX x) j)[k].t) [.box b17 70 (confR (wwP (ownX x) j)[k])] (fun z _ => FCall.of_acall (fs := []) (cs := [.v (.pointer (some ⟨b17, 0, none⟩))]) (wwParts1 z (wwP (ownX x) j)[k] b17 [])) (Nat.le_trans hA (by decide)))) (.refl _))) ?_
              rw [ei]
              refine rn ?_
              refine aw_draw 8 rfl ?_
              refine dq rfl rfl qrA ?_
              refine dq rfl rfl (qr_cmp (c := false) rfl rfl (congrArg some (decide_eq_false (by omega)))) ?_
              refine dq rfl rfl qrA ?_
              refine dq rfl rfl qrA ?_
              refine dq rfl rfl qrA ?_
              refine dq rfl rfl (qr_index_list rfl rfl ria) ?_
              refine rn ?_
              refine qv rfl rfl (qv_call rfl rfl (pcall (wwCompare (wwAll (ownX x))[ia] (wwP (ownX x) j)[k]) (Sbs.refl _))) ?_
              refine rn ?_
              refine aw_cond rfl (fun hc200 => ?_) (fun hc200 => ?_)
              · exact absurd hc200 (by rw [decide_eq_false (show ¬ cmpC (wwAll (ownX x))[ia] (wwP (ownX x) j)[k] > 0 by omega)]; decide)
              · refine rn ?_
                exact ⟨hk, trivial, by rw [metN_s _ hk]; exact eA⟩
            · have qk := geMap hc178 lk
              refine rn ?_
              exact ⟨hj, trivial, by rw [← metN_j]; rw [qk, List.take_length]; exact eA⟩
      · have qj : j = (ownX x).os.length := by have q := of_decide_eq_false hc46; rw [List.length_map] at q; omega
        refine rn ?_
        rw [qj]
        refine aw_rng ((wwAll (ownX x)).length) (fun m : Nat => True) (fun m => [(205, iv m)]) [(3, _), (4, _), (6, _), (203, _), (204, _)] trivial ?_
        intro m lm _
        refine rn ?_
        refine aw_cond rfl (fun hc206 => ?_) (fun hc206 => ?_)
        · have hm := ltMap hc206
          have rm := atRow (f := confR) hm
          refine rn ?_
          refine aops_e rfl (oe_alloc rfl fun b20 => ?_)
          refine rn ?_
          refine qv rfl rfl (qv_call rfl rfl (FCall.qt (FCall.of_fun (wwJustT (ownX x) (ownX_lim lb.lim) (wwAll (ownX x))[m] (mem_of_all hc (List.getElem_mem hm)))) ((pt4 _ _ _ _ _ _).trans (.cons _ ((pt4 _ _ _ _ _ _).trans (.cons _ ((pt4 _ _ _ _ _ _).trans (.cons _ (pt4 _ _ _ _ _ _))))))))) ?_
          refine rn ?_
          refine aw_cond rfl (fun hc212 => ?_) (fun hc212 => ?_)
          · exact absurd hc212 (by decide)
          · refine rn ?_
            exact ⟨hm, trivial, eA⟩
        · have qm := geMap hc206 lm
          refine aw_exit ?_
          refine thn_e ?_
          refine thn_e ?_
          refine inBlk_hit ?_
          refine thn_n ?_
          refine aw_seq (aw_region ?_)
          refine q1 ?_
          refine qq rfl rfl (qr_len_map (g := bv) (enc := int2K) rfl) ?_
          refine q1 ?_
          refine q1 ?_
          refine qq rfl rfl (qr_cmp (c := true) rfl rfl (congrArg some (by rw [metN_all, List.length_map]; exact beq_self_eq_true _))) ?_
          refine rn ?_
          refine qv rfl rfl (qv_call rfl rfl (FCall.pure (R := fun r => r = bv true) (FCall.of_fun (isSortedConf (wwAll (ownX x)) _ cmpC (fun a b => FCall.of_fun (wwCompare a b)) (Nat.le_trans hA (by decide)) (all_back (ownX x)))))) ?_
          refine rn ?_
          first | (refine rq 3 ?_; exact ⟨rfl, rfl⟩) | (refine rq 2 ?_; exact ⟨rfl, congrArg bv (beq_self_eq_true _)⟩)
end Go.Proofs
