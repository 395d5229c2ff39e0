/- The walk of order.Merge. Conditions: none. -/
import Derived.Test.YtcooiollckhdlaaGreatDoorPMoF
set_option linter.unusedSectionVars false
set_option linter.unusedSimpArgs false
set_option linter.unusedVariables false
set_option linter.unusedVariables false
set_option linter.unusedSimpArgs false
set_option maxRecDepth 10000
namespace Go.Proofs
open Go Go.Ab
attribute [local irreducible] QR QV OE aops aw dsoup dsoupM dalloc dallocM thn inBlk jsoup jch lsoup
open Go.H
def runsR (sz : Nat) (T : TypeId) {α : Type} (R : α → List AV) (x : List (SV × List α)) : List Res := x.map fun p => .row p.1.v sz T (p.2.map R)
abbrev cellsS {α : Type} (x : List (SV × List α)) : List (List AV) := x.map fun p => [.v p.1.v]
theorem runsR_snoc {sz : Nat} {T : TypeId} {α : Type} {R : α → List AV} (x : List (SV × List α)) (p : SV × List α) : runsR sz T R (x ++ [p]) = runsR sz T R x ++ [.row p.1.v sz T (p.2.map R)] := by simp [runsR]
theorem cellsS_snoc {α : Type} (x : List (SV × List α)) (p : SV × List α) : cellsS (x ++ [p]) = cellsS x ++ [[.v p.1.v]] := by simp [cellsS]
theorem cellsS_len {α : Type} (x : List (SV × List α)) : (cellsS x).length = x.length := List.length_map _
theorem runsR_nil (sz : Nat) (T : TypeId) {α : Type} (R : α → List AV) : runsR sz T R [] = [] := rfl
theorem runsR_cons {sz : Nat} {T : TypeId} {α : Type} {R : α → List AV} {x : List (SV × List α)} {k : Nat} (hk : k < x.length) : runsR sz T R (x.drop k) = .row (x[k]).1.v sz T ((x[k]).2.map R) :: runsR sz T R (x.drop (k + 1)) := by
  rw [List.drop_eq_getElem_cons hk]; rfl
theorem cellsS_at {α : Type} {x : List (SV × List α)} {k : Nat} (hk : k < x.length) : (cellsS x)[k]? = some [.v (x[k]).1.v] := by simp [cellsS, hk]
theorem perm_last {β : Type} (m : β) (A B : List β) : (m :: (A ++ B)).Perm (A ++ (B ++ [m])) := by
  rw [← List.append_assoc]; exact List.perm_append_comm (l₁ := [m])
theorem tail_start {sz : Nat} {T : TypeId} {α : Type} {R : α → List AV} (x : List (SV × List α)) : runsR sz T R x = runsR sz T R (x.drop (2 * 0)) ++ runsR sz T R [] := by rw [Nat.mul_zero, List.drop_zero, runsR_nil, List.append_nil]
theorem tail_end {sz : Nat} {T : TypeId} {α : Type} {R : α → List AV} {x y : List (SV × List α)} {n : Nat} (h : x.length ≤ 2 * n) : runsR sz T R (x.drop (2 * n)) ++ runsR sz T R y = runsR sz T R y := by rw [List.drop_eq_nil_of_le h, runsR_nil, List.nil_append]
theorem tail_odd {sz : Nat} {T : TypeId} {α : Type} {R : α → List AV} {x y : List (SV × List α)} {i : Nat} (h : 2 * i + 1 = x.length) : (runsR sz T R (x.drop (2 * i)) ++ runsR sz T R y).Perm (runsR sz T R (x.drop (2 * (i + 1))) ++ runsR sz T R (y ++ [x[2 * i]'(by omega)])) := by
  rw [List.drop_eq_nil_of_le (show x.length ≤ 2 * (i + 1) by omega), runsR_cons (by omega), List.drop_eq_nil_of_le (by omega), runsR_nil, List.nil_append, runsR_snoc]
  exact List.perm_append_comm
theorem tail_two {sz : Nat} {T : TypeId} {α : Type} {R : α → List AV} {x y : List (SV × List α)} {i : Nat} {m : SV} {l : List α} : (.row m.v sz T (l.map R) :: (runsR sz T R (x.drop (2 * i + 1 + 1)) ++ runsR sz T R y)).Perm (runsR sz T R (x.drop (2 * (i + 1))) ++ runsR sz T R (y ++ [(m, l)])) := by
  rw [runsR_snoc, show 2 * (i + 1) = 2 * i + 1 + 1 by omega]
  exact perm_last _ _ _
theorem one_cellS (s : SV) : ∀ r ∈ ([[.v s.v]] : List (List AV)), r.all AV.one = true := by
  intro r hr; rw [List.mem_singleton.1 hr]; rfl
theorem take_one {β : Type} {l : List β} {k : Nat} (hk : k < l.length) : (l.take (k + 1)).drop k = [l[k]] := by
  rw [List.take_succ_eq_append_getElem hk, List.drop_left' (by simp; omega)]
set_option maxHeartbeats 4000000 in
theorem mergeEd (a b : List Ed) (fv : AV) (cmp : Ed → Ed → Int) (hp : ∀ x y, FCall Tryz.prog fv [.agg (edR x), .agg (edR y)] [] (fun r h' => h' = [] ∧ r = iv (cmp x y))) (ha : a.length ≤ 1000000000) (hb : b.length ≤ 1000000000) : ACall Tryz.prog 96 [.list false 3 (a.map edR), .list false 3 (b.map edR), fv] [] (fun r h' => ∃ s : SV, h' = [.row s.v 3 53 ((mrg cmp a b).map edR)] ∧ r = .v s.v) := by
  refine acall_of_aw Tryz.func96 rfl rfl rfl ?_
  refine rn ?_
  refine aw_scope ?_
  refine aw_seq (aw_region ?_)
  refine q1 ?_
  refine q1 ?_
  refine q1 ?_
  refine q1 ?_
  refine qq rfl rfl (qr_ari rfl rfl rfl (by simp only [List.length_map]; omega)) ?_
  refine aops_e rfl (oe_makeG (n := 0) (c := ((a.map edR).length + (b.map edR).length)) rfl rfl rfl (Nat.zero_le _) (by simp only [List.length_map]; omega) (hk := fun b7 => ?_))
  refine aops_slice (.slice (some ⟨b7, 0, none⟩) 0 ((a.map edR).length + (b.map edR).length)) fun s0 hs0 => ?_
  rw [hs0]
  clear hs0
  refine rn ?_
  refine aw_while (fun x : Nat × Nat × List Ed × SV => x.1 ≤ a.length ∧ x.2.1 ≤ b.length ∧ x.2.2.1.length = x.1 + x.2.1 ∧ x.2.2.1 ++ mrg cmp (a.drop x.1) (b.drop x.2.1) = mrg cmp a b) (fun x => ⟨[(0, .list false 3 ((a.drop x.1).map edR)), (1, .list false 3 ((b.drop x.2.1).map edR)), (2, fv), (7, .v x.2.2.2.v)], .row x.2.2.2.v 3 53 (x.2.2.1.map edR) :: [], []⟩) (fun x => (a.length - x.1) + (b.length - x.2.1)) (0, 0, [], s0) ⟨Nat.zero_le _, Nat.zero_le _, rfl, rfl⟩ es ?_
  rintro ⟨i, j, p, s⟩ ⟨hi0, hj0, hpl, hm⟩
  simp only at hi0 hj0 hpl hm
  show aw _ _ _ _ _ ⟨[(0, .list false 3 ((a.drop i).map edR)), (1, .list false 3 ((b.drop j).map edR)), (2, fv), (7, .v s.v)], .row s.v 3 53 (p.map edR) :: [], []⟩
  refine rn ?_
  refine asplit (fun hg3_3 => ?_) (fun hg3_3 => ?_)
  · refine rn ?_
    refine aw_ct rfl ?_
    have hov : a.drop i = [] ∨ b.drop j = [] := by first | (have q := hg3_3; simp at q; exact .inl (List.drop_eq_nil_of_le (by omega))) | (have q := hc22; simp at q; exact .inr (List.drop_eq_nil_of_le (by omega)))
    refine rn ?_
    refine aops_e rfl (oe_append_row rfl rfl (by simp only [List.length_map, List.length_drop]; omega) rfl (fun s51 => ?_) (one_ed _))
    refine aops_slice s51 fun sv1 hsv1 => ?_
    subst hsv1
    refine rn ?_
    refine aops_e rfl (oe_append_row rfl rfl (by simp only [List.length_map, List.length_append, List.length_drop]; omega) rfl (fun s53 => ?_) (one_ed _))
    refine aops_slice s53 fun sv2 hsv2 => ?_
    subst hsv2
    refine rn ?_
    refine ⟨fun l h => (by cases h), ?_⟩
    exact retq (.cons _ _ _ _ (.tmp _ _ rfl) .nil) (.refl _ _) ⟨sv2, by rw [← hm, mrg_over cmp hov, List.map_append, List.map_append, List.append_assoc], rfl⟩
  · refine rn ?_
    refine aw_cond rfl (fun hc22 => ?_) (fun hc22 => ?_)
    · have hov : a.drop i = [] ∨ b.drop j = [] := by first | (have q := hg3_3; simp at q; exact .inl (List.drop_eq_nil_of_le (by omega))) | (have q := hc22; simp at q; exact .inr (List.drop_eq_nil_of_le (by omega)))
      refine rn ?_
      refine aops_e rfl (oe_append_row rfl rfl (by simp only [List.length_map, List.length_drop]; omega) rfl (fun s51 => ?_) (one_ed _))
      refine aops_slice s51 fun sv1 hsv1 => ?_
      subst hsv1
      refine rn ?_
      refine aops_e rfl (oe_append_row rfl rfl (by simp only [List.length_map, List.length_append, List.length_drop]; omega) rfl (fun s53 => ?_) (one_ed _))
      refine aops_slice s53 fun sv2 hsv2 => ?_
      subst hsv2
      refine rn ?_
      refine ⟨fun l h => (by cases h), ?_⟩
      exact retq (.cons _ _ _ _ (.tmp _ _ rfl) .nil) (.refl _ _) ⟨sv2, by rw [← hm, mrg_over cmp hov, List.map_append, List.map_append, List.append_assoc], rfl⟩
    · have hi : i < a.length := by have q := hg3_3; simp at q; omega
      have hj : j < b.length := by have q := hc22; simp at q; omega
      have ia : ((a.drop i).map edR)[0]? = some (edR a[i]) := by rw [List.getElem?_map, List.getElem?_drop, Nat.add_zero, List.getElem?_eq_getElem hi]; rfl
      have ib : ((b.drop j).map edR)[0]? = some (edR b[j]) := by rw [List.getElem?_map, List.getElem?_drop, Nat.add_zero, List.getElem?_eq_getElem hj]; rfl
      refine rn ?_
      refine aw_draw 7 rfl ?_
      refine dq rfl rfl qrA ?_
      refine dq rfl rfl qrA ?_
      refine dq rfl rfl (qr_index_int rfl rfl (by decide) ib) ?_
      refine dq rfl rfl qrA ?_
      refine dq rfl rfl qrA ?_
      refine dq rfl rfl (qr_index_int rfl rfl (by decide) ia) ?_
      refine rn ?_
      refine qv rfl rfl (qv_call rfl rfl (FCall.pure (R := fun r => r = iv (cmp b[j] a[i])) (hp b[j] a[i]))) ?_
      refine rn ?_
      refine aw_cond rfl (fun hc31 => ?_) (fun hc31 => ?_)
      · have hlt : cmp b[j] a[i] < 0 := of_decide_eq_true hc31
        refine aw_drawU 9 [5] [8] (fun he => ∃ s' rows, he = [.row s' 3 53 rows]) rfl rfl ⟨_, _, rfl⟩ ?_
        refine jq rfl (fun he hC => by obtain ⟨s2, rows, rfl⟩ := hC <;> exact qrA) ?_
        refine jq rfl (fun he hC => by obtain ⟨s2, rows, rfl⟩ := hC <;> exact qrA) ?_
        refine jq rfl (fun he hC => by obtain ⟨s2, rows, rfl⟩ := hC <;> exact (by exact qr_index_int rfl rfl (by decide) ib)) ?_
        refine jq rfl (fun he hC => by obtain ⟨s2, rows, rfl⟩ := hC <;> exact qrA) ?_
        refine jv rfl (fun he hC => by obtain ⟨s2, rows, rfl⟩ := hC <;> exact (by exact qv_buildSlice rfl rfl)) ?_
        refine je rfl ?_
        refine jq rfl (fun he hC => by obtain ⟨s2, rows, rfl⟩ := hC <;> exact qrA) ?_
        refine jq rfl (fun he hC => by obtain ⟨s2, rows, rfl⟩ := hC <;> exact (by exact qr_as (qr_slice_l (l := 1) rfl rfl (by simp; omega)) (show AV.list false 3 _ = .list false 3 ((b.drop (j + 1)).map edR) by rw [← List.map_drop, List.drop_drop]))) ?_
        refine je rfl ?_
        refine jnil ?_
        refine jce rfl fun u => ?_
        refine oe_append_row rfl rfl (by simp only [List.length_map, List.length_cons, List.length_nil]; omega) rfl (fun s46 => ⟨_, _, rfl, ⟨_, _, rfl⟩, ?_⟩) (one_ed [b[j]])
        refine jcn ?_
        refine lq rfl rfl (by exact qrA) ?_
        refine ln ?_
        refine aops_slice s46 fun sv hsv => ?_
        subst hsv
        refine rn ?_
        exact ⟨(i, j + 1, p ++ [b[j]], sv), ⟨hi0, hj, by simp; omega, by rw [← hm, mrg_y cmp hi hj hlt, List.append_assoc]; rfl⟩, by rw [List.map_append]; exact eA, by simp only; omega⟩
      · have hlt : ¬ cmp b[j] a[i] < 0 := of_decide_eq_false hc31
        refine aw_drawU 9 [5] [8] (fun he => ∃ s' rows, he = [.row s' 3 53 rows]) rfl rfl ⟨_, _, rfl⟩ ?_
        refine jq rfl (fun he hC => by obtain ⟨s2, rows, rfl⟩ := hC <;> exact qrA) ?_
        refine jq rfl (fun he hC => by obtain ⟨s2, rows, rfl⟩ := hC <;> exact qrA) ?_
        refine jq rfl (fun he hC => by obtain ⟨s2, rows, rfl⟩ := hC <;> exact (by exact qr_index_int rfl rfl (by decide) ia)) ?_
        refine jq rfl (fun he hC => by obtain ⟨s2, rows, rfl⟩ := hC <;> exact qrA) ?_
        refine jv rfl (fun he hC => by obtain ⟨s2, rows, rfl⟩ := hC <;> exact (by exact qv_buildSlice rfl rfl)) ?_
        refine je rfl ?_
        refine jq rfl (fun he hC => by obtain ⟨s2, rows, rfl⟩ := hC <;> exact qrA) ?_
        refine jq rfl (fun he hC => by obtain ⟨s2, rows, rfl⟩ := hC <;> exact (by exact qr_as (qr_slice_l (l := 1) rfl rfl (by simp; omega)) (show AV.list false 3 _ = .list false 3 ((a.drop (i + 1)).map edR) by rw [← List.map_drop, List.drop_drop]))) ?_
        refine je rfl ?_
        refine jnil ?_
        refine jce rfl fun u => ?_
        refine oe_append_row rfl rfl (by simp only [List.length_map, List.length_cons, List.length_nil]; omega) rfl (fun s46 => ⟨_, _, rfl, ⟨_, _, rfl⟩, ?_⟩) (one_ed [a[i]])
        refine jcn ?_
        refine lq rfl rfl (by exact qrA) ?_
        refine ln ?_
        refine aops_slice s46 fun sv hsv => ?_
        subst hsv
        refine rn ?_
        exact ⟨(i + 1, j, p ++ [a[i]], sv), ⟨hi, hj0, by simp; omega, by rw [← hm, mrg_n cmp hi hj hlt, List.append_assoc]; rfl⟩, by rw [List.map_append]; exact eA, by simp only; omega⟩
end Go.Proofs
/- A call that is lent what it reads, and makes something new. Conditions: none (a rule over any program). -/
set_option linter.unusedVariables false
namespace Go.Ab
open Go
theorem FCall.lendG {P : Program} {fv fv' : AV} {args args' : List AV} {h : List Res} {R : AV → List Res → Prop} (hc : FCall P fv' args' [] R) (hR : ∀ r h', R r h' → Scal r ∧ ∀ x ∈ h', ScalR x)
    (hf : BLe h fv fv') (hle : BLes h args args') : FCall P fv args h (fun r h' => ∃ h'', h' = h'' ++ h ∧ R r h'') := by
  intro X w v vs hh hv ha
  refine (hc noX w v vs (hrel_none w) (by rw [OO_none]; exact hf X w v hh hv) (by rw [OO_none]; exact hle.rels hh ha)).mono ?_
  rintro e w' ⟨u, av, h', e1, hRr, hrel, hh', hk⟩
  obtain ⟨hs1, hs2⟩ := hR _ _ hRr
  have hold : ∀ b, b < w.heap.size → w'.heap[b]? = w.heap[b]? ∧ b ∉ owns h' := fun b hb => hk.same b hb (by simp [owns])
  have happ : owns (h' ++ h) = owns h' ++ owns h := by simp [owns, List.flatMap_append]
  have hkk : ∀ b, ¬ OO h X b → b < w.heap.size → w'.heap[b]? = w.heap[b]? ∧ ¬ OO (h' ++ h) X b := fun b hb hl => by
    refine ⟨(hold b hl).1, fun q => ?_⟩
    rcases q with q | q
    · rw [happ, List.mem_append] at q
      rcases q with q | q
      · exact (hold b hl).2 q
      · exact hb (.inl q)
    · exact hb (.inr q)
  have hh2 : HRel X w' (h' ++ h) := by
    refine ⟨?_, fun b hb => ?_, fun b hb => Nat.lt_of_lt_of_le (hh.xlt b hb) hk.size, fun r hr => ?_⟩
    · rw [happ, List.nodup_append]
      exact ⟨hh'.nodup, hh.nodup, fun x hx y hy q => (hold y (hh.lt y hy).1).2 (q ▸ hx)⟩
    · rw [happ, List.mem_append] at hb
      rcases hb with hb | hb
      · exact ⟨(hh'.lt b hb).1, fun hx => (hold b (hh.xlt b hx)).2 hb⟩
      · exact ⟨Nat.lt_of_lt_of_le (hh.lt b hb).1 hk.size, (hh.lt b hb).2⟩
    · rcases List.mem_append.1 hr with hr | hr
      · exact hs2 r hr (hh'.holds r hr)
      · exact Res.holds_keep hk.size hkk (fun b hb => (hold b (hh.lt b (mem_owns.2 ⟨r, hr, hb⟩)).1).1) (hh.holds r hr)
  refine ⟨u, av, _, e1, ⟨_, rfl, hRr⟩, hs1.rel hrel, hh2, ⟨hk.size, fun b hb ho => ⟨(hold b hb).1, fun q => ?_⟩, hk.env⟩⟩
  rw [happ, List.mem_append] at q
  exact q.elim (hold b hb).2 ho
end Go.Ab
/- The walk of order.Sort. Conditions: none. -/
set_option linter.unusedVariables false
set_option linter.unusedSimpArgs false
set_option maxRecDepth 10000
namespace Go.Proofs
open Go Go.Ab
attribute [local irreducible] QR QV OE aops aw dsoup dsoupM dalloc dallocM thn inBlk jsoup jch lsoup
open Go.H
theorem both1Ed (x : List (SV × List Ed)) (sr : SV) (b5 b3 k : Nat) (hk : k + 1 = x.length) (hx : x.length ≤ 1000000000) : ACall Tryz.prog 95 [iv k, .v (.pointer (some ⟨b5, 0, none⟩)), .v (.pointer (some ⟨b3, 0, none⟩))] (.row sr.v 1 22 (cellsS x) :: .box b5 123 [.v sr.v] :: []) (fun r h' => h' = .row sr.v 1 22 (cellsS x) :: .box b5 123 [.v sr.v] :: [] ∧ r = .v (x[k]'(by omega)).1.v) := by
  refine acall_of_aw Tryz.func95 rfl rfl rfl ?_
  refine aw_seq (aw_region ?_)
  refine q1 ?_
  refine aops_nil (thn_n ?_)
  refine aw_seq ?_
  refine aw_seq (aw_region ?_)
  refine q1 ?_
  refine qq rfl rfl (qr_ari rfl rfl rfl (by omega)) ?_
  refine q1 ?_
  refine q1 ?_
  refine qq rfl rfl (qr_cmp (c := true) rfl rfl (congrArg some (by rw [List.length_map]; simp; omega))) ?_
  refine rn ?_
  refine aw_cond rfl (fun hc9 => ?_) (fun hc9 => ?_)
  · refine aw_seq (aw_region ?_)
    refine q1 ?_
    refine q1 ?_
    refine qq rfl rfl (qr_index_row (k := k) rfl rfl (by rw [List.length_map]; omega)) ?_
    refine qq rfl rfl (qr_load_rp_one rfl (cellsS_at (by omega)) rfl) ?_
    refine rn ?_
    refine rq 0 ?_
    exact ⟨rfl, rfl⟩
  · first | cases hc9 | exact absurd hc9 (by decide) | (exfalso; simp_all; done)
theorem scalEd (l : List Ed) : ∀ r ∈ l.map edR, ∀ a ∈ r, Scal a := by
  intro r hr a ha
  obtain ⟨c, _, rfl⟩ := List.mem_map.1 hr
  simp only [edR, List.mem_cons, List.not_mem_nil, or_false] at ha
  rcases ha with rfl | rfl | rfl <;> exact .v _
set_option maxHeartbeats 4000000 in
theorem both2Ed (x : List (SV × List Ed)) (sr : SV) (b5 b3 k : Nat) (hk : k + 1 < x.length) (hx : x.length ≤ 1000000000) (ha : ∀ p ∈ x, p.2.length ≤ 1000000000) (fv : AV) (cmp : Ed → Ed → Int) (hp : ∀ x y, FCall Tryz.prog fv [.agg (edR x), .agg (edR y)] [] (fun r h' => h' = [] ∧ r = iv (cmp x y))) : ACall Tryz.prog 95 [iv k, .v (.pointer (some ⟨b5, 0, none⟩)), .v (.pointer (some ⟨b3, 0, none⟩))] (.row sr.v 1 22 (cellsS x) :: .box b5 123 [.v sr.v] :: .box b3 86 [fv] :: .row (x[k]'(by omega)).1.v 3 53 ((x[k]'(by omega)).2.map edR) :: .row (x[k + 1]).1.v 3 53 ((x[k + 1]).2.map edR) :: []) (fun r h' => ∃ s : SV, h' = .row s.v 3 53 ((mrg cmp (x[k]'(by omega)).2 (x[k + 1]).2).map edR) :: .row sr.v 1 22 (cellsS x) :: .box b5 123 [.v sr.v] :: .box b3 86 [fv] :: .row (x[k]'(by omega)).1.v 3 53 ((x[k]'(by omega)).2.map edR) :: .row (x[k + 1]).1.v 3 53 ((x[k + 1]).2.map edR) :: [] ∧ r = .v s.v) := by
  refine acall_of_aw Tryz.func95 rfl rfl rfl ?_
  refine aw_seq (aw_region ?_)
  refine q1 ?_
  refine aops_nil (thn_n ?_)
  refine aw_seq ?_
  refine aw_seq (aw_region ?_)
  refine q1 ?_
  refine qq rfl rfl (qr_ari rfl rfl rfl (by omega)) ?_
  refine q1 ?_
  refine q1 ?_
  refine qq rfl rfl (qr_cmp (c := false) rfl rfl (congrArg some (by rw [List.length_map]; simp; omega))) ?_
  refine rn ?_
  refine aw_cond rfl (fun hc9 => ?_) (fun hc9 => ?_)
  · first | cases hc9 | exact absurd hc9 (by decide) | (exfalso; simp_all; done)
  · refine rn ?_
    refine aw_draw 10 rfl ?_
    refine dq rfl rfl qrA ?_
    refine dq rfl rfl qrA ?_
    refine dq rfl rfl (qr_index_row (k := k) rfl rfl (by rw [List.length_map]; omega)) ?_
    refine dq rfl rfl (qr_load_rp_one rfl (cellsS_at (by omega)) rfl) ?_
    refine dq rfl rfl qrA ?_
    refine dq rfl rfl qrA ?_
    refine dq rfl rfl (qr_ari rfl rfl rfl (by omega)) ?_
    refine dq rfl rfl (qr_index_row (k := k + 1) rfl rfl (by rw [List.length_map]; omega)) ?_
    refine dq rfl rfl (qr_load_rp_one rfl (cellsS_at hk) rfl) ?_
    refine rn ?_
    refine aops_e rfl (oe_call rfl rfl (FCall.lendG (FCall.of_fun (mergeEd (x[k]'(by omega)).2 (x[k + 1]).2 fv cmp hp (ha _ (List.getElem_mem _)) (ha _ (List.getElem_mem _)))) (by rintro _ _ ⟨s, rfl, rfl⟩; exact ⟨.v _, fun x hx => by rw [List.mem_singleton.1 hx]; exact scal_row (scalEd _)⟩) (BLe.refl _ _) (by exact ⟨ble_row, ble_row, BLe.refl _ _, trivial⟩)) rfl ?_)
    rintro _ _ ⟨_, rfl, s, rfl, rfl⟩
    refine rn ?_
    exact retq (.cons _ _ _ _ (.tmp _ _ rfl) .nil) (.refl _ _) ⟨s, rfl, rfl⟩
set_option maxHeartbeats 4000000 in
theorem sortEd (l : List Ed) (fv : AV) (hone : fv.cellsOf = some [fv]) (cmp : Ed → Ed → Int) (hp : ∀ x y, FCall Tryz.prog fv [.agg (edR x), .agg (edR y)] [] (fun r h' => h' = [] ∧ r = iv (cmp x y))) (hl : l.length ≤ 1000000000) : ACall Tryz.prog 77 [.list false 3 (l.map edR), fv] [] (fun r h' => ∃ s : SV, h' = [.row s.v 3 53 ((sortL cmp l).map edR)] ∧ r = .v s.v) := by
  refine acall_of_aw Tryz.func77 rfl rfl rfl ?_
  refine rn ?_
  refine aops_e rfl (oe_box rfl hone rfl fun b3 => ?_)
  refine rn ?_
  refine aops_e rfl (oe_alloc rfl fun b5 => ?_)
  refine rn ?_
  refine aw_rngX l.length (fun k (z : SV × List (SV × List Ed)) => z.2.map (·.2) = (l.take k).map fun a => [a]) (fun k z => ⟨[(13, iv k), (0, .list false 3 (l.map edR)), (3, .v (.pointer (some ⟨b3, 0, none⟩))), (5, .v (.pointer (some ⟨b5, 0, none⟩))), (12, iv (l.map edR).length)], .row z.1.v 1 22 (cellsS z.2) :: .box b5 123 [.v z.1.v] :: .box b3 86 [fv] :: runsR 3 53 edR z.2, []⟩) (⟨none, 0, 0⟩, []) rfl (ent_trans (ent_nilrow 1 22) es) ?_
  rintro k ⟨s, x⟩ lk zk
  simp only at zk
  have hxl : x.length = k := by have q := congrArg List.length zk; rw [List.length_map, List.length_map, List.length_take] at q; omega
  show aw _ _ _ _ _ ⟨[(13, iv k), (0, .list false 3 (l.map edR)), (3, .v (.pointer (some ⟨b3, 0, none⟩))), (5, .v (.pointer (some ⟨b5, 0, none⟩))), (12, iv (l.map edR).length)], .row s.v 1 22 (cellsS x) :: .box b5 123 [.v s.v] :: .box b3 86 [fv] :: runsR 3 53 edR x, []⟩
  refine rn ?_
  refine aw_cond rfl (fun hc14 => ?_) (fun hc14 => ?_)
  · have hk : k < l.length := by have q := of_decide_eq_true hc14; rw [List.length_map] at q; omega
    refine rn ?_
    refine aops_e rfl (oe_makeG (n := 1) (c := 1) rfl rfl rfl (Nat.le_refl _) (by decide) (hk := fun b16 => ?_))
    refine aops_slice (.slice (some ⟨b16, 0, none⟩) 1 1) fun s1 hs1 => ?_
    rw [hs1]
    clear hs1
    refine q1 ?_
    refine aops_nil (thn_n ?_)
    refine aw_seq (aw_region ?_)
    refine q1 ?_
    refine q1 ?_
    refine q1 ?_
    refine q1 ?_
    refine qq rfl rfl (qr_ari rfl rfl rfl (by omega)) ?_
    refine q1 ?_
    refine qq rfl rfl (qr_ari rfl rfl rfl (by omega)) ?_
    refine qq rfl rfl (qr_as (qr_slice_lhm (l := k) (k := k + 1) rfl rfl rfl rfl (by omega) (by rw [List.length_map]; exact hk)) (show AV.list true 3 _ = .list true 3 [edR l[k]] by rw [take_one (by rw [List.length_map]; exact hk), List.getElem_map])) ?_
    refine aops_e rfl (oe_copy_ln 1 rfl rfl rfl rfl (hk := ?_) (one_ed [l[k]]))
    refine rn ?_
    refine qv rfl rfl (qv_buildSlice rfl rfl) ?_
    refine aops_e rfl (oe_append_row rfl rfl (by simp only [List.length_map, List.length_cons, List.length_nil]; omega) rfl (fun s29 => ?_) (one_cellS s1))
    refine aops_slice s29 fun sv hsv => ?_
    subst hsv
    refine rn ?_
    exact ⟨hk, (sv, x ++ [(s1, [l[k]])]), by simp only; rw [List.map_append, zk, List.take_succ_eq_append_getElem hk, List.map_append]; rfl, ent_trans (ent_perm (perm_swap [_] _)) (by simp only; rw [cellsS_snoc, runsR_snoc]; exact es)⟩
  · have qk : k = l.length := by have q := of_decide_eq_false hc14; rw [List.length_map] at q; omega
    refine rn ?_
    refine aw_while (fun z : SV × List (SV × List Ed) => srtR cmp (z.2.map (·.2)) = srtR cmp (l.map fun a => [a]) ∧ (z.2.map (·.2)).flatten.length = l.length ∧ z.2.length ≤ l.length) (fun z => ⟨[(5, .v (.pointer (some ⟨b5, 0, none⟩))), (8, .fn (.func 95) [] [.v (.pointer (some ⟨b5, 0, none⟩)), .v (.pointer (some ⟨b3, 0, none⟩))])], .row z.1.v 1 22 (cellsS z.2) :: .box b5 123 [.v z.1.v] :: .box b3 86 [fv] :: runsR 3 53 edR z.2, []⟩) (fun z => z.2.length) (s, x) ⟨by simp only; rw [zk, qk, List.take_length], by simp only; rw [zk, qk, List.take_length, one_flat], by simp only; omega⟩ es ?_
    rintro ⟨sr, x⟩ ⟨zk, hfl, hxl⟩
    simp only at zk hfl hxl
    show aw _ _ _ _ _ ⟨[(5, .v (.pointer (some ⟨b5, 0, none⟩))), (8, .fn (.func 95) [] [.v (.pointer (some ⟨b5, 0, none⟩)), .v (.pointer (some ⟨b3, 0, none⟩))])], .row sr.v 1 22 (cellsS x) :: .box b5 123 [.v sr.v] :: .box b3 86 [fv] :: runsR 3 53 edR x, []⟩
    refine rn ?_
    refine aw_cond rfl (fun hc34 => ?_) (fun hc34 => ?_)
    · have h1 : 1 < x.length := by have q := of_decide_eq_true hc34; rw [cellsS_len] at q; omega
      have hcl := cellsS_len x
      have hxa : ∀ p ∈ x, p.2.length ≤ 1000000000 := fun p hm => Nat.le_trans (flat_mem (show p.2 ∈ x.map (·.2) from List.mem_map_of_mem hm)) (by rw [hfl]; exact hl)
      refine aw_skip ?_
      refine thn_n ?_
      refine aw_block ?_
      refine aw_seq (aw_region ?_)
      refine q1 ?_
      refine aops_nil (thn_n ?_)
      refine aw_seq ?_
      refine aw_seq (aw_region ?_)
      refine q1 ?_
      refine q1 ?_
      refine qq rfl rfl (qr_ari rfl rfl rfl (by omega)) ?_
      refine qq rfl rfl (qr_quo (c := (((((cellsS x).length + 1) / 2) : Nat) : Int)) rfl rfl (by decide) rfl (by omega)) ?_
      refine rn ?_
      rw [tail_start x]
      refine aw_rngX (((cellsS x).length + 1) / 2) (fun i (z : SV × List (SV × List Ed)) => z.2.map (·.2) = (pairUp cmp (x.map (·.2))).take i) (fun i z => ⟨[(39, iv i), (9, .v z.1.v), (5, .v (.pointer (some ⟨b5, 0, none⟩))), (8, .fn (.func 95) [] [.v (.pointer (some ⟨b5, 0, none⟩)), .v (.pointer (some ⟨b3, 0, none⟩))]), (38, iv ((((cellsS x).length + 1) / 2) : Nat))], .row z.1.v 1 22 (cellsS z.2) :: .row sr.v 1 22 (cellsS x) :: .box b5 123 [.v sr.v] :: .box b3 86 [fv] :: (runsR 3 53 edR (x.drop (2 * i)) ++ runsR 3 53 edR z.2), []⟩) (⟨none, 0, 0⟩, []) rfl (ent_trans (ent_nilrow 1 22) es) ?_
      rintro i ⟨sn, y⟩ li zi
      simp only at zi
      show aw _ _ _ _ _ ⟨[(39, iv i), (9, .v sn.v), (5, .v (.pointer (some ⟨b5, 0, none⟩))), (8, .fn (.func 95) [] [.v (.pointer (some ⟨b5, 0, none⟩)), .v (.pointer (some ⟨b3, 0, none⟩))]), (38, iv ((((cellsS x).length + 1) / 2) : Nat))], .row sn.v 1 22 (cellsS y) :: .row sr.v 1 22 (cellsS x) :: .box b5 123 [.v sr.v] :: .box b3 86 [fv] :: (runsR 3 53 edR (x.drop (2 * i)) ++ runsR 3 53 edR y), []⟩
      refine rn ?_
      refine aw_cond rfl (fun hc40 => ?_) (fun hc40 => ?_)
      · have hi : i < (((cellsS x).length + 1) / 2) := by have q := of_decide_eq_true hc40; omega
        have hyl : y.length = i := by have q := congrArg List.length zi; rw [List.length_map, List.length_take, pairUp_len, List.length_map] at q; omega
        refine aw_skip ?_
        refine thn_n ?_
        refine aw_seq ?_
        refine aw_block ?_
        refine aw_seq (aw_region ?_)
        refine q1 ?_
        refine q1 ?_
        refine aops_nil (thn_n ?_)
        refine aw_region ?_
        refine q1 ?_
        refine q1 ?_
        refine q1 ?_
        refine qq rfl rfl (qr_ari rfl rfl rfl (by omega)) ?_
        by_cases ho : 2 * i + 1 = x.length
        refine aops_e rfl (oe_call rfl rfl (FCall.qt (FCall.of_acall (fs := []) (cs := [.v (.pointer (some ⟨b5, 0, none⟩)), .v (.pointer (some ⟨b3, 0, none⟩))]) (both1Ed x sr b5 b3 (2 * i) ho (by omega))) ((pt1 _ _ _).trans (.cons _ (pt1 _ _ _)))) rfl ?_)
        rintro _ _ ⟨rfl, rfl⟩
        rotate_left
        rw [runsR_cons (x := x) (k := 2 * i) (by omega), runsR_cons (x := x) (k := 2 * i + 1) (by omega), List.cons_append, List.cons_append]
        refine aops_e rfl (oe_call rfl rfl (FCall.fr (FCall.of_acall (fs := []) (cs := [.v (.pointer (some ⟨b5, 0, none⟩)), .v (.pointer (some ⟨b3, 0, none⟩))]) (both2Ed x sr b5 b3 (2 * i) (by omega) (by omega) hxa fv cmp hp)) ((pt1 _ _ _).trans (.cons _ ((pt1 _ _ _).trans (.cons _ ((pt1 _ _ _).trans (.cons _ ((pt1 _ _ _).trans (.cons _ (pt1 _ _ _)))))))))) rfl ?_)
        rintro _ _ ⟨_, rfl, m, rfl, rfl⟩
        refine aops_ent (ent_perm (pt6 _ _ _ _ _ _ _ _)) ?_
        rotate_right
        · refine qv rfl rfl (qv_buildSlice rfl rfl) ?_
          refine aops_e rfl (oe_append_row rfl rfl (by simp only [List.length_map, List.length_cons, List.length_nil]; omega) rfl (fun s48 => ?_) (one_cellS _))
          refine aops_slice s48 fun sv hsv => ?_
          subst hsv
          refine rn ?_
          exact ⟨hi, (sv, y ++ [x[2 * i]'(by omega)]), by simp only; rw [List.map_append, zi, pair_take cmp (by rw [List.length_map]; omega), pair_odd cmp (by rw [List.length_map]; exact ho), List.getElem_map]; rfl, ent_trans (ent_perm (.cons _ (.cons _ (.cons _ (.cons _ (tail_odd ho)))))) (by simp only; rw [cellsS_snoc]; exact es)⟩
        · refine qv rfl rfl (qv_buildSlice rfl rfl) ?_
          refine aops_e rfl (oe_append_row rfl rfl (by simp only [List.length_map, List.length_cons, List.length_nil]; omega) rfl (fun s48 => ?_) (one_cellS _))
          refine aops_slice s48 fun sv hsv => ?_
          subst hsv
          refine rn ?_
          exact ⟨hi, (sv, y ++ [(m, mrg cmp (x[2 * i]'(by omega)).2 (x[2 * i + 1]'(by omega)).2)]), by simp only; rw [List.map_append, zi, pair_take cmp (by rw [List.length_map]; omega), pair_two cmp (by rw [List.length_map]; omega), List.getElem_map, List.getElem_map]; rfl, ent_trans (ent_perm ((pt5 _ _ _ _ _ _ _).trans (.cons _ ((pt5 _ _ _ _ _ _ _).trans (.cons _ (.cons _ ((pt1 _ _ _).trans (.cons _ ((pt1 _ _ _).trans (.cons _ (pt1 _ _ _))))))))))) (ent_trans (ent_drop (h1 := [_, _])) (ent_trans (ent_perm (.cons _ (.cons _ (.cons _ (.cons _ tail_two))))) (by simp only; rw [cellsS_snoc]; exact es)))⟩
      · have qi : i = (((cellsS x).length + 1) / 2) := by have q := of_decide_eq_false hc40; omega
        refine rn ?_
        exact ⟨(sn, y), ⟨by simp only; rw [zi, pair_all cmp (by rw [List.length_map]; omega), ← srtR_go cmp (by rw [List.length_map]; exact h1)]; exact zk, by simp only; rw [zi, pair_all cmp (by rw [List.length_map]; omega), (pairUp_perm cmp _).length_eq]; exact hfl, by simp only; have q := congrArg List.length zi; rw [List.length_map, pair_all cmp (by rw [List.length_map]; omega), pairUp_len, List.length_map] at q; omega⟩, ent_trans (ent_perm (pt1 _ _ _)) (ent_trans (ent_drop (h1 := [_])) (by rw [tail_end (by omega)]; exact es)), by simp only; have q := congrArg List.length zi; rw [List.length_map, pair_all cmp (by rw [List.length_map]; omega), pairUp_len, List.length_map] at q; omega⟩
    · have h1 : ¬ 1 < x.length := by have q := of_decide_eq_false hc34; rw [cellsS_len] at q; omega
      refine rn ?_
      refine aw_cond rfl (fun hc53 => ?_) (fun hc53 => ?_)
      · have h0 : x.length = 0 := by have q := of_decide_eq_true (show decide (((cellsS x).length : Int) = 0) = true from hc53); rw [cellsS_len] at q; omega
        obtain rfl := List.length_eq_zero_iff.1 h0
        refine rn ?_
        exact retq (.cons _ _ _ _ (.tmp _ _ rfl) .nil) (.trans (.drop [_, _, _] _ _) (vent_nilrow 3 53 _)) ⟨⟨none, 0, 0⟩, by rw [sort_nil cmp zk rfl]; rfl, rfl⟩
      · have h0 : ¬ x.length = 0 := by intro q; have e : (((cellsS x).length : Int) == 0) = false := hc53; rw [cellsS_len, q] at e; cases e
        obtain ⟨p, rfl⟩ := List.length_eq_one_iff.1 (show x.length = 1 by omega)
        refine aw_skip ?_
        refine thn_n ?_
        refine aw_seq (aw_region ?_)
        refine q1 ?_
        refine qq rfl rfl (qr_index_row (k := 0) rfl rfl (show 0 < (cellsS [p]).length from Nat.zero_lt_one)) ?_
        refine qq rfl rfl (qr_load_rp_one rfl rfl rfl) ?_
        refine rn ?_
        exact retq (.cons _ _ _ _ (.tmp _ _ rfl) .nil) (.drop [_, _, _] _ _) ⟨p.1, by rw [sort_one cmp zk]; rfl, rfl⟩
end Go.Proofs
/- The walks of order.Unique, of graph's of, Of. Conditions: none. -/
set_option linter.unusedVariables false
set_option linter.unusedSimpArgs false
set_option maxRecDepth 10000
namespace Go.Proofs
open Go Go.Ab
attribute [local irreducible] QR QV OE aops aw dsoup dsoupM dalloc dallocM thn inBlk jsoup jch lsoup
open Go.H
/-- What is kept of those behind the k-th. -/
def ctl {α : Type} (q : α → α → Bool) (l : List α) (k : Nat) : List α := (compF q (l.drop k)).tail
theorem ctl_y {α : Type} {q : α → α → Bool} {l : List α} {k : Nat} (hk : k + 1 < l.length) (h : q l[k + 1] l[k] = true) : ctl q l k = ctl q l (k + 1) := by
  rw [ctl, ctl, List.drop_eq_getElem_cons (show k < l.length by omega), List.drop_eq_getElem_cons hk, compF, compF, compG, if_pos h]; rfl
theorem ctl_n {α : Type} {q : α → α → Bool} {l : List α} {k : Nat} (hk : k + 1 < l.length) (h : q l[k + 1] l[k] = false) : ctl q l k = l[k + 1] :: ctl q l (k + 1) := by
  rw [ctl, ctl, List.drop_eq_getElem_cons (show k < l.length by omega), List.drop_eq_getElem_cons hk, compF, compF, compG, if_neg (by rw [h]; decide)]; rfl
theorem ctl_end {α : Type} {q : α → α → Bool} {l : List α} {k : Nat} (hk : k < l.length) (h : l.length ≤ k + 1) : ctl q l k = [] := by
  rw [ctl, List.drop_eq_getElem_cons hk, List.drop_eq_nil_of_le h]; rfl
theorem ctl_0 {α : Type} {q : α → α → Bool} {l : List α} (h : 0 < l.length) : compF q l = l.take (0 + 1) ++ ctl q l 0 := by
  cases l with
  | nil => cases h
  | cons x r => rfl
theorem un_0 {l : List Ed} (h : 0 < l.length) : [l[0]] ++ ctl (fun a b => a == b) l 0 = compF (fun a b => a == b) l := by
  rw [ctl_0 h]
  cases l with
  | nil => cases h
  | cons a r => rfl
theorem un_y {l out : List Ed} {k : Nat} (hk : k < l.length) (h1 : 1 ≤ k) (hz : out ++ ctl (fun a b => a == b) l (k - 1) = compF (fun a b => a == b) l) (hne : edEq (l[k - 1]'(by omega)) l[k] = false) : (out ++ [l[k]]) ++ ctl (fun a b => a == b) l k = compF (fun a b => a == b) l := by
  obtain ⟨j, rfl⟩ : ∃ j, k = j + 1 := ⟨k - 1, by omega⟩
  rw [edEq_eq] at hne
  have h2 := of_decide_eq_false hne
  simp only [Nat.add_sub_cancel] at hz h2
  rw [← hz, ctl_n hk (beq_eq_false_iff_ne.2 fun e => h2 e.symm), List.append_assoc]; rfl
theorem un_n {l out : List Ed} {k : Nat} (hk : k < l.length) (h1 : 1 ≤ k) (hz : out ++ ctl (fun a b => a == b) l (k - 1) = compF (fun a b => a == b) l) (he : edEq (l[k - 1]'(by omega)) l[k] = true) : out ++ ctl (fun a b => a == b) l k = compF (fun a b => a == b) l := by
  obtain ⟨j, rfl⟩ : ∃ j, k = j + 1 := ⟨k - 1, by omega⟩
  rw [edEq_eq] at he
  have h2 := of_decide_eq_true he
  simp only [Nat.add_sub_cancel] at hz h2
  rw [← hz, ctl_y hk (beq_iff_eq.2 h2.symm)]
theorem un_end {l out : List Ed} {k : Nat} (hk : k = l.length) (h0 : k = 0 → out = []) (hz : 1 ≤ k → out ++ ctl (fun a b => a == b) l (k - 1) = compF (fun a b => a == b) l) : out = compF (fun a b => a == b) l := by
  by_cases e : k = 0
  · rw [h0 e]
    have : l = [] := List.length_eq_zero_iff.1 (by omega)
    rw [this]; rfl
  · rw [← hz (by omega), ctl_end (by omega) (by omega), List.append_nil]
def ofC (n : Int) (l : List Ed) : Int := if n < 0 ∨ n > 300 ∨ l.all (edgeB n) = false then 2 else if (ofE l).length > 40000 then 6 else 0
def ofGr (n : Int) (l : List Ed) : Gr := if ofC n l = 0 then ⟨n, ofE l⟩ else ⟨0, []⟩
def ofP (n : Int) (l : List Ed) (i : Nat) : Bool := ((l[i]?).map (edgeB n)).getD true
theorem ofP_at {n : Int} {l : List Ed} {i : Nat} (h : i < l.length) : ofP n l i = edgeB n l[i] := by rw [ofP, List.getElem?_eq_getElem h]; rfl
theorem ofP_all (n : Int) (l : List Ed) : (List.range l.length).all (ofP n l) = l.all (edgeB n) := by
  rw [Bool.eq_iff_iff, List.all_eq_true, List.all_eq_true]
  constructor
  · intro h e he
    obtain ⟨i, hi, rfl⟩ := List.mem_iff_getElem.1 he
    have := h i (List.mem_range.2 hi)
    rwa [ofP_at hi] at this
  · intro h i hi
    rw [ofP_at (List.mem_range.1 hi)]; exact h _ (List.getElem_mem _)
theorem ofC_2 {n : Int} {l : List Ed} (h : n < 0 ∨ n > 300 ∨ l.all (edgeB n) = false) : ofC n l = 2 := by rw [ofC, if_pos h]
theorem ofC_6 {n : Int} {l : List Ed} (h : ¬ (n < 0 ∨ n > 300 ∨ l.all (edgeB n) = false)) (h6 : (ofE l).length > 40000) : ofC n l = 6 := by rw [ofC, if_neg h, if_pos h6]
theorem ofC_0 {n : Int} {l : List Ed} (h : ¬ (n < 0 ∨ n > 300 ∨ l.all (edgeB n) = false)) (h6 : ¬ (ofE l).length > 40000) : ofC n l = 0 := by rw [ofC, if_neg h, if_neg h6]
theorem ofGr_n {n : Int} {l : List Ed} (h : ofC n l ≠ 0) : ofGr n l = ⟨0, []⟩ := by rw [ofGr, if_neg h]
theorem ofGr_y {n : Int} {l : List Ed} (h : ofC n l = 0) : ofGr n l = ⟨n, ofE l⟩ := by rw [ofGr, if_pos h]
set_option maxHeartbeats 4000000 in
theorem uniqEd (l : List Ed) (hl : l.length ≤ 1000000000) : ACall Tryz.prog 76 [.list false 3 (l.map edR)] [] (fun r h' => ∃ s : SV, h' = [.row s.v 3 53 ((compF (fun a b => a == b) l).map edR)] ∧ r = .v s.v) := by
  refine acall_of_aw Tryz.func76 rfl rfl rfl ?_
  refine rn ?_
  refine aw_rngX l.length (fun k (x : SV × List Ed) => x.2.length ≤ k ∧ (k = 0 → x.2 = []) ∧ (1 ≤ k → x.2 ++ ctl (fun a b => a == b) l (k - 1) = compF (fun a b => a == b) l)) (fun k x => ⟨[(8, iv k), (3, .v x.1.v), (0, .list false 3 (l.map edR)), (6, .list false 3 (l.map edR)), (7, iv (l.map edR).length)], .row x.1.v 3 53 ((x.2).map edR) :: [], []⟩) (nilV, []) ⟨Nat.le_refl _, fun _ => rfl, fun q => absurd q (by decide)⟩ (ent_trans (ent_nilrow 3 53) es) ?_
  rintro k ⟨s, x⟩ lk ⟨z1, z2, z3⟩
  simp only at z1 z2 z3
  show aw _ _ _ _ _ ⟨[(8, iv k), (3, .v s.v), (0, .list false 3 (l.map edR)), (6, .list false 3 (l.map edR)), (7, iv (l.map edR).length)], .row s.v 3 53 ((x).map edR) :: [], []⟩
  refine rn ?_
  refine aw_cond rfl (fun hc9 => ?_) (fun hc9 => ?_)
  · have hk := ltMap hc9
    have rk := atRow (f := edR) hk
    refine rn ?_
    refine aops_e rfl (oe_alloc rfl fun b5 => ?_)
    refine rn ?_
    refine aw_draw 9 rfl ?_
    refine rn ?_
    refine dsplit (fun hg5_2 => ?_) (fun hg5_2 => ?_)
    · refine rn ?_
      refine aw_ct rfl ?_
      refine rn ?_
      refine qv rfl rfl (qv_buildSlice rfl rfl) ?_
      refine aops_e rfl (oe_append_row rfl rfl (by simp only [List.length_map, List.length_cons, List.length_nil]; omega) rfl (fun s27 => ?_) (one_ed [l[k]]))
      refine aops_slice s27 fun sv hsv => ?_
      subst hsv
      refine rn ?_
      have k0 : k = 0 := by have q := hg5_2; simp at q; omega
      subst k0
      exact ⟨hk, (sv, x ++ [l[0]]), ⟨by simp only [List.length_append, List.length_cons, List.length_nil]; omega, fun q => by omega, fun _ => by rw [z2 rfl]; exact un_0 hk⟩, by rw [List.map_append]; exact eA⟩
    · refine dq rfl rfl qrA ?_
      refine dq rfl rfl qrA ?_
      refine dq rfl rfl (qr_as (qr_ari rfl rfl rfl (by omega)) (show iv _ = iv ((k - 1 : Nat) : Int) from congrArg iv (by have q := hg5_2; simp at q; omega))) ?_
      refine dq rfl rfl (qr_index_list (i := k - 1) rfl rfl (atRow (f := edR) (show k - 1 < l.length by omega))) ?_
      refine rn ?_
      refine aw_cond rfl (fun hc23 => ?_) (fun hc23 => ?_)
      · refine rn ?_
        refine qv rfl rfl (qv_buildSlice rfl rfl) ?_
        refine aops_e rfl (oe_append_row rfl rfl (by simp only [List.length_map, List.length_cons, List.length_nil]; omega) rfl (fun s27 => ?_) (one_ed [l[k]]))
        refine aops_slice s27 fun sv hsv => ?_
        subst hsv
        refine rn ?_
        exact ⟨hk, (sv, x ++ [l[k]]), ⟨by simp only [List.length_append, List.length_cons, List.length_nil]; omega, fun q => by omega, fun _ => un_y hk (by have q := hg5_2; simp at q; omega) (z3 (by have q := hg5_2; simp at q; omega)) (show edEq (l[k - 1]'(by omega)) l[k] = false from not_t hc23)⟩, by rw [List.map_append]; exact eA⟩
      · refine rn ?_
        exact ⟨hk, (s, x), ⟨by simp only; omega, fun q => by omega, fun _ => un_n hk (by have q := hg5_2; simp at q; omega) (z3 (by have q := hg5_2; simp at q; omega)) (show edEq (l[k - 1]'(by omega)) l[k] = true from not_f hc23)⟩, eA⟩
  · have qk := geMap hc9 lk
    refine rn ?_
    exact retq (.cons _ _ _ _ (.tmp _ _ rfl) .nil) (.refl _ _) ⟨s, by rw [← un_end qk z2 z3], rfl⟩
set_option maxHeartbeats 4000000 in
theorem grOf0 (n : Int) (l : List Ed) (hl : l.length ≤ 1000000000) : ACall Tryz.prog 60 [iv n, edsA l] [] (fun r h' => ∃ s : SV, h' = [.row s.v 3 53 ((ofE l).map edR)] ∧ r = .agg [iv n, .v s.v]) := by
  refine acall_of_aw Tryz.func60 rfl rfl rfl ?_
  refine rn ?_
  refine aops_e rfl (oe_alloc rfl fun b4 => ?_)
  refine rn ?_
  refine aops_e rfl (oe_call rfl rfl (FCall.fr (FCall.of_fun (sortEd l (.fn (.func 56) [] []) rfl cmpE (fun x y => FCall.of_fun (gCompare x y)) hl)) (.refl _)) rfl ?_)
  rintro _ _ ⟨_, rfl, s1, rfl, rfl⟩
  simp only [List.cons_append, List.nil_append]
  refine aops_e rfl (oe_call rfl rfl (FCall.lendG (FCall.of_fun (uniqEd (sortL cmpE l) (by rw [(sortL_perm cmpE l).length_eq]; exact hl))) (by rintro _ _ ⟨s, rfl, rfl⟩; exact ⟨.v _, fun x hx => by rw [List.mem_singleton.1 hx]; exact scal_row (scalEd _)⟩) (BLe.refl _ _) (by exact ⟨ble_row, trivial⟩)) rfl ?_)
  rintro _ _ ⟨_, rfl, s2, rfl, rfl⟩
  simp only [List.cons_append, List.nil_append]
  refine rn ?_
  exact retq (.cons _ _ _ _ (.agg _ _ _ _ _ _ _ rfl inferInstance inferInstance inferInstance rfl) .nil) (.trans (.perm ((pt1 _ _ _).trans (.cons _ (pt1 _ _ _))) _) (.drop [_, _] _ _)) ⟨s2, rfl, rfl⟩
theorem grOf1 (i n : Int) (e : Ed) (b : Nat) : ACall Tryz.prog 59 [iv i, .agg (edR e), .v (.pointer (some ⟨b, 0, none⟩))] (.box b 3 [iv n] :: []) (fun r h' => h' = .box b 3 [iv n] :: [] ∧ r = bv (edgeB n e)) := by
  refine acall_of_aw Tryz.func59 rfl rfl rfl ?_
  refine rn ?_
  refine aops_e rfl (oe_box rfl rfl rfl fun b4 => ?_)
  refine rn ?_
  refine qv rfl rfl (qv_call rfl rfl (pcall (grEdge n e) (Sbs.refl _))) ?_
  refine rn ?_
  refine rq 1 ?_
  exact ⟨rfl, rfl⟩
set_option maxHeartbeats 4000000 in
theorem grOf (n : Int) (l : List Ed) (hl : l.length ≤ 1000000000) : ACall Tryz.prog 32 [iv n, edsA l] [] (fun r h' => ∃ s : SV, h' = [.row s.v 3 53 (((ofGr n l).es).map edR)] ∧ r = .tup [.agg [iv (ofGr n l).n, .v s.v], iv (ofC n l)]) := by
  refine acall_of_aw Tryz.func32 rfl rfl rfl ?_
  refine rn ?_
  refine aops_e rfl (oe_box rfl rfl rfl fun b2 => ?_)
  refine aops_e rfl (oe_alloc rfl fun b4 => ?_)
  refine rn ?_
  refine asplit (fun hg1_2 => ?_) (fun hg1_2 => ?_)
  · refine rn ?_
    refine aw_ct rfl ?_
    have hbad : n < 0 ∨ n > 300 ∨ l.all (edgeB n) = false := by
      first
      | exact .inl (by simpa using hg1_2)
      | exact .inr (.inl (by simpa using hg1_6))
      | exact .inr (.inr (by rw [← ofP_all]; simpa using hc18))
    refine rn ?_
    have hne : ofC n l ≠ 0 := by rw [ofC_2 hbad]; decide
    exact retq (.cons _ _ _ _ (.agg _ _ _ _ _ _ _ rfl inferInstance inferInstance inferInstance rfl) (.cons _ _ _ _ (.tmp _ _ rfl) .nil)) (.trans (.drop [_, _] _ _) (vent_nilrow 3 53 _)) ⟨nilV, by rw [ofGr_n hne]; rfl, by rw [ofGr_n hne, ofC_2 hbad]; rfl⟩
  · refine rn ?_
    refine asplit (fun hg1_6 => ?_) (fun hg1_6 => ?_)
    · refine rn ?_
      refine aw_ct rfl ?_
      have hbad : n < 0 ∨ n > 300 ∨ l.all (edgeB n) = false := by
        first
        | exact .inl (by simpa using hg1_2)
        | exact .inr (.inl (by simpa using hg1_6))
        | exact .inr (.inr (by rw [← ofP_all]; simpa using hc18))
      refine rn ?_
      have hne : ofC n l ≠ 0 := by rw [ofC_2 hbad]; decide
      exact retq (.cons _ _ _ _ (.agg _ _ _ _ _ _ _ rfl inferInstance inferInstance inferInstance rfl) (.cons _ _ _ _ (.tmp _ _ rfl) .nil)) (.trans (.drop [_, _] _ _) (vent_nilrow 3 53 _)) ⟨nilV, by rw [ofGr_n hne]; rfl, by rw [ofGr_n hne, ofC_2 hbad]; rfl⟩
    · refine rn ?_
      refine qv rfl rfl (qv_call rfl rfl (FCall.qt (FCall.of_fun (grAll l (.fn (.func 59) [] [.v (.pointer (some ⟨b2, 0, none⟩))]) (ofP n l) (.box b2 3 [iv n] :: []) (by omega) (fun i hi => by rw [ofP_at hi]; exact FCall.of_acall (fs := []) (cs := [.v (.pointer (some ⟨b2, 0, none⟩))]) (grOf1 i n l[i] b2)))) (pt1 _ _ _))) ?_
      refine rn ?_
      refine aw_cond rfl (fun hc18 => ?_) (fun hc18 => ?_)
      · have hbad : n < 0 ∨ n > 300 ∨ l.all (edgeB n) = false := by
          first
          | exact .inl (by simpa using hg1_2)
          | exact .inr (.inl (by simpa using hg1_6))
          | exact .inr (.inr (by rw [← ofP_all]; simpa using hc18))
        refine rn ?_
        have hne : ofC n l ≠ 0 := by rw [ofC_2 hbad]; decide
        exact retq (.cons _ _ _ _ (.agg _ _ _ _ _ _ _ rfl inferInstance inferInstance inferInstance rfl) (.cons _ _ _ _ (.tmp _ _ rfl) .nil)) (.trans (.drop [_, _] _ _) (vent_nilrow 3 53 _)) ⟨nilV, by rw [ofGr_n hne]; rfl, by rw [ofGr_n hne, ofC_2 hbad]; rfl⟩
      · have hgood : ¬ (n < 0 ∨ n > 300 ∨ l.all (edgeB n) = false) := by
          have q1 := hg1_2
          have q2 := hg1_6
          have q3 := hc18
          rw [ofP_all] at q3
          simp at q1 q2
          rintro (q | q | q)
          · omega
          · omega
          · rw [q] at q3; simp at q3
        refine rn ?_
        refine aops_e rfl (oe_call rfl rfl (FCall.fr (FCall.of_fun (grOf0 n l (by omega))) (.refl _)) rfl ?_)
        rintro _ _ ⟨_, rfl, s, rfl, rfl⟩
        simp only [List.cons_append, List.nil_append]
        refine aops_e rfl (oe_alloc rfl fun b6 => ?_)
        refine rn ?_
        refine aw_cond rfl (fun hc26 => ?_) (fun hc26 => ?_)
        · have h6 : (ofE l).length > 40000 := by have q := of_decide_eq_true hc26; rw [List.length_map] at q; omega
          refine rn ?_
          have hne : ofC n l ≠ 0 := by rw [ofC_6 hgood h6]; decide
          exact retq (.cons _ _ _ _ (.agg _ _ _ _ _ _ _ rfl inferInstance inferInstance inferInstance rfl) (.cons _ _ _ _ (.tmp _ _ rfl) .nil)) (.trans (.drop [_, _, _, _] _ _) (vent_nilrow 3 53 _)) ⟨nilV, by rw [ofGr_n hne]; rfl, by rw [ofGr_n hne, ofC_6 hgood h6]; rfl⟩
        · have h6 : ¬ (ofE l).length > 40000 := by have q := of_decide_eq_false hc26; rw [List.length_map] at q; omega
          refine rn ?_
          exact retq (.cons _ _ _ _ (.agg _ _ _ _ _ _ _ rfl inferInstance inferInstance inferInstance rfl) (.cons _ _ _ _ (.tmp _ _ rfl) .nil)) (.trans (.perm (.cons _ ((pt1 _ _ _).trans (.cons _ (pt1 _ _ _)))) _) (.drop [_, _, _] _ _)) ⟨s, by rw [ofGr_y (ofC_0 hgood h6)], by rw [ofGr_y (ofC_0 hgood h6), ofC_0 hgood h6]; rfl⟩
end Go.Proofs
/- A remainder; numbers turned into and out of an unsigned kind. Conditions: aS each lemma states. -/
set_option linter.unusedVariables false
namespace Go.Ab
open Go
section
variable {P : Program} {h : List Res} {f : Operand → Option AV} {dst : Option Tmp} {ty : TypeId} {pos : String} {after : Array Edge} {guard : Option (Nat × Bool)} {x : Operand}
theorem qr_rem {T T' : TypeId} {k : IntKind} {a b c : Int} {y : Operand} (hx : f x = some (.v (.int k a))) (hy : f y = some (.v (.int k b))) (hb : b ≠ 0) (hc : a.tmod b = c) :
    QR P h f ⟨dst, .binOp .rem T x y T', ty, pos, after, guard⟩ (.v (.int k c)) := fun X ρ w he => by
  refine ⟨_, run_v _ ?_, .v _⟩
  rw [(he.rel x _ hx).v_eq, (he.rel y _ hy).v_eq, run_binop_int]
  simp [binOp, Op.intDiv, hb, hc]
end
theorem wrap_i {n : Int} (h0 : 0 ≤ n) (h1 : n < 9223372036854775808) : IntKind.i64.wrap n = n := IntWalk.i64_in _ ⟨by omega, by omega⟩
end Go.Ab
/- The walks of bits' may, or, of OnesCount64. Conditions: none. -/
set_option linter.unusedVariables false
set_option linter.unusedSimpArgs false
set_option maxRecDepth 10000
namespace Go.Proofs
open Go Go.Ab
attribute [local irreducible] QR QV OE aops aw dsoup dsoupM dalloc dallocM thn inBlk jsoup jch lsoup
open Go.H
abbrev w64R (n : Nat) : List AV := [.v (.int .u64 (n : Int))]
theorem wrdsA_len (l : List Nat) : (wrdsA l).length = l.length := by simp [wrdsA]
theorem wrdsA_app (l : List Nat) (x : Nat) : wrdsA l ++ [w64R x] = wrdsA (l ++ [x]) := by simp [wrdsA]
theorem wrdsA_set (l : List Nat) (k x : Nat) : (wrdsA l).set k (w64R x) = wrdsA (l.set k x) := by simp [wrdsA, List.map_set]
theorem wF_at {l : List Nat} {n i : Nat} (hi : i < n) : (wrdsA (wordsF l n))[i]? = some (w64R (wrdL l i)) := by
  rw [wrdsA, List.getElem?_map, wordsF_at hi]; rfl
theorem wF_set {l : List Nat} {m a : Nat} : (wrdsA (wordsF l m)).set (a / 64) (w64R (wrdL l (a / 64) ||| 2 ^ (a % 64))) = wrdsA (wordsF (l ++ [a]) m) := by rw [wrdsA_set, wordsF_set]
def cntW (l : List Nat) : Nat := (l.map popW).sum
theorem cntW_pos (l : List Nat) : 0 < cntW (wordsL l) ↔ l ≠ [] := by
  constructor
  · rintro h rfl; exact absurd h (by decide)
  · intro h
    have hl : 0 < lenW l := Nat.pos_of_ne_zero fun e => h (lenW_zero.1 e)
    have h1 := words_last hl
    have hm : wrdL l (lenW l - 1) ∈ wordsL l := List.mem_map.2 ⟨_, List.mem_range.2 (by omega), rfl⟩
    have h2 := (popW_0 _ (wrdL_lt l (lenW l - 1))).2.2
    have h3 : ∀ (m : List Nat) (x : Nat), x ∈ m → popW x ≤ cntW m := by
      intro m
      induction m with
      | nil => intro x hx; cases hx
      | cons a r ih =>
        intro x hx
        show popW x ≤ popW a + cntW r
        rcases List.mem_cons.1 hx with rfl | hx
        · omega
        · have := ih x hx; omega
    have := h3 _ _ hm
    omega
theorem len_640 {l : List Nat} (h : ∀ x ∈ l, x < 640) : lenW l ≤ 10 := lenW_le.2 fun n hn => by have := h n hn; omega
theorem bMay (n : Int) : ACall Tryz.prog 86 [iv n] [] (fun r h' => h' = [] ∧ r = bv (decide (0 ≤ n) && decide (n < 10000))) := by
  refine acall_of_aw Tryz.func86 rfl rfl rfl ?_
  refine rn ?_
  refine asplit (fun hg1_2 => ?_) (fun hg1_2 => ?_)
  · refine rn ?_
    refine rq 0 ?_
    exact ⟨rfl, congrArg bv (by first | (simp_all; done) | (simp_all <;> omega))⟩
  · refine rn ?_
    refine rq 0 ?_
    exact ⟨rfl, congrArg bv (by first | (simp_all; done) | (simp_all <;> omega))⟩
theorem bOr (a b : Nat) (ha : a < 18446744073709551616) (hb : b < 18446744073709551616) : ACall Tryz.prog 88 [.v (.int .u64 ((a : Nat) : Int)), .v (.int .u64 ((b : Nat) : Int))] [] (fun r h' => h' = [] ∧ r = .v (.int .u64 ((a ||| b : Nat) : Int))) := by
  refine acall_of_aw Tryz.func88 rfl rfl rfl ?_
  refine aw_seq (aw_region ?_)
  refine q1 ?_
  refine aops_nil (thn_n ?_)
  refine aw_seq (aw_region ?_)
  refine q1 ?_
  refine q1 ?_
  refine qq rfl rfl (qr_bits rfl rfl (u_or ha hb)) ?_
  refine rn ?_
  refine rq 0 ?_
  exact ⟨rfl, rfl⟩
end Go.Proofs
/- The walks of bits' turned, made. Conditions: none. -/
set_option linter.unusedVariables false
set_option linter.unusedSimpArgs false
set_option maxRecDepth 10000
namespace Go.Proofs
open Go Go.Ab
attribute [local irreducible] QR QV OE aops aw dsoup dsoupM dalloc dallocM thn inBlk jsoup jch lsoup
open Go.H
theorem lenW_app (l : List Nat) (a : Nat) : lenW (l ++ [a]) = max (lenW l) (a / 64 + 1) := lenW_s l a
theorem wrd_lt (l : List Nat) (i : Nat) : wrdL l i < 18446744073709551616 := wrdL_lt l i
theorem pow_lt {a : Nat} : 2 ^ (a % 64) < 18446744073709551616 := Nat.lt_of_lt_of_le (Nat.pow_lt_pow_right (by decide) (Nat.mod_lt a (by decide))) (by decide)
abbrev wordsA (l : List Nat) : AV := .list false 1 (wrdsA l)
theorem cloneRowW64 {f : Bool} (rows : List (List AV)) (hl : rows.length ≤ 1099511627776) (hone : ∀ r ∈ rows, r.all AV.one = true) : ACall Tryz.prog 109 [.list f 1 rows] [] (fun r h' => ∃ s, h' = [.row s 1 105 rows] ∧ r = .v s) := by
  refine acall_of_aw Tryz.func109 rfl rfl rfl ?_
  refine rn ?_
  refine aops_e rfl (oe_eqnil rfl rfl rfl fun b4 hb4 => ?_)
  refine rn ?_
  refine aw_cond rfl (fun hc4 => ?_) (fun hc4 => ?_)
  · refine rn ?_
    have h0 := hb4 hc4
    subst h0
    exact retq (.cons _ _ _ _ (.tmp _ _ rfl) .nil) (vent_nilrow 1 105 _) ⟨_, rfl, rfl⟩
  · refine rn ?_
    refine aops_e rfl (oe_buildRow rfl rfl rfl fun s5 => ?_)
    refine rn ?_
    refine aops_e rfl (oe_append_row rfl rfl (by simpa using hl) rfl (fun s7 => ?_) hone)
    refine rn ?_
    exact retq (.cons _ _ _ _ (.tmp _ _ rfl) .nil) (.refl _ _) ⟨_, by rw [List.nil_append], rfl⟩
set_option maxHeartbeats 4000000 in
theorem bTurned {f : Bool} (l : List Nat) (a : Nat) (hl : lenW l ≤ 1000) (ha : a < 10000) : ACall Tryz.prog 87 [.list f 1 (wrdsA (wordsL l)), iv (a : Int), .fn (.func 88) [] []] [] (fun r h' => h' = [] ∧ r = wordsA (wordsL (l ++ [a]))) := by
  refine acall_of_aw Tryz.func87 rfl rfl rfl ?_
  refine rn ?_
  refine aops_e rfl (oe_call rfl rfl (FCall.of_fun (cloneRowW64 (f := f) (wrdsA (wordsL l)) (by rw [wrdsA_len, wordsL_len]; omega) (wrdsA_one _))) rfl ?_)
  rintro _ _ ⟨s, rfl, rfl⟩
  refine aops_slice s fun sv0 hsv0 => ?_
  subst hsv0
  refine rn ?_
  refine aw_while (fun x : Nat × SV => lenW l ≤ x.1 ∧ x.1 ≤ lenW (l ++ [a])) (fun x => ⟨[(7, .v x.2.v), (1, iv (a : Int)), (2, .fn (.func 88) [] [])], .row x.2.v 1 105 (wrdsA (wordsF l (x.1))) :: [], []⟩) (fun x => lenW (l ++ [a]) - x.1) (lenW l, sv0) ⟨Nat.le_refl _, by rw [lenW_app]; exact Nat.le_max_left _ _⟩ es ?_
  rintro ⟨m, s⟩ ⟨h1, h2⟩
  simp only at h1 h2
  have hmx := lenW_app l a
  show aw _ _ _ _ _ ⟨[(7, .v s.v), (1, iv (a : Int)), (2, .fn (.func 88) [] [])], .row s.v 1 105 (wrdsA (wordsF l (m))) :: [], []⟩
  refine aw_seq ?_
  refine aw_seq (aw_region ?_)
  refine q1 ?_
  refine q1 ?_
  refine q1 ?_
  refine qq rfl rfl (qr_quo (c := ((a / 64 : Nat) : Int)) rfl rfl (by decide) rfl (by omega)) ?_
  refine rn ?_
  refine aw_cond rfl (fun hc14 => ?_) (fun hc14 => ?_)
  · have hlt : m ≤ a / 64 := by have q := of_decide_eq_true hc14; rw [wrdsA_len, wordsF_len] at q; omega
    refine rn ?_
    refine qv rfl rfl (qv_buildSlice rfl rfl) ?_
    refine aops_e rfl (oe_append_row rfl rfl (by rw [wrdsA_len, wordsF_len]; simp only [List.length_cons, List.length_nil]; omega) rfl (fun s27 => ?_) (fun r hr => by rw [List.mem_singleton.1 hr]; rfl))
    refine aops_slice s27 fun sv hsv => ?_
    subst hsv
    refine rn ?_
    exact ⟨(m + 1, sv), ⟨by simp only; omega, by simp only; omega⟩, by rw [← wordsF_more h1, ← wrdsA_app]; exact eA, by simp only; omega⟩
  · have hge : a / 64 < m := by have q := of_decide_eq_false hc14; rw [wrdsA_len, wordsF_len] at q; omega
    refine rn ?_
    refine aw_draw 13 rfl ?_
    refine dq rfl rfl qrA ?_
    refine dq rfl rfl qrA ?_
    refine dq rfl rfl (qr_quo (c := ((a / 64 : Nat) : Int)) rfl rfl (by decide) rfl (by omega)) ?_
    refine dq rfl rfl qrA ?_
    refine dq rfl rfl qrA ?_
    refine dq rfl rfl qrA ?_
    refine dq rfl rfl (qr_quo (c := ((a / 64 : Nat) : Int)) rfl rfl (by decide) rfl (by omega)) ?_
    refine dq rfl rfl (qr_index_row (k := a / 64) rfl rfl (by rw [wrdsA_len, wordsF_len]; exact hge)) ?_
    refine dq rfl rfl (qr_load_rp_one rfl (wF_at hge) rfl) ?_
    refine dq rfl rfl qrA ?_
    refine dq rfl rfl (qr_rem (c := ((a % 64 : Nat) : Int)) rfl rfl (by decide) rfl) ?_
    refine dq rfl rfl (qr_shift rfl rfl (u_shl1 (Nat.mod_lt a (by decide))) (Int.natCast_nonneg _)) ?_
    refine dv rfl rfl (by exact qv_call rfl rfl (FCall.pure (R := fun r => r = .v (.int .u64 ((wrdL l (a / 64) ||| 2 ^ (a % 64) : Nat) : Int))) (FCall.of_fun (bOr _ _ (wrd_lt l _) pow_lt)))) ?_
    refine rn2 ?_
    refine qq rfl rfl (qr_index_row (k := a / 64) rfl rfl (by rw [wrdsA_len, wordsF_len]; exact hge)) ?_
    refine aops_e rfl (oe_store_rp (k := a / 64) rfl rfl rfl (wF_at hge) rfl (Nat.le_of_ble_eq_true rfl) ?_)
    rw [st1, show ([AV.v (Value.int .u64 ((wrdL l (a / 64) ||| 2 ^ (a % 64) : Nat) : Int))] : List AV) = w64R (wrdL l (a / 64) ||| 2 ^ (a % 64)) from rfl, wF_set]
    refine rn ?_
    have hm : m = lenW (l ++ [a]) := by omega
    subst hm
    exact retq (.cons _ _ _ _ (.tmp _ _ rfl) .nil) vent_freeze ⟨rfl, rfl⟩
set_option maxHeartbeats 4000000 in
theorem bMade {f : Bool} (l : List Nat) (hl : lenW l ≤ 1000) : ACall Tryz.prog 89 [.list f 1 (wrdsA (wordsL l))] [] (fun r h' => h' = [] ∧ r = .agg [wordsA (wordsL l)]) := by
  refine acall_of_aw Tryz.func89 rfl rfl rfl ?_
  refine rn ?_
  refine aops_e rfl (oe_alloc rfl fun b2 => ?_)
  refine aops_nil (thn_n ?_)
  refine aw_seq (aw_region ?_)
  refine q1 ?_
  refine qq rfl rfl (qr_as (qr_len_list rfl) (show iv _ = iv (lenW l : Nat) from congrArg iv (by rw [wrdsA_len, wordsL_len]))) ?_
  refine rn ?_
  refine aw_while (fun _ : Unit => True) (fun _ => ⟨[(3, iv (lenW l : Nat)), (0, .list f 1 (wrdsA (wordsL l))), (2, .v (.pointer (some ⟨b2, 0, none⟩)))], .box b2 78 [.v (.slice none 0 0)] :: [], []⟩) (fun _ => 0) () trivial es ?_
  rintro _ _
  refine rn ?_
  refine asplit (fun hg2_2 => ?_) (fun hg2_2 => ?_)
  · refine q1 ?_
    refine q1 ?_
    refine qq rfl rfl (qr_as (qr_ari rfl rfl rfl (by omega)) (show iv _ = iv ((lenW l - 1 : Nat) : Int) from congrArg iv (by have q := hg2_2; simp at q; omega))) ?_
    refine qq rfl rfl (qr_index_list (i := lenW l - 1) rfl rfl (wF_at (by have q := hg2_2; simp at q; omega))) ?_
    refine rn ?_
    refine aw_cond rfl (fun hc16 => ?_) (fun hc16 => ?_)
    · exact absurd hc16 (by have h0 := words_last (l := l) (by have q := hg2_2; simp at q; omega); simp; omega)
    · refine rn ?_
      refine aops_e rfl (oe_makeSlice rfl rfl rfl (by omega) (hk := fun bm => ?_))
      refine aops_slice (.slice (some ⟨bm, 0, none⟩) (lenW l) (lenW l)) fun sv hsv => ?_
      rw [hsv]
      clear hsv
      refine q1 ?_
      refine aops_nil (thn_n ?_)
      refine aw_seq (aw_region ?_)
      refine q1 ?_
      refine q1 ?_
      refine q1 ?_
      refine q1 ?_
      refine qq rfl rfl (qr_as (qr_slice_hm (k := lenW l) rfl rfl rfl (by rw [wrdsA_len, wordsL_len]; exact Nat.le_refl _)) (show AV.list true 1 _ = .list true 1 (wrdsA (wordsL l)) by rw [List.take_of_length_le (by rw [wrdsA_len, wordsL_len]; exact Nat.le_refl _)])) ?_
      refine aops_e rfl (oe_copy_ln (lenW l) rfl rfl (by rw [List.length_replicate, wrdsA_len, wordsL_len]; exact Nat.min_self _) rfl (hk := ?_) (wrdsA_one _))
      rw [List.take_of_length_le (by rw [wrdsA_len, wordsL_len]; exact Nat.le_refl _), List.drop_eq_nil_of_le (by rw [List.length_replicate]; exact Nat.le_refl _), List.append_nil]
      refine rn ?_
      exact retq (.cons _ _ _ _ (.agg _ _ _ _ _ _ _ rfl inferInstance inferInstance inferInstance rfl) .nil) (.trans (vent_freeze_cell [] []) (.drop [_] _ _)) ⟨rfl, rfl⟩
  · refine rn ?_
    refine aw_cf rfl ?_
    refine rn ?_
    refine aops_e rfl (oe_makeSlice rfl rfl rfl (by omega) (hk := fun bm => ?_))
    refine aops_slice (.slice (some ⟨bm, 0, none⟩) (lenW l) (lenW l)) fun sv hsv => ?_
    rw [hsv]
    clear hsv
    refine q1 ?_
    refine aops_nil (thn_n ?_)
    refine aw_seq (aw_region ?_)
    refine q1 ?_
    refine q1 ?_
    refine q1 ?_
    refine q1 ?_
    refine qq rfl rfl (qr_as (qr_slice_hm (k := lenW l) rfl rfl rfl (by rw [wrdsA_len, wordsL_len]; exact Nat.le_refl _)) (show AV.list true 1 _ = .list true 1 (wrdsA (wordsL l)) by rw [List.take_of_length_le (by rw [wrdsA_len, wordsL_len]; exact Nat.le_refl _)])) ?_
    refine aops_e rfl (oe_copy_ln (lenW l) rfl rfl (by rw [List.length_replicate, wrdsA_len, wordsL_len]; exact Nat.min_self _) rfl (hk := ?_) (wrdsA_one _))
    rw [List.take_of_length_le (by rw [wrdsA_len, wordsL_len]; exact Nat.le_refl _), List.drop_eq_nil_of_le (by rw [List.length_replicate]; exact Nat.le_refl _), List.append_nil]
    refine rn ?_
    exact retq (.cons _ _ _ _ (.agg _ _ _ _ _ _ _ rfl inferInstance inferInstance inferInstance rfl) .nil) (.trans (vent_freeze_cell [] []) (.drop [_] _ _)) ⟨rfl, rfl⟩
end Go.Proofs
