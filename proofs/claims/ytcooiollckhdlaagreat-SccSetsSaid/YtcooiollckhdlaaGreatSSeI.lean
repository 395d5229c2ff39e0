/- A row of one's own cut at its front. Conditions: none (rules over any program). -/
import Derived.Test.YtcooiollckhdlaaGreatSSeH
set_option linter.unusedSectionVars false
set_option linter.unusedSimpArgs false
set_option linter.unusedVariables false
set_option linter.unusedVariables false
set_option linter.unusedSimpArgs false
namespace Go.Ab
open Go
theorem addr_b (a : Addr) (n : Nat) : (a.add n).block = a.block := by unfold Addr.add; split <;> rfl
theorem addr_o (a : Addr) (n : Nat) : (a.add n).off = a.off + n := by
  unfold Addr.add; split
  · rename_i h; rw [h]; rfl
  · rfl
theorem addr_s {a : Addr} (n : Nat) (h : a.spot = none) : (a.add n).spot = none := by
  unfold Addr.add; split
  · exact h
  · rfl
theorem tail_own (s : Value) (l k sz : Nat) (T : TypeId) (rows rows' : List (List AV)) : (Res.row (partV s l k sz) sz T rows').own = (Res.row s sz T rows).own := by
  cases s with
  | slice a n c =>
    cases a with
    | none =>
      show (Res.row (.slice (if c = l then none else none) (k - l) (c - l)) sz T rows').own = []
      rw [ite_self]; rfl
    | some a =>
      show (Res.row (.slice (if c = l then some a else some (a.add (l * sz))) (k - l) (c - l)) sz T rows').own = [a.block]
      split
      · rfl
      · show [(a.add (l * sz)).block] = [a.block]
        rw [addr_b]
  | _ => rfl
theorem tail_holds {w : World} {O : Nat → Prop} {s : Value} {l sz : Nat} {T : TypeId} {rows : List (List AV)} (hl : l ≤ rows.length) (h : (Res.row s sz T rows).holds w O) : (Res.row (partV s l rows.length sz) sz T (rows.drop l)).holds w O := by
  cases s with
  | slice a n c =>
    cases a with
    | none =>
      obtain ⟨rfl, rfl, rfl⟩ := h
      obtain rfl : l = 0 := by simpa using hl
      unfold partV; simp [sliced, Res.holds]
    | some a =>
      obtain ⟨h1, h2, h3, h4, cc, h5, h6, h7⟩ := h
      subst h2
      have hlen : (rows.drop l).length = rows.length - l := List.length_drop ..
      by_cases e : c = l
      · have e2 : rows.drop l = [] := List.drop_eq_nil_of_le (by omega)
        show (Res.row (.slice (if c = l then some a else some (a.add (l * sz))) (rows.length - l) (c - l)) sz T (rows.drop l)).holds w O
        rw [if_pos e]
        refine ⟨h1, by rw [hlen], by omega, (fun i hi => by rw [e2] at hi; cases hi), cc, h5, by rw [e, Nat.sub_self, Nat.zero_mul]; omega, (fun i hi => by rw [e2] at hi; cases hi)⟩
      · show (Res.row (.slice (if c = l then some a else some (a.add (l * sz))) (rows.length - l) (c - l)) sz T (rows.drop l)).holds w O
        rw [if_neg e]
        refine ⟨addr_s _ h1, by rw [hlen], by omega, fun i hi => by rw [List.getElem_drop]; exact h4 _ _, cc, by rw [addr_b]; exact h5, ?_, fun i hi j hj => ?_⟩
        · rw [addr_o]
          have : l * sz + (c - l) * sz = c * sz := by rw [← Nat.add_mul]; congr 1; omega
          omega
        · simp only [List.getElem_drop] at hj ⊢
          have hi' : l + i < rows.length := by omega
          have e3 : a.off + l * sz + i * sz + j = a.off + (l + i) * sz + j := by rw [Nat.add_mul]; omega
          rw [addr_o, e3]
          exact h7 (l + i) hi' j hj
  | _ => exact h
section
variable {P : Program} {ro : Option Nat} {nt : Nat}
theorem aops_tail {ops : Array Oper} {l : List Oper} {Q : Exit → St → Prop} {t : Fr} {h h' : List Res} {ds : List Nat} (s : Value) (k : Nat) {i sz : Nat} {T : TypeId} {rows : List (List AV)} [hr : HasRow h s i sz T rows] (hk : k ≤ rows.length) [hset : SetAt h i (.row (partV s k rows.length sz) sz T (rows.drop k)) h']
    (g : aops P ro nt ops l Q ⟨t, h', ds⟩) : aops P ro nt ops l Q ⟨t, h, ds⟩ := aops_same hr.h (tail_own s k rows.length sz T rows _) (fun _ _ q => tail_holds hk q) hset.h g
end
end Go.Ab
/- The walk of the reference 06's Leads. Conditions: none. -/
set_option linter.unusedVariables false
set_option linter.unusedSimpArgs false
set_option maxRecDepth 10000
namespace Go.Proofs
open Go Go.Ab
attribute [local irreducible] QR QV OE aops aw dsoup dsoupM dalloc dallocM thn inBlk jsoup jch lsoup
open Go.H
theorem out_len31 (g : Gr) (v : Int) : (outG g v).length ≤ g.es.length := List.length_filter_le _ _
theorem out_adj (g : Gr) (v : Nat) : adjG g v = (outG g v).map fun e => e.t.toNat := by
  unfold adjG outG
  congr 1
theorem out_at {g : Gr} {v i : Nat} (hi : i < (outG g v).length) : (adjG g v)[i]? = some (outG g v)[i].t.toNat := by
  rw [out_adj, List.getElem?_map, List.getElem?_eq_getElem hi]; rfl
theorem out_alen (g : Gr) (v : Nat) : (adjG g v).length = (outG g v).length := by rw [out_adj, List.length_map]
theorem out_in {g : Gr} (h : GOk g) {v : Int} {i : Nat} (hi : i < (outG g v).length) : ((outG g v)[i].t.toNat : Int) = (outG g v)[i].t ∧ (outG g v)[i].t.toNat < nG g := by
  have hm : (outG g v)[i] ∈ g.es := (List.mem_filter.1 (List.getElem_mem hi)).1
  have := ed_nat h hm
  exact ⟨this.2.2.2.1, this.2.1⟩
theorem rwB_upd (n : Nat) (f : Nat → Bool) (k : Nat) : (rwB n f).set k [AV.v (.bool true)] = rwB n (updB f k) := rwB_set n f k true
theorem rwB_congr {n : Nat} {f g : Nat → Bool} (h : ∀ i, i < n → f i = g i) : rwB n f = rwB n g := rng_congr fun i hi => by rw [h i hi]
theorem lead_fin {g : Gr} {s : Nat} {out : Nat → Bool} (h : BInv (nG g) (adjG g) s out []) : rwB (nG g) out = rwB (nG g) (ldB (adjG g) s) := rwB_congr fun i _ => by
  rw [Bool.eq_iff_iff, h.all, ldB_iff]
theorem natR_0 {v : Nat} {r : List Nat} : ((v :: r).map natR)[0]? = some [iv (v : Int)] := rfl
set_option maxHeartbeats 4000000 in
theorem refLeads (g : Gr) (hok : GOk g) (s : Nat) (hs : s < nG g) : ACall Tryz.prog 66 [.agg (grR g), iv (s : Int)] [] (fun r h' => h' = [] ∧ r = .list false 1 (rwB (nG g) (ldB (adjG g) s))) := by
  refine acall_of_aw Tryz.func66 rfl rfl rfl ?_
  have hn0 := hok.n0
  have hn1 := hok.n1
  have hmany := hok.many
  have hng : nG g ≤ 300 := by unfold nG; omega
  have hnn : ((nG g : Nat) : Int) = g.n := by unfold nG; omega
  refine rn ?_
  refine aops_e rfl (oe_box rfl rfl rfl fun b2 => ?_)
  refine q1 ?_
  refine aops_nil (thn_n ?_)
  refine aw_seq (aw_region ?_)
  refine q1 ?_
  refine qq rfl rfl (qr_as (qr_load_one rfl rfl) (show iv _ = iv ((nG g : Nat) : Int) from congrArg iv hnn.symm)) ?_
  refine aops_e rfl (oe_makeSlice rfl rfl rfl (by omega) (hk := fun bm => ?_))
  refine aops_slice (.slice (some ⟨bm, 0, none⟩) (nG g) (nG g)) fun so hso => ?_
  rw [hso]
  clear hso
  rw [rwB_zero]
  refine rn ?_
  refine aops_e rfl (oe_buildRow rfl rfl rfl fun s14 => ?_)
  refine aops_slice s14 fun td htd => ?_
  rw [htd]
  refine rn ?_
  refine aw_while (fun (x : (Nat → Bool) × List Nat × SV) => BInv (nG g) (adjG g) s x.1 x.2.1 ∧ x.2.1.length + 2 * cntF (nG g) x.1 ≤ 1000) (fun x => ⟨[(6, .v x.2.2.v), (2, .v (.pointer (some ⟨b2, 0, none⟩))), (5, .v so.v)], .row so.v 1 4 (rwB (nG g) x.1) :: .row x.2.2.v 1 3 (x.2.1.map natR) :: .box b2 24 (grR g) :: [], []⟩) (fun x => 2 * cntF (nG g) x.1 + x.2.1.length) (fun _ => false, [s], td) ⟨BInv.start, by simp only [List.length_cons, List.length_nil]; have : cntF (nG g) (fun _ => false) ≤ nG g := Nat.le_trans (List.length_filter_le _ _) (by simp); omega⟩ (ent_trans (ent_perm (pt1 _ _ _)) es) ?_
  rintro ⟨out, l, td⟩ ⟨hi, hlim⟩
  simp only at hi hlim
  show aw _ _ _ _ _ ⟨[(6, .v td.v), (2, .v (.pointer (some ⟨b2, 0, none⟩))), (5, .v so.v)], .row so.v 1 4 (rwB (nG g) out) :: .row td.v 1 3 (l.map natR) :: .box b2 24 (grR g) :: [], []⟩
  refine rn ?_
  refine aw_cond rfl (fun hc17 => ?_) (fun hc17 => ?_)
  · obtain ⟨v, r, rfl⟩ : ∃ v r, l = v :: r := by cases l with | nil => exact absurd hc17 (by simp) | cons v r => exact ⟨v, r, rfl⟩
    have hvn : v < nG g := (hi.todo v (by simp)).elim (fun e => e ▸ hs) (fun e => (hi.sound v e).1)
    refine aw_skip ?_
    refine thn_n ?_
    refine aw_block ?_
    refine aw_seq (aw_region ?_)
    refine q1 ?_
    refine qq rfl rfl (qr_index_row (k := 0) rfl rfl (by rw [List.length_map]; exact Nat.succ_pos _)) ?_
    refine qq rfl rfl (qr_load_rp_one rfl natR_0 rfl) ?_
    refine q1 ?_
    refine aops_nil (thn_n ?_)
    refine aw_seq (aw_region ?_)
    refine q1 ?_
    refine qq rfl rfl (qr_part_l (l := 1) rfl rfl (by rw [List.length_map]; exact Nat.succ_pos _)) ?_
    refine aops_tail td.v 1 (by rw [List.length_map]; exact Nat.succ_pos _) ?_
    refine aops_slice (partV td.v 1 (((v :: r).map natR).length) 1) fun td' htd => ?_
    rw [htd]
    rw [show ((v :: r).map natR).drop 1 = r.map natR from rfl]
    refine rn ?_
    refine qv rfl rfl (qv_call rfl rfl (FCall.pure (R := fun x => x = edsA (outG g (v : Int))) (FCall.of_fun (refOut g v (by omega))))) ?_
    refine rn ?_
    refine aw_rngX (outG g (v : Int)).length (fun i (x : (Nat → Bool) × List Nat × SV) => BMid (nG g) (adjG g) s x.1 x.2.1 v i ∧ 2 * cntF (nG g) x.1 + x.2.1.length ≤ 2 * cntF (nG g) out + r.length) (fun i x => ⟨[(27, iv i), (6, .v x.2.2.v), (2, .v (.pointer (some ⟨b2, 0, none⟩))), (5, .v so.v), (25, edsA (outG g (v : Int))), (26, iv ((outG g (v : Int)).map edR).length)], .row so.v 1 4 (rwB (nG g) x.1) :: .row x.2.2.v 1 3 (x.2.1.map natR) :: .box b2 24 (grR g) :: [], []⟩) (out, r, td') ⟨hi.pop, Nat.le_refl _⟩ es ?_
    generalize hmb : 2 * cntF (nG g) out + r.length = mb
    rw [List.length_cons] at hlim
    rintro i ⟨out', r', td⟩ li ⟨hm, hmu⟩
    simp only at hm hmu
    show aw _ _ _ _ _ ⟨[(27, iv i), (6, .v td.v), (2, .v (.pointer (some ⟨b2, 0, none⟩))), (5, .v so.v), (25, edsA (outG g (v : Int))), (26, iv ((outG g (v : Int)).map edR).length)], .row so.v 1 4 (rwB (nG g) out') :: .row td.v 1 3 (r'.map natR) :: .box b2 24 (grR g) :: [], []⟩
    refine rn ?_
    refine aw_cond rfl (fun hc28 => ?_) (fun hc28 => ?_)
    · have hii : i < (outG g (v : Int)).length := by have q := of_decide_eq_true hc28; rw [List.length_map] at q; omega
      have hyt := out_in hok hii
      have hol := out_len31 g (v : Int)
      refine aw_skip ?_
      refine thn_n ?_
      refine aw_seq ?_
      refine aw_block ?_
      refine aw_seq (aw_region ?_)
      refine qq rfl rfl (qr_index_list (i := i) rfl rfl (edR_at hii)) ?_
      refine rn ?_
      refine aops_e rfl (oe_alloc rfl fun b9 => ?_)
      first | refine aops_e rfl (oe_store_all rfl rfl rfl ?_) | refine aops_e rfl (oe_store rfl rfl rfl rfl (Nat.le_of_ble_eq_true rfl) ?_)
      refine aops_nil (thn_n ?_)
      refine aw_seq (aw_region ?_)
      refine q1 ?_
      refine q1 ?_
      refine qq rfl rfl (qr_as (qr_load_one rfl rfl) (show iv _ = iv (((outG g (v : Int))[i].t.toNat : Nat) : Int) from congrArg iv hyt.1.symm)) ?_
      refine qq rfl rfl (qr_index_row (k := (outG g (v : Int))[i].t.toNat) rfl rfl (by rw [rwB_len]; exact hyt.2)) ?_
      refine qq rfl rfl (qr_load_rp_one rfl (rwB_at _ hyt.2) rfl) ?_
      refine rn ?_
      refine aw_cond rfl (fun hc36 => ?_) (fun hc36 => ?_)
      · have ho : out' (outG g (v : Int))[i].t.toNat = false := by simpa using hc36
        have hcu := cntF_upd hyt.2 ho
        refine aw_seq (aw_region ?_)
        refine q1 ?_
        refine q1 ?_
        refine qq rfl rfl (qr_as (qr_load_one rfl rfl) (show iv _ = iv (((outG g (v : Int))[i].t.toNat : Nat) : Int) from congrArg iv hyt.1.symm)) ?_
        refine qq rfl rfl (qr_index_row (k := (outG g (v : Int))[i].t.toNat) rfl rfl (by rw [rwB_len]; exact hyt.2)) ?_
        refine aops_e rfl (oe_store_rp (k := (outG g (v : Int))[i].t.toNat) rfl rfl rfl (rwB_at _ hyt.2) rfl (Nat.le_of_ble_eq_true rfl) ?_)
        rw [st1, rwB_upd]
        refine aops_nil (thn_n ?_)
        refine aw_region ?_
        refine q1 ?_
        refine q1 ?_
        refine qq rfl rfl (qr_as (qr_load_one rfl rfl) (show iv _ = iv (((outG g (v : Int))[i].t.toNat : Nat) : Int) from congrArg iv hyt.1.symm)) ?_
        refine qv rfl rfl (qv_buildSlice rfl rfl) ?_
        refine aops_e rfl (oe_append_row rfl rfl (by simp only [List.length_map, List.length_cons, List.length_nil]; omega) rfl (fun s27 => ?_) (fun r hr => by rw [List.mem_singleton.1 hr]; rfl))
        refine aops_slice s27 fun sv hsv => ?_
        subst hsv
        refine rn ?_
        first | exact ⟨hii, (updB out' _, r' ++ [_], sv), ⟨hm.mark (out_at hii) hyt.2, by simp only [List.length_append, List.length_cons, List.length_nil]; omega⟩, by rw [List.map_append]; exact eA⟩ | exact ⟨hii, (out', r', td), ⟨hm.skip (out_at hii) ho, hmu⟩, eA⟩
      · have ho : out' (outG g (v : Int))[i].t.toNat = true := by simpa using hc36
        refine rn ?_
        first | exact ⟨hii, (updB out' _, r' ++ [_], sv), ⟨hm.mark (out_at hii) hyt.2, by simp only [List.length_append, List.length_cons, List.length_nil]; omega⟩, by rw [List.map_append]; exact eA⟩ | exact ⟨hii, (out', r', td), ⟨hm.skip (out_at hii) ho, hmu⟩, eA⟩
    · have qi : i = (outG g (v : Int)).length := by have q := of_decide_eq_false hc28; rw [List.length_map] at q; omega
      rw [qi, ← out_alen] at hm
      refine rn ?_
      exact ⟨(out', r', td), ⟨hm.fin, by simp only; omega⟩, eA, by simp only; rw [List.length_cons]; omega⟩
  · have hl0 : l = [] := by cases l with | nil => rfl | cons v r => (exfalso; have q := of_decide_eq_false hc17; rw [List.length_map, List.length_cons] at q; omega)
    refine rn ?_
    subst hl0
    exact retq (.cons _ _ _ _ (.tmp _ _ rfl) .nil) (.trans vent_freeze (.drop [_, _] _ _)) ⟨rfl, by rw [lead_fin hi]⟩
end Go.Proofs
/- The walks of the reference 06's All, Sets. Conditions: none. -/
set_option linter.unusedVariables false
set_option linter.unusedSimpArgs false
set_option maxRecDepth 10000
namespace Go.Proofs
open Go Go.Ab
attribute [local irreducible] QR QV OE aops aw dsoup dsoupM dalloc dallocM thn inBlk jsoup jch lsoup
open Go.H
noncomputable def ldR (g : Gr) : List (List AV) := (List.range (nG g)).map fun v => [AV.list false 1 (rwB (nG g) (ldB (adjG g) v))]
theorem ldR_len (g : Gr) : (ldR g).length = nG g := by unfold ldR; simp
theorem ldR_at {g : Gr} {v : Nat} (hv : v < nG g) : (ldR g)[v]? = some [AV.list false 1 (rwB (nG g) (ldB (adjG g) v))] := by unfold ldR; simp [hv]
noncomputable def ldRK (g : Gr) (k : Nat) : List (List AV) := (List.range k).map fun v => [AV.list false 1 (rwB (nG g) (ldB (adjG g) v))]
theorem ldRK_s (g : Gr) (k : Nat) : ldRK g (k + 1) = ldRK g k ++ [[AV.list false 1 (rwB (nG g) (ldB (adjG g) k))]] := by unfold ldRK; rw [List.range_succ, List.map_append]; rfl
theorem ldRK_len (g : Gr) (k : Nat) : (ldRK g k).length = k := by unfold ldRK; simp
noncomputable def togK (g : Gr) (k j : Nat) : List Nat := (List.range j).filter (togB (adjG g) k)
noncomputable def lstK (g : Gr) (k j : Nat) : Bool := (togK g k j).all fun w => decide (k ≤ w)
theorem togK_y {g : Gr} {k j : Nat} (h : togB (adjG g) k j = true) : togK g k (j + 1) = togK g k j ++ [j] := by unfold togK; rw [List.range_succ, List.filter_append, List.filter_cons_of_pos h]; rfl
theorem togK_n {g : Gr} {k j : Nat} (h : togB (adjG g) k j = false) : togK g k (j + 1) = togK g k j := by unfold togK; rw [List.range_succ, List.filter_append, List.filter_cons_of_neg (by rw [h]; decide)]; simp
theorem lstK_y {g : Gr} {k j : Nat} (h : togB (adjG g) k j = true) : lstK g k (j + 1) = (lstK g k j && decide (k ≤ j)) := by unfold lstK; rw [togK_y h, List.all_append]; simp
theorem lstK_n {g : Gr} {k j : Nat} (h : togB (adjG g) k j = false) : lstK g k (j + 1) = lstK g k j := by unfold lstK; rw [togK_n h]
theorem togK_len (g : Gr) (k j : Nat) : (togK g k j).length ≤ j := Nat.le_trans (List.length_filter_le _ _) (by simp)
theorem togK_set (g : Gr) (k : Nat) : togK g k (nG g) = setN (nG g) (adjG g) k := rfl
theorem lstK_set (g : Gr) (k : Nat) : lstK g k (nG g) = leastV (nG g) (adjG g) k := rfl
noncomputable def setK (g : Gr) (k : Nat) : List (List AV) := ((setsK (nG g) (adjG g) k).map rowI).map lisR
theorem setK_y {g : Gr} {k : Nat} (h : leastV (nG g) (adjG g) k = true) : setK g (k + 1) = setK g k ++ [[intsA (rowI (setN (nG g) (adjG g) k))]] := by unfold setK; rw [setsK_s, if_pos h, List.map_append, List.map_append]; rfl
theorem setK_n {g : Gr} {k : Nat} (h : leastV (nG g) (adjG g) k = false) : setK g (k + 1) = setK g k := by unfold setK; rw [setsK_s, if_neg (by rw [h]; decide), List.append_nil]
theorem setK_len (g : Gr) (k : Nat) : (setK g k).length ≤ k := by unfold setK setsK; rw [List.length_map, List.length_map, List.length_map]; exact Nat.le_trans (List.length_filter_le _ _) (by simp)
noncomputable def setsA (g : Gr) : AV := .list false 1 (((setsG g).map rowI).map lisR)
noncomputable def rndK (g : Gr) (k : Nat) : List Nat := (List.range k).filter fun v => ldB (adjG g) v v
theorem rndK_y {g : Gr} {k : Nat} (h : ldB (adjG g) k k = true) : rndK g (k + 1) = rndK g k ++ [k] := by simp [rndK, List.range_succ, List.filter_append, h]
theorem rndK_n {g : Gr} {k : Nat} (h : ldB (adjG g) k k = false) : rndK g (k + 1) = rndK g k := by simp [rndK, List.range_succ, List.filter_append, h]
theorem rndK_len (g : Gr) (k : Nat) : (rndK g k).length ≤ k := Nat.le_trans (List.length_filter_le _ _) (by simp)
theorem natR_rI (C : List Nat) : (.list false 1 (C.map natR) : AV) = intsA (rowI C) := by rw [natR_I]; rfl
set_option maxHeartbeats 1000000 in
theorem refAll6 (g : Gr) (hok : GOk g) : ACall Tryz.prog 39 [.agg (grR g)] [] (fun r h' => h' = [] ∧ r = .list false 1 (ldR g)) := by
  refine acall_of_aw Tryz.func39 rfl rfl rfl ?_
  have hn0 := hok.n0
  have hn1 := hok.n1
  have hmany := hok.many
  have hng : nG g ≤ 300 := by unfold nG; omega
  have hnn : ((nG g : Nat) : Int) = g.n := by unfold nG; omega
  refine rn ?_
  refine aops_e rfl (oe_box rfl rfl rfl fun b1 => ?_)
  refine q1 ?_
  refine aops_nil (thn_n ?_)
  refine aw_seq (aw_region ?_)
  refine q1 ?_
  refine aops_nil (thn_n ?_)
  refine aw_seq ?_
  refine aw_seq (aw_region ?_)
  refine q1 ?_
  refine qq rfl rfl (qr_as (qr_load_one rfl rfl) (show iv _ = iv ((nG g : Nat) : Int) from congrArg iv hnn.symm)) ?_
  refine rn ?_
  refine aw_rng1 (nG g) (fun k s => ⟨[(7, iv k), (3, .v s.v), (1, .v (.pointer (some ⟨b1, 0, none⟩))), (6, iv (nG g : Nat))], .row s.v 1 72 (ldRK g k) :: .box b1 24 (grR g) :: [], []⟩) ⟨none, 0, 0⟩ (ent_trans (ent_nilrow 1 72) es) ?_
  intro k s lk
  refine rn ?_
  refine aw_cond rfl (fun hc8 => ?_) (fun hc8 => ?_)
  · have hkk : k < nG g := by have q := of_decide_eq_true hc8; omega
    refine rn ?_
    refine qv rfl rfl (qv_call rfl rfl (FCall.pure (R := fun x => x = .list false 1 (rwB (nG g) (ldB (adjG g) k))) (FCall.of_fun (refLeads g hok k hkk)))) ?_
    refine qv rfl rfl (qv_buildSlice rfl rfl) ?_
    refine aops_e rfl (oe_append_row rfl rfl (by rw [ldRK_len]; simp only [List.length_cons, List.length_nil]; omega) rfl (fun s27 => ?_) (fun r hr => by rw [List.mem_singleton.1 hr]; rfl))
    refine aops_slice s27 fun sv hsv => ?_
    subst hsv
    refine rn ?_
    exact ⟨hkk, sv, by rw [ldRK_s]; exact eA⟩
  · have qk : k = nG g := by have q := of_decide_eq_false hc8; omega
    refine rn ?_
    exact retq (.cons _ _ _ _ (.tmp _ _ rfl) .nil) (.trans vent_freeze (.drop [_] _ _)) ⟨rfl, by rw [qk]; rfl⟩
set_option maxHeartbeats 4000000 in
theorem refSets6 (g : Gr) (hok : GOk g) : ACall Tryz.prog 13 [.agg (grR g)] [] (fun r h' => h' = [] ∧ r = setsA g) := by
  refine acall_of_aw Tryz.func13 rfl rfl rfl ?_
  have hn0 := hok.n0
  have hn1 := hok.n1
  have hmany := hok.many
  have hng : nG g ≤ 300 := by unfold nG; omega
  have hnn : ((nG g : Nat) : Int) = g.n := by unfold nG; omega
  refine rn ?_
  refine aops_e rfl (oe_box rfl rfl rfl fun b1 => ?_)
  refine rn ?_
  refine qv rfl rfl (qv_call rfl rfl (pcall (refAll6 g hok) (Sbs.refl _))) ?_
  refine q1 ?_
  refine aops_nil (thn_n ?_)
  refine aw_seq ?_
  refine aw_seq (aw_region ?_)
  refine q1 ?_
  refine qq rfl rfl (qr_as (qr_load_one rfl rfl) (show iv _ = iv ((nG g : Nat) : Int) from congrArg iv hnn.symm)) ?_
  refine rn ?_
  refine aw_rng1 (nG g) (fun k s => ⟨[(13, iv k), (3, .v s.v), (1, .v (.pointer (some ⟨b1, 0, none⟩))), (4, .list false 1 (ldR g)), (12, iv (nG g : Nat))], .row s.v 1 27 (setK g k) :: .box b1 24 (grR g) :: [], []⟩) ⟨none, 0, 0⟩ (ent_trans (ent_nilrow 1 27) es) ?_
  intro k s lk
  refine rn ?_
  refine aw_cond rfl (fun hc14 => ?_) (fun hc14 => ?_)
  · have hkk : k < nG g := by have q := of_decide_eq_true hc14; omega
    refine aw_skip ?_
    refine thn_n ?_
    refine aw_seq ?_
    refine aw_block ?_
    refine aw_seq (aw_region ?_)
    refine q1 ?_
    refine q1 ?_
    refine aops_nil (thn_n ?_)
    refine aw_seq (aw_region ?_)
    refine q1 ?_
    refine aops_nil (thn_n ?_)
    refine aw_seq (aw_region ?_)
    refine q1 ?_
    refine aops_nil (thn_n ?_)
    refine aw_seq ?_
    refine aw_seq (aw_region ?_)
    refine q1 ?_
    refine qq rfl rfl (qr_as (qr_load_one rfl rfl) (show iv _ = iv ((nG g : Nat) : Int) from congrArg iv hnn.symm)) ?_
    refine rn ?_
    refine aw_rng1 (nG g) (fun j t => ⟨[(18, iv j), (6, .v t.v), (7, bv (lstK g k j)), (1, .v (.pointer (some ⟨b1, 0, none⟩))), (3, .v s.v), (4, .list false 1 (ldR g)), (5, iv k), (12, iv (nG g : Nat)), (13, iv k), (17, iv (nG g : Nat))], .row t.v 1 3 ((togK g k j).map natR) :: .row s.v 1 27 (setK g k) :: .box b1 24 (grR g) :: [], []⟩) ⟨none, 0, 0⟩ (ent_trans (ent_nilrow 1 3) es) ?_
    intro j t lj
    refine rn ?_
    refine aw_cond rfl (fun hc19 => ?_) (fun hc19 => ?_)
    · have hkj : j < nG g := by have q := of_decide_eq_true hc19; omega
      refine rn ?_
      refine asplit (fun hg11_3 => ?_) (fun hg11_3 => ?_)
      · refine rn ?_
        refine aw_ct rfl ?_
        have htg : togB (adjG g) k j = true := by unfold togB; first | (simp_all; done) | (simp_all; omega)
        have htl := togK_len g k j
        refine rn ?_
        refine qv rfl rfl (qv_buildSlice rfl rfl) ?_
        refine aops_e rfl (oe_append_row rfl rfl (by simp only [List.length_map, List.length_append, List.length_cons, List.length_nil]; omega) rfl (fun s27 => ?_) (fun r hr => by rw [List.mem_singleton.1 hr]; rfl))
        refine aops_slice s27 fun tv hsv => ?_
        subst hsv
        refine rn ?_
        refine asplit (fun hg13_1 => ?_) (fun hg13_1 => ?_)
        · refine q1 ?_
          refine q1 ?_
          refine q1 ?_
          refine q1 ?_
          refine qq rfl rfl (qr_as (qr_assign rfl) (show _ = bv (lstK g k (j + 1)) from by rw [lstK_y htg]; first | (simp_all; done) | (simp_all; omega))) ?_
          refine rn ?_
          first | exact ⟨hkj, tv, by rw [togK_y htg, List.map_append]; exact eA⟩ | exact ⟨hkj, t, by rw [togK_n htg, lstK_n htg]; exact eA⟩
        · refine qs rfl rfl ?_
          refine qs rfl rfl ?_
          refine qs rfl rfl ?_
          refine q1 ?_
          refine qq rfl rfl (qr_as (qr_assign rfl) (show _ = bv (lstK g k (j + 1)) from by rw [lstK_y htg]; first | (simp_all; done) | (simp_all; omega))) ?_
          refine rn ?_
          first | exact ⟨hkj, tv, by rw [togK_y htg, List.map_append]; exact eA⟩ | exact ⟨hkj, t, by rw [togK_n htg, lstK_n htg]; exact eA⟩
      · refine q1 ?_
        refine q1 ?_
        refine qq rfl rfl (qr_index_list (i := k) rfl rfl (ldR_at hkk)) ?_
        refine q1 ?_
        refine q1 ?_
        refine qq rfl rfl (qr_index_list (i := j) rfl rfl (rwB_at _ hkj)) ?_
        refine rn ?_
        refine asplit (fun hg11_11 => ?_) (fun hg11_11 => ?_)
        · refine q1 ?_
          refine q1 ?_
          refine qq rfl rfl (qr_index_list (i := j) rfl rfl (ldR_at hkj)) ?_
          refine q1 ?_
          refine q1 ?_
          refine qq rfl rfl (qr_index_list (i := k) rfl rfl (rwB_at _ hkk)) ?_
          refine rn ?_
          refine aw_cond rfl (fun hc41 => ?_) (fun hc41 => ?_)
          · have htg : togB (adjG g) k j = true := by unfold togB; first | (simp_all; done) | (simp_all; omega)
            have htl := togK_len g k j
            refine rn ?_
            refine qv rfl rfl (qv_buildSlice rfl rfl) ?_
            refine aops_e rfl (oe_append_row rfl rfl (by simp only [List.length_map, List.length_append, List.length_cons, List.length_nil]; omega) rfl (fun s27 => ?_) (fun r hr => by rw [List.mem_singleton.1 hr]; rfl))
            refine aops_slice s27 fun tv hsv => ?_
            subst hsv
            refine rn ?_
            refine asplit (fun hg13_1 => ?_) (fun hg13_1 => ?_)
            · refine q1 ?_
              refine q1 ?_
              refine q1 ?_
              refine q1 ?_
              refine qq rfl rfl (qr_as (qr_assign rfl) (show _ = bv (lstK g k (j + 1)) from by rw [lstK_y htg]; first | (simp_all; done) | (simp_all; omega))) ?_
              refine rn ?_
              first | exact ⟨hkj, tv, by rw [togK_y htg, List.map_append]; exact eA⟩ | exact ⟨hkj, t, by rw [togK_n htg, lstK_n htg]; exact eA⟩
            · refine qs rfl rfl ?_
              refine qs rfl rfl ?_
              refine qs rfl rfl ?_
              refine q1 ?_
              refine qq rfl rfl (qr_as (qr_assign rfl) (show _ = bv (lstK g k (j + 1)) from by rw [lstK_y htg]; first | (simp_all; done) | (simp_all; omega))) ?_
              refine rn ?_
              first | exact ⟨hkj, tv, by rw [togK_y htg, List.map_append]; exact eA⟩ | exact ⟨hkj, t, by rw [togK_n htg, lstK_n htg]; exact eA⟩
          · have htg : togB (adjG g) k j = false := by unfold togB; first | (simp_all; done) | (simp_all; omega)
            refine rn ?_
            first | exact ⟨hkj, tv, by rw [togK_y htg, List.map_append]; exact eA⟩ | exact ⟨hkj, t, by rw [togK_n htg, lstK_n htg]; exact eA⟩
        · refine rn ?_
          refine aw_cf rfl ?_
          have htg : togB (adjG g) k j = false := by unfold togB; first | (simp_all; done) | (simp_all; omega)
          refine rn ?_
          first | exact ⟨hkj, tv, by rw [togK_y htg, List.map_append]; exact eA⟩ | exact ⟨hkj, t, by rw [togK_n htg, lstK_n htg]; exact eA⟩
    · have qj : j = nG g := by have q := of_decide_eq_false hc19; omega
      refine rn ?_
      refine aw_cond rfl (fun hc53 => ?_) (fun hc53 => ?_)
      · have hlv : leastV (nG g) (adjG g) k = true := by rw [← lstK_set, ← qj]; simpa using hc53
        have hsl := setK_len g k
        rw [qj, togK_set, natR_I]
        refine aw_ent (s' := ⟨[(6, intsA (rowI (setN (nG g) (adjG g) k))), (1, .v (.pointer (some ⟨b1, 0, none⟩))), (3, .v s.v), (4, .list false 1 (ldR g)), (12, iv (nG g : Nat)), (13, iv k)], .row s.v 1 27 (setK g k) :: .box b1 24 (grR g) :: [], []⟩) (by exact ent_freeze (by repeat (first | exact .nil | refine .row _ _ rfl ?_ | refine .cons _ _ _ rfl ?_))) ?_
        refine rn ?_
        refine qv rfl rfl (qv_buildSlice rfl rfl) ?_
        refine aops_e rfl (oe_append_row rfl rfl (by simp only [List.length_cons, List.length_nil]; omega) rfl (fun s27 => ?_) (fun r hr => by rw [List.mem_singleton.1 hr]; rfl))
        refine aops_slice s27 fun sv hsv => ?_
        subst hsv
        refine rn ?_
        first | exact ⟨hkk, sv, by rw [setK_y hlv]; exact eA⟩ | exact ⟨hkk, s, by rw [setK_n hlv]; exact ent_trans (ent_drop (h1 := [_])) es⟩
      · have hlv : leastV (nG g) (adjG g) k = false := by rw [← lstK_set, ← qj]; simpa using hc53
        refine rn ?_
        first | exact ⟨hkk, sv, by rw [setK_y hlv]; exact eA⟩ | exact ⟨hkk, s, by rw [setK_n hlv]; exact ent_trans (ent_drop (h1 := [_])) es⟩
  · have qk : k = nG g := by have q := of_decide_eq_false hc14; omega
    refine rn ?_
    exact retq (.cons _ _ _ _ (.tmp _ _ rfl) .nil) (.trans vent_freeze (.drop [_] _ _)) ⟨rfl, by rw [qk]; rfl⟩
end Go.Proofs
/- The walks of the reference 06's Of, Round, Inner, Fold. Conditions: none. -/
set_option linter.unusedVariables false
set_option linter.unusedSimpArgs false
set_option maxRecDepth 10000
namespace Go.Proofs
open Go Go.Ab
attribute [local irreducible] QR QV OE aops aw dsoup dsoupM dalloc dallocM thn inBlk jsoup jch lsoup
open Go.H
set_option maxHeartbeats 4000000 in
theorem refOf6 (g : Gr) (hok : GOk g) : ACall Tryz.prog 12 [.agg (grR g)] [] (fun r h' => h' = [] ∧ r = intsA (rowI (ofGL g))) := by
  refine acall_of_aw Tryz.func12 rfl rfl rfl ?_
  have hn0 := hok.n0
  have hn1 := hok.n1
  have hmany := hok.many
  have hng : nG g ≤ 300 := by unfold nG; omega
  have hnn : ((nG g : Nat) : Int) = g.n := by unfold nG; omega
  have hsl := sets_le g
  refine rn ?_
  refine aops_e rfl (oe_box rfl rfl rfl fun b1 => ?_)
  refine q1 ?_
  refine aops_nil (thn_n ?_)
  refine aw_seq (aw_region ?_)
  refine q1 ?_
  refine qq rfl rfl (qr_as (qr_load_one rfl rfl) (show iv _ = iv ((nG g : Nat) : Int) from congrArg iv hnn.symm)) ?_
  refine aops_e rfl (oe_makeSlice rfl rfl rfl (by omega) (hk := fun bm => ?_))
  refine aops_slice (.slice (some ⟨bm, 0, none⟩) (nG g) (nG g)) fun so hso => ?_
  rw [hso]
  clear hso
  rw [rwI_zero, ← ofGK_0 g]
  refine rn ?_
  refine qv rfl rfl (qv_call rfl rfl (FCall.pure (R := fun x => x = setsA g) (FCall.of_fun (refSets6 g hok)))) ?_
  refine rn ?_
  refine aw_range (setsG g).length (fun _ => True) (fun k => ⟨[(14, iv k), (3, .v so.v), (12, setsA g), (13, iv (((setsG g).map rowI).map lisR).length)], .row so.v 1 3 (rwI (nG g) (ofGK g (((setsG g).take k).flatten))) :: .box b1 24 (grR g) :: [], []⟩) trivial es ?_
  intro k lk _
  refine rn ?_
  refine aw_cond rfl (fun hc15 => ?_) (fun hc15 => ?_)
  · have hk : k < (setsG g).length := by have q := of_decide_eq_true hc15; rw [setsR_len] at q; omega
    have hCl := set_le (List.getElem_mem hk)
    refine aw_skip ?_
    refine thn_n ?_
    refine aw_seq ?_
    refine aw_block ?_
    refine aw_seq (aw_region ?_)
    refine q1 ?_
    refine qq rfl rfl (qr_index_list (i := k) rfl rfl (sets_row hk)) ?_
    refine rn ?_
    rw [show ((setsG g).take k).flatten = ((setsG g).take k).flatten ++ (setsG g)[k].take 0 by rw [List.take_zero, List.append_nil]]
    refine aw_range (setsG g)[k].length (fun _ => True) (fun j => ⟨[(21, iv j), (3, .v so.v), (4, iv k), (12, setsA g), (13, iv (((setsG g).map rowI).map lisR).length), (14, iv k), (19, intsA (rowI (setsG g)[k])), (20, iv ((rowI (setsG g)[k]).map intR).length)], .row so.v 1 3 (rwI (nG g) (ofGK g (((setsG g).take k).flatten ++ (setsG g)[k].take j))) :: .box b1 24 (grR g) :: [], []⟩) trivial es ?_
    intro j lj _
    refine rn ?_
    refine aw_cond rfl (fun hc22 => ?_) (fun hc22 => ?_)
    · have hj : j < (setsG g)[k].length := by have q := of_decide_eq_true hc22; rw [rowI_len] at q; omega
      have hvn : (setsG g)[k][j] < nG g := set_in (List.getElem_mem hk) (List.getElem_mem hj)
      refine aw_skip ?_
      refine thn_n ?_
      refine aw_seq ?_
      refine aw_block ?_
      refine aw_seq (aw_region ?_)
      refine qq rfl rfl (qr_index_list (i := j) rfl rfl (rowI_at hj)) ?_
      refine q1 ?_
      refine q1 ?_
      refine aops_nil (thn_n ?_)
      refine aw_region ?_
      refine q1 ?_
      refine q1 ?_
      refine q1 ?_
      refine qq rfl rfl (qr_index_row (k := (setsG g)[k][j]) rfl rfl (by rw [rwI_len]; exact hvn)) ?_
      refine aops_e rfl (oe_store_rp (k := (setsG g)[k][j]) rfl rfl rfl (rwI_at _ hvn) rfl (Nat.le_of_ble_eq_true rfl) ?_)
      rw [st1, rwI_set, ofGK_s hk hj]
      refine rn ?_
      exact ⟨hj, trivial, by rw [List.take_succ_eq_append_getElem hj, ← List.append_assoc]; exact eA⟩
    · have qj : j = (setsG g)[k].length := by have q := of_decide_eq_false hc22; rw [rowI_len] at q; omega
      refine rn ?_
      exact ⟨hk, trivial, by rw [List.take_succ_eq_append_getElem hk, List.flatten_append, List.flatten_singleton]; rw [qj, List.take_length] at *; exact eA⟩
  · have qk : k = (setsG g).length := by have q := of_decide_eq_false hc15; rw [setsR_len] at q; omega
    refine rn ?_
    exact retq (.cons _ _ _ _ (.tmp _ _ rfl) .nil) (.trans vent_freeze (.drop [_] _ _)) ⟨rfl, by rw [qk, List.take_length, ofGK_all]; rfl⟩
set_option maxHeartbeats 1000000 in
theorem refRound6 (g : Gr) (hok : GOk g) : ACall Tryz.prog 14 [.agg (grR g)] [] (fun r h' => h' = [] ∧ r = intsA (rowI (rndG g))) := by
  refine acall_of_aw Tryz.func14 rfl rfl rfl ?_
  have hn0 := hok.n0
  have hn1 := hok.n1
  have hmany := hok.many
  have hng : nG g ≤ 300 := by unfold nG; omega
  have hnn : ((nG g : Nat) : Int) = g.n := by unfold nG; omega
  refine rn ?_
  refine aops_e rfl (oe_box rfl rfl rfl fun b1 => ?_)
  refine rn ?_
  refine qv rfl rfl (qv_call rfl rfl (FCall.pure (R := fun x => x = .list false 1 (ldR g)) (FCall.of_fun (refAll6 g hok)))) ?_
  refine rn ?_
  refine aw_rng1 (nG g) (fun k s => ⟨[(9, iv k), (3, .v s.v), (7, .list false 1 (ldR g)), (8, iv (ldR g).length)], .row s.v 1 3 ((rndK g k).map natR) :: .box b1 24 (grR g) :: [], []⟩) ⟨none, 0, 0⟩ (ent_trans (ent_nilrow 1 3) es) ?_
  intro k s lk
  refine rn ?_
  refine aw_cond rfl (fun hc10 => ?_) (fun hc10 => ?_)
  · have hkk : k < nG g := by have q := of_decide_eq_true hc10; rw [ldR_len] at q; omega
    refine aw_skip ?_
    refine thn_n ?_
    refine aw_seq ?_
    refine aw_block ?_
    refine aw_seq (aw_region ?_)
    refine q1 ?_
    refine qq rfl rfl (qr_index_list (i := k) rfl rfl (ldR_at hkk)) ?_
    refine q1 ?_
    refine q1 ?_
    refine q1 ?_
    refine aops_nil (thn_n ?_)
    refine aw_seq (aw_region ?_)
    refine q1 ?_
    refine q1 ?_
    refine qq rfl rfl (qr_index_list (i := k) rfl rfl (rwB_at _ hkk)) ?_
    refine rn ?_
    refine aw_cond rfl (fun hc17 => ?_) (fun hc17 => ?_)
    · have hx : ldB (adjG g) k k = true := hc17
      have hrl := rndK_len g k
      refine rn ?_
      refine qv rfl rfl (qv_buildSlice rfl rfl) ?_
      refine aops_e rfl (oe_append_row rfl rfl (by simp only [List.length_map, List.length_append, List.length_cons, List.length_nil]; omega) rfl (fun s27 => ?_) (fun r hr => by rw [List.mem_singleton.1 hr]; rfl))
      refine aops_slice s27 fun sv hsv => ?_
      subst hsv
      refine rn ?_
      first | exact ⟨hkk, sv, by rw [rndK_y hx, List.map_append]; exact eA⟩ | exact ⟨hkk, s, by rw [rndK_n hx]; exact eA⟩
    · have hx : ldB (adjG g) k k = false := hc17
      refine rn ?_
      first | exact ⟨hkk, sv, by rw [rndK_y hx, List.map_append]; exact eA⟩ | exact ⟨hkk, s, by rw [rndK_n hx]; exact eA⟩
  · have qk : k = nG g := by have q := of_decide_eq_false hc10; rw [ldR_len] at q; omega
    refine rn ?_
    exact retq (.cons _ _ _ _ (.tmp _ _ rfl) .nil) (.trans vent_freeze (.drop [_] _ _)) ⟨rfl, by rw [qk, ← natR_rI]; rfl⟩
end Go.Proofs
/- The walks of the reference 04's Has, Of. Conditions: none. -/
set_option linter.unusedVariables false
set_option linter.unusedSimpArgs false
set_option maxRecDepth 10000
namespace Go.Proofs
open Go Go.Ab
attribute [local irreducible] QR QV OE aops aw dsoup dsoupM dalloc dallocM thn inBlk jsoup jch lsoup
open Go.H
abbrev u0 : List AV := [AV.v (.int .u64 0)]
def zerP (l : List Nat) (m i : Nat) : List (List AV) := (List.range m).map fun k => [AV.v (.int .u64 ((if k < i then wrdL l k else 0 : Nat) : Int))]
theorem zerP_len (l : List Nat) (m i : Nat) : (zerP l m i).length = m := by unfold zerP; simp
theorem zerP_0 (l : List Nat) (m : Nat) : List.replicate m u0 = zerP l m 0 := by
  unfold zerP
  apply List.ext_getElem (by simp)
  intro i h1 h2; simp
theorem zerP_at {l : List Nat} {m i k : Nat} (hk : k < m) : (zerP l m i)[k]? = some [AV.v (.int .u64 ((if k < i then wrdL l k else 0 : Nat) : Int))] := by unfold zerP; simp [hk]
theorem zerP_set {l : List Nat} {m i w : Nat} (hw : w = wrdL l i) : (zerP l m i).set i [AV.v (.int .u64 (w : Int))] = zerP l m (i + 1) := by
  subst hw
  unfold zerP
  refine List.ext_getElem (by simp) fun k h1 h2 => ?_
  rw [List.getElem_set]
  simp only [List.getElem_map, List.getElem_range]
  split
  · rename_i e; subst e; rw [if_pos (Nat.lt_succ_self _)]
  · rename_i e
    by_cases q : k < i
    · rw [if_pos q, if_pos (by omega)]
    · rw [if_neg q, if_neg (by omega)]
theorem zerP_end (l : List Nat) : zerP l (lenW l) (lenW l) = wrdsA (wordsL l) := by
  unfold zerP wrdsA wordsL wordsF
  rw [List.map_map]
  refine rng_congr fun k hk => ?_
  rw [if_pos hk]; rfl
def bitP (l : List Nat) (i : Nat) : Nat → Bool := fun k => decide (64 * i + k ∈ l)
def wrdB (l : List Nat) (i b : Nat) : Nat := wrdN (bitP l i) b * 2 ^ (64 - b)
theorem wrdB_0 (l : List Nat) (i : Nat) : wrdB l i 0 = 0 := by unfold wrdB; rw [show wrdN (bitP l i) 0 = 0 from rfl, Nat.zero_mul]
theorem wrdB_64 (l : List Nat) (i : Nat) : wrdB l i 64 = wrdL l i := by unfold wrdB; rw [Nat.sub_self, Nat.pow_zero, Nat.mul_one]; rfl
theorem wrdB_y {l : List Nat} {i b : Nat} (hb : b < 64) (h : 64 * i + b ∈ l) : wrdB l i b / 2 + 9223372036854775808 = wrdB l i (b + 1) := by
  have := wrd_ref (bitP l i) b hb
  rw [if_pos (show bitP l i b = true from decide_eq_true h)] at this
  exact this
theorem wrdB_n {l : List Nat} {i b : Nat} (hb : b < 64) (h : 64 * i + b ∉ l) : wrdB l i b / 2 = wrdB l i (b + 1) := by
  have := wrd_ref (bitP l i) b hb
  rw [if_neg (by rw [show bitP l i b = false from decide_eq_false h]; decide)] at this
  exact this
theorem wrdB_lt (l : List Nat) (i : Nat) {b : Nat} (hb : b ≤ 64) : wrdB l i b < 18446744073709551616 := by
  have h1 := wrdN_lt (bitP l i) b
  have h2 : 2 ^ b * 2 ^ (64 - b) = 18446744073709551616 := by rw [← Nat.pow_add, show b + (64 - b) = 64 by omega]
  rw [← h2]
  exact Nat.mul_lt_mul_of_pos_right h1 (Nat.pow_pos (by decide))
theorem mem_rowI {l : List Nat} {n : Nat} : (n : Int) ∈ rowI l ↔ n ∈ l := by
  unfold rowI
  rw [List.mem_map]
  constructor
  · rintro ⟨a, ha, e⟩
    have : a = n := by omega
    exact this ▸ ha
  · intro h; exact ⟨n, h, rfl⟩
theorem lenW_ts {l : List Nat} {k : Nat} (hk : k < l.length) : lenW (l.take (k + 1)) = max (lenW (l.take k)) (l[k] / 64 + 1) := by rw [List.take_succ_eq_append_getElem hk, lenW_s]
theorem has_s {l : List Int} {n : Int} {k : Nat} (hk : k < l.length) (h1 : ∀ x ∈ l.take k, x ≠ n) (h2 : l[k] ≠ n) : ∀ x ∈ l.take (k + 1), x ≠ n := by
  intro x hx
  rw [List.take_succ_eq_append_getElem hk] at hx
  rcases List.mem_append.1 hx with q | q
  · exact h1 x q
  · rw [List.mem_singleton.1 q]; exact h2
theorem refHas {f : Bool} (l : List Int) (n : Int) (hl : l.length ≤ 4611686018427387904) : ACall Tryz.prog 41 [.list f 1 (l.map intR), iv n] [] (fun r h' => h' = [] ∧ r = bv (decide (n ∈ l))) := by
  refine acall_of_aw Tryz.func41 rfl rfl rfl ?_
  refine rn ?_
  refine aw_range l.length (fun k => ∀ x ∈ l.take k, x ≠ n) (fun k => ⟨[(9, iv k), (1, iv n), (7, .list f 1 (l.map intR)), (8, iv (l.map intR).length)], [], []⟩) (fun x hx => absurd hx (by simp)) es ?_
  intro k lk zk
  refine rn ?_
  refine aw_cond rfl (fun hc10 => ?_) (fun hc10 => ?_)
  · have hk : k < l.length := by have q := of_decide_eq_true hc10; rw [List.length_map] at q; omega
    refine aw_skip ?_
    refine thn_n ?_
    refine aw_seq ?_
    refine aw_block ?_
    refine aw_seq (aw_region ?_)
    refine qq rfl rfl (qr_index_list (i := k) rfl rfl (atRow (f := intR) hk)) ?_
    refine rn ?_
    refine aw_cond rfl (fun hc15 => ?_) (fun hc15 => ?_)
    · have hx : l[k] = n := of_decide_eq_true hc15
      refine rn ?_
      refine rq 0 ?_
      exact ⟨rfl, congrArg bv (decide_eq_true (by rw [← hx]; exact List.getElem_mem hk)).symm⟩
    · have hx : l[k] ≠ n := of_decide_eq_false hc15
      refine rn ?_
      exact ⟨hk, has_s hk zk hx, eA⟩
  · have qk : k = l.length := by have q := of_decide_eq_false hc10; rw [List.length_map] at q; omega
    refine rn ?_
    refine rq 0 ?_
    exact ⟨rfl, congrArg bv (decide_eq_false (fun q => zk n (by rw [qk, List.take_length]; exact q) rfl)).symm⟩
set_option maxHeartbeats 4000000 in
theorem refBitsOf {f : Bool} (l : List Nat) (hm : ∀ x ∈ l, x < 640) (hl : l.length ≤ 1000000000) : ACall Tryz.prog 18 [.list f 1 ((rowI l).map intR)] [] (fun r h' => h' = [] ∧ r = .agg [wordsA (wordsL l)]) := by
  refine acall_of_aw Tryz.func18 rfl rfl rfl ?_
  refine rn ?_
  refine aops_e rfl (oe_alloc rfl fun b2 => ?_)
  refine rn ?_
  refine aops_e rfl (oe_alloc rfl fun b3 => ?_)
  refine rn ?_
  refine aw_rng1 l.length (fun k s => ⟨[(11, iv k), (0, .list f 1 ((rowI l).map intR)), (2, .v (.pointer (some ⟨b2, 0, none⟩))), (3, .v (.pointer (some ⟨b3, 0, none⟩))), (9, .list f 1 ((rowI l).map intR)), (10, iv ((rowI l).map intR).length)], .box b3 38 [.v s.v] :: .row s.v 1 74 (List.replicate (lenW (l.take k)) u0) :: .box b2 38 [.v (.slice none 0 0)] :: [], []⟩) ⟨none, 0, 0⟩ (ent_trans (ent_nilrow 1 74) (ent_trans (ent_perm (pt1 _ _ _)) es)) ?_
  intro k s lk
  refine rn ?_
  refine aw_cond rfl (fun hc12 => ?_) (fun hc12 => ?_)
  · have hk : k < l.length := by have q := of_decide_eq_true hc12; rw [rowI_len] at q; omega
    have hlk := hm l[k] (List.getElem_mem hk)
    have hts := lenW_ts hk
    have hm1 : lenW (l.take (k + 1)) ≤ 1000 := lenW_le.2 fun n hn => by have := hm n (List.mem_of_mem_take hn); omega
    refine aw_skip ?_
    refine thn_n ?_
    refine aw_seq ?_
    refine aw_block ?_
    refine aw_seq (aw_region ?_)
    refine qq rfl rfl (qr_index_list (i := k) rfl rfl (rowI_at hk)) ?_
    refine rn ?_
    refine aw_while (fun x : Nat × SV => lenW (l.take k) ≤ x.1 ∧ x.1 ≤ lenW (l.take (k + 1))) (fun x => ⟨[(0, .list f 1 ((rowI l).map intR)), (2, .v (.pointer (some ⟨b2, 0, none⟩))), (3, .v (.pointer (some ⟨b3, 0, none⟩))), (5, iv (l[k] : Nat)), (9, .list f 1 ((rowI l).map intR)), (10, iv ((rowI l).map intR).length), (11, iv k)], .box b3 38 [.v x.2.v] :: .row x.2.v 1 74 (List.replicate x.1 u0) :: .box b2 38 [.v (.slice none 0 0)] :: [], []⟩) (fun x => lenW (l.take (k + 1)) - x.1) (lenW (l.take k), s) ⟨Nat.le_refl _, by simp only; omega⟩ es ?_
    rintro ⟨m, s⟩ ⟨h1, h2⟩
    simp only at h1 h2
    show aw _ _ _ _ _ ⟨[(0, .list f 1 ((rowI l).map intR)), (2, .v (.pointer (some ⟨b2, 0, none⟩))), (3, .v (.pointer (some ⟨b3, 0, none⟩))), (5, iv (l[k] : Nat)), (9, .list f 1 ((rowI l).map intR)), (10, iv ((rowI l).map intR).length), (11, iv k)], .box b3 38 [.v s.v] :: .row s.v 1 74 (List.replicate m u0) :: .box b2 38 [.v (.slice none 0 0)] :: [], []⟩
    refine aw_seq ?_
    refine aw_seq (aw_region ?_)
    refine q1 ?_
    refine q1 ?_
    refine qq rfl rfl (qr_as (qr_len_row rfl) (show iv _ = iv ((m : Nat) : Int) from congrArg iv (by rw [List.length_replicate]))) ?_
    refine q1 ?_
    refine qq rfl rfl (qr_quo (c := ((l[k] / 64 : Nat) : Int)) rfl rfl (by decide) rfl (by omega)) ?_
    refine rn ?_
    refine aw_cond rfl (fun hc20 => ?_) (fun hc20 => ?_)
    · have hlt : m ≤ l[k] / 64 := by have q := of_decide_eq_true hc20; omega
      refine rn ?_
      refine qv rfl rfl (qv_buildSlice rfl rfl) ?_
      refine aops_e rfl (oe_append_row rfl rfl (by simp only [List.length_replicate, List.length_cons, List.length_nil]; omega) rfl (fun s27 => ?_) (fun r hr => by rw [List.mem_singleton.1 hr]; rfl))
      refine aops_slice s27 fun sv hsv => ?_
      subst hsv
      refine rn ?_
      exact ⟨(m + 1, sv), ⟨by simp only; omega, by simp only; omega⟩, by simp only [List.replicate_succ']; exact eA, by simp only; omega⟩
    · have hge : m = lenW (l.take (k + 1)) := by have q := of_decide_eq_false hc20; omega
      refine rn ?_
      exact ⟨hk, s, by rw [← hge]; exact eA⟩
  · have qk : k = l.length := by have q := of_decide_eq_false hc12; rw [rowI_len] at q; omega
    refine aw_exit ?_
    refine rn0 ?_
    refine aw_seq ?_
    refine aw_seq ?_
    rw [qk, List.take_length, zerP_0 l]
    have hmm : lenW l ≤ 1000 := lenW_le.2 fun n hn => by have := hm n hn; omega
    refine aw_region ?_
    refine q1 ?_
    refine q1 ?_
    refine qq rfl rfl (qr_as (qr_len_row rfl) (show iv _ = iv ((lenW l : Nat) : Int) from congrArg iv (by rw [zerP_len]))) ?_
    refine rn ?_
    refine aw_range (lenW l) (fun _ => True) (fun i => ⟨[(30, iv i), (0, .list f 1 ((rowI l).map intR)), (2, .v (.pointer (some ⟨b2, 0, none⟩))), (3, .v (.pointer (some ⟨b3, 0, none⟩))), (29, iv (lenW l : Nat))], .box b3 38 [.v s.v] :: .row s.v 1 74 (zerP l (lenW l) i) :: .box b2 38 [.v (.slice none 0 0)] :: [], []⟩) trivial es ?_
    intro i li _
    refine rn ?_
    refine aw_cond rfl (fun hc31 => ?_) (fun hc31 => ?_)
    · have hki : i < lenW l := by have q := of_decide_eq_true hc31; omega
      refine rn ?_
      rw [show (AV.v (.int .u64 0) : AV) = .v (.int .u64 ((wrdB l i 0 : Nat) : Int)) by rw [wrdB_0]; rfl]
      refine aw_range 64 (fun _ => True) (fun b => ⟨[(33, iv b), (7, .v (.int .u64 ((wrdB l i b : Nat) : Int))), (0, .list f 1 ((rowI l).map intR)), (2, .v (.pointer (some ⟨b2, 0, none⟩))), (3, .v (.pointer (some ⟨b3, 0, none⟩))), (6, iv i), (29, iv (lenW l : Nat)), (30, iv i)], .box b3 38 [.v s.v] :: .row s.v 1 74 (zerP l (lenW l) i) :: .box b2 38 [.v (.slice none 0 0)] :: [], []⟩) trivial es ?_
      intro b lb _
      refine rn ?_
      refine aw_cond rfl (fun hc34 => ?_) (fun hc34 => ?_)
      · have hb : b < 64 := by have q := of_decide_eq_true hc34; omega
        have hwb := wrdB_lt l i (Nat.le_of_lt hb)
        refine aw_skip ?_
        refine thn_n ?_
        refine aw_seq ?_
        refine aw_block ?_
        refine aw_seq (aw_region ?_)
        refine q1 ?_
        refine q1 ?_
        refine aops_nil (thn_n ?_)
        refine aw_seq (aw_region ?_)
        refine q1 ?_
        refine qq rfl rfl (qr_quoU (a := wrdB l i b) (b := 2) rfl rfl (by decide) hwb) ?_
        refine q1 ?_
        refine aops_nil (thn_n ?_)
        refine aw_seq (aw_region ?_)
        refine q1 ?_
        refine q1 ?_
        refine qq rfl rfl (qr_as (qr_ari rfl rfl rfl (by omega)) (show iv _ = iv ((64 * i : Nat) : Int) from congrArg iv (by omega))) ?_
        refine q1 ?_
        refine qq rfl rfl (qr_as (qr_ari rfl rfl rfl (by omega)) (show iv _ = iv ((64 * i + b : Nat) : Int) from congrArg iv (by omega))) ?_
        refine qv rfl rfl (qv_call rfl rfl (FCall.pure (R := fun x => x = bv (decide (64 * i + b ∈ l))) ((FCall.of_fun (refHas (f := f) (rowI l) ((64 * i + b : Nat) : Int) (by unfold rowI; rw [List.length_map]; omega))).mono fun _ _ q => ⟨q.1, by rw [q.2]; exact congrArg bv (by rw [Bool.eq_iff_iff, decide_eq_true_iff, decide_eq_true_iff]; exact mem_rowI)⟩))) ?_
        refine rn ?_
        refine aw_cond rfl (fun hc43 => ?_) (fun hc43 => ?_)
        · have hin : 64 * i + b ∈ l := of_decide_eq_true hc43
          have hwy := wrdB_y hb hin
          have hwl := wrdB_lt l i (show b + 1 ≤ 64 from hb)
          refine aw_region ?_
          refine q1 ?_
          refine qq rfl rfl (qr_as (qr_bits rfl rfl (u_add (wrdB l i b / 2) 9223372036854775808)) (show AV.v (.int .u64 _) = .v (.int .u64 ((wrdB l i (b + 1) : Nat) : Int)) from by rw [hwy, Nat.mod_eq_of_lt hwl])) ?_
          refine rn ?_
          exact ⟨hb, trivial, eA⟩
        · have hin : 64 * i + b ∉ l := of_decide_eq_false hc43
          have hwy := wrdB_n hb hin
          rw [hwy]
          refine rn ?_
          exact ⟨hb, trivial, eA⟩
      · have qb : b = 64 := by have q := of_decide_eq_false hc34; omega
        refine aw_exit ?_
        refine thn_e ?_
        refine thn_e ?_
        refine inBlk_hit ?_
        refine thn_n ?_
        refine aw_region ?_
        refine q1 ?_
        refine q1 ?_
        refine q1 ?_
        refine q1 ?_
        refine qq rfl rfl (qr_index_row (k := i) rfl rfl (by rw [zerP_len]; exact hki)) ?_
        refine aops_e rfl (oe_store_rp (k := i) rfl rfl rfl (zerP_at hki) rfl (Nat.le_of_ble_eq_true rfl) ?_)
        rw [st1, zerP_set (by rw [qb, wrdB_64])]
        refine rn ?_
        exact ⟨hki, trivial, eA⟩
    · have qi : i = lenW l := by have q := of_decide_eq_false hc31; omega
      refine rn ?_
      exact retq (.cons _ _ _ _ (.agg _ _ _ _ _ _ _ rfl inferInstance inferInstance inferInstance rfl) .nil) (.trans (.perm (pt1 _ _ _) _) (.trans (vent_freeze_cell [] []) (.drop [_, _] _ _))) ⟨rfl, by rw [qi, zerP_end]; rfl⟩
end Go.Proofs
/- The walks of the reference 04's Same, of law 06's equal, own. Conditions: none. -/
set_option linter.unusedVariables false
set_option linter.unusedSimpArgs false
set_option maxRecDepth 10000
namespace Go.Proofs
open Go Go.Ab
attribute [local irreducible] QR QV OE aops aw dsoup dsoupM dalloc dallocM thn inBlk jsoup jch lsoup
open Go.H
theorem wrdsA_at2 {l : List Nat} {k : Nat} (hk : k < l.length) : (wrdsA l)[k]? = some [AV.v (.int .u64 ((l[k] : Nat) : Int))] := by
  unfold wrdsA; rw [List.getElem?_map, List.getElem?_eq_getElem hk]; rfl
theorem wrdsA_len2 (l : List Nat) : (wrdsA l).length = l.length := List.length_map ..
theorem ed_take (l : List Ed) (n : Nat) : (l.map edR).take (min (l.map edR).length n) = (l.take n).map edR := by
  rw [List.length_map, List.map_take]
  by_cases h : l.length ≤ n
  · rw [Nat.min_eq_left h, List.take_of_length_le (by simp), List.take_of_length_le (by simpa using h)]
  · rw [Nat.min_eq_right (by omega)]
def ownG (n : Nat) (g : Gr) : Gr := ⟨g.n, g.es.take n⟩
theorem ownG_len (n : Nat) (g : Gr) : (ownG n g).es.length ≤ n := by unfold ownG; rw [List.length_take]; exact Nat.min_le_left _ _
theorem lis_eq {l m : List (List Int)} (hle : l.length = m.length) (h : ∀ i, (hi : i < l.length) → l[i] = m[i]'(by omega)) : l = m := List.ext_getElem hle fun i h1 _ => h i h1
theorem sm_cyc : decide (0 < cntW (wordsL (rndO smallG))) = true := by
  rw [rndO_y (chkE_0.2 small_ok), ← grp_words small_ok, small_words]; decide
theorem sm_of : ofO smallG = [0, 1, 1, 2] := by rw [ofO_y (chkE_0.2 small_ok), small_of]; rfl
theorem sm_fold : foldO smallG = ⟨3, [⟨0, 1, 0⟩, ⟨2, 0, 0⟩]⟩ := by rw [foldO_y (chkE_0.2 small_ok), small_fold]
theorem sm_chk : chkE smallG = 0 := chkE_0.2 small_ok
def negG : Gr := ⟨-1, []⟩
theorem neg_chk : chkE negG = 150 := by decide
theorem neg_of : ofO negG = [] := ofO_n (by rw [neg_chk]; decide)
set_option maxHeartbeats 1000000 in
theorem refSameB (a b : List Nat) (ha : a.length ≤ 1000000) : ACall Tryz.prog 17 [.agg [.list false 1 (wrdsA a)], .agg [.list false 1 (wrdsA b)]] [] (fun r h' => h' = [] ∧ r = bv (decide (a = b))) := by
  refine acall_of_aw Tryz.func17 rfl rfl rfl ?_
  refine rn ?_
  refine aops_e rfl (oe_box rfl rfl rfl fun b2 => ?_)
  refine aops_e rfl (oe_box rfl rfl rfl fun b3 => ?_)
  refine rn ?_
  refine aw_cond rfl (fun hc13 => ?_) (fun hc13 => ?_)
  · have hne : a.length ≠ b.length := by have q := hc13; rw [wrdsA_len2, wrdsA_len2] at q; simp at q; omega
    refine rn ?_
    refine rq 2 ?_
    exact ⟨rfl, congrArg bv (decide_eq_false (fun q => hne (by rw [q]))).symm⟩
  · have hle : a.length = b.length := by have q := hc13; rw [wrdsA_len2, wrdsA_len2] at q; simp at q; omega
    refine rn ?_
    refine aw_range a.length (fun k => ∀ i, (hi : i < k) → (hl : i < a.length) → a[i] = b[i]'(by omega)) (fun k => ⟨[(17, iv k), (3, .v (.pointer (some ⟨b3, 0, none⟩))), (15, .list false 1 (wrdsA a)), (16, iv (wrdsA a).length)], .box b3 38 [.list false 1 (wrdsA b)] :: .box b2 38 [.list false 1 (wrdsA a)] :: [], []⟩) (fun i hi _ => absurd hi (Nat.not_lt_zero _)) es ?_
    intro k lk zk
    refine rn ?_
    refine aw_cond rfl (fun hc18 => ?_) (fun hc18 => ?_)
    · have hk : k < a.length := by have q := of_decide_eq_true hc18; rw [wrdsA_len2] at q; omega
      refine aw_skip ?_
      refine thn_n ?_
      refine aw_seq ?_
      refine aw_block ?_
      refine aw_seq (aw_region ?_)
      refine q1 ?_
      refine qq rfl rfl (qr_index_list (i := k) rfl rfl (wrdsA_at2 hk)) ?_
      refine q1 ?_
      refine q1 ?_
      refine q1 ?_
      refine aops_nil (thn_n ?_)
      refine aw_seq (aw_region ?_)
      refine q1 ?_
      refine q1 ?_
      refine q1 ?_
      refine q1 ?_
      refine qq rfl rfl (qr_index_list (i := k) rfl rfl (wrdsA_at2 (show k < b.length by omega))) ?_
      refine rn ?_
      refine aw_cond rfl (fun hc28 => ?_) (fun hc28 => ?_)
      · have hx : a[k] ≠ b[k]'(by omega) := by have q := hc28; simp at q; omega
        refine rn ?_
        refine rq 2 ?_
        exact ⟨rfl, congrArg bv (decide_eq_false (fun q => hx (by subst q; rfl))).symm⟩
      · have hx : a[k] = b[k]'(by omega) := by have q := hc28; simp at q; omega
        refine rn ?_
        exact ⟨hk, fun i hi hl => (Nat.lt_succ_iff_lt_or_eq.1 hi).elim (fun q => zk i q hl) (fun q => by subst q; exact hx), eA⟩
    · have qk : k = a.length := by have q := of_decide_eq_false hc18; rw [wrdsA_len2] at q; omega
      refine rn ?_
      refine rq 2 ?_
      exact ⟨rfl, congrArg bv (decide_eq_true (List.ext_getElem hle fun i h1 h2 => zk i (by omega) h1)).symm⟩
set_option maxHeartbeats 1000000 in
theorem equalFuncLis {f g : Bool} (l m : List (List Int)) (fv : AV) (hp : ∀ x y, x ∈ l → y ∈ m → FCall Tryz.prog fv [intsA x, intsA y] [] (fun r h' => h' = [] ∧ r = bv (decide (x = y)))) (hl : l.length ≤ 4611686018427387904) (hm : m.length ≤ 4611686018427387904) : ACall Tryz.prog 40 [.list f 1 (l.map lisR), .list g 1 (m.map lisR), fv] [] (fun r h' => h' = [] ∧ r = bv (decide (l = m))) := by
  refine acall_of_aw Tryz.func40 rfl rfl rfl ?_
  refine rn ?_
  refine aw_cond rfl (fun hc14 => ?_) (fun hc14 => ?_)
  · have hne : l.length ≠ m.length := by have q := hc14; rw [List.length_map, List.length_map] at q; simp at q; omega
    refine rn ?_
    refine rq 0 ?_
    exact ⟨rfl, congrArg bv (decide_eq_false (fun q => hne (by rw [q]))).symm⟩
  · have hle : l.length = m.length := by have q := hc14; rw [List.length_map, List.length_map] at q; simp at q; omega
    refine rn ?_
    refine aw_range l.length (fun k => ∀ i, (hi : i < k) → (hl : i < l.length) → l[i] = m[i]'(by omega)) (fun k => ⟨[(17, iv k), (1, .list g 1 (m.map lisR)), (2, fv), (15, .list f 1 (l.map lisR)), (16, iv (l.map lisR).length)], [], []⟩) (fun i hi _ => absurd hi (Nat.not_lt_zero _)) es ?_
    intro k lk zk
    refine rn ?_
    refine aw_cond rfl (fun hc18 => ?_) (fun hc18 => ?_)
    · have hk : k < l.length := by have q := of_decide_eq_true hc18; rw [List.length_map] at q; omega
      refine aw_skip ?_
      refine thn_n ?_
      refine aw_seq ?_
      refine aw_block ?_
      refine aw_seq (aw_region ?_)
      refine q1 ?_
      refine qq rfl rfl (qr_index_list (i := k) rfl rfl (atRow (f := lisR) hk)) ?_
      refine q1 ?_
      refine q1 ?_
      refine q1 ?_
      refine aops_nil (thn_n ?_)
      refine aw_seq (aw_region ?_)
      refine q1 ?_
      refine q1 ?_
      refine qq rfl rfl (qr_index_list (i := k) rfl rfl (atRow (f := lisR) (show k < m.length by omega))) ?_
      refine rn ?_
      refine qv rfl rfl (qv_call rfl rfl (FCall.pure (R := fun x => x = bv (decide (l[k] = m[k]'(by omega)))) (hp _ _ (List.getElem_mem hk) (List.getElem_mem _)))) ?_
      refine rn ?_
      refine aw_cond rfl (fun hc30 => ?_) (fun hc30 => ?_)
      · have hx : l[k] ≠ m[k]'(by omega) := by have q := hc30; simpa using q
        refine rn ?_
        refine rq 0 ?_
        exact ⟨rfl, congrArg bv (decide_eq_false (fun q => hx (by subst q; rfl))).symm⟩
      · have hx : l[k] = m[k]'(by omega) := by have q := hc30; simpa using q
        refine rn ?_
        exact ⟨hk, fun i hi hl => (Nat.lt_succ_iff_lt_or_eq.1 hi).elim (fun q => zk i q hl) (fun q => by subst q; exact hx), eA⟩
    · have qk : k = l.length := by have q := of_decide_eq_false hc18; rw [List.length_map] at q; omega
      refine rn ?_
      refine rq 0 ?_
      exact ⟨rfl, congrArg bv (decide_eq_true (lis_eq hle fun i h1 => zk i (by omega) h1)).symm⟩
theorem lawEqual {f g : Bool} (l m : List (List Int)) (hb : ∀ x ∈ l, x.length ≤ 1000000) (hc : ∀ x ∈ m, x.length ≤ 1000000) (hl : l.length ≤ 1000000) (hm : m.length ≤ 1000000) : ACall Tryz.prog 16 [.list f 1 (l.map lisR), .list g 1 (m.map lisR)] [] (fun r h' => h' = [] ∧ r = bv (decide (l = m))) := by
  refine acall_of_aw Tryz.func16 rfl rfl rfl ?_
  refine rn ?_
  refine qv rfl rfl (qv_call rfl rfl (pcall (equalFuncLis l m (.fn (.func 15) [] []) (fun x y hx hy => FCall.of_fun (equalIntD x y (Nat.le_trans (hb x hx) (by decide)) (Nat.le_trans (hc y hy) (by decide)))) (by omega) (by omega)) (Sbs.refl _))) ?_
  refine rn ?_
  refine rq 0 ?_
  exact ⟨rfl, rfl⟩
theorem cloneEd {f : Bool} (rows : List (List AV)) (hl : rows.length ≤ 1099511627776) : ACall Tryz.prog 26 [.list f 3 rows] [] (fun r h' => h' = [] ∧ r = .list false 3 rows) := by
  refine acall_of_aw Tryz.func26 rfl rfl rfl ?_
  refine rn ?_
  refine aops_e rfl (oe_eqnil rfl rfl rfl fun b4 hb4 => ?_)
  refine rn ?_
  refine aw_cond rfl (fun hc4 => ?_) (fun hc4 => ?_)
  · refine rn ?_
    have h0 := hb4 hc4
    subst h0
    exact retq (.cons _ _ _ _ (.tmp _ _ rfl) .nil) (.le (Sb.nil _ _).le) ⟨rfl, rfl⟩
  · refine rn ?_
    refine qv rfl rfl (qv_buildSlice rfl rfl) ?_
    refine rn ?_
    refine qv rfl rfl (qv_append rfl rfl (by simpa using hl)) ?_
    refine rn ?_
    exact retq (.cons _ _ _ _ (.tmp _ _ rfl) .nil) (.refl _ _) ⟨rfl, by rw [List.nil_append]; rfl⟩
theorem lawOwn (g : Gr) (hb : g.es.length ≤ 4611686018427387904) : ACall Tryz.prog 6 [.agg (grR g)] [] (fun r h' => h' = [] ∧ r = .agg (grR (ownG 600 g))) := by
  refine acall_of_aw Tryz.func6 rfl rfl rfl ?_
  refine rn ?_
  refine aops_e rfl (oe_box rfl rfl rfl fun b1 => ?_)
  refine aops_e rfl (oe_alloc rfl fun b2 => ?_)
  refine rn ?_
  refine aw_draw 10 rfl ?_
  refine dq rfl rfl qrA ?_
  refine dq rfl rfl qrA ?_
  refine dq rfl rfl qrA ?_
  refine dq rfl rfl qrA ?_
  refine dq rfl rfl qrA ?_
  refine dq rfl rfl qrA ?_
  refine dq rfl rfl qrA ?_
  refine dq rfl rfl (qr_minN (g.es.map edR).length 600 rfl rfl) ?_
  refine dq rfl rfl (qr_slice_hE (rows' := (g.es.take 600).map edR) rfl rfl (Nat.min_le_left _ _) (ed_take g.es 600)) ?_
  refine dv rfl rfl (by exact qv_call rfl rfl (FCall.pure (R := fun x => x = edsA (g.es.take 600)) (FCall.of_fun (cloneEd ((g.es.take 600).map edR) (by rw [List.length_map, List.length_take]; omega))))) ?_
  refine rn ?_
  exact retq (.cons _ _ _ _ (.agg _ _ _ _ _ _ _ rfl inferInstance inferInstance inferInstance rfl) .nil) (.drop [_, _] _ _) ⟨rfl, rfl⟩
end Go.Proofs
/- The walks of law 06's small, wakes. Conditions: none. -/
set_option linter.unusedVariables false
set_option linter.unusedSimpArgs false
set_option maxRecDepth 10000
namespace Go.Proofs
open Go Go.Ab
attribute [local irreducible] QR QV OE aops aw dsoup dsoupM dalloc dallocM thn inBlk jsoup jch lsoup
open Go.H
theorem lawSmall  : ACall Tryz.prog 24 [] [] (fun r h' => h' = [] ∧ r = .agg (grR smallG)) := by
  refine acall_of_aw Tryz.func24 rfl rfl rfl ?_
  refine rn ?_
  refine aops_e rfl (oe_alloc rfl fun b0 => ?_)
  refine rn ?_
  refine qv rfl rfl (qv_buildSlice rfl rfl) ?_
  refine rn ?_
  exact retq (.cons _ _ _ _ (.agg _ _ _ _ _ _ _ rfl inferInstance inferInstance inferInstance rfl) .nil) (.trans (.drop [_] _ _) (.le (Sb.aggs (aS := [iv 4, .list true 3 (smallG.es.map edR)]) (bs := grR smallG) ⟨.refl _, Sb.lists (fun h => by cases h) (Sbr.refl _), trivial⟩).le)) ⟨rfl, rfl⟩
theorem wOf : ACall Tryz.prog 7 [.agg (grR smallG)] [] (fun r h' => h' = [] ∧ r = .tup [intsA [0, 1, 1, 2], iv 0]) := (scOf smallG (by decide)).mono fun _ _ q => ⟨q.1, by rw [q.2, sm_of, sm_chk]⟩
theorem wCyc : ACall Tryz.prog 9 [.agg (grR smallG)] [] (fun r h' => h' = [] ∧ r = .tup [bv true, iv 0]) := (scCyclic smallG (by decide)).mono fun _ _ q => ⟨q.1, by rw [q.2, sm_cyc, sm_chk]⟩
theorem wFold : ACall Tryz.prog 21 [.agg (grR smallG)] [] (fun r h' => h' = [] ∧ r = .tup [.agg (grR ⟨3, [⟨0, 1, 0⟩, ⟨2, 0, 0⟩]⟩), iv 0]) := (scFoldF smallG (by decide)).mono fun _ _ q => ⟨q.1, by rw [q.2, sm_fold, sm_chk]⟩
theorem wNeg : ACall Tryz.prog 7 [.agg (grR negG)] [] (fun r h' => h' = [] ∧ r = .tup [intsA [], iv 150]) := (scOf negG (by decide)).mono fun _ _ q => ⟨q.1, by rw [q.2, neg_of, neg_chk]⟩
set_option maxHeartbeats 4000000 in
theorem lawWakes  : ACall Tryz.prog 5 [] [] (fun r h' => h' = [] ∧ r = bv true) := by
  refine acall_of_aw Tryz.func5 rfl rfl rfl ?_
  refine rn ?_
  refine qv rfl rfl (qv_call rfl rfl (FCall.pure (R := fun x => x = .agg (grR smallG)) (FCall.of_fun lawSmall))) ?_
  refine qv rfl rfl (qv_call rfl rfl (FCall.pure (R := fun x => x = .tup [intsA [0, 1, 1, 2], iv 0]) (FCall.of_fun wOf))) ?_
  refine rn ?_
  refine qv rfl rfl (qv_call rfl rfl (FCall.pure (R := fun x => x = .agg (grR smallG)) (FCall.of_fun lawSmall))) ?_
  refine qv rfl rfl (qv_call rfl rfl (FCall.pure (R := fun x => x = .tup [bv true, iv 0]) (FCall.of_fun wCyc))) ?_
  refine rn ?_
  refine qv rfl rfl (qv_call rfl rfl (FCall.pure (R := fun x => x = .agg (grR smallG)) (FCall.of_fun lawSmall))) ?_
  refine qv rfl rfl (qv_call rfl rfl (FCall.pure (R := fun x => x = .tup [.agg (grR ⟨3, [⟨0, 1, 0⟩, ⟨2, 0, 0⟩]⟩), iv 0]) (FCall.of_fun wFold))) ?_
  refine rn ?_
  refine aops_e rfl (oe_alloc rfl fun b5 => ?_)
  refine rn ?_
  refine qv rfl rfl (qv_call rfl rfl (FCall.pure (R := fun x => x = .tup [intsA [], iv 150]) (FCall.le (FCall.of_fun wNeg) ⟨(Sb.aggs (aS := [iv (-1), .v (.slice none 0 0)]) (bs := grR negG) ⟨.refl _, .nil _ _, trivial⟩).le, trivial⟩))) ?_
  refine rn ?_
  refine qv rfl rfl (qv_buildSlice rfl rfl) ?_
  refine qv rfl rfl (qv_call rfl rfl (FCall.pure (R := fun x => x = bv true) (FCall.of_fun (eqInt [0, 1, 1, 2] (by decide))))) ?_
  refine rn ?_
  refine qv rfl rfl (qv_buildSlice rfl rfl) ?_
  refine qv rfl rfl (qv_call rfl rfl (FCall.pure (R := fun x => x = bv true) (FCall.of_fun (eqEd [⟨0, 1, 0⟩, ⟨2, 0, 0⟩] (by decide))))) ?_
  refine rn ?_
  refine rq 1 ?_
  exact ⟨rfl, rfl⟩
end Go.Proofs
/- The walk of SccSets. Conditions: none. -/
set_option linter.unusedVariables false
set_option linter.unusedSimpArgs false
set_option maxRecDepth 10000
namespace Go.Proofs
open Go Go.Ab
attribute [local irreducible] QR QV OE aops aw dsoup dsoupM dalloc dallocM thn inBlk jsoup jch lsoup
open Go.H
theorem cyc_v (l : List Nat) : decide (0 < cntW (wordsL l)) = decide (((l.length : Nat) : Int) > 0) := by
  rw [Bool.eq_iff_iff, decide_eq_true_iff, decide_eq_true_iff, cntW_pos]
  cases l with
  | nil => simp
  | cons a r => simp
theorem neb_v {a b : Bool} (h : a = b) : AV.v (.bool (!(a == b))) = bv false := by subst h; cases a <;> rfl
theorem len_rowI (C : List Nat) : iv ((rowI C).map intR).length = iv ((C.length : Nat) : Int) := by rw [rowI_len]
theorem rnd_len (g : Gr) : (rndG g).length ≤ nG g := Nat.le_trans (List.length_filter_le _ _) (by simp)
theorem rnd_in {g : Gr} {x : Nat} (hx : x ∈ rndG g) : x < nG g := List.mem_range.1 (List.mem_filter.1 hx).1
theorem lenW_640 {l : List Nat} (h : ∀ x ∈ l, x < 640) : (wordsL l).length ≤ 1000000 := by
  rw [wordsL_len]
  exact Nat.le_trans (show lenW l ≤ 10 from lenW_le.2 fun n hn => by have := h n hn; omega) (by decide)
theorem setsR_in {g : Gr} {x : List Int} (hx : x ∈ (setsG g).map rowI) : x.length ≤ nG g := by
  obtain ⟨C, hC, rfl⟩ := List.mem_map.1 hx
  unfold rowI; rw [List.length_map]; exact set_le hC
theorem sameBT (a : List Nat) (ha : a.length ≤ 1000000) : ACall Tryz.prog 17 [.agg [.list false 1 (wrdsA a)], .agg [.list false 1 (wrdsA a)]] [] (fun r h' => h' = [] ∧ r = bv true) := (refSameB a a ha).mono fun _ _ q => ⟨q.1, by rw [q.2]; simp⟩
theorem sameGT (a : Gr) (ha : a.es.length ≤ 4611686018427387904) : ACall Tryz.prog 19 [.agg (grR a), .agg (grR a)] [] (fun r h' => h' = [] ∧ r = bv true) := (refSameG a a ha ha).mono fun _ _ q => ⟨q.1, by rw [q.2, sameG_self]⟩
theorem equalT {f g : Bool} (l : List (List Int)) (hb : ∀ x ∈ l, x.length ≤ 1000000) (hl : l.length ≤ 1000000) : ACall Tryz.prog 16 [.list f 1 (l.map lisR), .list g 1 (l.map lisR)] [] (fun r h' => h' = [] ∧ r = bv true) := (lawEqual l l hb hb hl hl).mono fun _ _ q => ⟨q.1, by rw [q.2]; simp⟩
set_option maxHeartbeats 8000000 in
theorem sccSets (x : Gr) (hb : x.es.length ≤ 4611686018427387904) : ACall Tryz.prog 3 [.agg (grR x)] [] (fun r h' => h' = [] ∧ r = bv true) := by
  refine acall_of_aw Tryz.func3 rfl rfl rfl ?_
  have hg : (ownG 600 x).es.length ≤ 4611686018427387904 := Nat.le_trans (ownG_len 600 x) (by decide)
  refine rn ?_
  refine aops_e rfl (oe_box rfl rfl rfl fun b1 => ?_)
  refine rn ?_
  refine qv rfl rfl (qv_call rfl rfl (FCall.pure (R := fun z => z = bv true) (FCall.of_fun (lawWakes)))) ?_
  refine rn ?_
  refine aw_cond rfl (fun hc17 => ?_) (fun hc17 => ?_)
  · exact absurd hc17 (by decide)
  · refine rn ?_
    refine qv rfl rfl (qv_call rfl rfl (FCall.pure (R := fun z => z = .agg (grR (ownG 600 x))) (FCall.of_fun (lawOwn x hb)))) ?_
    refine aops_e rfl (oe_alloc rfl fun b3 => ?_)
    refine rn ?_
    refine qv rfl rfl (qv_call rfl rfl (FCall.pure (R := fun z => z = .tup [intsA (ofO (ownG 600 x)), iv (chkE (ownG 600 x))]) (FCall.of_fun (scOf (ownG 600 x) hg)))) ?_
    refine rn ?_
    refine aops_e rfl (oe_call rfl rfl (FCall.fr (FCall.of_fun (scSets (ownG 600 x) hg)) (.refl _)) rfl ?_)
    rintro _ _ ⟨_, rfl, s, rfl, rfl⟩
    simp only [List.cons_append, List.nil_append]
    refine rn ?_
    refine qv rfl rfl (qv_call rfl rfl (FCall.pure (R := fun z => z = .tup [bv (decide (0 < cntW (wordsL (rndO (ownG 600 x))))), iv (chkE (ownG 600 x))]) (FCall.of_fun (scCyclic (ownG 600 x) hg)))) ?_
    refine rn ?_
    refine qv rfl rfl (qv_call rfl rfl (FCall.pure (R := fun z => z = .tup [.agg [wordsA (wordsL (rndO (ownG 600 x)))], iv (chkE (ownG 600 x))]) (FCall.of_fun (scRound (ownG 600 x) hg)))) ?_
    refine rn ?_
    refine aops_e rfl (oe_alloc rfl fun b10 => ?_)
    refine rn ?_
    refine qv rfl rfl (qv_call rfl rfl (FCall.pure (R := fun z => z = bv (chkB (ownG 600 x))) (FCall.of_fun (refRight (ownG 600 x) hg)))) ?_
    refine rn ?_
    refine aw_cond rfl (fun hc41 => ?_) (fun hc41 => ?_)
    · have hR : chkB (ownG 600 x) = true := hc41
      have he : chkE (ownG 600 x) = 0 := chkE_t hR
      have hok := chkE_0.1 he
      have hn1 := hok.n1
      have hng : nG (ownG 600 x) ≤ 300 := by unfold nG; omega
      have hol : (rowI (ofGL (ownG 600 x))).length ≤ 4611686018427387904 := by unfold rowI ofGL; rw [List.length_map, List.length_map, List.length_range]; omega
      have hsl : ((setsG (ownG 600 x)).map rowI).length ≤ 1000000 := by have := sets_le (ownG 600 x); rw [List.length_map]; omega
      have hsb : ∀ z ∈ ((setsG (ownG 600 x)).map rowI), z.length ≤ 1000000 := fun z hz => by have := setsR_in hz; omega
      have hrm : ∀ z ∈ (rndG (ownG 600 x)), z < 640 := fun z hz => by have := rnd_in hz; omega
      have hrl : (rndG (ownG 600 x)).length ≤ 1000000000 := by have := rnd_len (ownG 600 x); omega
      have hcy := cyc_v (rndG (ownG 600 x))
      have hEI : FCall Tryz.prog (.fn (.func 15) [] []) [intsA (rowI (ofGL (ownG 600 x))), intsA (rowI (ofGL (ownG 600 x)))] [] (fun r h' => h' = [] ∧ r = bv true) := FCall.of_fun (eqInt (rowI (ofGL (ownG 600 x))) hol)
      have hBO : FCall Tryz.prog (.fn (.func 18) [] []) [intsA (rowI (rndG (ownG 600 x)))] [] (fun r h' => h' = [] ∧ r = .agg [wordsA (wordsL (rndG (ownG 600 x)))]) := FCall.of_fun (refBitsOf (f := false) (rndG (ownG 600 x)) hrm hrl)
      have hSB : FCall Tryz.prog (.fn (.func 17) [] []) [.agg [wordsA (wordsL (rndG (ownG 600 x)))], .agg [wordsA (wordsL (rndG (ownG 600 x)))]] [] (fun r h' => h' = [] ∧ r = bv true) := FCall.of_fun (sameBT (wordsL (rndG (ownG 600 x))) (lenW_640 hrm))
      rw [he, ofO_y he, setsO_y he, rndO_y he]
      refine aw_draw 5 rfl ?_
      refine rn ?_
      refine dv rfl rfl (by exact qv_call rfl rfl (FCall.pure (R := fun z => z = intsA (rowI (ofGL (ownG 600 x)))) (FCall.of_fun (refOf6 (ownG 600 x) hok)))) ?_
      refine rn ?_
      refine dv rfl rfl (by exact qv_call rfl rfl (FCall.pure (R := fun z => z = setsA (ownG 600 x)) (FCall.of_fun (refSets6 (ownG 600 x) hok)))) ?_
      refine rn ?_
      refine qv rfl rfl (qv_call rfl rfl (FCall.pure (R := fun z => z = intsA (rowI (rndG (ownG 600 x)))) (FCall.of_fun (refRound6 (ownG 600 x) hok)))) ?_
      refine rn ?_
      refine aw_draw 41 rfl ?_
      refine rn ?_
      refine dv rfl rfl (by exact qv_call rfl rfl (FCall.pure hEI)) ?_
      refine rn ?_
      first | refine dv rfl rfl (by exact qv_call rfl rfl (FCall.lend (R := fun z => z = bv true) (FCall.of_fun (equalT (f := false) (g := false) ((setsG (ownG 600 x)).map rowI) hsb hsl)) (fun r hr => by rw [hr]; rfl) (.refl _ _) ⟨ble_row, .refl _ _, trivial⟩)) ?_ | refine dv rfl rfl (by exact qv_call rfl rfl (FCall.lend (R := fun z => z = bv true) (FCall.of_fun (equalT (f := false) (g := false) [] (fun x hx => absurd hx (by simp)) (by decide))) (fun r hr => by rw [hr]; rfl) (.refl _ _) ⟨ble_row, .of_le (Sb.nil _ _).le, trivial⟩)) ?_
      refine dq rfl rfl qrA ?_
      refine dq rfl rfl qrA ?_
      refine dq rfl rfl qrA ?_
      refine dq rfl rfl qrA ?_
      refine dq rfl rfl qrA ?_
      first | refine dq rfl rfl (qr_as (qr_len_list rfl) (len_rowI (rndG (ownG 600 x)))) ?_ | refine dq rfl rfl (qr_len_nil rfl) ?_
      refine dq rfl rfl qrA ?_
      refine dq rfl rfl (qr_as (qr_nebool rfl rfl) (neb_v hcy)) ?_
      refine rn ?_
      refine dv rfl rfl (by exact qv_call rfl rfl (FCall.pure hBO)) ?_
      refine rn ?_
      refine qv rfl rfl (qv_call rfl rfl (FCall.pure hSB)) ?_
      refine rn ?_
      refine aw_cond rfl (fun hc91 => ?_) (fun hc91 => ?_)
      · exact absurd hc91 (by decide)
      · refine rn ?_
        refine aw_draw 3 rfl ?_
        refine rn ?_
        refine dv rfl rfl (by exact qv_call rfl rfl (FCall.pure (R := fun z => z = .agg (grR (ownG 600 x))) (FCall.of_fun (lawOwn x hb)))) ?_
        refine rn ?_
        refine qv rfl rfl (qv_call rfl rfl (FCall.pure (R := fun z => z = bv true) (FCall.of_fun (sameGT (ownG 600 x) hg)))) ?_
        refine rn ?_
        exact retq (.cons _ _ _ _ (.tmp _ _ rfl) .nil) (.drop [_, _, _, _] _ _) ⟨rfl, rfl⟩
    · have hR : chkB (ownG 600 x) = false := hc41
      have he : chkE (ownG 600 x) = 150 := chkE_f hR
      have hne : chkE (ownG 600 x) ≠ 0 := by rw [he]; decide
      have hcy : decide (0 < cntW (wordsL [])) = decide ((0 : Int) > 0) := cyc_v []
      have hEI : FCall Tryz.prog (.fn (.func 15) [] []) [intsA [], .v (.slice none 0 0)] [] (fun r h' => h' = [] ∧ r = bv true) := FCall.le (FCall.of_fun (eqInt (f := false) (g := false) [] (by decide))) ⟨(Sb.refl _).le, (Sb.nil _ _).le, trivial⟩
      have hBO : FCall Tryz.prog (.fn (.func 18) [] []) [.v (.slice none 0 0)] [] (fun r h' => h' = [] ∧ r = .agg [wordsA (wordsL [])]) := FCall.le (FCall.of_fun (refBitsOf (f := false) [] (fun x hx => absurd hx (by simp)) (by decide))) ⟨(Sb.nil _ _).le, trivial⟩
      have hSB : FCall Tryz.prog (.fn (.func 17) [] []) [.agg [wordsA (wordsL [])], .agg [wordsA (wordsL [])]] [] (fun r h' => h' = [] ∧ r = bv true) := FCall.of_fun (sameBT (wordsL []) (lenW_640 (l := []) (fun x hx => absurd hx (by simp))))
      rw [he, ofO_n hne, setsO_n hne, rndO_n hne]
      refine rn ?_
      refine aw_draw 41 rfl ?_
      refine rn ?_
      refine dv rfl rfl (by exact qv_call rfl rfl (FCall.pure hEI)) ?_
      refine rn ?_
      first | refine dv rfl rfl (by exact qv_call rfl rfl (FCall.lend (R := fun z => z = bv true) (FCall.of_fun (equalT (f := false) (g := false) ((setsG (ownG 600 x)).map rowI) hsb hsl)) (fun r hr => by rw [hr]; rfl) (.refl _ _) ⟨ble_row, .refl _ _, trivial⟩)) ?_ | refine dv rfl rfl (by exact qv_call rfl rfl (FCall.lend (R := fun z => z = bv true) (FCall.of_fun (equalT (f := false) (g := false) [] (fun x hx => absurd hx (by simp)) (by decide))) (fun r hr => by rw [hr]; rfl) (.refl _ _) ⟨ble_row, .of_le (Sb.nil _ _).le, trivial⟩)) ?_
      refine dq rfl rfl qrA ?_
      refine dq rfl rfl qrA ?_
      refine dq rfl rfl qrA ?_
      refine dq rfl rfl qrA ?_
      refine dq rfl rfl qrA ?_
      first | refine dq rfl rfl (qr_as (qr_len_list rfl) (len_rowI (rndG (ownG 600 x)))) ?_ | refine dq rfl rfl (qr_len_nil rfl) ?_
      refine dq rfl rfl qrA ?_
      refine dq rfl rfl (qr_as (qr_nebool rfl rfl) (neb_v hcy)) ?_
      refine rn ?_
      refine dv rfl rfl (by exact qv_call rfl rfl (FCall.pure hBO)) ?_
      refine rn ?_
      refine qv rfl rfl (qv_call rfl rfl (FCall.pure hSB)) ?_
      refine rn ?_
      refine aw_cond rfl (fun hc91 => ?_) (fun hc91 => ?_)
      · exact absurd hc91 (by decide)
      · refine rn ?_
        refine aw_draw 3 rfl ?_
        refine rn ?_
        refine dv rfl rfl (by exact qv_call rfl rfl (FCall.pure (R := fun z => z = .agg (grR (ownG 600 x))) (FCall.of_fun (lawOwn x hb)))) ?_
        refine rn ?_
        refine qv rfl rfl (qv_call rfl rfl (FCall.pure (R := fun z => z = bv true) (FCall.of_fun (sameGT (ownG 600 x) hg)))) ?_
        refine rn ?_
        exact retq (.cons _ _ _ _ (.tmp _ _ rfl) .nil) (.drop [_, _, _, _] _ _) ⟨rfl, rfl⟩
end Go.Proofs
