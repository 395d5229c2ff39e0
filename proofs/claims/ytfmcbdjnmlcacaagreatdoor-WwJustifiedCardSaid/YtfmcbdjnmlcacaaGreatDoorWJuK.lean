/- The walks of the reference 18's Each, All, Justified, Chain. Conditions: none. -/
import Derived.Test.YtfmcbdjnmlcacaaGreatDoorWJuJ
set_option linter.unusedSectionVars false
set_option linter.unusedSimpArgs false
set_option linter.unusedVariables false
set_option maxRecDepth 10000
namespace Go.Proofs
open Go Go.Ab
attribute [local irreducible] QR QV OE aops aw dsoup dsoupM dalloc dallocM thn inBlk jsoup jch lsoup
open Go.H
theorem putAll_take {out l : List Conf} {j : Nat} (qj : j = l.length) : putAll out l = putAll out (l.take j) := by rw [qj, List.take_length]
set_option maxHeartbeats 4000000 in
theorem refEachR (h : Hist) (la : Lim 1000000 h) (hc : checkI h = 0) : ACall Tryz.prog 27 [.agg (histC h)] [] (fun r h' => ∃ s : SV, h' = [.row s.v 7 41 ((eachR h).map confR)] ∧ r = .v s.v) := by
 refine acall_of_aw Tryz.func27 rfl rfl rfl ?_
 refine rn ?_;refine aops_e rfl (oe_box rfl rfl rfl fun b1 => ?_)
 refine rn ?_;have lO := (chk_lim hc).os
 refine aw_rng1 h.os.length (fun k s => ⟨[(10, iv k), (3, .v s.v), (1, pZ b1), (9, iv (h.os.map strR).length)], .row s.v 7 41 ((eachN h k).map confR) :: .box b1 28 (histC h) :: [], []⟩) ⟨none, 0, 0⟩ (ent_trans (ent_nilrow 7 41) es) ?_
 intro k s lk
 refine rn ?_;refine aw_cond rfl (fun hc11 => ?_) (fun hc11 => ?_)
 ·have hk : k < h.os.length := by have q := of_decide_eq_true hc11; rw [List.length_map] at q; omega
  have h3 := insR3 hc (x := k) (by omega) (by omega)
  have h4 := wwR_le hc (x := k) (by omega) (by omega)
  have h5 := eachN_le hc (k := k) (by omega)
  refine rn ?_;refine qv rfl rfl (qv_call rfl rfl (FCall.pure (R := fun r => r = confsA (wwR h k)) (FCall.of_fun (refOf18 h la k h3)))) ?_
  refine rn ?_;refine aw_rng1 (wwR h k).length (fun j s => ⟨[(17, iv j), (3, .v s.v), (1, pZ b1), (9, iv (h.os.map strR).length), (10, iv k), (15, confsA (wwR h k)), (16, iv ((wwR h k).map confR).length)], .row s.v 7 41 ((putAll (eachN h k) ((wwR h k).take j)).map confR) :: .box b1 28 (histC h) :: [], []⟩) s es ?_
  intro j s lj
  refine rn ?_;refine aw_cond rfl (fun hc18 => ?_) (fun hc18 => ?_)
  ·have hj : j < (wwR h k).length := by have q := of_decide_eq_true hc18; rw [List.length_map] at q; omega
   have rj : ((wwR h k).map confR)[j]? = some (confR (wwR h k)[j]) := atRow hj
   have hjl : j < ((wwR h k).map confR).length := by rw [List.length_map]; exact hj
   have h6 := putAll_len ((wwR h k).take j) (eachN h k)
   have h7 := List.length_take_le j (wwR h k)
   refine aw_skip ?_;refine thn_n ?_;refine aw_seq ?_;refine aw_block ?_;refine aw_seq (aw_region ?_)
   refine qq rfl rfl (qr_index_list rfl rfl rj) ?_
   refine rn ?_;refine aops_e rfl (oe_alloc rfl fun b6 => ?_)
   refine rn ?_;refine aops_e rfl (oe_call rfl rfl (FCall.fr (FCall.of_fun (refPut (putAll (eachN h k) ((wwR h k).take j)) s (wwR h k)[j] (by omega))) (pt1 _ _ _)) rfl ?_)
   rintro _ _ ⟨_, rfl, s2, rfl, rfl⟩
   refine rn ?_;exact ⟨hj, s2, by rw [putAll_s _ _ hj]; exact ent_trans (ent_perm (pt1 _ _ _)) (ent_trans (ent_drop (h1 := [_])) es)⟩
  ·have qj : j = (wwR h k).length := by have q := of_decide_eq_false hc18; rw [List.length_map] at q; omega
   refine rn ?_;exact ⟨hk, s, by rw [eachN_s, putAll_take qj]; exact eA⟩
 ·have qk : k = h.os.length := by have q := of_decide_eq_false hc11; rw [List.length_map] at q; omega
  refine rn ?_;exact retT rfl (.trans (.perm (perm_swap [_] [_]) _) (.drop [_] _ _)) ⟨s, by rw [qk]; rfl, rfl⟩
theorem refEach18 (h : Hist) (la : Lim 1000000 h) (hc : checkI h = 0) : ACall Tryz.prog 27 [.agg (histC h)] [] (fun r h' => h' = [] ∧ r = confsA (eachR h)) := (refEachR h la hc).ventR (by rintro _ _ ⟨s, rfl, rfl⟩; exact ⟨_, _, vent_freeze, rfl, rfl⟩)
theorem eachR_le {h : Hist} (hc : checkI h = 0) : (eachR h).length ≤ 9000000 := eachN_le hc (Nat.le_refl _)
theorem just_t {l : List Conf} {c : Conf} {k : Nat} (hk : k < l.length) (h : confEq l[k] c = true) : decide (c ∈ l) = true := by rw [confEq_eq, decide_eq_true_iff] at h; exact decide_eq_true (h ▸ List.getElem_mem hk)
theorem just_f {l : List Conf} {c : Conf} (h : l.all (fun z => !confEq z c) = true) : decide (c ∈ l) = false := by
 refine decide_eq_false fun hm => ?_
 have := List.all_eq_true.1 h c hm
 rw [confEq_eq] at this; simp at this
theorem refJust18 (h : Hist) (la : Lim 1000000 h) (hc : checkI h = 0) (c : Conf) : ACall Tryz.prog 29 [.agg (histC h), .agg (confR c)] [] (fun r h' => h' = [] ∧ r = bv (decide (c ∈ eachR h))) := by
 refine acall_of_aw Tryz.func29 rfl rfl rfl ?_
 have h3 := eachR_le hc
 refine rn ?_;refine aops_e rfl (oe_box rfl rfl rfl fun b2 => ?_)
 refine aops_e rfl (oe_box rfl rfl rfl fun b3 => ?_)
 refine rn ?_;refine qv rfl rfl (qv_call rfl rfl (pcall (refEach18 h la hc) (Sbs.refl _))) ?_
 refine rn ?_;refine aw_rng ((eachR h).length) (fun k : Nat => (eachR h).all (fun z => !confEq z c) = ((eachR h).drop k).all (fun z => !confEq z c)) (fun k => [(10, iv k)]) [(3, _), (8, _), (9, _)] rfl ?_
 intro k lk zk
 refine rn ?_;refine aw_cond rfl (fun hc11 => ?_) (fun hc11 => ?_)
 ·have hk := ltMap hc11
  have rk := atRow (f := confR) hk
  refine rn ?_;refine aops_e rfl (oe_alloc rfl fun b6 => ?_)
  refine rn ?_;refine aw_cond rfl (fun hc16 => ?_) (fun hc16 => ?_)
  ·refine rn ?_;exact retT rfl (.drop [_, _, _] _ _) ⟨rfl, congrArg bv (just_t hk hc16).symm⟩
  ·refine rn ?_;exact ⟨hk, allT hk zk (by show (!confEq (eachR h)[k] c) = true; rw [show confEq (eachR h)[k] c = false from hc16]; rfl), eA⟩
 ·have qk := geMap hc11 lk
  have ak := allE qk zk
  refine rn ?_;exact retT rfl (.drop [_, _] _ _) ⟨rfl, congrArg bv (just_f ak).symm⟩
theorem just_eq {h : Hist} (hc : checkI h = 0) (c : Conf) : decide (c ∈ wwO h c.o) = decide (c ∈ eachR h) := by
 rw [decide_eq_decide]
 have hs := checkI_0.1 hc
 rw [← each_sort hs, (sortL_perm cmpC _).mem_iff, wwRows_mem]
 by_cases hn : 0 ≤ c.o ∧ c.o < h.os.length
 ·rw [wwO_y (ask_y hc hn)]
  exact ⟨fun q => ⟨hn.1, hn.2, q⟩, fun q => q.2.2⟩
 ·rw [wwO_n (by rw [ask_r hc hn]; decide)]
  exact ⟨fun q => absurd q (by simp), fun q => absurd ⟨q.1, q.2.1⟩ hn⟩
theorem just_ne {h : Hist} (hc : (checkI h == 0) = false) (c : Conf) : decide (c ∈ wwO h c.o) = false := by
 have hc : checkI h ≠ 0 := by simpa using hc
 rw [wwO_n (by rw [ask_c hc]; exact hc)]; simp
def conW (c : Conf) : Conf := ⟨c.f, c.t, c.k, IntKind.i64.wrap (c.a + 1), c.b, c.o, c.p⟩
set_option maxHeartbeats 4000000 in
theorem wwJustified (x : Hist) (zs : List Conf) (lb : Big x) (hz : zs.length ≤ 2513169434916) : ACall Tryz.prog 4 [.agg (histC x), confsA zs] (.glob 2 156 limitsC :: .glob 4 305 firstC :: .glob 5 308 acceptC :: .glob 3 246 asksC :: []) (fun r h' => h' = .glob 2 156 limitsC :: .glob 4 305 firstC :: .glob 5 308 acceptC :: .glob 3 246 asksC :: [] ∧ r = bv true) := by
 refine acall_of_aw Tryz.func4 rfl rfl rfl ?_
 refine rn ?_;refine aops_e rfl (oe_box rfl rfl rfl fun b2 => ?_)
 refine rn ?_;refine qv rfl rfl (qv_call rfl rfl (FCall.qt (FCall.of_fun wakes18) ((pt1 _ _ _).trans (.cons _ ((pt1 _ _ _).trans (.cons _ ((pt1 _ _ _).trans (.cons _ (pt1 _ _ _))))))))) ?_
 refine rn ?_;refine aw_cond rfl (fun hc10 => ?_) (fun hc10 => ?_)
 ·exact absurd hc10 (by decide)
 ·refine rn ?_;refine qv rfl rfl (qv_call rfl rfl (pcall (own18 x lb) (Sbs.refl _))) ?_
  refine aops_e rfl (oe_alloc rfl fun b5 => ?_)
  refine rn ?_;refine qv rfl rfl (qv_call rfl rfl (pcall (refCheck16 (ownX x) (ownX_lim lb.lim)) (Sbs.refl _))) ?_
  refine rn0 ?_;refine aw_cutE (fun L : List Conf => L.length ≤ 3000000000000) (fun L => ⟨[(1, .list false 7 (L.map confR)), (5, pZ b5), (6, bv (checkI (ownX x) == 0))], .box b5 28 (histC (ownX x)) :: .box b2 28 (histC x) :: .glob 2 156 limitsC :: .glob 4 305 firstC :: .glob 5 308 acceptC :: .glob 3 246 asksC :: [], []⟩) ?_ ?_
  ·refine rn ?_;refine aw_cond rfl (fun hc16 => ?_) (fun hc16 => ?_)
   ·have hcc : checkI (ownX x) = 0 := eq_of_beq hc16
    have hE := eachR_le hcc
    refine rn ?_;refine aops_e rfl (oe_call rfl rfl (FCall.fr (G := []) (FCall.of_fun (refEachR (ownX x) ((chk_lim hcc).mono (by decide) : Lim 1000000 (ownX x)) hcc)) (.refl _)) rfl ?_)
    rintro _ _ ⟨_, rfl, s, rfl, rfl⟩
    show aops _ _ _ _ _ _ ⟨_, .row s.v 7 41 ((eachR (ownX x)).map confR) :: _, _⟩
    refine rn ?_;refine aops_e rfl (oe_append_rowC rfl rfl (by simp only [List.length_map]; omega) rfl (fun s20 => ?_) (one_conf _) (by simp only [List.length_map]; omega))
    refine aops_slice s20 fun sv hsv => ?_
    subst hsv
    refine rn ?_;first | exact ⟨eachR (ownX x) ++ zs, by rw [List.length_append]; omega, by rw [List.map_append]; exact ent_freeze (by repeat (first | exact .nil | refine .row _ _ rfl ?_ | refine .cons _ _ _ rfl ?_))⟩ | exact ⟨zs, by omega, eA⟩
   ·refine rn ?_;first | exact ⟨eachR (ownX x) ++ zs, by rw [List.length_append]; omega, by rw [List.map_append]; exact ent_freeze (by repeat (first | exact .nil | refine .row _ _ rfl ?_ | refine .cons _ _ _ rfl ?_))⟩ | exact ⟨zs, by omega, eA⟩
  ·intro L hL
   refine rn ?_;refine aw_rng (L.length) (fun j : Nat => True) (fun j => [(23, iv j)]) [(5, _), (6, _), (21, _), (22, _)] trivial ?_
   intro j lj _
   refine rn ?_;refine aw_cond rfl (fun hc24 => ?_) (fun hc24 => ?_)
   ·have hj := ltMap hc24
    have rj := atRow (f := confR) hj
    refine rn ?_;refine aops_e rfl (oe_alloc rfl fun b8 => ?_)
    refine rn ?_;refine aw_cond rfl (fun hc29 => ?_) (fun hc29 => ?_)
    ·refine rn ?_;first | (refine rq 2 ?_; exact ⟨rfl, rfl⟩) | (refine rq 3 ?_; exact ⟨rfl, rfl⟩)
    ·refine rn ?_;refine qv rfl rfl (qv_call rfl rfl (FCall.qt (FCall.of_fun (wwJust (ownX x) (ownX_lim lb.lim) L[j])) ((pt3 _ _ _ _ _).trans (.cons _ ((pt3 _ _ _ _ _).trans (.cons _ ((pt3 _ _ _ _ _).trans (.cons _ (pt3 _ _ _ _ _))))))))) ?_
     refine rn ?_;refine asplit (fun hg11_4 => ?_) (fun hg11_4 => ?_)
     ·refine rn ?_;refine qv rfl rfl (qv_call rfl rfl (FCall.pure (R := fun r => r = bv (decide (L[j] ∈ eachR (ownX x)))) (FCall.of_fun (refJust18 (ownX x) ((chk_lim (eq_of_beq hg11_4)).mono (by decide)) (eq_of_beq hg11_4) L[j])))) ?_
      refine rn ?_;refine aw_cond rfl (fun hc39 => ?_) (fun hc39 => ?_)
      ·exact absurd hc39 (by first | (rw [just_ne hg11_4 L[j]]; decide) | (rw [just_eq (eq_of_beq hg11_4) L[j]]; simp))
      ·refine aw_skip ?_;refine thn_n ?_;refine aw_seq (aw_region ?_)
       refine q1 ?_;refine q1 ?_;refine qq rfl rfl (qr_addW rfl rfl) ?_
       refine rn0 ?_;refine aw_seq ?_;show aw _ _ _ _ _ ⟨_, .box b8 41 (confR (conW L[j])) :: _, _⟩
       refine rn ?_;refine qv rfl rfl (qv_call rfl rfl (FCall.qt (FCall.of_fun (wwJust (ownX x) (ownX_lim lb.lim) (conW L[j]))) ((pt3 _ _ _ _ _).trans (.cons _ ((pt3 _ _ _ _ _).trans (.cons _ ((pt3 _ _ _ _ _).trans (.cons _ (pt3 _ _ _ _ _))))))))) ?_
       refine rn ?_;refine asplit (fun hg14_4 => ?_) (fun hg14_4 => ?_)
       ·refine rn ?_;refine qv rfl rfl (qv_call rfl rfl (FCall.pure (R := fun r => r = bv (decide ((conW L[j]) ∈ eachR (ownX x)))) (FCall.of_fun (refJust18 (ownX x) ((chk_lim (eq_of_beq hg14_4)).mono (by decide)) (eq_of_beq hg14_4) (conW L[j]))))) ?_
        refine rn ?_;refine aw_cond rfl (fun hc53 => ?_) (fun hc53 => ?_)
        ·exact absurd hc53 (by first | (rw [just_ne hg14_4 (conW L[j])]; decide) | (rw [just_eq (eq_of_beq hg14_4) (conW L[j])]; simp))
        ·refine rn ?_;exact ⟨hj, trivial, eA⟩
       ·refine rn ?_;refine aw_cond rfl (fun hc53 => ?_) (fun hc53 => ?_)
        ·exact absurd hc53 (by first | (rw [just_ne hg14_4 (conW L[j])]; decide) | (rw [just_eq (eq_of_beq hg14_4) (conW L[j])]; simp))
        ·refine rn ?_;exact ⟨hj, trivial, eA⟩
     ·refine rn ?_;refine aw_cond rfl (fun hc39 => ?_) (fun hc39 => ?_)
      ·exact absurd hc39 (by first | (rw [just_ne hg11_4 L[j]]; decide) | (rw [just_eq (eq_of_beq hg11_4) L[j]]; simp))
      ·refine aw_skip ?_;refine thn_n ?_;refine aw_seq (aw_region ?_)
       refine q1 ?_;refine q1 ?_;refine qq rfl rfl (qr_addW rfl rfl) ?_
       refine rn0 ?_;refine aw_seq ?_;show aw _ _ _ _ _ ⟨_, .box b8 41 (confR (conW L[j])) :: _, _⟩
       refine rn ?_;refine qv rfl rfl (qv_call rfl rfl (FCall.qt (FCall.of_fun (wwJust (ownX x) (ownX_lim lb.lim) (conW L[j]))) ((pt3 _ _ _ _ _).trans (.cons _ ((pt3 _ _ _ _ _).trans (.cons _ ((pt3 _ _ _ _ _).trans (.cons _ (pt3 _ _ _ _ _))))))))) ?_
       refine rn ?_;refine asplit (fun hg14_4 => ?_) (fun hg14_4 => ?_)
       ·refine rn ?_;refine qv rfl rfl (qv_call rfl rfl (FCall.pure (R := fun r => r = bv (decide ((conW L[j]) ∈ eachR (ownX x)))) (FCall.of_fun (refJust18 (ownX x) ((chk_lim (eq_of_beq hg14_4)).mono (by decide)) (eq_of_beq hg14_4) (conW L[j]))))) ?_
        refine rn ?_;refine aw_cond rfl (fun hc53 => ?_) (fun hc53 => ?_)
        ·exact absurd hc53 (by first | (rw [just_ne hg14_4 (conW L[j])]; decide) | (rw [just_eq (eq_of_beq hg14_4) (conW L[j])]; simp))
        ·refine rn ?_;exact ⟨hj, trivial, eA⟩
       ·refine rn ?_;refine aw_cond rfl (fun hc53 => ?_) (fun hc53 => ?_)
        ·exact absurd hc53 (by first | (rw [just_ne hg14_4 (conW L[j])]; decide) | (rw [just_eq (eq_of_beq hg14_4) (conW L[j])]; simp))
        ·refine rn ?_;exact ⟨hj, trivial, eA⟩
   ·have qj := geMap hc24 lj
    refine rn ?_;first | (refine rq 2 ?_; exact ⟨rfl, rfl⟩) | (refine rq 3 ?_; exact ⟨rfl, rfl⟩)
end Go.Proofs
