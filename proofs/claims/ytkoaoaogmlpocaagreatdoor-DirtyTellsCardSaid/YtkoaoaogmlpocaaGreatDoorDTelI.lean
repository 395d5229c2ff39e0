/- The walks of dirty's All, First, Is. Conditions: none. -/
import Derived.Test.YtkoaoaogmlpocaaGreatDoorDTelH
set_option linter.unusedSectionVars false
set_option linter.unusedSimpArgs false
set_option linter.unusedVariables false
set_option linter.unusedVariables false
set_option linter.unusedSimpArgs false
set_option maxRecDepth 10000
namespace Go.Proofs
open Go Go.Ab
attribute [local irreducible] QR QV OE aops aw dsoup dsoupM dalloc dallocM thn inBlk jsoup jch lsoup
open Go.H
theorem dirS_len (h : Hist) (k : Nat) (e : Ev) (s : Seen) : (dirS h k e s).length ≤ 2 := by
  rw [dirS]; cases dirN e s <;> cases dirA h s <;> cases dirB h s <;> simp
theorem flat_len {α β : Type} (f : α → List β) (c : Nat) (hf : ∀ a, (f a).length ≤ c) : ∀ l : List α, (l.flatMap f).length ≤ l.length * c
  | [] => by simp
  | a :: l => by
    have := flat_len f c hf l
    have := hf a
    rw [List.flatMap_cons, List.length_append, List.length_cons, Nat.succ_mul]; omega
theorem dirE_len {h : Hist} (lA : Lim 3000 h) (a : List Int) {k : Nat} (hk : k < h.evs.length) : (dirE h a k h.evs[k]).length ≤ 6000 := by
  rw [dirE]
  split
  · have h1 := flat_len (dirS h k h.evs[k]) 2 (dirS_len h k _) (seenOf h.evs[k])
    have h2 : (seenOf h.evs[k]).length ≤ 3000 := by
      rw [seenOf]; split
      · show 1 ≤ 3000; decide
      · exact lA.scans _ (List.getElem_mem hk)
    omega
  · simp
theorem dirK_len {h : Hist} (lA : Lim 3000 h) (a : List Int) : ∀ {n : Nat}, n ≤ h.evs.length → (dirK h a n).length ≤ n * 6000
  | 0, _ => by simp [dirK]
  | n + 1, hn => by
    have h1 := dirK_len lA a (n := n) (by omega)
    have h2 := dirE_len lA a (k := n) hn
    rw [dirK_s hn, List.length_append]; omega
theorem dirL_len {h : Hist} (hc : checkI h = 0) (a : List Int) : (dirL h a).length ≤ 20000000 := by
  have lA := chk_lim hc
  have := dirK_len lA a (Nat.le_refl h.evs.length)
  have := lA.evs
  rw [dirL]; omega
def dir0 : Dirt := ⟨0, 0, 0, ⟨0, 0⟩⟩
theorem dir_list (a b : Dirt) : (([a.kind, a.ev, a.o, a.v.t, a.v.k] : List Int) == [b.kind, b.ev, b.o, b.v.t, b.v.k]) = (a == b) := by
  rw [Bool.eq_iff_iff]
  obtain ⟨a1, a2, a3, a4, a5⟩ := a
  obtain ⟨b1, b2, b3, b4, b5⟩ := b
  simp
theorem all_0 {h : Hist} {a : List Int} (hd : dirC h a = 0) : dirAll h a = dirL h a := by rw [dirAll, if_pos hd]
theorem all_n {h : Hist} {a : List Int} (hd : dirC h a ≠ 0) : dirAll h a = [] := by rw [dirAll, if_neg hd]
theorem nil_of {α : Type} {l pre rest : List α} {d : α} (h : l = pre ++ d :: rest) (e : pre = []) : l = d :: rest := by rw [h, e]; rfl
set_option maxHeartbeats 4000000 in
theorem appSeqDir {μ : Type} (f : FuncId) [Go.Ab.Enters Tryz.prog f] (cs : List AV) (w1 w2 w4 w5 w6 w7 w8 : Res) (w3 : μ → Res) (K : μ → Prop) (m0 : μ) (L : List (Dirt)) (hL : L.length ≤ 20000000) (W : List Res) (hseq : ∀ (y : AV) (I : List (Dirt) → SV → List Res) (x0 : SV), (∀ pre d rest (s : SV) m, L = pre ++ d :: rest → K m → FCall Tryz.prog y [.agg (dirR d)] (w1 :: w2 :: w3 m :: w4 :: w5 :: w6 :: w7 :: w8 :: I pre s) (fun r h' => ∃ s' : SV, r = bv true ∧ h' = w1 :: w2 :: w3 m :: w4 :: w5 :: w6 :: w7 :: w8 :: I (pre ++ [d]) s')) → ACall Tryz.prog f (y :: cs) (w1 :: w2 :: w3 m0 :: w4 :: w5 :: w6 :: w7 :: w8 :: I [] x0) (fun _ h' => ∃ x m, K m ∧ h' = w1 :: w2 :: w3 m :: w4 :: w5 :: w6 :: w7 :: w8 :: I L x)) : ACall Tryz.prog 112 [.v (.slice none 0 0), .fn (.func f) [] cs] (w1 :: w2 :: w3 m0 :: w4 :: w5 :: w6 :: w7 :: w8 :: W) (fun r h' => ∃ (s : SV) (m : μ), K m ∧ h' = .row s.v 5 40 (L.map dirR) :: w1 :: w2 :: w3 m :: w4 :: w5 :: w6 :: w7 :: w8 :: W ∧ r = .v s.v) := by
  refine acall_of_aw Tryz.func112 rfl rfl rfl ?_
  refine rn ?_
  refine aops_e rfl (oe_box rfl rfl rfl fun b2 => ?_)
  refine rn ?_
  refine aw_ent (s' := ⟨[(6, .fn (.func f) [] cs), (2, .v (.pointer (some ⟨b2, 0, none⟩)))], w1 :: w2 :: w3 m0 :: w4 :: w5 :: w6 :: w7 :: w8 :: .box b2 33 [.v (⟨none, 0, 0⟩ : SV).v] :: .row (⟨none, 0, 0⟩ : SV).v 5 40 ((([] : List (Dirt))).map dirR) :: W, []⟩) (ent_trans (ent_trans (ent_nilrow 5 40) (ent_perm ((pt2 _ _ _ _).trans (.cons _ ((pt2 _ _ _ _).trans (.cons _ ((pt2 _ _ _ _).trans (.cons _ ((pt2 _ _ _ _).trans (.cons _ ((pt2 _ _ _ _).trans (.cons _ ((pt2 _ _ _ _).trans (.cons _ ((pt2 _ _ _ _).trans (.cons _ ((pt2 _ _ _ _).trans (.cons _ (pt1 _ _ _))))))))))))))))))) es) ?_
  refine aw_rf (fun pend h'' => pend = none ∧ ∃ (s : SV) (m : μ), K m ∧ h'' = w1 :: w2 :: w3 m :: w4 :: w5 :: w6 :: w7 :: w8 :: .box b2 33 [.v s.v] :: .row s.v 5 40 ((L).map dirR) :: W) rfl (fun fn l q lp hlp => ?_) (fun q h'' hK => ?_) (fun q h'' c hK => ?_)
  · suffices hy : ∀ pre d rest (s : SV) m, L = pre ++ d :: rest → K m → FCall Tryz.prog (yv l) [.agg (dirR d)] (w1 :: w2 :: w3 m :: w4 :: w5 :: w6 :: w7 :: w8 :: lp .ready none :: .defs q :: .box b2 33 [.v s.v] :: .row s.v 5 40 ((pre).map dirR) :: W) (fun r h' => ∃ s' : SV, r = bv true ∧ h' = w1 :: w2 :: w3 m :: w4 :: w5 :: w6 :: w7 :: w8 :: lp .ready none :: .defs q :: .box b2 33 [.v s'.v] :: .row s'.v 5 40 (((pre ++ [d])).map dirR) :: W) by
      refine ACall.mono (ACall.perm ((pt2 _ _ _ _).trans (.cons _ ((pt2 _ _ _ _).trans (.cons _ ((pt2 _ _ _ _).trans (.cons _ ((pt2 _ _ _ _).trans (.cons _ ((pt2 _ _ _ _).trans (.cons _ ((pt2 _ _ _ _).trans (.cons _ ((pt2 _ _ _ _).trans (.cons _ (pt2 _ _ _ _))))))))))))))) (hseq (yv l) (fun pre (s : SV) => lp .ready none :: .defs q :: .box b2 33 [.v s.v] :: .row s.v 5 40 ((pre).map dirR) :: W) ⟨none, 0, 0⟩ hy)) ?_
      rintro _ _ ⟨s, m, hK, rfl⟩
      exact ⟨none, .ready, _, ((pt8 _ _ _ _ _ _ _ _ _ _).trans (.cons _ (pt8 _ _ _ _ _ _ _ _ _ _))), by simp, rfl, s, m, hK, rfl⟩
    intro pre d rest s m hpre hK
    have hlen : pre.length < L.length := by rw [hpre, List.length_append, List.length_cons]; omega
    refine FCall.perm (pt8 _ _ _ _ _ _ _ _ _ _) (FCall.ventE ?_)
    refine fcall_yl2 hlp rfl rfl ?_
    refine rn ?_
    refine aops_e rfl (oe_alloc rfl fun b5 => ?_)
    refine rn ?_
    refine ⟨[(5, .v (.pointer (some ⟨b5, 0, none⟩))), (2, .v (.pointer (some ⟨b2, 0, none⟩)))], .box b5 40 (dirR d) :: w1 :: w2 :: w3 m :: w4 :: w5 :: w6 :: w7 :: w8 :: .defs q :: .box b2 33 [.v s.v] :: .row s.v 5 40 ((pre).map dirR) :: W, ent_trans (ent_perm (pt1 _ _ _)) es, ?_⟩
    refine rn ?_
    refine qv rfl rfl (qv_buildSlice rfl rfl) ?_
    refine aops_e rfl (oe_append_row rfl rfl (by simp only [List.length_map, List.length_cons, List.length_nil]; have := hlen; omega) rfl (fun s11 => ?_) (one_dir [d]))
    refine aops_slice s11 fun sv hsv => ?_
    subst hsv
    refine rn ?_
    exact round_n (.refl _) ⟨_, _, .trans (.perm ((pt1 _ _ _).trans (.cons _ ((pt1 _ _ _).trans (.cons _ ((pt1 _ _ _).trans (.cons _ ((pt1 _ _ _).trans (.cons _ ((pt1 _ _ _).trans (.cons _ ((pt1 _ _ _).trans (.cons _ ((pt1 _ _ _).trans (.cons _ ((pt1 _ _ _).trans (.cons _ (pt1 _ _ _))))))))))))))))) _) (.drop [_] _ _), sv, rfl, by rw [List.map_append]; rfl⟩
  · obtain ⟨_, s, m, hK, rfl⟩ := hK
    refine rn ?_
    exact retqd (.refl _) (.cons _ _ _ _ (.tmp _ _ rfl) .nil) (.trans (.perm ((pt8 _ _ _ _ _ _ _ _ _ _).trans (.cons _ (pt8 _ _ _ _ _ _ _ _ _ _))) _) (.drop1 _ _ _)) ⟨s, m, hK, rfl, rfl⟩
  · obtain ⟨hc, _⟩ := hK
    exact absurd hc (by simp)
theorem collectDir {μ : Type} (f : FuncId) [Go.Ab.Enters Tryz.prog f] (cs : List AV) (w1 w2 w4 w5 w6 w7 w8 : Res) (w3 : μ → Res) (K : μ → Prop) (m0 : μ) (L : List (Dirt)) (hL : L.length ≤ 20000000) (W : List Res) (hseq : ∀ (y : AV) (I : List (Dirt) → SV → List Res) (x0 : SV), (∀ pre d rest (s : SV) m, L = pre ++ d :: rest → K m → FCall Tryz.prog y [.agg (dirR d)] (w1 :: w2 :: w3 m :: w4 :: w5 :: w6 :: w7 :: w8 :: I pre s) (fun r h' => ∃ s' : SV, r = bv true ∧ h' = w1 :: w2 :: w3 m :: w4 :: w5 :: w6 :: w7 :: w8 :: I (pre ++ [d]) s')) → ACall Tryz.prog f (y :: cs) (w1 :: w2 :: w3 m0 :: w4 :: w5 :: w6 :: w7 :: w8 :: I [] x0) (fun _ h' => ∃ x m, K m ∧ h' = w1 :: w2 :: w3 m :: w4 :: w5 :: w6 :: w7 :: w8 :: I L x)) : ACall Tryz.prog 61 [.fn (.func f) [] cs] (w1 :: w2 :: w3 m0 :: w4 :: w5 :: w6 :: w7 :: w8 :: W) (fun r h' => ∃ (s : SV) (m : μ), K m ∧ h' = .row s.v 5 40 (L.map dirR) :: w1 :: w2 :: w3 m :: w4 :: w5 :: w6 :: w7 :: w8 :: W ∧ r = .v s.v) := by
  refine acall_of_aw Tryz.func61 rfl rfl rfl ?_
  refine rn ?_
  refine aops_e rfl (oe_call rfl rfl (FCall.of_fun (appSeqDir f cs w1 w2 w4 w5 w6 w7 w8 w3 K m0 L hL W hseq)) rfl ?_)
  rintro _ _ ⟨s, m, hK, rfl, rfl⟩
  refine rn ?_
  exact retq (.cons _ _ _ _ (.tmp _ _ rfl) .nil) (.refl _ _) ⟨s, m, hK, rfl, rfl⟩
theorem dirSeq (h : Hist) (la : Lim 4611686018427387904 h) (a : List Int) (hd : dirC h a = 0) (hc : checkI h = 0) (hal : a.length = h.ts.length) (b1 bl rf rd : Nat) (y : AV) (I : List Dirt → SV → List Res) (x0 : SV) (hy : ∀ pre d rest (s : SV) M, dirL h a = pre ++ d :: rest → FinOk h M → FCall Tryz.prog y [.agg (dirR d)] (.box b1 107 [.v (.pointer (some ⟨bl, 0, none⟩))] :: .box bl 167 (histC h ++ [intsA a, mpv rd, mpv rf]) :: .map rf (encM int2K (mapA verA M)) :: .map rd (encM intK (mapA bv (dnM (commP h.evs)))) :: .glob 0 186 limitsC :: .glob 2 287 firstC :: .glob 3 290 acceptC :: .glob 1 250 asksC :: I pre s) (fun r h' => ∃ s' : SV, r = bv true ∧ h' = .box b1 107 [.v (.pointer (some ⟨bl, 0, none⟩))] :: .box bl 167 (histC h ++ [intsA a, mpv rd, mpv rf]) :: .map rf (encM int2K (mapA verA M)) :: .map rd (encM intK (mapA bv (dnM (commP h.evs)))) :: .glob 0 186 limitsC :: .glob 2 287 firstC :: .glob 3 290 acceptC :: .glob 1 250 asksC :: I (pre ++ [d]) s')) :
    ACall Tryz.prog 113 (y :: [.v (.pointer (some ⟨b1, 0, none⟩))]) (.box b1 107 [.v (.pointer (some ⟨bl, 0, none⟩))] :: .box bl 167 (histC h ++ [intsA a, mpv rd, mpv rf]) :: .map rf (encM int2K (mapA verA [])) :: .map rd (encM intK (mapA bv (dnM (commP h.evs)))) :: .glob 0 186 limitsC :: .glob 2 287 firstC :: .glob 3 290 acceptC :: .glob 1 250 asksC :: I [] x0) (fun _ h' => ∃ x M, FinOk h M ∧ h' = .box b1 107 [.v (.pointer (some ⟨bl, 0, none⟩))] :: .box bl 167 (histC h ++ [intsA a, mpv rd, mpv rf]) :: .map rf (encM int2K (mapA verA M)) :: .map rd (encM intK (mapA bv (dnM (commP h.evs)))) :: .glob 0 186 limitsC :: .glob 2 287 firstC :: .glob 3 290 acceptC :: .glob 1 250 asksC :: I (dirL h a) x) :=
  (dirAll1 h la a hd hc hal y b1 bl rf rd [] (finOk_nil h) (fun _ _ => True) (fun _ => False) I (fun _ => []) x0 trivial (fun pre d rest x M hL _ hM => (hy pre d rest x M hL hM).mono (fun r h' ⟨s', e1, e2⟩ => ⟨s', .inl ⟨e1, trivial, e2⟩⟩))).mono (fun _ _ ⟨x, M, hM, hq⟩ => hq.elim (fun ⟨_, e⟩ => ⟨x, M, hM, e⟩) (fun ⟨hF, _⟩ => hF.elim))
set_option maxHeartbeats 4000000 in
theorem dirtyAllR (h : Hist) (la : Lim 4611686018427387904 h) (a : List Int) (ha : a.length ≤ 1000000) : ACall Tryz.prog 16 [.agg (histC h), intsA a] (.glob 0 186 limitsC :: .glob 2 287 firstC :: .glob 3 290 acceptC :: .glob 1 250 asksC :: []) (fun r h' => ∃ s : SV, h' = .row s.v 5 40 ((dirAll h a).map dirR) :: .glob 0 186 limitsC :: .glob 2 287 firstC :: .glob 3 290 acceptC :: .glob 1 250 asksC :: [] ∧ r = .tup [.v s.v, iv (dirC h a)]) := by
  refine acall_of_aw Tryz.func16 rfl rfl rfl ?_
  refine rn ?_
  refine aops_e rfl (oe_box rfl rfl rfl fun b2 => ?_)
  refine q1 ?_
  refine q1 ?_
  refine aops_nil (thn_n ?_)
  refine aw_seq (aw_region ?_)
  refine q1 ?_
  refine q1 ?_
  refine aops_e rfl (oe_call rfl rfl (FCall.fr1 (FCall.of_fun (dirOf h la a ha))) rfl ?_)
  rintro _ _ ⟨_, rfl, ⟨hd, bl, rf, rd, rfl, rfl⟩ | ⟨hd, rfl, rfl⟩⟩
  · refine rn ?_
    refine aw_cond rfl (fun hc15 => ?_) (fun hc15 => ?_)
    · first | cases hc15 | exact absurd hc15 (by decide) | (exfalso; simp_all; done)
    · refine aw_skip ?_
      refine thn_n ?_
      refine aw_seq (aw_region ?_)
      obtain ⟨hc, hlv, hal⟩ := dirC_0.1 hd
      refine rn ?_
      refine aops_e rfl (oe_call rfl rfl (FCall.of_fun (dirAll0 bl _)) rfl ?_)
      rintro _ _ ⟨b1, rfl, rfl⟩
      refine aops_e rfl (oe_call rfl rfl (FCall.fr (FCall.of_fun (collectDir 113 [.v (.pointer (some ⟨b1, 0, none⟩))] (.box b1 107 [.v (.pointer (some ⟨bl, 0, none⟩))]) (.box bl 167 (histC h ++ [intsA a, mpv rd, mpv rf])) (.map rd (encM intK (mapA bv (dnM (commP h.evs))))) (.glob 0 186 limitsC) (.glob 2 287 firstC) (.glob 3 290 acceptC) (.glob 1 250 asksC) (fun M => .map rf (encM int2K (mapA verA M))) (FinOk h) [] (dirL h a) (dirL_len hc a) [] (dirSeq h la a hd hc hal b1 bl rf rd))) (.cons _ ((pt1 _ _ _).trans (.cons _ ((pt1 _ _ _).trans (.cons _ ((pt1 _ _ _).trans (.cons _ ((pt1 _ _ _).trans (.cons _ ((pt1 _ _ _).trans (.cons _ ((pt1 _ _ _).trans (.cons _ (pt1 _ _ _))))))))))))))) rfl ?_)
      rintro _ _ ⟨_, rfl, s, M, hM, rfl, rfl⟩
      refine rn ?_
      exact retq (.cons _ _ _ _ (.tmp _ _ rfl) (.cons _ _ _ _ (.tmp _ _ rfl) .nil)) (.trans (.perm ((pt1 _ _ _).trans (.cons _ ((pt1 _ _ _).trans (.cons _ ((pt1 _ _ _).trans (.cons _ ((pt1 _ _ _).trans (.cons _ (pt5 _ _ _ _ _ _ _))))))))) _) (.drop [_, _, _, _, _] _ _)) ⟨s, by rw [all_0 hd], by rw [hd]; rfl⟩
  · refine rn ?_
    refine aw_cond rfl (fun hc15 => ?_) (fun hc15 => ?_)
    · refine rn ?_
      exact retq (.cons _ _ _ _ (.tmp _ _ rfl) (.cons _ _ _ _ (.tmp _ _ rfl) .nil)) (.trans (.drop [_] _ _) (vent_nilrow 5 40 _)) ⟨⟨none, 0, 0⟩, by rw [all_n hd]; rfl, rfl⟩
    · first | cases hc15 | exact absurd hc15 (by decide) | (exfalso; simp_all; done)
theorem dirtyAll (h : Hist) (la : Lim 4611686018427387904 h) (a : List Int) (ha : a.length ≤ 1000000) : ACall Tryz.prog 16 [.agg (histC h), intsA a] (.glob 0 186 limitsC :: .glob 2 287 firstC :: .glob 3 290 acceptC :: .glob 1 250 asksC :: []) (fun r h' => h' = .glob 0 186 limitsC :: .glob 2 287 firstC :: .glob 3 290 acceptC :: .glob 1 250 asksC :: [] ∧ r = .tup [dirsA (dirAll h a), iv (dirC h a)]) :=
  (dirtyAllR h la a ha).ventR (by rintro _ _ ⟨s, rfl, rfl⟩; exact ⟨_, _, vent_freeze_tup [] [_], rfl, rfl⟩)
set_option maxHeartbeats 4000000 in
theorem dirtyFirst (h : Hist) (la : Lim 4611686018427387904 h) (a : List Int) (ha : a.length ≤ 1000000) : ACall Tryz.prog 17 [.agg (histC h), intsA a] (.glob 0 186 limitsC :: .glob 2 287 firstC :: .glob 3 290 acceptC :: .glob 1 250 asksC :: []) (fun r h' => h' = .glob 0 186 limitsC :: .glob 2 287 firstC :: .glob 3 290 acceptC :: .glob 1 250 asksC :: [] ∧ r = .tup [.agg (dirR ((dirAll h a).head?.getD dir0)), bv (dirAll h a).head?.isSome, iv (dirC h a)]) := by
  refine acall_of_aw Tryz.func17 rfl rfl rfl ?_
  refine rn ?_
  refine aops_e rfl (oe_box rfl rfl rfl fun b2 => ?_)
  refine aops_e rfl (oe_alloc rfl fun b4 => ?_)
  refine aops_e rfl (oe_alloc rfl fun b5 => ?_)
  refine aops_e rfl (oe_alloc rfl fun b6 => ?_)
  refine aops_nil (thn_n ?_)
  refine aw_seq (aw_region ?_)
  refine q1 ?_
  refine q1 ?_
  refine aops_e rfl (oe_call rfl rfl (FCall.fr4 (FCall.of_fun (dirOf h la a ha))) rfl ?_)
  rintro _ _ ⟨_, rfl, ⟨hd, bl, rf, rd, rfl, rfl⟩ | ⟨hd, rfl, rfl⟩⟩
  · refine rn ?_
    refine aw_cond rfl (fun hc17 => ?_) (fun hc17 => ?_)
    · first | cases hc17 | exact absurd hc17 (by decide) | (exfalso; simp_all; done)
    · refine aw_skip ?_
      refine thn_n ?_
      refine aw_seq ?_
      refine aw_seq (aw_region ?_)
      obtain ⟨hc, hlv, hal⟩ := dirC_0.1 hd
      refine rn ?_
      refine aops_e rfl (oe_call rfl rfl (FCall.of_fun (dirAll0 bl _)) rfl ?_)
      rintro _ _ ⟨b1, rfl, rfl⟩
      refine rn ?_
      refine aw_rf (fun pend h'' => (pend = none ∧ dirL h a = [] ∧ ∃ M, h'' = .box b1 107 [.v (.pointer (some ⟨bl, 0, none⟩))] :: .box bl 167 (histC h ++ [intsA a, mpv rd, mpv rf]) :: .map rf (encM int2K (mapA verA M)) :: .map rd (encM intK (mapA bv (dnM (commP h.evs)))) :: .glob 0 186 limitsC :: .glob 2 287 firstC :: .glob 3 290 acceptC :: .glob 1 250 asksC :: .box b6 34 [iv 0] :: .box b5 4 [bv false] :: .box b4 40 (dirR dir0) :: .box b2 28 (histC h) :: []) ∨ (pend = some .ret ∧ ∃ d rest M, dirL h a = d :: rest ∧ h'' = .box b1 107 [.v (.pointer (some ⟨bl, 0, none⟩))] :: .box bl 167 (histC h ++ [intsA a, mpv rd, mpv rf]) :: .map rf (encM int2K (mapA verA M)) :: .map rd (encM intK (mapA bv (dnM (commP h.evs)))) :: .glob 0 186 limitsC :: .glob 2 287 firstC :: .glob 3 290 acceptC :: .glob 1 250 asksC :: .box b6 34 [iv 0] :: .box b5 4 [bv true] :: .box b4 40 (dirR d) :: .box b2 28 (histC h) :: [])) rfl (fun fn l q lp hlp => ?_) (fun q h'' hK => ?_) (fun q h'' c hK => ?_)
      · suffices hy : ∀ pre d rest (x : Dirt) M, dirL h a = pre ++ d :: rest → pre = [] → FinOk h M → FCall Tryz.prog (yv l) [.agg (dirR d)] (.box b1 107 [.v (.pointer (some ⟨bl, 0, none⟩))] :: .box bl 167 (histC h ++ [intsA a, mpv rd, mpv rf]) :: .map rf (encM int2K (mapA verA M)) :: .map rd (encM intK (mapA bv (dnM (commP h.evs)))) :: .glob 0 186 limitsC :: .glob 2 287 firstC :: .glob 3 290 acceptC :: .glob 1 250 asksC :: lp .ready none :: .defs q :: .box b6 34 [iv 0] :: .box b5 4 [bv false] :: .box b4 40 (dirR dir0) :: .box b2 28 (histC h) :: []) (fun r h' => ∃ x', (r = bv true ∧ pre ++ [d] = [] ∧ h' = .box b1 107 [.v (.pointer (some ⟨bl, 0, none⟩))] :: .box bl 167 (histC h ++ [intsA a, mpv rd, mpv rf]) :: .map rf (encM int2K (mapA verA M)) :: .map rd (encM intK (mapA bv (dnM (commP h.evs)))) :: .glob 0 186 limitsC :: .glob 2 287 firstC :: .glob 3 290 acceptC :: .glob 1 250 asksC :: lp .ready none :: .defs q :: .box b6 34 [iv 0] :: .box b5 4 [bv false] :: .box b4 40 (dirR dir0) :: .box b2 28 (histC h) :: []) ∨ (r = bv false ∧ (∃ rest, dirL h a = x' :: rest) ∧ h' = .box b1 107 [.v (.pointer (some ⟨bl, 0, none⟩))] :: .box bl 167 (histC h ++ [intsA a, mpv rd, mpv rf]) :: .map rf (encM int2K (mapA verA M)) :: .map rd (encM intK (mapA bv (dnM (commP h.evs)))) :: .glob 0 186 limitsC :: .glob 2 287 firstC :: .glob 3 290 acceptC :: .glob 1 250 asksC :: lp .done (some .ret) :: .defs q :: .box b6 34 [iv 0] :: .box b5 4 [bv true] :: .box b4 40 (dirR x') :: .box b2 28 (histC h) :: [])) by
          refine ACall.mono (ACall.perm ((pt2 _ _ _ _).trans (.cons _ ((pt6 _ _ _ _ _ _ _ _).trans (.cons _ ((pt6 _ _ _ _ _ _ _ _).trans (.cons _ ((pt6 _ _ _ _ _ _ _ _).trans (.cons _ ((pt6 _ _ _ _ _ _ _ _).trans (.cons _ ((pt6 _ _ _ _ _ _ _ _).trans (.cons _ ((pt6 _ _ _ _ _ _ _ _).trans (.cons _ (pt6 _ _ _ _ _ _ _ _))))))))))))))) (dirAll1 h la a hd hc hal (yv l) b1 bl rf rd [] (finOk_nil h) (fun pre _ => pre = []) (fun d => ∃ rest, dirL h a = d :: rest) (fun _ _ => lp .ready none :: .defs q :: .box b6 34 [iv 0] :: .box b5 4 [bv false] :: .box b4 40 (dirR dir0) :: .box b2 28 (histC h) :: []) (fun d => lp .done (some .ret) :: .defs q :: .box b6 34 [iv 0] :: .box b5 4 [bv true] :: .box b4 40 (dirR d) :: .box b2 28 (histC h) :: []) dir0 rfl hy)) ?_
          rintro _ _ ⟨x, M, hM, ⟨hn, rfl⟩ | ⟨⟨rest, hn⟩, rfl⟩⟩
          · exact ⟨none, .ready, _, ((pt8 _ _ _ _ _ _ _ _ _ _).trans (.cons _ (pt8 _ _ _ _ _ _ _ _ _ _))), by simp, .inl ⟨rfl, hn, M, rfl⟩⟩
          · exact ⟨some .ret, .done, _, ((pt8 _ _ _ _ _ _ _ _ _ _).trans (.cons _ (pt8 _ _ _ _ _ _ _ _ _ _))), by simp, .inr ⟨rfl, x, rest, M, hn, rfl⟩⟩
        intro pre d rest x M hL hpre hM
        refine FCall.perm (pt8 _ _ _ _ _ _ _ _ _ _) (FCall.ventE ?_)
        refine fcall_yl2 hlp rfl rfl ?_
        refine rn ?_
        refine aops_e rfl (oe_alloc rfl fun b9 => ?_)
        refine rn ?_
        refine ⟨[(9, .v (.pointer (some ⟨b9, 0, none⟩))), (4, .v (.pointer (some ⟨b4, 0, none⟩))), (5, .v (.pointer (some ⟨b5, 0, none⟩))), (6, .v (.pointer (some ⟨b6, 0, none⟩)))], .box b9 40 (dirR d) :: .box b1 107 [.v (.pointer (some ⟨bl, 0, none⟩))] :: .box bl 167 (histC h ++ [intsA a, mpv rd, mpv rf]) :: .map rf (encM int2K (mapA verA M)) :: .map rd (encM intK (mapA bv (dnM (commP h.evs)))) :: .glob 0 186 limitsC :: .glob 2 287 firstC :: .glob 3 290 acceptC :: .glob 1 250 asksC :: .defs q :: .box b6 34 [iv 0] :: .box b5 4 [bv false] :: .box b4 40 (dirR dir0) :: .box b2 28 (histC h) :: [], ent_trans (ent_perm (pt1 _ _ _)) es, ?_⟩
        refine rn ?_
        exact round_r (.refl _) ⟨_, _, .trans (.perm ((pt1 _ _ _).trans (.cons _ ((pt1 _ _ _).trans (.cons _ ((pt1 _ _ _).trans (.cons _ ((pt1 _ _ _).trans (.cons _ ((pt1 _ _ _).trans (.cons _ ((pt1 _ _ _).trans (.cons _ ((pt1 _ _ _).trans (.cons _ ((pt1 _ _ _).trans (.cons _ (pt1 _ _ _))))))))))))))))) _) (.drop [_] _ _), d, .inr ⟨rfl, ⟨rest, nil_of hL hpre⟩, rfl⟩⟩
      · obtain ⟨_, hn, M, rfl⟩ | ⟨hc', _⟩ := hK
        rotate_left
        · cases hc'
        refine rn ?_
        exact retqd (.refl _) (.cons _ _ _ _ (.agg _ _ _ _ _ _ _ rfl inferInstance inferInstance inferInstance rfl) (.cons _ _ _ _ (.one _ _ _ _ _ _ _ rfl inferInstance inferInstance rfl) (.cons _ _ _ _ (.one _ _ _ _ _ _ _ rfl inferInstance inferInstance rfl) .nil))) (.trans (.perm (.cons _ (.cons _ (.cons _ (.cons _ ((pt4 _ _ _ _ _ _).trans (.cons _ ((pt4 _ _ _ _ _ _).trans (.cons _ ((pt4 _ _ _ _ _ _).trans (.cons _ (pt4 _ _ _ _ _ _))))))))))) _) (.drop [_, _, _, _, _, _, _, _] _ _)) ⟨rfl, by rw [all_0 hd, hn, hd]; rfl⟩
      · obtain ⟨hc', _⟩ | ⟨hc', d, rest, M, hn, rfl⟩ := hK
        · cases hc'
        obtain rfl : c = .ret := by simpa using hc'
        refine rn ?_
        exact retqd (.refl _) (.cons _ _ _ _ (.agg _ _ _ _ _ _ _ rfl inferInstance inferInstance inferInstance rfl) (.cons _ _ _ _ (.one _ _ _ _ _ _ _ rfl inferInstance inferInstance rfl) (.cons _ _ _ _ (.one _ _ _ _ _ _ _ rfl inferInstance inferInstance rfl) .nil))) (.trans (.perm (.cons _ (.cons _ (.cons _ (.cons _ ((pt4 _ _ _ _ _ _).trans (.cons _ ((pt4 _ _ _ _ _ _).trans (.cons _ ((pt4 _ _ _ _ _ _).trans (.cons _ (pt4 _ _ _ _ _ _))))))))))) _) (.drop [_, _, _, _, _, _, _, _] _ _)) ⟨rfl, by rw [all_0 hd, hn, hd]; rfl⟩
  · refine rn ?_
    refine aw_cond rfl (fun hc17 => ?_) (fun hc17 => ?_)
    · refine rn ?_
      exact retq (.cons _ _ _ _ (.agg _ _ _ _ _ _ _ rfl inferInstance inferInstance inferInstance rfl) (.cons _ _ _ _ (.one _ _ _ _ _ _ _ rfl inferInstance inferInstance rfl) (.cons _ _ _ _ (.one _ _ _ _ _ _ _ rfl inferInstance inferInstance rfl) .nil))) (.drop [_, _, _, _] _ _) ⟨rfl, by rw [all_n hd]; rfl⟩
    · first | cases hc17 | exact absurd hc17 (by decide) | (exfalso; simp_all; done)
set_option maxHeartbeats 4000000 in
theorem dirtyIs (h : Hist) (la : Lim 4611686018427387904 h) (a : List Int) (ha : a.length ≤ 1000000) (z : Dirt) : ACall Tryz.prog 23 [.agg (histC h), intsA a, .agg (dirR z)] (.glob 0 186 limitsC :: .glob 2 287 firstC :: .glob 3 290 acceptC :: .glob 1 250 asksC :: []) (fun r h' => h' = .glob 0 186 limitsC :: .glob 2 287 firstC :: .glob 3 290 acceptC :: .glob 1 250 asksC :: [] ∧ r = bv (decide (z ∈ dirAll h a))) := by
  refine acall_of_aw Tryz.func23 rfl rfl rfl ?_
  refine rn ?_
  refine aops_e rfl (oe_box rfl rfl rfl fun b3 => ?_)
  refine aops_e rfl (oe_box rfl rfl rfl fun b5 => ?_)
  refine aops_e rfl (oe_alloc rfl fun b6 => ?_)
  refine aops_nil (thn_n ?_)
  refine aw_seq (aw_region ?_)
  refine q1 ?_
  refine q1 ?_
  refine aops_e rfl (oe_call rfl rfl (FCall.fr3 (FCall.of_fun (dirOf h la a ha))) rfl ?_)
  rintro _ _ ⟨_, rfl, ⟨hd, bl, rf, rd, rfl, rfl⟩ | ⟨hd, rfl, rfl⟩⟩
  · refine rn ?_
    refine aw_cond rfl (fun hc17 => ?_) (fun hc17 => ?_)
    · first | cases hc17 | exact absurd hc17 (by decide) | (exfalso; simp_all; done)
    · refine aw_skip ?_
      refine thn_n ?_
      refine aw_seq ?_
      refine aw_seq (aw_region ?_)
      obtain ⟨hc, hlv, hal⟩ := dirC_0.1 hd
      refine rn ?_
      refine aops_e rfl (oe_call rfl rfl (FCall.of_fun (dirAll0 bl _)) rfl ?_)
      rintro _ _ ⟨b1, rfl, rfl⟩
      refine rn ?_
      refine aw_rf (fun pend h'' => (pend = none ∧ (¬ z ∈ dirL h a) ∧ ∃ M, h'' = .box b1 107 [.v (.pointer (some ⟨bl, 0, none⟩))] :: .box bl 167 (histC h ++ [intsA a, mpv rd, mpv rf]) :: .map rf (encM int2K (mapA verA M)) :: .map rd (encM intK (mapA bv (dnM (commP h.evs)))) :: .glob 0 186 limitsC :: .glob 2 287 firstC :: .glob 3 290 acceptC :: .glob 1 250 asksC :: .box b6 4 [bv false] :: .box b5 40 (dirR z) :: .box b3 28 (histC h) :: []) ∨ (pend = some .ret ∧ z ∈ dirL h a ∧ ∃ M, h'' = .box b1 107 [.v (.pointer (some ⟨bl, 0, none⟩))] :: .box bl 167 (histC h ++ [intsA a, mpv rd, mpv rf]) :: .map rf (encM int2K (mapA verA M)) :: .map rd (encM intK (mapA bv (dnM (commP h.evs)))) :: .glob 0 186 limitsC :: .glob 2 287 firstC :: .glob 3 290 acceptC :: .glob 1 250 asksC :: .box b6 4 [bv true] :: .box b5 40 (dirR z) :: .box b3 28 (histC h) :: [])) rfl (fun fn l q lp hlp => ?_) (fun q h'' hK => ?_) (fun q h'' c hK => ?_)
      · suffices hy : ∀ pre d rest (x : Unit) M, dirL h a = pre ++ d :: rest → ¬ z ∈ pre → FinOk h M → FCall Tryz.prog (yv l) [.agg (dirR d)] (.box b1 107 [.v (.pointer (some ⟨bl, 0, none⟩))] :: .box bl 167 (histC h ++ [intsA a, mpv rd, mpv rf]) :: .map rf (encM int2K (mapA verA M)) :: .map rd (encM intK (mapA bv (dnM (commP h.evs)))) :: .glob 0 186 limitsC :: .glob 2 287 firstC :: .glob 3 290 acceptC :: .glob 1 250 asksC :: lp .ready none :: .defs q :: .box b6 4 [bv false] :: .box b5 40 (dirR z) :: .box b3 28 (histC h) :: []) (fun r h' => ∃ x' : Unit, (r = bv true ∧ (¬ z ∈ pre ++ [d]) ∧ h' = .box b1 107 [.v (.pointer (some ⟨bl, 0, none⟩))] :: .box bl 167 (histC h ++ [intsA a, mpv rd, mpv rf]) :: .map rf (encM int2K (mapA verA M)) :: .map rd (encM intK (mapA bv (dnM (commP h.evs)))) :: .glob 0 186 limitsC :: .glob 2 287 firstC :: .glob 3 290 acceptC :: .glob 1 250 asksC :: lp .ready none :: .defs q :: .box b6 4 [bv false] :: .box b5 40 (dirR z) :: .box b3 28 (histC h) :: []) ∨ (r = bv false ∧ z ∈ dirL h a ∧ h' = .box b1 107 [.v (.pointer (some ⟨bl, 0, none⟩))] :: .box bl 167 (histC h ++ [intsA a, mpv rd, mpv rf]) :: .map rf (encM int2K (mapA verA M)) :: .map rd (encM intK (mapA bv (dnM (commP h.evs)))) :: .glob 0 186 limitsC :: .glob 2 287 firstC :: .glob 3 290 acceptC :: .glob 1 250 asksC :: lp .done (some .ret) :: .defs q :: .box b6 4 [bv true] :: .box b5 40 (dirR z) :: .box b3 28 (histC h) :: [])) by
          refine ACall.mono (ACall.perm ((pt2 _ _ _ _).trans (.cons _ ((pt5 _ _ _ _ _ _ _).trans (.cons _ ((pt5 _ _ _ _ _ _ _).trans (.cons _ ((pt5 _ _ _ _ _ _ _).trans (.cons _ ((pt5 _ _ _ _ _ _ _).trans (.cons _ ((pt5 _ _ _ _ _ _ _).trans (.cons _ ((pt5 _ _ _ _ _ _ _).trans (.cons _ (pt5 _ _ _ _ _ _ _))))))))))))))) (dirAll1 h la a hd hc hal (yv l) b1 bl rf rd [] (finOk_nil h) (fun pre (_ : Unit) => ¬ z ∈ pre) (fun _ => z ∈ dirL h a) (fun _ _ => lp .ready none :: .defs q :: .box b6 4 [bv false] :: .box b5 40 (dirR z) :: .box b3 28 (histC h) :: []) (fun _ => lp .done (some .ret) :: .defs q :: .box b6 4 [bv true] :: .box b5 40 (dirR z) :: .box b3 28 (histC h) :: []) () (by simp) hy)) ?_
          rintro _ _ ⟨x, M, hM, ⟨hn, rfl⟩ | ⟨hn, rfl⟩⟩
          · exact ⟨none, .ready, _, ((pt8 _ _ _ _ _ _ _ _ _ _).trans (.cons _ (pt8 _ _ _ _ _ _ _ _ _ _))), by simp, .inl ⟨rfl, hn, M, rfl⟩⟩
          · exact ⟨some .ret, .done, _, ((pt8 _ _ _ _ _ _ _ _ _ _).trans (.cons _ (pt8 _ _ _ _ _ _ _ _ _ _))), by simp, .inr ⟨rfl, hn, M, rfl⟩⟩
        intro pre d rest x M hL hpre hM
        refine FCall.perm (pt8 _ _ _ _ _ _ _ _ _ _) (FCall.ventE ?_)
        refine fcall_yl2 hlp rfl rfl ?_
        refine rn ?_
        refine aops_e rfl (oe_alloc rfl fun b9 => ?_)
        refine rn ?_
        refine ⟨[(9, .v (.pointer (some ⟨b9, 0, none⟩))), (5, .v (.pointer (some ⟨b5, 0, none⟩))), (6, .v (.pointer (some ⟨b6, 0, none⟩)))], .box b9 40 (dirR d) :: .box b1 107 [.v (.pointer (some ⟨bl, 0, none⟩))] :: .box bl 167 (histC h ++ [intsA a, mpv rd, mpv rf]) :: .map rf (encM int2K (mapA verA M)) :: .map rd (encM intK (mapA bv (dnM (commP h.evs)))) :: .glob 0 186 limitsC :: .glob 2 287 firstC :: .glob 3 290 acceptC :: .glob 1 250 asksC :: .defs q :: .box b6 4 [bv false] :: .box b5 40 (dirR z) :: .box b3 28 (histC h) :: [], ent_trans (ent_perm (pt1 _ _ _)) es, ?_⟩
        refine rn ?_
        refine aw_cond rfl (fun hc23 => ?_) (fun hc23 => ?_)
        · have hz : d = z := eq_of_beq (by rw [← dir_list]; simpa using hc23)
          refine rn ?_
          exact round_r (.refl _) ⟨_, _, .trans (.perm ((pt1 _ _ _).trans (.cons _ ((pt1 _ _ _).trans (.cons _ ((pt1 _ _ _).trans (.cons _ ((pt1 _ _ _).trans (.cons _ ((pt1 _ _ _).trans (.cons _ ((pt1 _ _ _).trans (.cons _ ((pt1 _ _ _).trans (.cons _ ((pt1 _ _ _).trans (.cons _ (pt1 _ _ _))))))))))))))))) _) (.drop [_] _ _), (), .inr ⟨rfl, by rw [hL, ← hz]; simp, rfl⟩⟩
        · have hz : ¬ d = z := fun e => by rw [← beq_iff_eq, ← dir_list] at e; simp [e] at hc23
          refine rn ?_
          exact round_n (.refl _) ⟨_, _, .trans (.perm ((pt1 _ _ _).trans (.cons _ ((pt1 _ _ _).trans (.cons _ ((pt1 _ _ _).trans (.cons _ ((pt1 _ _ _).trans (.cons _ ((pt1 _ _ _).trans (.cons _ ((pt1 _ _ _).trans (.cons _ ((pt1 _ _ _).trans (.cons _ ((pt1 _ _ _).trans (.cons _ (pt1 _ _ _))))))))))))))))) _) (.drop [_] _ _), (), .inl ⟨rfl, by simp [hpre, Ne.symm hz], rfl⟩⟩
      · obtain ⟨_, hn, M, rfl⟩ | ⟨hc', _⟩ := hK
        rotate_left
        · cases hc'
        refine rn ?_
        exact retqd (.refl _) (.cons _ _ _ _ (.one _ _ _ _ _ _ _ rfl inferInstance inferInstance rfl) .nil) (.trans (.perm (.cons _ (.cons _ (.cons _ (.cons _ ((pt4 _ _ _ _ _ _).trans (.cons _ ((pt4 _ _ _ _ _ _).trans (.cons _ (pt4 _ _ _ _ _ _))))))))) _) (.drop [_, _, _, _, _, _, _] _ _)) ⟨rfl, by rw [all_0 hd, decide_eq_false hn]; rfl⟩
      · obtain ⟨hc', _⟩ | ⟨hc', hn, M, rfl⟩ := hK
        · cases hc'
        obtain rfl : c = .ret := by simpa using hc'
        refine rn ?_
        exact retqd (.refl _) (.cons _ _ _ _ (.one _ _ _ _ _ _ _ rfl inferInstance inferInstance rfl) .nil) (.trans (.perm (.cons _ (.cons _ (.cons _ (.cons _ ((pt4 _ _ _ _ _ _).trans (.cons _ ((pt4 _ _ _ _ _ _).trans (.cons _ (pt4 _ _ _ _ _ _))))))))) _) (.drop [_, _, _, _, _, _, _] _ _)) ⟨rfl, by rw [all_0 hd, decide_eq_true hn]; rfl⟩
  · refine rn ?_
    refine aw_cond rfl (fun hc17 => ?_) (fun hc17 => ?_)
    · refine rn ?_
      exact retq (.cons _ _ _ _ (.one _ _ _ _ _ _ _ rfl inferInstance inferInstance rfl) .nil) (.drop [_, _, _] _ _) ⟨rfl, by rw [all_n hd]; rfl⟩
    · first | cases hc17 | exact absurd hc17 (by decide) | (exfalso; simp_all; done)
end Go.Proofs
/- The walks of the reference's Has, Committed, some, Writers. Conditions: none. -/
set_option linter.unusedVariables false
set_option linter.unusedSimpArgs false
set_option maxRecDepth 10000
namespace Go.Proofs
open Go Go.Ab
attribute [local irreducible] QR QV OE aops aw dsoup dsoupM dalloc dallocM thn inBlk jsoup jch lsoup
open Go.H
theorem refHas (h : Hist) (t c : Int) (la : Lim 4611686018427387904 h) : ACall Tryz.prog 147 [.agg (histC h), iv t, iv c] [] (fun r h' => h' = [] ∧ r = bv (hasB h.evs t c)) := by
  refine acall_of_aw Tryz.func147 rfl rfl rfl ?_
  refine rn ?_
  refine aops_e rfl (oe_box rfl rfl rfl fun b3 => ?_)
  refine rn ?_
  refine aw_rng (h.evs.length) (fun k : Nat => h.evs.all (fun e : Ev => !(e.t == t && e.kind == c)) = (h.evs.drop k).all (fun e : Ev => !(e.t == t && e.kind == c))) (fun k => [(12, iv k)]) [(1, _), (2, _), (10, _), (11, _)] rfl ?_
  intro k lk zk
  refine rn ?_
  refine aw_cond rfl (fun hc13 => ?_) (fun hc13 => ?_)
  · have hk := ltMap hc13
    have rk := atRow (f := evR) hk
    have bk := la.evs
    refine rn ?_
    refine aops_e rfl (oe_alloc rfl fun b8 => ?_)
    refine rn ?_
    refine asplit (fun hg4_4 => ?_) (fun hg4_4 => ?_)
    · refine rn ?_
      refine aw_cond rfl (fun hc25 => ?_) (fun hc25 => ?_)
      · refine rn ?_
        refine rq 2 ?_
        exact ⟨rfl, congrArg bv (by rw [hasB, allF hk (by simp_all)]; rfl)⟩
      · refine rn ?_
        exact ⟨hk, allT hk zk (by simp_all), eA⟩
    · refine rn ?_
      refine aw_cf rfl ?_
      refine rn ?_
      exact ⟨hk, allT hk zk (by simp_all), eA⟩
  · have qk := geMap hc13 lk
    have ak := allE qk zk
    refine rn ?_
    refine rq 1 ?_
    exact ⟨rfl, congrArg bv (by rw [hasB, ak]; rfl)⟩
theorem refComm (h : Hist) (t : Int) (la : Lim 4611686018427387904 h) : ACall Tryz.prog 117 [.agg (histC h), iv t] [] (fun r h' => h' = [] ∧ r = bv (hasB h.evs t 5)) := by
  refine acall_of_aw Tryz.func117 rfl rfl rfl ?_
  refine rn ?_
  refine aops_e rfl (oe_box rfl rfl rfl fun b2 => ?_)
  refine rn ?_
  refine qv rfl rfl (qv_call rfl rfl (pcall (refHas h t 5 la) (Sbs.refl _))) ?_
  refine rn ?_
  refine rq 1 ?_
  exact ⟨rfl, rfl⟩
theorem refSome (ts f : List Int) (hl : ts.length ≤ 4611686018427387904) (hm : f.length ≤ 4611686018427387904) : ACall Tryz.prog 237 [intsA ts, intsA f] [] (fun r h' => h' = [] ∧ r = bv (someR ts f)) := by
  refine acall_of_aw Tryz.func237 rfl rfl rfl ?_
  refine rn ?_
  refine aw_rng (ts.length) (fun k : Nat => SomeK ts f k) (fun k => [(9, iv k)]) [(0, _), (1, _), (7, _), (8, _)] (fun j _ h => absurd h (Nat.not_lt_zero _)) ?_
  intro k lk zk
  refine rn ?_
  refine aw_cond rfl (fun hc10 => ?_) (fun hc10 => ?_)
  · have hk := ltMap hc10
    have rk := atRow (f := intR) hk
    refine rn ?_
    refine qv rfl rfl (qv_call rfl rfl (pcall (refAt f ts[k] hm) (Sbs.refl _))) ?_
    refine rn ?_
    refine asplit (fun hg4_4 => ?_) (fun hg4_4 => ?_)
    · refine rn ?_
      refine aw_ct rfl ?_
      refine rn ?_
      refine rq 0 ?_
      exact ⟨rfl, congrArg bv (by rw [some_f hk (by first | exact .inl hg4_4 | exact .inr (by simpa using hc24))])⟩
    · refine rn ?_
      refine qv rfl rfl (qv_call rfl rfl (pcall (refAt ts ts[k] hl) (Sbs.refl _))) ?_
      refine rn ?_
      refine aw_cond rfl (fun hc24 => ?_) (fun hc24 => ?_)
      · refine rn ?_
        refine rq 0 ?_
        exact ⟨rfl, congrArg bv (by rw [some_f hk (by first | exact .inl hg4_4 | exact .inr (by simpa using hc24))])⟩
      · refine rn ?_
        exact ⟨hk, someK_s hk zk (by simp_all) (by simp_all), eA⟩
  · have qk := geMap hc10 lk
    refine rn ?_
    refine rq 0 ?_
    exact ⟨rfl, congrArg bv (by rw [some_t (qk ▸ zk)])⟩
theorem refWriters (h : Hist) (x : Int) (la : Lim 1000000 h) : ACall Tryz.prog 134 [.agg (histC h), iv x] [] (fun r h' => h' = [] ∧ r = intsA (writersR h x)) := by
  refine acall_of_aw Tryz.func134 rfl rfl rfl ?_
  have be := la.evs
  have bt := la.ts
  refine rn ?_
  refine aops_e rfl (oe_box rfl rfl rfl fun b2 => ?_)
  refine rn0 ?_
  refine aw_seq (aw_region ?_)
  refine rn0 ?_
  refine aw_seq ?_
  refine aw_seq ?_
  refine aw_ent (ent_nilrow 1 3) ?_
  refine rn ?_
  refine aw_rng1 h.ts.length (fun k s => ⟨[(13, iv k), (5, .v s.v), (1, iv x), (2, .v (.pointer (some ⟨b2, 0, none⟩))), (12, iv (h.ts.map strR).length)], .row s.v 1 3 ((writersK h x k).map intR) :: .box b2 28 (histC h) :: [], []⟩) ⟨none, 0, 0⟩ es ?_
  intro k s lk
  refine rn ?_
  refine aw_cond rfl (fun hc14 => ?_) (fun hc14 => ?_)
  · have hk := ltMap hc14
    have rk := atRow (f := strR) hk
    refine rn ?_
    refine aw_rngS h.evs.length (fun j wb => wb = (h.evs.take j).any (wroteQ k x)) (fun j wb => [(19, iv j), (7, bv wb)]) [(1, _), (2, _), (5, _), (6, _), (12, _), (13, _), (17, _), (18, _)] false rfl ?_
    intro j wb lj zj
    refine rn ?_
    refine aw_cond rfl (fun hc20 => ?_) (fun hc20 => ?_)
    · have hj := ltMap hc20
      have rj := atRow (f := evR) hj
      refine rn ?_
      refine aops_e rfl (oe_alloc rfl fun b9 => ?_)
      refine rn ?_
      refine asplit (fun hg9_1 => ?_) (fun hg9_1 => ?_)
      · refine rn ?_
        refine ⟨hj, _, ?_, eA⟩
        rw [any_step hj, ← zj]
        simp_all [wroteQ]
      · refine rn ?_
        refine asplit (fun hg9_5 => ?_) (fun hg9_5 => ?_)
        · refine rn ?_
          refine asplit (fun hg9_11 => ?_) (fun hg9_11 => ?_)
          · refine rn ?_
            refine ⟨hj, _, ?_, eA⟩
            rw [any_step hj, ← zj]
            simp_all [wroteQ]
          · refine rn ?_
            refine ⟨hj, _, ?_, eA⟩
            rw [any_step hj, ← zj]
            simp_all [wroteQ]
        · refine rn ?_
          refine ⟨hj, _, ?_, eA⟩
          rw [any_step hj, ← zj]
          simp_all [wroteQ]
    · have qj := geMap hc20 lj
      have wq : wb = h.evs.any (wroteQ k x) := by rw [zj, qj, List.take_length]
      refine rn ?_
      refine asplit (fun hg11_1 => ?_) (fun hg11_1 => ?_)
      · refine rn ?_
        refine qv rfl rfl (qv_call rfl rfl (pcall (refComm h k (la.mono (by decide))) (Sbs.refl _))) ?_
        refine rn ?_
        refine aw_cond rfl (fun hc47 => ?_) (fun hc47 => ?_)
        · refine rn ?_
          refine qv rfl rfl (qv_buildSlice rfl rfl) ?_
          refine aops_e rfl (oe_append_row rfl rfl (by simp only [List.length_map]; have := writersK_len h x k; simp; omega) rfl (fun s51 => ?_) (one_int [(k : Int)]))
          refine aops_slice s51 fun sv hsv => ?_
          subst hsv
          refine rn ?_
          first | exact ⟨hk, sv, by rw [writersK_t (by simp_all) (by simp_all), List.map_append]; exact eA⟩ | exact ⟨hk, s, by rw [writersK_f (by simp_all)]; exact eA⟩
        · refine rn ?_
          first | exact ⟨hk, sv, by rw [writersK_t (by simp_all) (by simp_all), List.map_append]; exact eA⟩ | exact ⟨hk, s, by rw [writersK_f (by simp_all)]; exact eA⟩
      · refine rn ?_
        refine aw_cf rfl ?_
        refine rn ?_
        first | exact ⟨hk, sv, by rw [writersK_t (by simp_all) (by simp_all), List.map_append]; exact eA⟩ | exact ⟨hk, s, by rw [writersK_f (by simp_all)]; exact eA⟩
  · have qk := geMap hc14 lk
    refine rn ?_
    exact retq (.cons _ _ _ _ (.tmp _ _ rfl) .nil) (.trans vent_freeze (.drop1 _ _ _)) ⟨rfl, by rw [qk, writersK_all]; rfl⟩
end Go.Proofs
/- The walks of the reference's rules of rows. Conditions: none. -/
set_option linter.unusedVariables false
set_option linter.unusedSimpArgs false
set_option maxRecDepth 10000
namespace Go.Proofs
open Go Go.Ab
attribute [local irreducible] QR QV OE aops aw dsoup dsoupM dalloc dallocM thn inBlk jsoup jch lsoup
open Go.H
theorem refOrder (h : Hist) (i : Nat) (hi : i < h.ords.length) (la : Lim 1000000 h) : ACall Tryz.prog 224 [.agg (histC h), iv i] [] (fun r h' => h' = [] ∧ r = bv (orderR h i h.ords[i])) := by
  refine acall_of_aw Tryz.func224 rfl rfl rfl ?_
  have ri := atRow (f := ordR) hi
  have bo := la.ords
  have si := la.ordts h.ords[i] (List.getElem_mem hi)
  refine rn ?_
  refine aops_e rfl (oe_box rfl rfl rfl fun b2 => ?_)
  refine rn ?_
  refine aops_e rfl (oe_alloc rfl fun b5 => ?_)
  first | refine aops_e rfl (oe_store_all rfl rfl rfl ?_) | refine aops_e rfl (oe_store rfl rfl rfl rfl (Nat.le_of_ble_eq_true rfl) ?_)
  refine aops_nil (thn_n ?_)
  refine aw_seq ?_
  refine aw_seq (aw_region ?_)
  refine q1 ?_
  refine q1 ?_
  refine q1 ?_
  refine qq rfl rfl (qr_slice_h (k := i) rfl rfl (by simp; omega)) ?_
  rw [← List.map_take]
  refine rn ?_
  refine aw_rng ((h.ords.take i).length) (fun j : Nat => (h.ords.take i).all (fun p : Ord => !(p.o == h.ords[i].o)) = ((h.ords.take i).drop j).all (fun p : Ord => !(p.o == h.ords[i].o))) (fun j => [(19, iv j)]) [(2, _), (5, _), (17, _), (18, _)] rfl ?_
  intro j lj zj
  refine rn ?_
  refine aw_cond rfl (fun hc20 => ?_) (fun hc20 => ?_)
  · have hj := ltMap hc20
    have rj := atRow (f := ordR) hj
    have bj : (h.ords.take i).length ≤ 4611686018427387904 := by simp; omega
    refine rn ?_
    refine aops_e rfl (oe_alloc rfl fun b7 => ?_)
    refine rn ?_
    refine aw_cond rfl (fun hc27 => ?_) (fun hc27 => ?_)
    · refine rn ?_
      refine rq 3 ?_
      exact ⟨rfl, congrArg bv (by rw [orderR_t (allF hj (by simpa using hc27))])⟩
    · refine rn ?_
      exact ⟨hj, allT hj zj (by simpa using hc27), eA⟩
  · have qj := geMap hc20 lj
    have aj := allE qj zj
    refine rn ?_
    refine qv rfl rfl (qv_call rfl rfl (pcall (refWriters h h.ords[i].o la) (Sbs.refl _))) ?_
    refine rn ?_
    refine qv rfl rfl (qv_call rfl rfl (pcall (refSome h.ords[i].ts (writersR h h.ords[i].o) (Nat.le_trans si (by decide)) (Nat.le_trans (writersR_le _ _) (Nat.le_trans la.ts (by decide)))) (Sbs.refl _))) ?_
    refine rn ?_
    refine asplit (fun hg9_5 => ?_) (fun hg9_5 => ?_)
    · refine rn ?_
      refine rq 2 ?_
      exact ⟨rfl, congrArg bv (by rw [orderR_f aj]; simp_all)⟩
    · refine rn ?_
      refine qv rfl rfl (qv_call rfl rfl (pcall (refSome (writersR h h.ords[i].o) h.ords[i].ts (Nat.le_trans (writersR_le _ _) (Nat.le_trans la.ts (by decide))) (Nat.le_trans si (by decide))) (Sbs.refl _))) ?_
      refine rn ?_
      refine rq 2 ?_
      exact ⟨rfl, congrArg bv (by rw [orderR_f aj]; simp_all)⟩
theorem refMissing (h : Hist) (x : Int) (la : Lim 1000000 h) : ACall Tryz.prog 225 [.agg (histC h), iv x] [] (fun r h' => h' = [] ∧ r = bv (missR h x)) := by
  refine acall_of_aw Tryz.func225 rfl rfl rfl ?_
  refine rn ?_
  refine aops_e rfl (oe_box rfl rfl rfl fun b2 => ?_)
  refine rn ?_
  refine aw_rng (h.ords.length) (fun j : Nat => h.ords.all (fun p : Ord => !(p.o == x)) = (h.ords.drop j).all (fun p : Ord => !(p.o == x))) (fun j => [(10, iv j)]) [(1, _), (2, _), (8, _), (9, _)] rfl ?_
  intro j lj zj
  refine rn ?_
  refine aw_cond rfl (fun hc11 => ?_) (fun hc11 => ?_)
  · have hj := ltMap hc11
    have rj := atRow (f := ordR) hj
    have bo := la.ords
    refine rn ?_
    refine aops_e rfl (oe_alloc rfl fun b6 => ?_)
    refine rn ?_
    refine aw_cond rfl (fun hc17 => ?_) (fun hc17 => ?_)
    · refine rn ?_
      refine rq 2 ?_
      exact ⟨rfl, congrArg bv (by rw [missR_t (allF hj (by simpa using hc17))])⟩
    · refine rn ?_
      exact ⟨hj, allT hj zj (by simpa using hc17), eA⟩
  · have qj := geMap hc11 lj
    have aj := allE qj zj
    refine rn ?_
    refine qv rfl rfl (qv_call rfl rfl (pcall (refWriters h x la) (Sbs.refl _))) ?_
    refine rn ?_
    refine rq 1 ?_
    exact ⟨rfl, congrArg bv (by rw [missR_f aj]; simp; omega)⟩
theorem refMatch (h : Hist) (i : Nat) (hi : i < h.mats.length) (la : Lim 1000000 h) : ACall Tryz.prog 226 [.agg (histC h), iv i] [] (fun r h' => h' = [] ∧ r = bv (matchR h i h.mats[i])) := by
  refine acall_of_aw Tryz.func226 rfl rfl rfl ?_
  have ri := atRow (f := matR) hi
  have bo := la.mats
  have si := la.matts h.mats[i] (List.getElem_mem hi)
  refine rn ?_
  refine aops_e rfl (oe_box rfl rfl rfl fun b2 => ?_)
  refine rn ?_
  refine aops_e rfl (oe_alloc rfl fun b5 => ?_)
  first | refine aops_e rfl (oe_store_all rfl rfl rfl ?_) | refine aops_e rfl (oe_store rfl rfl rfl rfl (Nat.le_of_ble_eq_true rfl) ?_)
  refine aops_nil (thn_n ?_)
  refine aw_seq ?_
  refine aw_seq (aw_region ?_)
  refine q1 ?_
  refine q1 ?_
  refine q1 ?_
  refine qq rfl rfl (qr_slice_h (k := i) rfl rfl (by simp; omega)) ?_
  rw [← List.map_take]
  refine rn ?_
  refine aw_rng ((h.mats.take i).length) (fun j : Nat => (h.mats.take i).all (fun p : Mat => !(p.p == h.mats[i].p && p.o == h.mats[i].o)) = ((h.mats.take i).drop j).all (fun p : Mat => !(p.p == h.mats[i].p && p.o == h.mats[i].o))) (fun j => [(18, iv j)]) [(2, _), (5, _), (16, _), (17, _)] rfl ?_
  intro j lj zj
  refine rn ?_
  refine aw_cond rfl (fun hc19 => ?_) (fun hc19 => ?_)
  · have hj := ltMap hc19
    have rj := atRow (f := matR) hj
    have bj : (h.mats.take i).length ≤ 4611686018427387904 := by simp; omega
    refine rn ?_
    refine aops_e rfl (oe_alloc rfl fun b7 => ?_)
    refine rn ?_
    refine asplit (fun hg5_5 => ?_) (fun hg5_5 => ?_)
    · refine rn ?_
      refine aw_cond rfl (fun hc33 => ?_) (fun hc33 => ?_)
      · refine rn ?_
        refine rq 3 ?_
        exact ⟨rfl, congrArg bv (by rw [matchR_t (allF hj (by simp_all))])⟩
      · refine rn ?_
        exact ⟨hj, allT hj zj (by simp_all), eA⟩
    · refine rn ?_
      refine aw_cf rfl ?_
      refine rn ?_
      exact ⟨hj, allT hj zj (by simp_all), eA⟩
  · have qj := geMap hc19 lj
    have aj := allE qj zj
    refine rn ?_
    refine aw_draw 6 rfl ?_
    refine rn ?_
    refine dv rfl rfl (by exact qv_call rfl rfl (pcall (refWriters h h.mats[i].o la) (Sbs.refl _))) ?_
    refine rn ?_
    refine qv rfl rfl (qv_call rfl rfl (pcall (refSome h.mats[i].ts (writersR h h.mats[i].o) (Nat.le_trans si (by decide)) (Nat.le_trans (writersR_le _ _) (Nat.le_trans la.ts (by decide)))) (Sbs.refl _))) ?_
    refine rn ?_
    refine rq 2 ?_
    exact ⟨rfl, congrArg bv (by rw [matchR_f aj])⟩
theorem refWant (h : Hist) (i : Nat) (hi : i < h.wants.length) (la : Lim 1000000 h) : ACall Tryz.prog 227 [.agg (histC h), iv i] [] (fun r h' => h' = [] ∧ r = bv (wantW h i h.wants[i])) := by
  refine acall_of_aw Tryz.func227 rfl rfl rfl ?_
  have ri := atRow (f := wanR) hi
  have bo := la.wants
  refine rn ?_
  refine aops_e rfl (oe_box rfl rfl rfl fun b2 => ?_)
  refine q1 ?_
  refine aops_nil (thn_n ?_)
  refine aw_seq ?_
  refine aw_seq (aw_region ?_)
  refine q1 ?_
  refine q1 ?_
  refine q1 ?_
  refine qq rfl rfl (qr_slice_h (k := i) rfl rfl (by simp; omega)) ?_
  rw [← List.map_take]
  refine rn ?_
  refine aw_rng ((h.wants.take i).length) (fun j : Nat => (h.wants.take i).all (fun p : Wan => !(p.s == h.wants[i].s)) = ((h.wants.take i).drop j).all (fun p : Wan => !(p.s == h.wants[i].s))) (fun j => [(14, iv j)]) [(1, _), (2, _), (12, _), (13, _)] rfl ?_
  intro j lj zj
  refine rn ?_
  refine aw_cond rfl (fun hc15 => ?_) (fun hc15 => ?_)
  · have hj := ltMap hc15
    have rj := atRow (f := wanR) hj
    have bj : (h.wants.take i).length ≤ 4611686018427387904 := by simp; omega
    refine rn ?_
    refine aops_e rfl (oe_alloc rfl fun b6 => ?_)
    refine rn ?_
    refine aw_draw 8 rfl ?_
    refine rn ?_
    refine aw_cond rfl (fun hc26 => ?_) (fun hc26 => ?_)
    · refine rn ?_
      refine rq 2 ?_
      exact ⟨rfl, congrArg bv (by rw [wantW_t (allF hj (by simpa using hc26))])⟩
    · refine rn ?_
      exact ⟨hj, allT hj zj (by simpa using hc26), eA⟩
  · have qj := geMap hc15 lj
    have aj := allE qj zj
    refine rn ?_
    refine aw_rng (h.evs.length) (fun k : Nat => h.evs.all (fun e : Ev => !(e.kind == 1 && e.s == h.wants[i].s)) = (h.evs.drop k).all (fun e : Ev => !(e.kind == 1 && e.s == h.wants[i].s))) (fun k => [(31, iv k)]) [(1, _), (2, _), (29, _), (30, _)] rfl ?_
    intro k lk zk
    refine rn ?_
    refine aw_cond rfl (fun hc32 => ?_) (fun hc32 => ?_)
    · have hk := ltMap hc32
      have rk := atRow (f := evR) hk
      have bk := la.evs
      refine rn ?_
      refine aops_e rfl (oe_alloc rfl fun b8 => ?_)
      refine rn ?_
      refine aw_draw 12 rfl ?_
      refine rn ?_
      refine dsplit (fun hg10_3 => ?_) (fun hg10_3 => ?_)
      · refine rn ?_
        refine aw_cond rfl (fun hc48 => ?_) (fun hc48 => ?_)
        · refine rn ?_
          refine rq 2 ?_
          exact ⟨rfl, congrArg bv (by rw [wantW_f aj (allF hk (by simp_all))])⟩
        · refine rn ?_
          exact ⟨hk, allT hk zk (by simp_all), eA⟩
      · refine rn ?_
        refine aw_cf rfl ?_
        refine rn ?_
        exact ⟨hk, allT hk zk (by simp_all), eA⟩
    · have qk := geMap hc32 lk
      have ak := allE qk zk
      refine rn ?_
      refine rq 1 ?_
      exact ⟨rfl, congrArg bv (by rw [wantW_f aj ak])⟩
end Go.Proofs
/- The walks of the reference's Seen, wrote. Conditions: none. -/
set_option linter.unusedVariables false
set_option linter.unusedSimpArgs false
set_option maxRecDepth 10000
namespace Go.Proofs
open Go Go.Ab
attribute [local irreducible] QR QV OE aops aw dsoup dsoupM dalloc dallocM thn inBlk jsoup jch lsoup
open Go.H
theorem refSeen (e : Ev) : ACall Tryz.prog 66 [.agg (evR e)] [] (fun r h' => h' = [] ∧ r = seensA (seenOf e)) := by
  refine acall_of_aw Tryz.func66 rfl rfl rfl ?_
  refine rn ?_
  refine aops_e rfl (oe_box rfl rfl rfl fun b1 => ?_)
  refine rn ?_
  refine aw_cond rfl (fun hc5 => ?_) (fun hc5 => ?_)
  · refine rn ?_
    refine qv rfl rfl (qv_buildSlice rfl rfl) ?_
    refine rn ?_
    exact retq (.cons _ _ _ _ (.tmp _ _ rfl) .nil) (.trans (.drop [_] _ _) (.le Sb.unfull.le)) ⟨rfl, by rw [seenOf, if_pos (by simpa using hc5)]; rfl⟩
  · refine rn ?_
    refine rq 1 ?_
    exact ⟨rfl, by rw [seenOf, if_neg (by simpa using hc5)]; rfl⟩
theorem refWrote (l : List Ev) (t x : Int) (la : l.length ≤ 1000000) : ACall Tryz.prog 238 [evsA l, iv t, iv x] [] (fun r h' => h' = [] ∧ r = evsA (wroteL l t x)) := by
  refine acall_of_aw Tryz.func238 rfl rfl rfl ?_
  refine aw_seq (aw_region ?_)
  refine rn0 ?_
  refine aw_seq (aw_region ?_)
  refine rn0 ?_
  refine aw_seq ?_
  refine aw_seq ?_
  refine aw_ent (ent_nilrow 9 56) ?_
  refine rn ?_
  refine aw_rng1 l.length (fun k s => ⟨[(12, iv k), (7, .v s.v), (1, iv t), (2, iv x), (10, evsA l), (11, iv (l.map evR).length)], .row s.v 9 56 ((wroteL (l.take k) t x).map evR) :: [], []⟩) ⟨none, 0, 0⟩ es ?_
  intro k s lk
  refine rn ?_
  refine aw_cond rfl (fun hc13 => ?_) (fun hc13 => ?_)
  · have hk := ltMap hc13
    have rk := atRow (f := evR) hk
    refine rn ?_
    refine aops_e rfl (oe_alloc rfl fun b9 => ?_)
    refine rn ?_
    refine asplit (fun hg5_3 => ?_) (fun hg5_3 => ?_)
    · refine rn ?_
      refine asplit (fun hg5_9 => ?_) (fun hg5_9 => ?_)
      · refine rn ?_
        refine aw_cond rfl (fun hc30 => ?_) (fun hc30 => ?_)
        · refine rn ?_
          refine qv rfl rfl (qv_buildSlice rfl rfl) ?_
          refine aops_e rfl (oe_append_row rfl rfl (by simp only [List.length_map]; have := wrote_le l t x k; simp; omega) rfl (fun s34 => ?_) (one_ev [l[k]]))
          refine aops_slice s34 fun sv hsv => ?_
          subst hsv
          refine rn ?_
          first | exact ⟨hk, sv, by rw [wrote_t hk (by simp_all), List.map_append]; exact eA⟩ | exact ⟨hk, s, by rw [wrote_f hk (by simp_all)]; exact eA⟩
        · refine rn ?_
          first | exact ⟨hk, sv, by rw [wrote_t hk (by simp_all), List.map_append]; exact eA⟩ | exact ⟨hk, s, by rw [wrote_f hk (by simp_all)]; exact eA⟩
      · refine rn ?_
        refine aw_cf rfl ?_
        refine rn ?_
        first | exact ⟨hk, sv, by rw [wrote_t hk (by simp_all), List.map_append]; exact eA⟩ | exact ⟨hk, s, by rw [wrote_f hk (by simp_all)]; exact eA⟩
    · refine rn ?_
      refine aw_cf rfl ?_
      refine rn ?_
      first | exact ⟨hk, sv, by rw [wrote_t hk (by simp_all), List.map_append]; exact eA⟩ | exact ⟨hk, s, by rw [wrote_f hk (by simp_all)]; exact eA⟩
  · have qk := geMap hc13 lk
    refine rn ?_
    exact retq (.cons _ _ _ _ (.tmp _ _ rfl) .nil) vent_freeze ⟨rfl, by rw [qk, List.take_length]; rfl⟩
end Go.Proofs
/- The walk of the reference's event. Conditions: none. -/
set_option linter.unusedVariables false
set_option linter.unusedSimpArgs false
set_option maxRecDepth 10000
namespace Go.Proofs
open Go Go.Ab
attribute [local irreducible] QR QV OE aops aw dsoup dsoupM dalloc dallocM thn inBlk jsoup jch lsoup
open Go.H
set_option maxHeartbeats 4000000 in
theorem refEvent15 (rl : Nat) (e : Ev) (l : List Ev) (h1 : 1 ≤ rl) (h6 : rl ≤ 6) (la : l.length ≤ 1000000) (hl : e.scan.length ≤ 1000000) : ACall Tryz.prog 228 [iv rl, .agg (evR e), evsA l] [] (fun r h' => h' = [] ∧ r = bv (wrongR rl e l)) := by
  refine acall_of_aw Tryz.func228 rfl rfl rfl ?_
  refine rn ?_
  refine aops_e rfl (oe_box rfl rfl rfl fun b4 => ?_)
  refine rn ?_
  refine aw_rngS l.length (fun j x => x.1 = (l.take j).any (fun y : Ev => y.t == e.t && y.kind == 1) ∧ x.2 = (l.take j).any (fun y : Ev => y.t == e.t && (y.kind == 5 || y.kind == 6))) (fun j x => [(21, iv j), (7, bv x.1), (8, bv x.2)]) [(0, _), (2, _), (4, _), (19, _), (20, _)] (false, false) ⟨rfl, rfl⟩ ?_
  rintro j ⟨bg, ov⟩ lj ⟨zb, zo⟩
  refine rn ?_
  refine aw_cond rfl (fun hc22 => ?_) (fun hc22 => ?_)
  · have hj := ltMap hc22
    have rj := atRow (f := evR) hj
    refine rn ?_
    refine aops_e rfl (oe_alloc rfl fun b10 => ?_)
    refine rn ?_
    refine aw_cond rfl (fun hc29 => ?_) (fun hc29 => ?_)
    · refine rn ?_
      refine asplit (fun hg6_1 => ?_) (fun hg6_1 => ?_)
      · refine rn ?_
        refine asplit (fun hg7_1 => ?_) (fun hg7_1 => ?_)
        · refine rn ?_
          refine ⟨hj, (_, _), ?_, eA⟩
          rw [any_step hj, any_step hj]
          generalize (l.take j).any (fun y : Ev => y.t == e.t && y.kind == 1) = A at *
          generalize (l.take j).any (fun y : Ev => y.t == e.t && (y.kind == 5 || y.kind == 6)) = B at *
          simp_all
        · refine rn ?_
          refine asplit (fun hg7_6 => ?_) (fun hg7_6 => ?_)
          · refine rn ?_
            refine ⟨hj, (_, _), ?_, eA⟩
            rw [any_step hj, any_step hj]
            generalize (l.take j).any (fun y : Ev => y.t == e.t && y.kind == 1) = A at *
            generalize (l.take j).any (fun y : Ev => y.t == e.t && (y.kind == 5 || y.kind == 6)) = B at *
            simp_all
          · refine rn ?_
            refine ⟨hj, (_, _), ?_, eA⟩
            rw [any_step hj, any_step hj]
            generalize (l.take j).any (fun y : Ev => y.t == e.t && y.kind == 1) = A at *
            generalize (l.take j).any (fun y : Ev => y.t == e.t && (y.kind == 5 || y.kind == 6)) = B at *
            simp_all
      · refine rn ?_
        refine asplit (fun hg7_1 => ?_) (fun hg7_1 => ?_)
        · refine rn ?_
          refine ⟨hj, (_, _), ?_, eA⟩
          rw [any_step hj, any_step hj]
          generalize (l.take j).any (fun y : Ev => y.t == e.t && y.kind == 1) = A at *
          generalize (l.take j).any (fun y : Ev => y.t == e.t && (y.kind == 5 || y.kind == 6)) = B at *
          simp_all
        · refine rn ?_
          refine asplit (fun hg7_6 => ?_) (fun hg7_6 => ?_)
          · refine rn ?_
            refine ⟨hj, (_, _), ?_, eA⟩
            rw [any_step hj, any_step hj]
            generalize (l.take j).any (fun y : Ev => y.t == e.t && y.kind == 1) = A at *
            generalize (l.take j).any (fun y : Ev => y.t == e.t && (y.kind == 5 || y.kind == 6)) = B at *
            simp_all
          · refine rn ?_
            refine ⟨hj, (_, _), ?_, eA⟩
            rw [any_step hj, any_step hj]
            generalize (l.take j).any (fun y : Ev => y.t == e.t && y.kind == 1) = A at *
            generalize (l.take j).any (fun y : Ev => y.t == e.t && (y.kind == 5 || y.kind == 6)) = B at *
            simp_all
    · refine rn ?_
      refine ⟨hj, (_, _), ?_, eA⟩
      rw [any_step hj, any_step hj]
      generalize (l.take j).any (fun y : Ev => y.t == e.t && y.kind == 1) = A at *
      generalize (l.take j).any (fun y : Ev => y.t == e.t && (y.kind == 5 || y.kind == 6)) = B at *
      simp_all
  · have qj := geMap hc22 lj
    have zB : bg = begunB l e.t := by rw [begunB_eq, begunL]; simpa [qj] using zb
    have zO : ov = overB l e.t := by rw [overB]; simpa [qj] using zo
    refine rn ?_
    refine aw_cond rfl (fun hc49 => ?_) (fun hc49 => ?_)
    · have e1 : rl = 1 := by have h := hc49; simp at h; omega
      refine rn ?_
      refine asplit (fun hg11_1 => ?_) (fun hg11_1 => ?_)
      · refine rn ?_
        refine asplit (fun hg11_6 => ?_) (fun hg11_6 => ?_)
        · refine rn ?_
          refine rq 1 ?_
          exact ⟨rfl, congrArg bv (by subst e1; show _ = (begunB l e.t && e.kind == 1 || !begunB l e.t && e.kind != 1); rw [← zB]; clear zb zo zB zO; simp_all)⟩
        · refine rn ?_
          refine asplit (fun hg11_9 => ?_) (fun hg11_9 => ?_)
          · refine rn ?_
            refine rq 1 ?_
            exact ⟨rfl, congrArg bv (by subst e1; show _ = (begunB l e.t && e.kind == 1 || !begunB l e.t && e.kind != 1); rw [← zB]; clear zb zo zB zO; simp_all)⟩
          · refine rn ?_
            refine rq 1 ?_
            exact ⟨rfl, congrArg bv (by subst e1; show _ = (begunB l e.t && e.kind == 1 || !begunB l e.t && e.kind != 1); rw [← zB]; clear zb zo zB zO; simp_all)⟩
      · refine rn ?_
        refine asplit (fun hg11_9 => ?_) (fun hg11_9 => ?_)
        · refine rn ?_
          refine rq 1 ?_
          exact ⟨rfl, congrArg bv (by subst e1; show _ = (begunB l e.t && e.kind == 1 || !begunB l e.t && e.kind != 1); rw [← zB]; clear zb zo zB zO; simp_all)⟩
        · refine rn ?_
          refine rq 1 ?_
          exact ⟨rfl, congrArg bv (by subst e1; show _ = (begunB l e.t && e.kind == 1 || !begunB l e.t && e.kind != 1); rw [← zB]; clear zb zo zB zO; simp_all)⟩
    · have n1 : rl ≠ 1 := by intro h; subst h; exact absurd hc49 (by decide)
      refine rn ?_
      refine aw_cond rfl (fun hc66 => ?_) (fun hc66 => ?_)
      · have e2 : rl = 2 := by have h := hc66; simp at h; omega
        refine rn ?_
        refine rq 1 ?_
        exact ⟨rfl, congrArg bv (by subst e2; show _ = overB l e.t; rw [← zO])⟩
      · have n2 : rl ≠ 2 := by intro h; subst h; exact absurd hc66 (by decide)
        refine rn ?_
        refine aw_cond rfl (fun hc69 => ?_) (fun hc69 => ?_)
        · have e3 : rl = 3 := by have h := hc69; simp at h; omega
          refine rn ?_
          refine aw_draw 15 rfl ?_
          refine rn ?_
          refine dsplit (fun hg15_3 => ?_) (fun hg15_3 => ?_)
          · refine rn ?_
            refine dv rfl rfl (by exact qv_call rfl rfl (pcall (refWrote l e.t e.o la) (Sbs.refl _))) ?_
            refine dq rfl rfl qrA ?_
            first | refine ds rfl rfl ?_ | refine dq rfl rfl (qr_ari rfl rfl rfl (by rw [List.length_map]; have := wroteL_le l e.t e.o; omega)) ?_
            refine rn ?_
            refine rq 1 ?_
            exact ⟨rfl, congrArg bv (by subst e3; simp_all [wrongR])⟩
          · refine rn ?_
            refine rq 1 ?_
            exact ⟨rfl, congrArg bv (by subst e3; simp_all [wrongR])⟩
        · have n3 : rl ≠ 3 := by intro h; subst h; exact absurd hc69 (by decide)
          refine rn ?_
          refine qv rfl rfl (qv_call rfl rfl (pcall (refSeen e) (Sbs.refl _))) ?_
          refine rn ?_
          refine aw_rng ((seenOf e).length) (fun k : Nat => OkS rl e l k) (fun k => [(91, iv k)]) [(0, _), (2, _), (4, _), (89, _), (90, _)] (fun i _ h => absurd h (Nat.not_lt_zero _)) ?_
          intro k lk zk
          refine rn ?_
          refine aw_cond rfl (fun hc92 => ?_) (fun hc92 => ?_)
          · have hk := ltMap hc92
            have rk := atRow (f := seenR) hk
            have sl := seenOf_len (e := e) (Nat.le_trans hl (by decide))
            refine rn ?_
            refine aops_e rfl (oe_alloc rfl fun b12 => ?_)
            refine rn ?_
            refine qv rfl rfl (qv_call rfl rfl (pcall (refWrote l e.t (seenOf e)[k].o la) (Sbs.refl _))) ?_
            refine rn ?_
            refine aw_rngS l.length (fun m x => x = ((seenOf e)[k].v.k == 0 || (l.take m).any (fun y : Ev => y.kind == 2 && y.o == (seenOf e)[k].o && y.v == (seenOf e)[k].v))) (fun m x => [(108, iv m), (14, bv x)]) [(0, _), (2, _), (4, _), (11, _), (12, _), (13, _), (89, _), (90, _), (91, _), (106, _), (107, _)] ((seenOf e)[k].v.k == 0) (by simp) ?_
            intro m th lm zm
            refine rn ?_
            refine aw_cond rfl (fun hc109 => ?_) (fun hc109 => ?_)
            · have hm := ltMap hc109
              have rm := atRow (f := evR) hm
              refine rn ?_
              refine aops_e rfl (oe_alloc rfl fun b16 => ?_)
              refine rn ?_
              refine asplit (fun hg24_1 => ?_) (fun hg24_1 => ?_)
              · refine rn ?_
                refine ⟨hm, _, ?_, eA⟩
                try rw [ver_list]
                rw [any_step hm]
                generalize (l.take m).any (fun y : Ev => y.kind == 2 && y.o == (seenOf e)[k].o && y.v == (seenOf e)[k].v) = A at *
                generalize ((seenOf e)[k].v.k == 0) = B at *
                generalize (l[m].v == (seenOf e)[k].v) = D at *
                cases A <;> cases B <;> simp_all
              · refine rn ?_
                refine asplit (fun hg24_5 => ?_) (fun hg24_5 => ?_)
                · refine rn ?_
                  refine asplit (fun hg24_12 => ?_) (fun hg24_12 => ?_)
                  · refine rn ?_
                    refine ⟨hm, _, ?_, eA⟩
                    try rw [ver_list]
                    rw [any_step hm]
                    generalize (l.take m).any (fun y : Ev => y.kind == 2 && y.o == (seenOf e)[k].o && y.v == (seenOf e)[k].v) = A at *
                    generalize ((seenOf e)[k].v.k == 0) = B at *
                    generalize (l[m].v == (seenOf e)[k].v) = D at *
                    cases A <;> cases B <;> simp_all
                  · refine rn ?_
                    refine ⟨hm, _, ?_, eA⟩
                    try rw [ver_list]
                    rw [any_step hm]
                    generalize (l.take m).any (fun y : Ev => y.kind == 2 && y.o == (seenOf e)[k].o && y.v == (seenOf e)[k].v) = A at *
                    generalize ((seenOf e)[k].v.k == 0) = B at *
                    generalize (l[m].v == (seenOf e)[k].v) = D at *
                    cases A <;> cases B <;> simp_all
                · refine rn ?_
                  refine ⟨hm, _, ?_, eA⟩
                  try rw [ver_list]
                  rw [any_step hm]
                  generalize (l.take m).any (fun y : Ev => y.kind == 2 && y.o == (seenOf e)[k].o && y.v == (seenOf e)[k].v) = A at *
                  generalize ((seenOf e)[k].v.k == 0) = B at *
                  generalize (l[m].v == (seenOf e)[k].v) = D at *
                  cases A <;> cases B <;> simp_all
            · have qm := geMap hc109 lm
              have zT : th = ((seenOf e)[k].v.k == 0 || thereB l (seenOf e)[k].o (seenOf e)[k].v) := by rw [zm, qm, List.take_length]; rfl
              refine rn ?_
              refine aw_cond rfl (fun hc134 => ?_) (fun hc134 => ?_)
              · have e4 : rl = 4 := by have h := hc134; simp at h; omega
                refine rn ?_
                refine aw_cond rfl (fun hc137 => ?_) (fun hc137 => ?_)
                · refine rn ?_
                  refine rq 2 ?_
                  exact ⟨rfl, congrArg bv (by subst e4; rw [wrongR_t (by omega) hk (by show (!((seenOf e)[k].v.k == 0 || thereB l (seenOf e)[k].o (seenOf e)[k].v)) = true; rw [← zT]; exact hc137)])⟩
                · refine rn ?_
                  exact ⟨hk, okS_s hk zk (by first | (subst e4; show (!((seenOf e)[k].v.k == 0 || thereB l (seenOf e)[k].o (seenOf e)[k].v)) = false; rw [← zT]; exact hc137) | (subst e5; rw [sBad5_s hw1, bne, ← ver_list]; exact hc154) | (subst e5; exact sBad5_n hg31_3) | (subst e6; show ((seenOf e).take k).any _ = false; rw [anyNot, au]; rfl) | (exfalso; omega)), eA⟩
              · have n4 : rl ≠ 4 := by intro h; subst h; exact absurd hc134 (by decide)
                refine rn ?_
                refine aw_cond rfl (fun hc138 => ?_) (fun hc138 => ?_)
                · have e5 : rl = 5 := by have h := hc138; simp at h; omega
                  refine rn ?_
                  refine aw_draw 13 rfl ?_
                  refine rn ?_
                  refine dsplit (fun hg31_3 => ?_) (fun hg31_3 => ?_)
                  · try obtain ⟨w, hw1, hw2, hw3⟩ := last_row hg31_3
                    refine dq rfl rfl qrA ?_
                    refine dq rfl rfl qrA ?_
                    refine dq rfl rfl qrA ?_
                    first | refine ds rfl rfl ?_ | refine dq rfl rfl (qr_ari rfl rfl rfl (by rw [List.length_map]; have := wroteL_le l e.t (seenOf e)[k].o; omega)) ?_
                    first | refine ds rfl rfl ?_ | refine dq rfl rfl (qr_index_int rfl rfl hw3 hw2) ?_
                    refine rn ?_
                    refine aw_cond rfl (fun hc154 => ?_) (fun hc154 => ?_)
                    · refine rn ?_
                      refine rq 2 ?_
                      exact ⟨rfl, congrArg bv (by subst e5; rw [wrongR_t (by omega) hk (by rw [sBad5_s hw1, bne, ← ver_list]; exact hc154)])⟩
                    · refine rn ?_
                      exact ⟨hk, okS_s hk zk (by first | (subst e4; show (!((seenOf e)[k].v.k == 0 || thereB l (seenOf e)[k].o (seenOf e)[k].v)) = false; rw [← zT]; exact hc137) | (subst e5; rw [sBad5_s hw1, bne, ← ver_list]; exact hc154) | (subst e5; exact sBad5_n hg31_3) | (subst e6; show ((seenOf e).take k).any _ = false; rw [anyNot, au]; rfl) | (exfalso; omega)), eA⟩
                  · try obtain ⟨w, hw1, hw2, hw3⟩ := last_row hg31_3
                    refine rn ?_
                    refine aw_cf rfl ?_
                    refine rn ?_
                    exact ⟨hk, okS_s hk zk (by first | (subst e4; show (!((seenOf e)[k].v.k == 0 || thereB l (seenOf e)[k].o (seenOf e)[k].v)) = false; rw [← zT]; exact hc137) | (subst e5; rw [sBad5_s hw1, bne, ← ver_list]; exact hc154) | (subst e5; exact sBad5_n hg31_3) | (subst e6; show ((seenOf e).take k).any _ = false; rw [anyNot, au]; rfl) | (exfalso; omega)), eA⟩
                · have n5 : rl ≠ 5 := by intro h; subst h; exact absurd hc138 (by decide)
                  refine rn ?_
                  refine aw_cond rfl (fun hc155 => ?_) (fun hc155 => ?_)
                  · have e6 : rl = 6 := by have h := hc155; simp at h; omega
                    refine rn ?_
                    refine qv rfl rfl (qv_call rfl rfl (pcall (refSeen e) (Sbs.refl _))) ?_
                    refine q1 ?_
                    refine qq rfl rfl (qr_slice_h (k := k) rfl rfl (by simp; omega)) ?_
                    rw [← List.map_take]
                    refine rn ?_
                    refine aw_rng (((seenOf e).take k).length) (fun u : Nat => ((seenOf e).take k).all (fun p : Seen => !(p.o == (seenOf e)[k].o)) = (((seenOf e).take k).drop u).all (fun p : Seen => !(p.o == (seenOf e)[k].o))) (fun u => [(162, iv u)]) [(0, _), (2, _), (4, _), (12, _), (89, _), (90, _), (91, _), (160, _), (161, _)] rfl ?_
                    intro u lu zu
                    refine rn ?_
                    refine aw_cond rfl (fun hc163 => ?_) (fun hc163 => ?_)
                    · have hu := ltMap hc163
                      have ru := atRow (f := seenR) hu
                      have bu : ((seenOf e).take k).length ≤ 4611686018427387904 := by simp; omega
                      refine rn ?_
                      refine aops_e rfl (oe_alloc rfl fun b18 => ?_)
                      refine rn ?_
                      refine aw_cond rfl (fun hc170 => ?_) (fun hc170 => ?_)
                      · refine rn ?_
                        refine rq 3 ?_
                        exact ⟨rfl, congrArg bv (by subst e6; rw [wrongR_t (by omega) hk (by show ((seenOf e).take k).any _ = true; rw [anyNot, allF hu (by simpa using hc170)]; rfl)])⟩
                      · refine rn ?_
                        exact ⟨hu, allT hu zu (by simpa using hc170), eA⟩
                    · have qu := geMap hc163 lu
                      have au := allE qu zu
                      refine rn ?_
                      exact ⟨hk, okS_s hk zk (by first | (subst e4; show (!((seenOf e)[k].v.k == 0 || thereB l (seenOf e)[k].o (seenOf e)[k].v)) = false; rw [← zT]; exact hc137) | (subst e5; rw [sBad5_s hw1, bne, ← ver_list]; exact hc154) | (subst e5; exact sBad5_n hg31_3) | (subst e6; show ((seenOf e).take k).any _ = false; rw [anyNot, au]; rfl) | (exfalso; omega)), eA⟩
                  · have n6 : rl ≠ 6 := by intro h; subst h; exact absurd hc155 (by decide)
                    refine rn ?_
                    exact ⟨hk, okS_s hk zk (by first | (subst e4; show (!((seenOf e)[k].v.k == 0 || thereB l (seenOf e)[k].o (seenOf e)[k].v)) = false; rw [← zT]; exact hc137) | (subst e5; rw [sBad5_s hw1, bne, ← ver_list]; exact hc154) | (subst e5; exact sBad5_n hg31_3) | (subst e6; show ((seenOf e).take k).any _ = false; rw [anyNot, au]; rfl) | (exfalso; omega)), eA⟩
          · have qk := geMap hc92 lk
            refine rn ?_
            refine rq 1 ?_
            exact ⟨rfl, congrArg bv (by rw [wrongR_f (by omega) (qk ▸ zk)])⟩
end Go.Proofs
/- The walk of the reference's broken. Conditions: none. -/
set_option linter.unusedVariables false
set_option linter.unusedSimpArgs false
set_option maxRecDepth 10000
namespace Go.Proofs
open Go Go.Ab
attribute [local irreducible] QR QV OE aops aw dsoup dsoupM dalloc dallocM thn inBlk jsoup jch lsoup
open Go.H
theorem refBroken (h : Hist) (rl i : Nat) (h1 : 1 ≤ rl) (h10 : rl ≤ 10) (hi : i < manyN h rl) (la : Lim 1000000 h) : ACall Tryz.prog 196 [.agg (histC h), iv rl, iv i] [] (fun r h' => h' = [] ∧ r = bv (brokenR h rl i)) := by
  refine acall_of_aw Tryz.func196 rfl rfl rfl ?_
  refine rn ?_
  refine aops_e rfl (oe_box rfl rfl rfl fun b3 => ?_)
  refine rn ?_
  refine aw_cond rfl (fun hc8 => ?_) (fun hc8 => ?_)
  · obtain rfl : rl = 7 := by have q := hc8; simp at q; omega
    have hi2 : i < h.ords.length := hi
    refine rn ?_
    refine qv rfl rfl (qv_call rfl rfl (pcall (refOrder h i hi2 la) (Sbs.refl _))) ?_
    refine rn ?_
    refine rq 1 ?_
    exact ⟨rfl, congrArg bv (by exact (atQ_lt hi2).symm)⟩
  · have n7 : rl ≠ 7 := by intro q; subst q; exact absurd hc8 (by decide)
    refine rn ?_
    refine aw_cond rfl (fun hc13 => ?_) (fun hc13 => ?_)
    · obtain rfl : rl = 8 := by have q := hc13; simp at q; omega
      have hi2 : i < h.os.length := hi
      refine rn ?_
      refine qv rfl rfl (qv_call rfl rfl (pcall (refMissing h i la) (Sbs.refl _))) ?_
      refine rn ?_
      refine rq 1 ?_
      exact ⟨rfl, congrArg bv (by exact (atQ_lt (w := fun x _ => missR h (x : Int)) hi2).symm)⟩
    · have n8 : rl ≠ 8 := by intro q; subst q; exact absurd hc13 (by decide)
      refine rn ?_
      refine aw_cond rfl (fun hc18 => ?_) (fun hc18 => ?_)
      · obtain rfl : rl = 9 := by have q := hc18; simp at q; omega
        have hi2 : i < h.mats.length := hi
        refine rn ?_
        refine qv rfl rfl (qv_call rfl rfl (pcall (refMatch h i hi2 la) (Sbs.refl _))) ?_
        refine rn ?_
        refine rq 1 ?_
        exact ⟨rfl, congrArg bv (by exact (atQ_lt hi2).symm)⟩
      · have n9 : rl ≠ 9 := by intro q; subst q; exact absurd hc18 (by decide)
        refine rn ?_
        refine aw_cond rfl (fun hc23 => ?_) (fun hc23 => ?_)
        · obtain rfl : rl = 10 := by have q := hc23; simp at q; omega
          have hi2 : i < h.wants.length := hi
          refine rn ?_
          refine qv rfl rfl (qv_call rfl rfl (pcall (refWant h i hi2 la) (Sbs.refl _))) ?_
          refine rn ?_
          refine rq 1 ?_
          exact ⟨rfl, congrArg bv (by exact (atQ_lt hi2).symm)⟩
        · have n10 : rl ≠ 10 := by intro q; subst q; exact absurd hc23 (by decide)
          have hi2 : i < h.evs.length := by rw [← manyN_e n7 n8 n9 n10]; exact hi
          have ri := atRow (f := evR) hi2
          have be := la.evs
          have sc := la.scans h.evs[i] (List.getElem_mem hi2)
          refine rn ?_
          refine aw_draw 10 rfl ?_
          refine dq rfl rfl qrA ?_
          refine dq rfl rfl qrA ?_
          refine dq rfl rfl qrA ?_
          refine dq rfl rfl qrA ?_
          refine dq rfl rfl qrA ?_
          refine dq rfl rfl qrA ?_
          refine dq rfl rfl qrA ?_
          refine dq rfl rfl qrA ?_
          refine dq rfl rfl qrA ?_
          refine dq rfl rfl (qr_slice_h (k := i) rfl rfl (by simp; omega)) ?_
          rw [← List.map_take]
          refine rn ?_
          refine qv rfl rfl (qv_call rfl rfl (pcall (refEvent15 rl h.evs[i] (h.evs.take i) h1 (by omega) (by simp; omega) sc) (Sbs.refl _))) ?_
          refine rn ?_
          refine rq 1 ?_
          exact ⟨rfl, congrArg bv (by rw [brokenR_e n7 n8 n9 n10, atQ_lt hi2])⟩
end Go.Proofs
/- The walk of the reference's Place. Conditions: none. -/
set_option linter.unusedVariables false
set_option linter.unusedSimpArgs false
set_option maxRecDepth 10000
namespace Go.Proofs
open Go Go.Ab
attribute [local irreducible] QR QV OE aops aw dsoup dsoupM dalloc dallocM thn inBlk jsoup jch lsoup
open Go.H
theorem refPlace (h : Hist) (rl : Nat) (h1 : 1 ≤ rl) (h10 : rl ≤ 10) (la : Lim 1000000 h) : ACall Tryz.prog 168 [.agg (histC h), iv rl] [] (fun r h' => h' = [] ∧ r = iv (placeJ (placeR h rl))) := by
  refine acall_of_aw Tryz.func168 rfl rfl rfl ?_
  refine rn ?_
  refine aops_e rfl (oe_box rfl rfl rfl fun b2 => ?_)
  refine rn0 ?_
  refine aw_seq (aw_region ?_)
  refine rn0 ?_
  refine aw_cut (⟨[(5, iv (manyN h rl)), (1, iv rl), (2, .v (.pointer (some ⟨b2, 0, none⟩)))], .box b2 28 (histC h) :: [], []⟩) ?_ ?_
  · refine rn ?_
    refine aw_cond rfl (fun hc11 => ?_) (fun hc11 => ?_)
    · obtain rfl : rl = 7 := by have q := hc11; simp at q; omega
      refine rn ?_
      first | (rw [many7]; exact es) | (rw [many8]; exact es) | (rw [many9]; exact es) | (rw [many10]; exact es) | (rw [manyE n7 n8 n9 n10]; exact es)
    · have n7 : rl ≠ 7 := by intro q; subst q; exact absurd hc11 (by decide)
      refine rn ?_
      refine aw_cond rfl (fun hc16 => ?_) (fun hc16 => ?_)
      · obtain rfl : rl = 8 := by have q := hc16; simp at q; omega
        refine rn ?_
        first | (rw [many7]; exact es) | (rw [many8]; exact es) | (rw [many9]; exact es) | (rw [many10]; exact es) | (rw [manyE n7 n8 n9 n10]; exact es)
      · have n8 : rl ≠ 8 := by intro q; subst q; exact absurd hc16 (by decide)
        refine rn ?_
        refine aw_cond rfl (fun hc21 => ?_) (fun hc21 => ?_)
        · obtain rfl : rl = 9 := by have q := hc21; simp at q; omega
          refine rn ?_
          first | (rw [many7]; exact es) | (rw [many8]; exact es) | (rw [many9]; exact es) | (rw [many10]; exact es) | (rw [manyE n7 n8 n9 n10]; exact es)
        · have n9 : rl ≠ 9 := by intro q; subst q; exact absurd hc21 (by decide)
          refine rn ?_
          refine aw_cond rfl (fun hc26 => ?_) (fun hc26 => ?_)
          · obtain rfl : rl = 10 := by have q := hc26; simp at q; omega
            refine rn ?_
            first | (rw [many7]; exact es) | (rw [many8]; exact es) | (rw [many9]; exact es) | (rw [many10]; exact es) | (rw [manyE n7 n8 n9 n10]; exact es)
          · have n10 : rl ≠ 10 := by intro q; subst q; exact absurd hc26 (by decide)
            refine rn ?_
            first | (rw [many7]; exact es) | (rw [many8]; exact es) | (rw [many9]; exact es) | (rw [many10]; exact es) | (rw [manyE n7 n8 n9 n10]; exact es)
  · refine rn ?_
    refine aw_rng (manyN h rl) (fun k : Nat => ∀ j, j < k → brokenR h rl j = false) (fun k => [(32, iv k)]) [(1, _), (2, _), (31, _)] (fun j q => absurd q (Nat.not_lt_zero _)) ?_
    intro k lk zk
    refine rn ?_
    refine aw_cond rfl (fun hc33 => ?_) (fun hc33 => ?_)
    · have hk : k < manyN h rl := by have q := hc33; simp at q; omega
      have mb : manyN h rl ≤ 1000000 := manyN_le la
      refine rn ?_
      refine qv rfl rfl (qv_call rfl rfl (pcall (refBroken h rl k h1 h10 hk la) (Sbs.refl _))) ?_
      refine rn ?_
      refine aw_cond rfl (fun hc38 => ?_) (fun hc38 => ?_)
      · refine rn ?_
        refine rq 1 ?_
        exact ⟨rfl, by rw [place_hit hk hc38 zk]; rfl⟩
      · refine rn ?_
        exact ⟨hk, under_s zk hc38, eA⟩
    · have qk : k = manyN h rl := by have q := hc33; simp at q; omega
      refine rn ?_
      refine rq 1 ?_
      exact ⟨rfl, by rw [place_over (qk ▸ zk)]; rfl⟩
end Go.Proofs
/- The walk of the reference's First. Conditions: none. -/
set_option linter.unusedVariables false
set_option linter.unusedSimpArgs false
set_option maxRecDepth 10000
namespace Go.Proofs
open Go Go.Ab
attribute [local irreducible] QR QV OE aops aw dsoup dsoupM dalloc dallocM thn inBlk jsoup jch lsoup
open Go.H
theorem placeJ_ge {o : Option Nat} (h : decide (placeJ o ≥ 0) = true) : ∃ n, o = some n := by
  cases o with
  | none => exact absurd h (by decide)
  | some n => exact ⟨n, rfl⟩
theorem placeJ_lt {o : Option Nat} (h : decide (placeJ o ≥ 0) = false) : o = none := by
  cases o with
  | none => rfl
  | some n => have := of_decide_eq_false h; simp [placeJ] at this
theorem refFirst15 (h : Hist) (la : Lim 1000000 h) : ACall Tryz.prog 128 [.agg (histC h)] [] (fun r h' => h' = [] ∧ r = .tup [.agg (brkC (firstIn (placeR h) rules10)), bv (firstIn (placeR h) rules10).isSome]) := by
  refine acall_of_aw Tryz.func128 rfl rfl rfl ?_
  refine rn ?_
  refine aops_e rfl (oe_box rfl rfl rfl fun b1 => ?_)
  refine aops_e rfl (oe_alloc rfl fun b2 => ?_)
  refine rn ?_
  refine aw_while (fun k : Nat => (1 ≤ k ∧ k ≤ 11) ∧ firstIn (placeR h) rules10 = firstIn (placeR h) (rules10.drop (k - 1))) (fun k => ⟨[(4, iv k), (1, .v (.pointer (some ⟨b1, 0, none⟩))), (2, .v (.pointer (some ⟨b2, 0, none⟩)))], (.box b2 188 [iv 0, iv 0] :: .box b1 28 (histC h) :: []), []⟩) (fun k => 11 - k) 1 ⟨by omega, rfl⟩ es ?_
  rintro k ⟨⟨k1, k3⟩, zk⟩
  refine rn ?_
  refine aw_cond rfl (fun hc7 => ?_) (fun hc7 => ?_)
  · have k2 : k ≤ 10 := by have := of_decide_eq_true hc7; omega
    refine rn ?_
    refine qv rfl rfl (qv_call rfl rfl (pcall (refPlace h k k1 k2 la) (Sbs.refl _))) ?_
    refine rn ?_
    refine aw_cond rfl (fun hc14 => ?_) (fun hc14 => ?_)
    · refine rn ?_
      exact retq (.cons _ _ _ _ (.agg _ _ _ _ _ _ _ rfl inferInstance inferInstance inferInstance rfl) (.cons _ _ _ _ (.tmp _ _ rfl) .nil)) (.drop [_, _] _ _) ⟨rfl, by
        obtain ⟨n, hp⟩ := placeJ_ge hc14
        rw [first_hit k1 k2 zk hp, hp]; rfl⟩
    · refine rn ?_
      exact ⟨k + 1, ⟨by omega, first_step k1 k2 zk (placeJ_lt hc14)⟩, eA, by omega⟩
  · have k2 : 11 ≤ k := by have := of_decide_eq_false hc7; omega
    refine rn ?_
    exact retq (.cons _ _ _ _ (.agg _ _ _ _ _ _ _ rfl inferInstance inferInstance inferInstance rfl) (.cons _ _ _ _ (.tmp _ _ rfl) .nil)) (.drop [_, _] _ _) ⟨rfl, by rw [first_over k2 k3 zk]; rfl⟩
end Go.Proofs
/- The walk of the reference's test of an event. Conditions: none. -/
set_option linter.unusedVariables false
set_option linter.unusedSimpArgs false
set_option maxRecDepth 10000
namespace Go.Proofs
open Go Go.Ab
attribute [local irreducible] QR QV OE aops aw dsoup dsoupM dalloc dallocM thn inBlk
open Go.H
theorem refRightEv (h : Hist) (e : Ev) (hl : e.scan.length ≤ 4611686018427387904) : ACall Tryz.prog 164 [.agg (histC h), .agg (evR e)] [] (fun r h' => h' = [] ∧ r = bv (rightEv h e)) := by
  refine acall_of_aw Tryz.func164 rfl rfl rfl ?_
  refine rn ?_
  refine aops_e rfl (oe_box rfl rfl rfl fun b2 => ?_)
  refine aops_e rfl (oe_box rfl rfl rfl fun b3 => ?_)
  refine rn ?_
  refine qv rfl rfl (qv_call rfl rfl (pcall (refIs _ _) (Sbs.refl _))) ?_
  refine rn ?_
  refine aw_cond rfl (fun hc16 => ?_) (fun hc16 => ?_)
  · refine rn ?_
    exact retq (.cons _ _ _ _ (.tmp _ _ rfl) .nil) (.drop [_, _] _ _) ⟨rfl, congrArg bv (by first | (simp only [rightEv, bareE, *, Bool.true_and, Bool.false_and, Bool.and_false, Bool.and_true, Bool.true_or, Bool.or_false, Bool.false_or, Bool.or_true, if_true, if_false, Bool.false_eq_true, Bool.not_true, Bool.not_false]; done) | (simp_all [rightEv, bareE]; done) | (simp_all [rightEv, bareE] <;> omega))⟩
  · refine rn ?_
    refine aops_e rfl (oe_alloc rfl fun b6 => ?_)
    refine rn ?_
    refine aw_cond rfl (fun hc24 => ?_) (fun hc24 => ?_)
    · refine rn ?_
      refine aw_drawS 6 [(b6, 56, _)] rfl (List.perm_append_comm (l₁ := [_])) ?_
      refine rn ?_
      refine dw 0 rfl rfl rfl rfl rfl (Nat.le_of_ble_eq_true rfl) ?_
      refine rn2 ?_
      show aops _ _ _ _ _ _ ⟨_, .box b6 56 [iv e.kind, iv e.t, iv e.s, iv 0, iv 0, iv 0, iv 0, iv 0, .v (.slice none 0 0)] :: .box b3 56 (evR e) :: .box b2 28 (histC h) :: [], _⟩
      refine rn0 ?_
      refine aw_seq ?_
      show aw _ _ _ _ _ ⟨_, .box b6 56 [iv e.kind, iv e.t, iv e.s, iv e.l, iv 0, iv 0, iv 0, iv 0, .v (.slice none 0 0)] :: .box b3 56 (evR e) :: .box b2 28 (histC h) :: [], _⟩
      refine rn ?_
      refine qv rfl rfl (qv_call rfl rfl (pcall (refEvent ⟨e.kind, e.t, e.s, e.l, 0, ⟨0, 0⟩, 0, []⟩ e (by simp [hl]) hl) (by exact ⟨(by exact Sb.aggs (by exact ⟨.refl _, .refl _, .refl _, .refl _, .refl _, .refl _, .refl _, .refl _, .nil _ _, trivial⟩)), .refl _, trivial⟩))) ?_
      refine rn ?_
      refine asplit (fun hg8_3 => ?_) (fun hg8_3 => ?_)
      · refine rn ?_
        refine qv rfl rfl (qv_call rfl rfl (pcall (refIs _ _) (Sbs.refl _))) ?_
        refine rn ?_
        refine asplit (fun hg8_11 => ?_) (fun hg8_11 => ?_)
        · refine rn ?_
          refine qv rfl rfl (qv_call rfl rfl (pcall (ref9 _) (Sbs.refl _))) ?_
          refine rn ?_
          exact retq (.cons _ _ _ _ (.tmp _ _ rfl) .nil) (.drop [_, _, _] _ _) ⟨rfl, congrArg bv (by first | (simp only [rightEv, bareE, *, Bool.true_and, Bool.false_and, Bool.and_false, Bool.and_true, Bool.true_or, Bool.or_false, Bool.false_or, Bool.or_true, if_true, if_false, Bool.false_eq_true, Bool.not_true, Bool.not_false]; done) | (simp_all [rightEv, bareE]; done) | (simp_all [rightEv, bareE] <;> omega))⟩
        · refine rn ?_
          exact retq (.cons _ _ _ _ (.tmp _ _ rfl) .nil) (.drop [_, _, _] _ _) ⟨rfl, congrArg bv (by first | (simp only [rightEv, bareE, *, Bool.true_and, Bool.false_and, Bool.and_false, Bool.and_true, Bool.true_or, Bool.or_false, Bool.false_or, Bool.or_true, if_true, if_false, Bool.false_eq_true, Bool.not_true, Bool.not_false]; done) | (simp_all [rightEv, bareE]; done) | (simp_all [rightEv, bareE] <;> omega))⟩
      · refine rn ?_
        exact retq (.cons _ _ _ _ (.tmp _ _ rfl) .nil) (.drop [_, _, _] _ _) ⟨rfl, congrArg bv (by first | (simp only [rightEv, bareE, *, Bool.true_and, Bool.false_and, Bool.and_false, Bool.and_true, Bool.true_or, Bool.or_false, Bool.false_or, Bool.or_true, if_true, if_false, Bool.false_eq_true, Bool.not_true, Bool.not_false]; done) | (simp_all [rightEv, bareE]; done) | (simp_all [rightEv, bareE] <;> omega))⟩
    · refine rn ?_
      refine aw_cond rfl (fun hc48 => ?_) (fun hc48 => ?_)
      · refine rn ?_
        refine aw_cond rfl (fun hc48 => ?_) (fun hc48 => ?_)
        · refine rn ?_
          refine aw_drawS 6 [(b6, 56, _)] rfl (List.perm_append_comm (l₁ := [_])) ?_
          refine rn ?_
          refine dw 0 rfl rfl rfl rfl rfl (Nat.le_of_ble_eq_true rfl) ?_
          refine rn2 ?_
          show aops _ _ _ _ _ _ ⟨_, .box b6 56 [iv e.kind, iv e.t, iv 0, iv 0, iv e.o, iv 0, iv 0, iv 0, .v (.slice none 0 0)] :: .box b3 56 (evR e) :: .box b2 28 (histC h) :: [], _⟩
          refine rn0 ?_
          refine aw_seq ?_
          refine aw_seq ?_
          show aw _ _ _ _ _ ⟨_, .box b6 56 [iv e.kind, iv e.t, iv 0, iv 0, iv e.o, iv e.v.t, iv e.v.k, iv 0, .v (.slice none 0 0)] :: .box b3 56 (evR e) :: .box b2 28 (histC h) :: [], _⟩
          refine rn ?_
          refine asplit (fun hg12_3 => ?_) (fun hg12_3 => ?_)
          · refine rn ?_
            refine asplit (fun hg12_8 => ?_) (fun hg12_8 => ?_)
            · refine rn ?_
              refine aw_ct rfl ?_
              refine rn ?_
              exact retq (.cons _ _ _ _ (.tmp _ _ rfl) .nil) (.drop [_, _, _] _ _) ⟨rfl, congrArg bv (by first | (simp only [rightEv, bareE, *, Bool.true_and, Bool.false_and, Bool.and_false, Bool.and_true, Bool.true_or, Bool.or_false, Bool.false_or, Bool.or_true, if_true, if_false, Bool.false_eq_true, Bool.not_true, Bool.not_false]; done) | (simp_all [rightEv, bareE]; done) | (simp_all [rightEv, bareE] <;> omega))⟩
            · refine rn ?_
              refine aw_cond rfl (fun hc73 => ?_) (fun hc73 => ?_)
              · refine rn ?_
                exact retq (.cons _ _ _ _ (.tmp _ _ rfl) .nil) (.drop [_, _, _] _ _) ⟨rfl, congrArg bv (by first | (simp only [rightEv, bareE, *, Bool.true_and, Bool.false_and, Bool.and_false, Bool.and_true, Bool.true_or, Bool.or_false, Bool.false_or, Bool.or_true, if_true, if_false, Bool.false_eq_true, Bool.not_true, Bool.not_false]; done) | (simp_all [rightEv, bareE]; done) | (simp_all [rightEv, bareE] <;> omega))⟩
              · refine rn ?_
                refine qv rfl rfl (qv_call rfl rfl (pcall (refEvent ⟨e.kind, e.t, 0, 0, e.o, e.v, 0, []⟩ e (by simp [hl]) hl) (by exact ⟨(by exact Sb.aggs (by exact ⟨.refl _, .refl _, .refl _, .refl _, .refl _, .refl _, .refl _, .refl _, .nil _ _, trivial⟩)), .refl _, trivial⟩))) ?_
                refine rn ?_
                refine asplit (fun hg14_3 => ?_) (fun hg14_3 => ?_)
                · refine rn ?_
                  refine qv rfl rfl (qv_call rfl rfl (pcall (refIs _ _) (Sbs.refl _))) ?_
                  refine rn ?_
                  refine asplit (fun hg14_11 => ?_) (fun hg14_11 => ?_)
                  · refine rn ?_
                    refine qv rfl rfl (qv_call rfl rfl (pcall (refVersion e.v _) (Sbs.refl _))) ?_
                    refine rn ?_
                    exact retq (.cons _ _ _ _ (.tmp _ _ rfl) .nil) (.drop [_, _, _] _ _) ⟨rfl, congrArg bv (by first | (simp only [rightEv, bareE, *, Bool.true_and, Bool.false_and, Bool.and_false, Bool.and_true, Bool.true_or, Bool.or_false, Bool.false_or, Bool.or_true, if_true, if_false, Bool.false_eq_true, Bool.not_true, Bool.not_false]; done) | (simp_all [rightEv, bareE]; done) | (simp_all [rightEv, bareE] <;> omega))⟩
                  · refine rn ?_
                    exact retq (.cons _ _ _ _ (.tmp _ _ rfl) .nil) (.drop [_, _, _] _ _) ⟨rfl, congrArg bv (by first | (simp only [rightEv, bareE, *, Bool.true_and, Bool.false_and, Bool.and_false, Bool.and_true, Bool.true_or, Bool.or_false, Bool.false_or, Bool.or_true, if_true, if_false, Bool.false_eq_true, Bool.not_true, Bool.not_false]; done) | (simp_all [rightEv, bareE]; done) | (simp_all [rightEv, bareE] <;> omega))⟩
                · refine rn ?_
                  exact retq (.cons _ _ _ _ (.tmp _ _ rfl) .nil) (.drop [_, _, _] _ _) ⟨rfl, congrArg bv (by first | (simp only [rightEv, bareE, *, Bool.true_and, Bool.false_and, Bool.and_false, Bool.and_true, Bool.true_or, Bool.or_false, Bool.false_or, Bool.or_true, if_true, if_false, Bool.false_eq_true, Bool.not_true, Bool.not_false]; done) | (simp_all [rightEv, bareE]; done) | (simp_all [rightEv, bareE] <;> omega))⟩
          · refine rn ?_
            refine aw_cf rfl ?_
            refine rn ?_
            refine qv rfl rfl (qv_call rfl rfl (pcall (refEvent ⟨e.kind, e.t, 0, 0, e.o, e.v, 0, []⟩ e (by simp [hl]) hl) (by exact ⟨(by exact Sb.aggs (by exact ⟨.refl _, .refl _, .refl _, .refl _, .refl _, .refl _, .refl _, .refl _, .nil _ _, trivial⟩)), .refl _, trivial⟩))) ?_
            refine rn ?_
            refine asplit (fun hg14_3 => ?_) (fun hg14_3 => ?_)
            · refine rn ?_
              refine qv rfl rfl (qv_call rfl rfl (pcall (refIs _ _) (Sbs.refl _))) ?_
              refine rn ?_
              refine asplit (fun hg14_11 => ?_) (fun hg14_11 => ?_)
              · refine rn ?_
                refine qv rfl rfl (qv_call rfl rfl (pcall (refVersion e.v _) (Sbs.refl _))) ?_
                refine rn ?_
                exact retq (.cons _ _ _ _ (.tmp _ _ rfl) .nil) (.drop [_, _, _] _ _) ⟨rfl, congrArg bv (by first | (simp only [rightEv, bareE, *, Bool.true_and, Bool.false_and, Bool.and_false, Bool.and_true, Bool.true_or, Bool.or_false, Bool.false_or, Bool.or_true, if_true, if_false, Bool.false_eq_true, Bool.not_true, Bool.not_false]; done) | (simp_all [rightEv, bareE]; done) | (simp_all [rightEv, bareE] <;> omega))⟩
              · refine rn ?_
                exact retq (.cons _ _ _ _ (.tmp _ _ rfl) .nil) (.drop [_, _, _] _ _) ⟨rfl, congrArg bv (by first | (simp only [rightEv, bareE, *, Bool.true_and, Bool.false_and, Bool.and_false, Bool.and_true, Bool.true_or, Bool.or_false, Bool.false_or, Bool.or_true, if_true, if_false, Bool.false_eq_true, Bool.not_true, Bool.not_false]; done) | (simp_all [rightEv, bareE]; done) | (simp_all [rightEv, bareE] <;> omega))⟩
            · refine rn ?_
              exact retq (.cons _ _ _ _ (.tmp _ _ rfl) .nil) (.drop [_, _, _] _ _) ⟨rfl, congrArg bv (by first | (simp only [rightEv, bareE, *, Bool.true_and, Bool.false_and, Bool.and_false, Bool.and_true, Bool.true_or, Bool.or_false, Bool.false_or, Bool.or_true, if_true, if_false, Bool.false_eq_true, Bool.not_true, Bool.not_false]; done) | (simp_all [rightEv, bareE]; done) | (simp_all [rightEv, bareE] <;> omega))⟩
        · first | cases hc48 | exact absurd hc48 (by decide) | (exfalso; simp_all; done)
      · refine rn ?_
        refine aw_cond rfl (fun hc48 => ?_) (fun hc48 => ?_)
        · refine rn ?_
          refine aw_drawS 6 [(b6, 56, _)] rfl (List.perm_append_comm (l₁ := [_])) ?_
          refine rn ?_
          refine dw 0 rfl rfl rfl rfl rfl (Nat.le_of_ble_eq_true rfl) ?_
          refine rn2 ?_
          show aops _ _ _ _ _ _ ⟨_, .box b6 56 [iv e.kind, iv e.t, iv 0, iv 0, iv e.o, iv 0, iv 0, iv 0, .v (.slice none 0 0)] :: .box b3 56 (evR e) :: .box b2 28 (histC h) :: [], _⟩
          refine rn0 ?_
          refine aw_seq ?_
          refine aw_seq ?_
          show aw _ _ _ _ _ ⟨_, .box b6 56 [iv e.kind, iv e.t, iv 0, iv 0, iv e.o, iv e.v.t, iv e.v.k, iv 0, .v (.slice none 0 0)] :: .box b3 56 (evR e) :: .box b2 28 (histC h) :: [], _⟩
          refine rn ?_
          refine asplit (fun hg12_3 => ?_) (fun hg12_3 => ?_)
          · refine rn ?_
            refine asplit (fun hg12_8 => ?_) (fun hg12_8 => ?_)
            · refine rn ?_
              refine aw_ct rfl ?_
              refine rn ?_
              exact retq (.cons _ _ _ _ (.tmp _ _ rfl) .nil) (.drop [_, _, _] _ _) ⟨rfl, congrArg bv (by first | (simp only [rightEv, bareE, *, Bool.true_and, Bool.false_and, Bool.and_false, Bool.and_true, Bool.true_or, Bool.or_false, Bool.false_or, Bool.or_true, if_true, if_false, Bool.false_eq_true, Bool.not_true, Bool.not_false]; done) | (simp_all [rightEv, bareE]; done) | (simp_all [rightEv, bareE] <;> omega))⟩
            · refine rn ?_
              refine aw_cond rfl (fun hc73 => ?_) (fun hc73 => ?_)
              · refine rn ?_
                exact retq (.cons _ _ _ _ (.tmp _ _ rfl) .nil) (.drop [_, _, _] _ _) ⟨rfl, congrArg bv (by first | (simp only [rightEv, bareE, *, Bool.true_and, Bool.false_and, Bool.and_false, Bool.and_true, Bool.true_or, Bool.or_false, Bool.false_or, Bool.or_true, if_true, if_false, Bool.false_eq_true, Bool.not_true, Bool.not_false]; done) | (simp_all [rightEv, bareE]; done) | (simp_all [rightEv, bareE] <;> omega))⟩
              · refine rn ?_
                refine qv rfl rfl (qv_call rfl rfl (pcall (refEvent ⟨e.kind, e.t, 0, 0, e.o, e.v, 0, []⟩ e (by simp [hl]) hl) (by exact ⟨(by exact Sb.aggs (by exact ⟨.refl _, .refl _, .refl _, .refl _, .refl _, .refl _, .refl _, .refl _, .nil _ _, trivial⟩)), .refl _, trivial⟩))) ?_
                refine rn ?_
                refine asplit (fun hg14_3 => ?_) (fun hg14_3 => ?_)
                · refine rn ?_
                  refine qv rfl rfl (qv_call rfl rfl (pcall (refIs _ _) (Sbs.refl _))) ?_
                  refine rn ?_
                  refine asplit (fun hg14_11 => ?_) (fun hg14_11 => ?_)
                  · refine rn ?_
                    refine qv rfl rfl (qv_call rfl rfl (pcall (refVersion e.v _) (Sbs.refl _))) ?_
                    refine rn ?_
                    exact retq (.cons _ _ _ _ (.tmp _ _ rfl) .nil) (.drop [_, _, _] _ _) ⟨rfl, congrArg bv (by first | (simp only [rightEv, bareE, *, Bool.true_and, Bool.false_and, Bool.and_false, Bool.and_true, Bool.true_or, Bool.or_false, Bool.false_or, Bool.or_true, if_true, if_false, Bool.false_eq_true, Bool.not_true, Bool.not_false]; done) | (simp_all [rightEv, bareE]; done) | (simp_all [rightEv, bareE] <;> omega))⟩
                  · refine rn ?_
                    exact retq (.cons _ _ _ _ (.tmp _ _ rfl) .nil) (.drop [_, _, _] _ _) ⟨rfl, congrArg bv (by first | (simp only [rightEv, bareE, *, Bool.true_and, Bool.false_and, Bool.and_false, Bool.and_true, Bool.true_or, Bool.or_false, Bool.false_or, Bool.or_true, if_true, if_false, Bool.false_eq_true, Bool.not_true, Bool.not_false]; done) | (simp_all [rightEv, bareE]; done) | (simp_all [rightEv, bareE] <;> omega))⟩
                · refine rn ?_
                  exact retq (.cons _ _ _ _ (.tmp _ _ rfl) .nil) (.drop [_, _, _] _ _) ⟨rfl, congrArg bv (by first | (simp only [rightEv, bareE, *, Bool.true_and, Bool.false_and, Bool.and_false, Bool.and_true, Bool.true_or, Bool.or_false, Bool.false_or, Bool.or_true, if_true, if_false, Bool.false_eq_true, Bool.not_true, Bool.not_false]; done) | (simp_all [rightEv, bareE]; done) | (simp_all [rightEv, bareE] <;> omega))⟩
          · refine rn ?_
            refine aw_cf rfl ?_
            refine rn ?_
            refine qv rfl rfl (qv_call rfl rfl (pcall (refEvent ⟨e.kind, e.t, 0, 0, e.o, e.v, 0, []⟩ e (by simp [hl]) hl) (by exact ⟨(by exact Sb.aggs (by exact ⟨.refl _, .refl _, .refl _, .refl _, .refl _, .refl _, .refl _, .refl _, .nil _ _, trivial⟩)), .refl _, trivial⟩))) ?_
            refine rn ?_
            refine asplit (fun hg14_3 => ?_) (fun hg14_3 => ?_)
            · refine rn ?_
              refine qv rfl rfl (qv_call rfl rfl (pcall (refIs _ _) (Sbs.refl _))) ?_
              refine rn ?_
              refine asplit (fun hg14_11 => ?_) (fun hg14_11 => ?_)
              · refine rn ?_
                refine qv rfl rfl (qv_call rfl rfl (pcall (refVersion e.v _) (Sbs.refl _))) ?_
                refine rn ?_
                exact retq (.cons _ _ _ _ (.tmp _ _ rfl) .nil) (.drop [_, _, _] _ _) ⟨rfl, congrArg bv (by first | (simp only [rightEv, bareE, *, Bool.true_and, Bool.false_and, Bool.and_false, Bool.and_true, Bool.true_or, Bool.or_false, Bool.false_or, Bool.or_true, if_true, if_false, Bool.false_eq_true, Bool.not_true, Bool.not_false]; done) | (simp_all [rightEv, bareE]; done) | (simp_all [rightEv, bareE] <;> omega))⟩
              · refine rn ?_
                exact retq (.cons _ _ _ _ (.tmp _ _ rfl) .nil) (.drop [_, _, _] _ _) ⟨rfl, congrArg bv (by first | (simp only [rightEv, bareE, *, Bool.true_and, Bool.false_and, Bool.and_false, Bool.and_true, Bool.true_or, Bool.or_false, Bool.false_or, Bool.or_true, if_true, if_false, Bool.false_eq_true, Bool.not_true, Bool.not_false]; done) | (simp_all [rightEv, bareE]; done) | (simp_all [rightEv, bareE] <;> omega))⟩
            · refine rn ?_
              exact retq (.cons _ _ _ _ (.tmp _ _ rfl) .nil) (.drop [_, _, _] _ _) ⟨rfl, congrArg bv (by first | (simp only [rightEv, bareE, *, Bool.true_and, Bool.false_and, Bool.and_false, Bool.and_true, Bool.true_or, Bool.or_false, Bool.false_or, Bool.or_true, if_true, if_false, Bool.false_eq_true, Bool.not_true, Bool.not_false]; done) | (simp_all [rightEv, bareE]; done) | (simp_all [rightEv, bareE] <;> omega))⟩
        · refine rn ?_
          refine aw_cond rfl (fun hc91 => ?_) (fun hc91 => ?_)
          · refine rn ?_
            refine aw_drawS 6 [(b6, 56, _)] rfl (List.perm_append_comm (l₁ := [_])) ?_
            refine rn ?_
            refine dw 0 rfl rfl rfl rfl rfl (Nat.le_of_ble_eq_true rfl) ?_
            refine rn2 ?_
            show aops _ _ _ _ _ _ ⟨_, .box b6 56 [iv e.kind, iv e.t, iv 0, iv 0, iv 0, iv 0, iv 0, iv e.p, .v (.slice none 0 0)] :: .box b3 56 (evR e) :: .box b2 28 (histC h) :: [], _⟩
            refine rn0 ?_
            refine aw_seq ?_
            refine aw_seq ?_
            show aw _ _ _ _ _ ⟨_, .box b6 56 [iv e.kind, iv e.t, iv 0, iv 0, iv 0, iv 0, iv 0, iv e.p, seensA e.scan] :: .box b3 56 (evR e) :: .box b2 28 (histC h) :: [], _⟩
            refine rn ?_
            refine aw_loop' (fun k : Nat => k ≤ e.scan.length ∧ e.scan.all (rightSeen h) = (e.scan.drop k).all (rightSeen h)) (fun k => ⟨[(102, iv k), (101, iv (e.scan.map seenR).length), (100, seensA e.scan), (2, .v (.pointer (some ⟨b2, 0, none⟩))), (3, .v (.pointer (some ⟨b3, 0, none⟩))), (6, .v (.pointer (some ⟨b6, 0, none⟩))), (5, iv (h.ts.map strR).length)], [.box b6 56 (evR ⟨e.kind, e.t, 0, 0, 0, ⟨0, 0⟩, e.p, e.scan⟩), .box b3 56 (evR e), .box b2 28 (histC h)], []⟩) (fun k => e.scan.length - k) 0 ⟨Nat.zero_le _, by simp⟩
              (ent_sub (.cons _ _ _ rfl (.cons _ _ _ rfl (.cons _ _ _ rfl (.cons _ _ _ rfl (.cons _ _ _ rfl (.cons _ _ _ rfl (.cons _ _ _ rfl (.nil))))))))) ?_
            rintro k ⟨hk, hz⟩
            refine rn ?_
            refine aw_cond rfl (fun hc103 => ?_) (fun hc103 => ?_)
            · have hk2 : k < e.scan.length := by simpa using hc103
              obtain ⟨s, hs⟩ : ∃ s, s = e.scan[k] := ⟨_, rfl⟩
              have hrow : (e.scan.map seenR)[k]? = some (seenR s) := by rw [hs]; simp [hk2]
              have hd := List.drop_eq_getElem_cons hk2
              rw [← hs] at hd
              refine rn ?_
              refine aops_e rfl (oe_alloc rfl fun b8 => ?_)
              refine rn ?_
              refine qv rfl rfl (qv_call rfl rfl (pcall (refIs _ _) (Sbs.refl _))) ?_
              refine rn ?_
              refine asplit (fun hg20_7 => ?_) (fun hg20_7 => ?_)
              · refine rn ?_
                refine aw_ct rfl ?_
                have hx : rightSeen h s = false := by clear hz hd hrow hs hc103 hk2 hk; simp_all [rightSeen]
                have hall : e.scan.all (rightSeen h) = false := by rw [hz, hd, List.all_cons, hx, Bool.false_and]
                clear hz hd hx hrow
                refine rn ?_
                exact retq (.cons _ _ _ _ (.tmp _ _ rfl) .nil) (.drop [_, _, _, _] _ _) ⟨rfl, congrArg bv (by first | (simp only [rightEv, bareE, *, Bool.true_and, Bool.false_and, Bool.and_false, Bool.and_true, Bool.true_or, Bool.or_false, Bool.false_or, Bool.or_true, if_true, if_false, Bool.false_eq_true, Bool.not_true, Bool.not_false]; done) | (simp_all [rightEv, bareE]; done) | (simp_all [rightEv, bareE] <;> omega))⟩
              · refine rn ?_
                refine qv rfl rfl (qv_call rfl rfl (pcall (refVersion s.v _) (Sbs.refl _))) ?_
                refine rn ?_
                refine aw_cond rfl (fun hc119 => ?_) (fun hc119 => ?_)
                · have hx : rightSeen h s = false := by clear hz hd hrow hs hc103 hk2 hk; simp_all [rightSeen]
                  have hall : e.scan.all (rightSeen h) = false := by rw [hz, hd, List.all_cons, hx, Bool.false_and]
                  clear hz hd hx hrow
                  refine rn ?_
                  exact retq (.cons _ _ _ _ (.tmp _ _ rfl) .nil) (.drop [_, _, _, _] _ _) ⟨rfl, congrArg bv (by first | (simp only [rightEv, bareE, *, Bool.true_and, Bool.false_and, Bool.and_false, Bool.and_true, Bool.true_or, Bool.or_false, Bool.false_or, Bool.or_true, if_true, if_false, Bool.false_eq_true, Bool.not_true, Bool.not_false]; done) | (simp_all [rightEv, bareE]; done) | (simp_all [rightEv, bareE] <;> omega))⟩
                · have hx : rightSeen h s = true := by clear hz hd hrow hs hc103 hk2 hk; simp_all [rightSeen]
                  refine rn ?_
                  exact ⟨k + 1, ⟨by omega, by rw [hz, hd, List.all_cons, hx, Bool.true_and]⟩, (ent_trans (ent_drop (h1 := [_])) (ent_sub (.cons _ _ _ rfl (.cons _ _ _ rfl (.cons _ _ _ rfl (.cons _ _ _ rfl (.cons _ _ _ rfl (.cons _ _ _ rfl (.cons _ _ _ rfl (.nil)))))))))), by omega⟩
            · have hk3 : k = e.scan.length := by
                have : e.scan.length ≤ k := by simpa using hc103
                omega
              rw [hk3, List.drop_length, List.all_nil] at hz
              refine rn ?_
              refine qv rfl rfl (qv_call rfl rfl (pcall (refEvent ⟨e.kind, e.t, 0, 0, 0, ⟨0, 0⟩, e.p, e.scan⟩ e (by simp [hl]) hl) (by exact ⟨(by exact Sb.aggs (by exact ⟨.refl _, .refl _, .refl _, .refl _, .refl _, .refl _, .refl _, .refl _, .refl _, trivial⟩)), .refl _, trivial⟩))) ?_
              refine rn ?_
              refine asplit (fun hg23_3 => ?_) (fun hg23_3 => ?_)
              · refine rn ?_
                refine qv rfl rfl (qv_call rfl rfl (pcall (refIs _ _) (Sbs.refl _))) ?_
                refine rn ?_
                refine asplit (fun hg23_11 => ?_) (fun hg23_11 => ?_)
                · refine rn ?_
                  exact retq (.cons _ _ _ _ (.tmp _ _ rfl) .nil) (.drop [_, _, _] _ _) ⟨rfl, congrArg bv (by first | (simp only [rightEv, bareE, *, Bool.true_and, Bool.false_and, Bool.and_false, Bool.and_true, Bool.true_or, Bool.or_false, Bool.false_or, Bool.or_true, if_true, if_false, Bool.false_eq_true, Bool.not_true, Bool.not_false]; done) | (simp_all [rightEv, bareE]; done) | (simp_all [rightEv, bareE] <;> omega))⟩
                · refine rn ?_
                  exact retq (.cons _ _ _ _ (.tmp _ _ rfl) .nil) (.drop [_, _, _] _ _) ⟨rfl, congrArg bv (by first | (simp only [rightEv, bareE, *, Bool.true_and, Bool.false_and, Bool.and_false, Bool.and_true, Bool.true_or, Bool.or_false, Bool.false_or, Bool.or_true, if_true, if_false, Bool.false_eq_true, Bool.not_true, Bool.not_false]; done) | (simp_all [rightEv, bareE]; done) | (simp_all [rightEv, bareE] <;> omega))⟩
              · refine rn ?_
                exact retq (.cons _ _ _ _ (.tmp _ _ rfl) .nil) (.drop [_, _, _] _ _) ⟨rfl, congrArg bv (by first | (simp only [rightEv, bareE, *, Bool.true_and, Bool.false_and, Bool.and_false, Bool.and_true, Bool.true_or, Bool.or_false, Bool.false_or, Bool.or_true, if_true, if_false, Bool.false_eq_true, Bool.not_true, Bool.not_false]; done) | (simp_all [rightEv, bareE]; done) | (simp_all [rightEv, bareE] <;> omega))⟩
          · refine rn ?_
            refine qv rfl rfl (qv_call rfl rfl (pcall (refEvent ⟨e.kind, e.t, 0, 0, 0, ⟨0, 0⟩, 0, []⟩ e (by simp [hl]) hl) (by exact ⟨(by exact Sb.aggs (by exact ⟨.refl _, .refl _, .refl _, .refl _, .refl _, .refl _, .refl _, .refl _, .nil _ _, trivial⟩)), .refl _, trivial⟩))) ?_
            refine rn ?_
            refine asplit (fun hg24_3 => ?_) (fun hg24_3 => ?_)
            · refine rn ?_
              refine asplit (fun hg24_7 => ?_) (fun hg24_7 => ?_)
              · refine rn ?_
                exact retq (.cons _ _ _ _ (.tmp _ _ rfl) .nil) (.drop [_, _, _] _ _) ⟨rfl, congrArg bv (by first | (simp only [rightEv, bareE, *, Bool.true_and, Bool.false_and, Bool.and_false, Bool.and_true, Bool.true_or, Bool.or_false, Bool.false_or, Bool.or_true, if_true, if_false, Bool.false_eq_true, Bool.not_true, Bool.not_false]; done) | (simp_all [rightEv, bareE]; done) | (simp_all [rightEv, bareE] <;> omega))⟩
              · refine rn ?_
                exact retq (.cons _ _ _ _ (.tmp _ _ rfl) .nil) (.drop [_, _, _] _ _) ⟨rfl, congrArg bv (by first | (simp only [rightEv, bareE, *, Bool.true_and, Bool.false_and, Bool.and_false, Bool.and_true, Bool.true_or, Bool.or_false, Bool.false_or, Bool.or_true, if_true, if_false, Bool.false_eq_true, Bool.not_true, Bool.not_false]; done) | (simp_all [rightEv, bareE]; done) | (simp_all [rightEv, bareE] <;> omega))⟩
            · refine rn ?_
              exact retq (.cons _ _ _ _ (.tmp _ _ rfl) .nil) (.drop [_, _, _] _ _) ⟨rfl, congrArg bv (by first | (simp only [rightEv, bareE, *, Bool.true_and, Bool.false_and, Bool.and_false, Bool.and_true, Bool.true_or, Bool.or_false, Bool.false_or, Bool.or_true, if_true, if_false, Bool.false_eq_true, Bool.not_true, Bool.not_false]; done) | (simp_all [rightEv, bareE]; done) | (simp_all [rightEv, bareE] <;> omega))⟩
end Go.Proofs
/- A rune's text. Conditions: none (a rule over any program). -/
set_option linter.unusedVariables false
namespace Go.Ab
open Go
section
variable {P : Program} {dst : Option Tmp} {ty : TypeId} {pos : String} {after : Array Edge} {guard : Option (Nat × Bool)} {x : Operand} {h : List Res} {f : Operand → Option AV}
theorem qr_convert_str {S T : TypeId} {k : IntKind} {n : Int} (hx : f x = some (.v (.int k n))) [hs : Und P S (.int k)] [ht : Und P T .string] :
    QR P h f ⟨dst, .convert S T x, ty, pos, after, guard⟩ (.v (.string (Utf8.encode n))) := fun X ρ w he => by
  refine ⟨_, run_v _ ?_, .v _⟩
  rw [(he.rel x _ hx).v_eq]
  simp only [convert, Sem.run_bind, Go.Ab.run_underlying (d := TypeDesc.int k), Go.Ab.run_underlying (d := TypeDesc.string), Result.andThen_ok]
  rfl
end
end Go.Ab
/- The walk of the reference's first. Conditions: none. -/
set_option linter.unusedVariables false
set_option linter.unusedSimpArgs false
set_option maxRecDepth 10000
namespace Go.Proofs
open Go Go.Ab
attribute [local irreducible] QR QV OE aops aw dsoup dsoupM dalloc dallocM thn inBlk
open Go.H
theorem ref2First (s : ByteArray) : ACall Tryz.prog 221 [sv s] [] (fun r h' => h' = [] ∧ r = .tup [.v (.int .i32 (firstR s).1), iv (firstR s).2]) := by
  refine acall_of_aw Tryz.func221 rfl rfl rfl ?_
  refine rn ?_
  refine aops_e rfl (oe_range_str rfl rfl fun b8 => ?_)
  refine rn ?_
  refine aw_loop' (fun x : Unit => True) (fun x => ⟨[(8, .v (.pointer (some ⟨b8, 0, none⟩))), (0, sv s), (2, .v (.int .i32 0)), (3, iv 0)], [.obj b8 (.stringIter s 0)], []⟩) (fun x => 0) () trivial
    (ent_sub (.cons _ _ _ rfl (.cons _ _ _ rfl (.cons _ _ _ rfl (.cons _ _ _ rfl (.nil)))))) ?_
  rintro _ _
  refine aw_seq (aw_region ?_)
  refine aops_e rfl (oe_next_str rfl rfl (fun hp => ?_) (fun hp => ?_))
  · refine rn ?_
    refine aw_cond rfl (fun hc10 => ?_) (fun hc10 => ?_)
    · first | cases hc10 | exact absurd hc10 (by decide) | (exfalso; simp_all; done)
    · refine rn ?_
      exact retq (.cons _ _ _ _ (.tmp _ _ rfl) (.cons _ _ _ _ (.tmp _ _ rfl) .nil)) (.drop1 _ _ _) ⟨rfl, by first | (rw [firstR, if_pos hp]; rfl) | (rw [firstR, if_neg (by omega)]; split <;> first | rfl | (exfalso; simp_all; done) | (exfalso; simp_all; omega))⟩
  · refine rn ?_
    refine aw_cond rfl (fun hc10 => ?_) (fun hc10 => ?_)
    · refine rn ?_
      refine aw_cond rfl (fun hc14 => ?_) (fun hc14 => ?_)
      · exact absurd hc14 (by decide)
      · refine aw_skip ?_
        refine thn_n ?_
        refine aw_seq (aw_region ?_)
        refine q1 ?_
        refine qq rfl rfl (qr_convert_str rfl) ?_
        refine rn ?_
        refine asplit (fun hg6_2 => ?_) (fun hg6_2 => ?_)
        · refine rn ?_
          refine asplit (fun hg6_6 => ?_) (fun hg6_6 => ?_)
          · refine rn ?_
            refine aw_cond rfl (fun hc29 => ?_) (fun hc29 => ?_)
            · refine rn ?_
              exact retq (.cons _ _ _ _ (.tmp _ _ rfl) (.cons _ _ _ _ (.tmp _ _ rfl) .nil)) (.drop1 _ _ _) ⟨rfl, by first | (rw [firstR, if_pos hp]; rfl) | (rw [firstR, if_neg (by omega)]; split <;> first | rfl | (exfalso; simp_all; done) | (exfalso; simp_all; omega))⟩
            · first | cases hc29 | exact absurd hc29 (by decide) | (exfalso; simp_all; done)
          · refine q1 ?_
            refine qq rfl rfl (qr_slice_string_h (k := 3) rfl rfl (by have := hg6_6; simp at this; omega)) ?_
            refine rn ?_
            refine aw_cond rfl (fun hc29 => ?_) (fun hc29 => ?_)
            · refine rn ?_
              exact retq (.cons _ _ _ _ (.tmp _ _ rfl) (.cons _ _ _ _ (.tmp _ _ rfl) .nil)) (.drop1 _ _ _) ⟨rfl, by first | (rw [firstR, if_pos hp]; rfl) | (rw [firstR, if_neg (by omega)]; split <;> first | rfl | (exfalso; simp_all; done) | (exfalso; simp_all; omega))⟩
            · refine rn ?_
              exact retq (.cons _ _ _ _ (.tmp _ _ rfl) (.cons _ _ _ _ (.tmp _ _ rfl) .nil)) (.drop1 _ _ _) ⟨rfl, by first | (rw [firstR, if_pos hp]; rfl) | (rw [firstR, if_neg (by omega)]; split <;> first | rfl | (exfalso; simp_all; done) | (exfalso; simp_all; omega))⟩
        · refine rn ?_
          refine aw_cond rfl (fun hc29 => ?_) (fun hc29 => ?_)
          · first | cases hc29 | exact absurd hc29 (by decide) | (exfalso; simp_all; done)
          · refine rn ?_
            exact retq (.cons _ _ _ _ (.tmp _ _ rfl) (.cons _ _ _ _ (.tmp _ _ rfl) .nil)) (.drop1 _ _ _) ⟨rfl, by first | (rw [firstR, if_pos hp]; rfl) | (rw [firstR, if_neg (by omega)]; split <;> first | rfl | (exfalso; simp_all; done) | (exfalso; simp_all; omega))⟩
    · first | cases hc10 | exact absurd hc10 (by decide) | (exfalso; simp_all; done)
end Go.Proofs
/- The walks of the reference's Word and RightNames. Conditions: none. -/
set_option linter.unusedVariables false
set_option linter.unusedSimpArgs false
set_option maxRecDepth 10000
namespace Go.Proofs
open Go Go.Ab
attribute [local irreducible] QR QV OE aops aw dsoup dsoupM dalloc dallocM thn inBlk
open Go.H
theorem ref2FirstN (s : ByteArray) (c n : Int) (h : firstR s = (c, n)) : ACall Tryz.prog 221 [sv s] [] (fun r h' => h' = [] ∧ r = .tup [.v (.int .i32 c), iv n]) :=
  (ref2First s).mono fun _ _ q => ⟨q.1, by rw [q.2, h]⟩
theorem ref2Word (s : ByteArray) : ACall Tryz.prog 194 [sv s] [] (fun r h' => h' = [] ∧ r = bv (wordB s)) := by
  refine acall_of_aw Tryz.func194 rfl rfl rfl ?_
  refine rn ?_
  refine asplit (fun hg1_2 => ?_) (fun hg1_2 => ?_)
  · refine rn ?_
    refine aw_ct rfl ?_
    refine rn ?_
    refine rq 0 ?_
    exact ⟨rfl, congrArg bv (by first | (rw [wordB_eq, ← emptyL, hg1_2]; rfl) | (rw [wordB_eq, decide_eq_false (show ¬ (s.size : Int) ≤ 24 by simp at hc12; omega), Bool.and_false]; rfl))⟩
  · refine rn ?_
    refine aw_cond rfl (fun hc12 => ?_) (fun hc12 => ?_)
    · refine rn ?_
      refine rq 0 ?_
      exact ⟨rfl, congrArg bv (by first | (rw [wordB_eq, ← emptyL, hg1_2]; rfl) | (rw [wordB_eq, decide_eq_false (show ¬ (s.size : Int) ≤ 24 by simp at hc12; omega), Bool.and_false]; rfl))⟩
    · have hlen : s.size ≤ 24 := by simp at hc12; omega
      refine rn ?_
      refine aw_while (fun i : Nat => wordR s 0 = wordR s i ∧ i ≤ 48) (fun i => ⟨[(3, iv i), (0, sv s)], [], []⟩) (fun i => s.size - i) 0 ⟨rfl, by omega⟩ es ?_
      rintro i ⟨hz, hi⟩
      refine rn ?_
      refine aw_cond rfl (fun hc16 => ?_) (fun hc16 => ?_)
      · have h1 : i < s.size := by simpa using hc16
        refine aw_skip ?_
        refine thn_n ?_
        refine aw_block ?_
        refine aw_seq (aw_region ?_)
        refine q1 ?_
        refine q1 ?_
        refine qq rfl rfl (qr_slice_string_l (k := i) rfl rfl (by omega)) ?_
        obtain ⟨c, n, hw, hn1, hn4⟩ := firstR_w h1
        refine qv rfl rfl (qv_call rfl rfl (pcall (ref2FirstN _ c n hw) (Sbs.refl _))) ?_
        refine rn ?_
        refine qv rfl rfl (qv_call rfl rfl (pcall (ref2Letter _) (Sbs.refl _))) ?_
        refine rn ?_
        refine asplit (fun hg6_3 => ?_) (fun hg6_3 => ?_)
        · refine rn ?_
          refine asplit (fun hg6_6 => ?_) (fun hg6_6 => ?_)
          · refine rn ?_
            refine aw_ct rfl ?_
            refine rn ?_
            refine rq 0 ?_
            exact ⟨rfl, congrArg bv (by rw [wordB_eq, hz, wordR_stop h1 hw (by simpa using hg6_3) (by first | exact .inl (by simpa using hg6_6) | exact .inr (by simpa using hc35)), Bool.and_false])⟩
          · refine rn ?_
            refine qv rfl rfl (qv_call rfl rfl (pcall (ref2Digit _) (Sbs.refl _))) ?_
            refine rn ?_
            refine aw_cond rfl (fun hc35 => ?_) (fun hc35 => ?_)
            · refine rn ?_
              refine rq 0 ?_
              exact ⟨rfl, congrArg bv (by rw [wordB_eq, hz, wordR_stop h1 hw (by simpa using hg6_3) (by first | exact .inl (by simpa using hg6_6) | exact .inr (by simpa using hc35)), Bool.and_false])⟩
            · refine rn ?_
              exact ⟨i + n, ⟨hz.trans (wordR_go h1 hw hn1 (.inr ⟨by simpa using hg6_6, by simpa using hc35⟩)), by omega⟩, eA, by omega⟩
        · refine rn ?_
          first | (refine qv rfl rfl (qv_call rfl rfl (pcall (ref2Digit _) (Sbs.refl _))) ?_) | refine qs rfl rfl ?_ | skip
          refine rn ?_
          refine aw_cf rfl ?_
          refine rn ?_
          exact ⟨i + n, ⟨hz.trans (wordR_go h1 hw hn1 (.inl (by simpa using hg6_3))), by omega⟩, eA, by omega⟩
      · have h1 : ¬ i < s.size := by simpa using hc16
        refine rn ?_
        refine rq 0 ?_
        exact ⟨rfl, congrArg bv (by rw [wordB_eq, ← emptyL, hg1_2, hz, wordR_end h1, decide_eq_true (show (s.size : Int) ≤ 24 by omega)]; rfl)⟩
theorem refRightNames (l : List ByteArray) (most : Nat) (hl : l.length ≤ 4611686018427387904) : ACall Tryz.prog 163 [strsA l, iv most] [] (fun r h' => h' = [] ∧ r = bv (namesB most l)) := by
  refine acall_of_aw Tryz.func163 rfl rfl rfl ?_
  refine rn ?_
  refine aw_rng (l.length) (fun k : Nat => freshB [] l = freshB (l.take k) (l.drop k)) (fun k => [(11, iv k)]) [(0, _), (1, _), (9, _), (10, _)] rfl ?_
  intro k lk zk
  refine rn ?_
  refine aw_cond rfl (fun hc12 => ?_) (fun hc12 => ?_)
  · have hk := ltMap hc12
    have rk := atRow (f := strR) hk
    refine rn ?_
    refine qv rfl rfl (qv_call rfl rfl (pcall (ref2Word _) (Sbs.refl _))) ?_
    refine rn ?_
    refine aw_cond rfl (fun hc18 => ?_) (fun hc18 => ?_)
    · refine rn ?_
      refine rq 0 ?_
      exact ⟨rfl, congrArg bv (by rw [namesB, fresh_w hk zk (by simpa using hc18), Bool.and_false])⟩
    · refine aw_skip ?_
      refine thn_n ?_
      refine aw_seq (aw_region ?_)
      refine q1 ?_
      refine q1 ?_
      refine qq rfl rfl (qr_slice_h (k := k) rfl rfl (by simp; omega)) ?_
      rw [← List.map_take]
      refine rn ?_
      refine aw_rng ((l.take k).length) (fun j : Nat => (l.take k).all (fun t => !(l[k].toList == t.toList)) = ((l.take k).drop j).all (fun t => !(l[k].toList == t.toList))) (fun j => [(23, iv j)]) [(0, _), (1, _), (6, _), (9, _), (10, _), (11, _), (21, _), (22, _)] rfl ?_
      intro j lj zj
      refine rn ?_
      refine aw_cond rfl (fun hc24 => ?_) (fun hc24 => ?_)
      · have hj := ltMap hc24
        have rj := atRow (f := strR) hj
        have bj : (l.take k).length ≤ 4611686018427387904 := by simp; omega
        refine rn ?_
        refine aw_cond rfl (fun hc29 => ?_) (fun hc29 => ?_)
        · refine rn ?_
          refine rq 0 ?_
          exact ⟨rfl, congrArg bv (by rw [namesB, fresh_m hk zk (allF hj (by simpa using hc29)), Bool.and_false])⟩
        · refine rn ?_
          exact ⟨hj, allT hj zj (by simpa using hc29), eA⟩
      · have qj := geMap hc24 lj
        have aj := allE qj zj
        refine rn ?_
        exact ⟨hk, fresh_step hk zk (by simpa using hc18) aj, eA⟩
  · have qk := geMap hc12 lk
    refine rn ?_
    refine rq 0 ?_
    exact ⟨rfl, congrArg bv (by rw [namesB, fresh_e qk zk]; simp)⟩
end Go.Proofs
/- The walk of the reference's Shaped. Conditions: none. -/
set_option linter.unusedVariables false
set_option linter.unusedSimpArgs false
set_option maxRecDepth 10000
namespace Go.Proofs
open Go Go.Ab
attribute [local irreducible] QR QV OE aops aw dsoup dsoupM dalloc dallocM thn inBlk
open Go.H
theorem refRightEvE (h : Hist) (e : Ev) (hl : e.scan.length ≤ 4611686018427387904) : ACall Tryz.prog 164 [.agg (histC h), .agg (evR e)] [] (fun r h' => h' = [] ∧ r = bv (eventB h e)) :=
  (refRightEv h e hl).mono fun _ _ q => ⟨q.1, by rw [q.2, rightEv_eq]⟩
theorem refShaped (h : Hist) (la : Lim 4611686018427387904 h) : ACall Tryz.prog 126 [.agg (histC h)] [] (fun r h' => h' = [] ∧ r = bv (shapedB h)) := by
  refine acall_of_aw Tryz.func126 rfl rfl rfl ?_
  refine rn ?_
  refine aops_e rfl (oe_box rfl rfl rfl fun b1 => ?_)
  refine rn ?_
  refine qv rfl rfl (qv_call rfl rfl (pcall (refRightNames h.ts 300 la.ts) (Sbs.refl _))) ?_
  refine rn ?_
  refine asplit (fun hg1_4 => ?_) (fun hg1_4 => ?_)
  · refine rn ?_
    refine aw_ct rfl ?_
    refine rn ?_
    refine rq 1 ?_
    exact ⟨rfl, congrArg bv (by rw [shaped_fn (by simp_all)])⟩
  · refine rn ?_
    refine qv rfl rfl (qv_call rfl rfl (pcall (refRightNames h.ss 60 la.ss) (Sbs.refl _))) ?_
    refine rn ?_
    refine asplit (fun hg1_10 => ?_) (fun hg1_10 => ?_)
    · refine rn ?_
      refine aw_ct rfl ?_
      refine rn ?_
      refine rq 1 ?_
      exact ⟨rfl, congrArg bv (by rw [shaped_fn (by simp_all)])⟩
    · refine rn ?_
      refine qv rfl rfl (qv_call rfl rfl (pcall (refRightNames h.os 300 la.os) (Sbs.refl _))) ?_
      refine rn ?_
      refine asplit (fun hg1_16 => ?_) (fun hg1_16 => ?_)
      · refine rn ?_
        refine aw_ct rfl ?_
        refine rn ?_
        refine rq 1 ?_
        exact ⟨rfl, congrArg bv (by rw [shaped_fn (by simp_all)])⟩
      · refine rn ?_
        refine qv rfl rfl (qv_call rfl rfl (pcall (refRightNames h.ps 60 la.ps) (Sbs.refl _))) ?_
        refine rn ?_
        refine aw_cond rfl (fun hc32 => ?_) (fun hc32 => ?_)
        · refine rn ?_
          refine rq 1 ?_
          exact ⟨rfl, congrArg bv (by rw [shaped_fn (by simp_all)])⟩
        · refine rn ?_
          refine aw_rng (h.evs.length) (fun i : Nat => h.evs.all (eventB h) = (h.evs.drop i).all (eventB h)) (fun i => [(36, iv i)]) [(1, _), (34, _), (35, _)] rfl ?_
          intro i li zi
          refine rn ?_
          refine aw_cond rfl (fun hc37 => ?_) (fun hc37 => ?_)
          · have hi := ltMap hc37
            have ri := atRow (f := evR) hi
            have bi := la.evs
            have si := la.scans h.evs[i] (List.getElem_mem hi)
            refine rn ?_
            refine aops_e rfl (oe_alloc rfl fun b4 => ?_)
            refine rn ?_
            refine qv rfl rfl (qv_call rfl rfl (pcall (refRightEvE h h.evs[i] si) (Sbs.refl _))) ?_
            refine rn ?_
            refine aw_cond rfl (fun hc43 => ?_) (fun hc43 => ?_)
            · refine rn ?_
              refine rq 2 ?_
              exact ⟨rfl, congrArg bv (by rw [shaped_fe (allF hi (by simpa using hc43))])⟩
            · refine rn ?_
              exact ⟨hi, allT hi zi (by simpa using hc43), eA⟩
          · have qi := geMap hc37 li
            have ai := allE qi zi
            refine rn ?_
            refine aw_rng (h.ords.length) (fun j : Nat => h.ords.all (ordB h) = (h.ords.drop j).all (ordB h)) (fun j => [(48, iv j)]) [(1, _), (46, _), (47, _)] rfl ?_
            intro j lj zj
            refine rn ?_
            refine aw_cond rfl (fun hc49 => ?_) (fun hc49 => ?_)
            · have hj := ltMap hc49
              have rj := atRow (f := ordR) hj
              have bj := la.ords
              have sj := la.ordts h.ords[j] (List.getElem_mem hj)
              refine rn ?_
              refine aops_e rfl (oe_alloc rfl fun b6 => ?_)
              refine rn ?_
              refine qv rfl rfl (qv_call rfl rfl (pcall (refIs _ _) (Sbs.refl _))) ?_
              refine rn ?_
              refine asplit (fun hg12_7 => ?_) (fun hg12_7 => ?_)
              · refine rn ?_
                refine aw_ct rfl ?_
                refine rn ?_
                refine rq 2 ?_
                exact ⟨rfl, congrArg bv (by rw [shaped_fo (allF hj (by rw [ordB_eq]; simp_all))])⟩
              · refine rn ?_
                refine qv rfl rfl (qv_call rfl rfl (pcall (refTs h h.ords[j].ts sj) (Sbs.refl _))) ?_
                refine rn ?_
                refine aw_cond rfl (fun hc65 => ?_) (fun hc65 => ?_)
                · refine rn ?_
                  refine rq 2 ?_
                  exact ⟨rfl, congrArg bv (by rw [shaped_fo (allF hj (by rw [ordB_eq]; simp_all))])⟩
                · refine rn ?_
                  exact ⟨hj, allT hj zj (by rw [ordB_eq]; simp_all), eA⟩
            · have qj := geMap hc49 lj
              have aj := allE qj zj
              refine rn ?_
              refine aw_rng (h.mats.length) (fun k : Nat => h.mats.all (matB h) = (h.mats.drop k).all (matB h)) (fun k => [(70, iv k)]) [(1, _), (68, _), (69, _)] rfl ?_
              intro k lk zk
              refine rn ?_
              refine aw_cond rfl (fun hc71 => ?_) (fun hc71 => ?_)
              · have hk := ltMap hc71
                have rk := atRow (f := matR) hk
                have bk := la.mats
                have sk := la.matts h.mats[k] (List.getElem_mem hk)
                refine rn ?_
                refine aops_e rfl (oe_alloc rfl fun b8 => ?_)
                refine rn ?_
                refine qv rfl rfl (qv_call rfl rfl (pcall (refIs _ _) (Sbs.refl _))) ?_
                refine rn ?_
                refine asplit (fun hg18_7 => ?_) (fun hg18_7 => ?_)
                · refine rn ?_
                  refine aw_ct rfl ?_
                  refine rn ?_
                  refine rq 2 ?_
                  exact ⟨rfl, congrArg bv (by rw [shaped_fm (allF hk (by rw [matB_eq]; simp_all))])⟩
                · refine rn ?_
                  refine qv rfl rfl (qv_call rfl rfl (pcall (refIs _ _) (Sbs.refl _))) ?_
                  refine rn ?_
                  refine asplit (fun hg18_16 => ?_) (fun hg18_16 => ?_)
                  · refine rn ?_
                    refine aw_ct rfl ?_
                    refine rn ?_
                    refine rq 2 ?_
                    exact ⟨rfl, congrArg bv (by rw [shaped_fm (allF hk (by rw [matB_eq]; simp_all))])⟩
                  · refine rn ?_
                    refine qv rfl rfl (qv_call rfl rfl (pcall (refTs h h.mats[k].ts sk) (Sbs.refl _))) ?_
                    refine rn ?_
                    refine aw_cond rfl (fun hc96 => ?_) (fun hc96 => ?_)
                    · refine rn ?_
                      refine rq 2 ?_
                      exact ⟨rfl, congrArg bv (by rw [shaped_fm (allF hk (by rw [matB_eq]; simp_all))])⟩
                    · refine rn ?_
                      exact ⟨hk, allT hk zk (by rw [matB_eq]; simp_all), eA⟩
              · have qk := geMap hc71 lk
                have ak := allE qk zk
                refine rn ?_
                refine aw_rng (h.wants.length) (fun m : Nat => h.wants.all (wanB h) = (h.wants.drop m).all (wanB h)) (fun m => [(101, iv m)]) [(1, _), (99, _), (100, _)] rfl ?_
                intro m lm zm
                refine rn ?_
                refine aw_cond rfl (fun hc102 => ?_) (fun hc102 => ?_)
                · have hm := ltMap hc102
                  have rm := atRow (f := wanR) hm
                  have bm := la.wants
                  refine rn ?_
                  refine aops_e rfl (oe_alloc rfl fun b10 => ?_)
                  refine rn ?_
                  refine qv rfl rfl (qv_call rfl rfl (pcall (refIs _ _) (Sbs.refl _))) ?_
                  refine rn ?_
                  refine asplit (fun hg24_7 => ?_) (fun hg24_7 => ?_)
                  · refine rn ?_
                    refine aw_ct rfl ?_
                    refine rn ?_
                    refine rq 2 ?_
                    exact ⟨rfl, congrArg bv (by rw [shaped_fw (allF hm (by rw [wanB_eq]; simp_all))])⟩
                  · refine rn ?_
                    refine qv rfl rfl (qv_call rfl rfl (pcall (refIs _ _) (Sbs.refl _))) ?_
                    refine rn ?_
                    refine aw_cond rfl (fun hc117 => ?_) (fun hc117 => ?_)
                    · refine rn ?_
                      refine rq 2 ?_
                      exact ⟨rfl, congrArg bv (by rw [shaped_fw (allF hm (by rw [wanB_eq]; simp_all))])⟩
                    · refine rn ?_
                      exact ⟨hm, allT hm zm (by rw [wanB_eq]; simp_all), eA⟩
                · have qm := geMap hc102 lm
                  have am := allE qm zm
                  refine rn ?_
                  refine asplit (fun hg27_4 => ?_) (fun hg27_4 => ?_)
                  · refine rn ?_
                    refine asplit (fun hg27_10 => ?_) (fun hg27_10 => ?_)
                    · refine rn ?_
                      refine asplit (fun hg27_16 => ?_) (fun hg27_16 => ?_)
                      · refine rn ?_
                        refine rq 1 ?_
                        exact ⟨rfl, congrArg bv (by rw [shaped_is (by simp_all) (by simp_all) (by simp_all) (by simp_all) ai aj ak am]; first | (simp_all; done) | (simp_all; intros; omega))⟩
                      · refine rn ?_
                        refine rq 1 ?_
                        exact ⟨rfl, congrArg bv (by rw [shaped_is (by simp_all) (by simp_all) (by simp_all) (by simp_all) ai aj ak am]; first | (simp_all; done) | (simp_all; intros; omega))⟩
                    · refine rn ?_
                      refine rq 1 ?_
                      exact ⟨rfl, congrArg bv (by rw [shaped_is (by simp_all) (by simp_all) (by simp_all) (by simp_all) ai aj ak am]; first | (simp_all; done) | (simp_all; intros; omega))⟩
                  · refine rn ?_
                    refine rq 1 ?_
                    exact ⟨rfl, congrArg bv (by rw [shaped_is (by simp_all) (by simp_all) (by simp_all) (by simp_all) ai aj ak am]; first | (simp_all; done) | (simp_all; intros; omega))⟩
end Go.Proofs
/- The walks of the reference's first and made. Conditions: none. -/
set_option linter.unusedVariables false
set_option linter.unusedSimpArgs false
set_option maxRecDepth 10000
namespace Go.Proofs
open Go Go.Ab
attribute [local irreducible] QR QV OE aops aw dsoup dsoupM dalloc dallocM thn inBlk
open Go.H
theorem ref11First (s : SV) (l : List Int) (n : Int) (hl : l.length ≤ 1000000000) : ACall Tryz.prog 166 [.v s.v, iv n] [.row s.v 1 3 (l.map intR)] (fun r h' => ∃ s' : SV, h' = [.row s'.v 1 3 ((addF l n).map intR)] ∧ r = .v s'.v) := by
  refine acall_of_aw Tryz.func166 rfl rfl rfl ?_
  refine rn ?_
  refine qv rfl rfl (qv_call rfl rfl (FCall.lend (R := fun x => x = iv (atI n 0 l)) (FCall.of_fun (refAt (f := false) l n (by omega))) (fun r hr => by rw [hr]; rfl) (.refl _ _) ⟨ble_row, .refl _ _, trivial⟩)) ?_
  refine rn ?_
  refine aw_cond rfl (fun hc8 => ?_) (fun hc8 => ?_)
  · refine rn ?_
    refine rq 0 ?_
    exact ⟨s, by rw [addF, if_pos (by simpa using hc8)]; rfl, rfl⟩
  · refine rn ?_
    refine qv rfl rfl (qv_buildSlice rfl rfl) ?_
    refine aops_e rfl (oe_append_row rfl rfl (by simp; omega) rfl (fun s13 => ?_) (fun r hr => by simp at hr; subst hr; rfl))
    refine aops_slice s13 fun sv hsv => ?_
    subst hsv
    refine rn ?_
    refine rq 0 ?_
    exact ⟨sv, by rw [addF, if_neg (by simpa using hc8), List.map_append]; rfl, rfl⟩
theorem ref11Made (s : SV) (l : List Int) (v : Ver) (hl : l.length ≤ 1000000000) : ACall Tryz.prog 167 [.v s.v, .agg (verR v)] [.row s.v 1 3 (l.map intR)] (fun r h' => ∃ s' : SV, h' = [.row s'.v 1 3 ((addV l v).map intR)] ∧ r = .v s'.v) := by
  refine acall_of_aw Tryz.func167 rfl rfl rfl ?_
  refine rn ?_
  refine aops_e rfl (oe_box rfl rfl rfl fun b3 => ?_)
  refine rn ?_
  refine aw_cond rfl (fun hc7 => ?_) (fun hc7 => ?_)
  · refine rn ?_
    refine rq 1 ?_
    exact ⟨s, by rw [addV, if_pos (by simpa using hc7)]; rfl, rfl⟩
  · refine rn ?_
    refine aops_e rfl (oe_call rfl rfl (fcall_row (FCall.of_fun (ref11First s l v.t hl))) rfl ?_)
    rintro _ _ ⟨s', rfl, rfl⟩
    refine rn ?_
    refine rq 1 ?_
    exact ⟨s', by rw [addV, if_neg (by simpa using hc7)]; rfl, rfl⟩
end Go.Proofs
/- The walk of the reference's Spoken. Conditions: none. -/
set_option linter.unusedVariables false
set_option linter.unusedSimpArgs false
set_option maxRecDepth 10000
namespace Go.Proofs
open Go Go.Ab
attribute [local irreducible] QR QV OE aops aw dsoup dsoupM dalloc dallocM thn inBlk
open Go.H
set_option maxHeartbeats 4000000 in
theorem refSpoken (h : Hist) (la : Lim 3000 h) : ACall Tryz.prog 127 [.agg (histC h)] [] (fun r h' => h' = [] ∧ r = .agg [intsA (spokenF h 0), intsA (spokenF h 1), intsA (spokenF h 2), intsA (spokenF h 3)]) := by
  refine acall_of_aw Tryz.func127 rfl rfl rfl ?_
  refine rn ?_
  refine aops_e rfl (oe_box rfl rfl rfl fun b1 => ?_)
  refine aops_e rfl (oe_alloc rfl fun b2 => ?_)
  refine rn ?_
  refine aops_e rfl (oe_alloc rfl fun b3 => ?_)
  refine rn ?_
  refine aw_rng4 h.evs.length (fun k s0 s1 s2 s3 => ⟨[(21, iv k), (1, .v (.pointer (some ⟨b1, 0, none⟩))), (2, .v (.pointer (some ⟨b2, 0, none⟩))), (3, .v (.pointer (some ⟨b3, 0, none⟩))), (19, evsA h.evs), (20, iv (h.evs.map evR).length)], [.row s0.v 1 3 (((spE h k) 0).map intR), .row s1.v 1 3 (((spE h k) 1).map intR), .row s2.v 1 3 (((spE h k) 2).map intR), .row s3.v 1 3 (((spE h k) 3).map intR), .box b3 184 [.v s0.v, .v s1.v, .v s2.v, .v s3.v], .box b2 184 [.v (.slice none 0 0), .v (.slice none 0 0), .v (.slice none 0 0), .v (.slice none 0 0)], .box b1 28 (histC h)], []⟩) (⟨none, 0, 0⟩) (⟨none, 0, 0⟩) (⟨none, 0, 0⟩) (⟨none, 0, 0⟩) (ent_trans (ent_nilrow 1 3) (ent_trans (ent_nilrow 1 3) (ent_trans (ent_nilrow 1 3) (ent_trans (ent_nilrow 1 3) es)))) ?_
  intro k s0 s1 s2 s3 lk
  refine rn ?_
  refine aw_cond rfl (fun hc22 => ?_) (fun hc22 => ?_)
  · have hk := ltMap hc22
    have rk := atRow (f := evR) hk
    have bd := bdE la k lk
    have ls := la.scans h.evs[k] (List.getElem_mem hk)
    have le := la.evs
    refine rn ?_
    refine aops_e rfl (oe_alloc rfl fun b5 => ?_)
    refine rn ?_
    refine qq rfl rfl (qr_indexAddr_int rfl rfl (by decide) (by decide)) ?_
    refine rn ?_
    refine aops_e rfl (oe_call rfl rfl (fcall_row (FCall.of_fun (ref11First _ _ _ (by have := bd 0; omega)))) rfl ?_)
    rintro _ _ ⟨s', rfl, rfl⟩
    refine qq rfl rfl (qr_indexAddr_int rfl rfl (by decide) (by decide)) ?_
    refine rn0 ?_
    refine aw_cut4 (fun s0 s1 s2 s3 => ⟨[(5, .v (.pointer (some ⟨b5, 0, none⟩))), (21, iv k), (20, iv (h.evs.map evR).length), (19, evsA h.evs), (1, .v (.pointer (some ⟨b1, 0, none⟩))), (2, .v (.pointer (some ⟨b2, 0, none⟩))), (3, .v (.pointer (some ⟨b3, 0, none⟩)))], [.box b5 56 (evR h.evs[k]), .row s0.v 1 3 (((stepK (stepF (spE h k) (0, h.evs[k].t)) h.evs[k]) 0).map intR), .row s1.v 1 3 (((stepK (stepF (spE h k) (0, h.evs[k].t)) h.evs[k]) 1).map intR), .row s2.v 1 3 (((stepK (stepF (spE h k) (0, h.evs[k].t)) h.evs[k]) 2).map intR), .row s3.v 1 3 (((stepK (stepF (spE h k) (0, h.evs[k].t)) h.evs[k]) 3).map intR), .box b3 184 [.v s0.v, .v s1.v, .v s2.v, .v s3.v], .box b2 184 [.v (.slice none 0 0), .v (.slice none 0 0), .v (.slice none 0 0), .v (.slice none 0 0)], .box b1 28 (histC h)], []⟩) ?_ ?_
    · refine rn ?_
      refine aw_cond rfl (fun hc33 => ?_) (fun hc33 => ?_)
      · refine rn ?_
        refine qq rfl rfl (qr_indexAddr_int rfl rfl (by decide) (by decide)) ?_
        refine rn ?_
        refine aops_e rfl (oe_call rfl rfl (fcall_row (FCall.of_fun (ref11First _ _ _ (by have := bd 1; omega)))) rfl ?_)
        rintro _ _ ⟨s', rfl, rfl⟩
        refine qq rfl rfl (qr_indexAddr_int rfl rfl (by decide) (by decide)) ?_
        refine rn ?_
        exact ⟨_, _, _, _, by unfold stepK; first | (rw [if_pos (by simpa using hc33)]; exact eA) | (rw [if_neg (by simpa using hc33), if_pos (by simp at hc33; simp_all)]; exact eA) | (rw [if_neg (by simpa using hc33), if_neg (by simp at hc33; simp_all), if_pos (by simpa using hc56)]; exact eA) | (rw [if_neg (by simpa using hc33), if_neg (by simp at hc33; simp_all), if_neg (by simpa using hc56)]; exact eA)⟩
      · refine rn ?_
        refine aw_cond rfl (fun hc41 => ?_) (fun hc41 => ?_)
        · refine rn ?_
          refine aw_cond rfl (fun hc41 => ?_) (fun hc41 => ?_)
          · refine rn ?_
            refine qq rfl rfl (qr_indexAddr_int rfl rfl (by decide) (by decide)) ?_
            refine rn ?_
            refine aops_e rfl (oe_call rfl rfl (fcall_row (FCall.of_fun (ref11First _ _ _ (by have := bd 2; omega)))) rfl ?_)
            rintro _ _ ⟨s', rfl, rfl⟩
            refine qq rfl rfl (qr_indexAddr_int rfl rfl (by decide) (by decide)) ?_
            refine rn ?_
            refine qq rfl rfl (qr_indexAddr_int rfl rfl (by decide) (by decide)) ?_
            refine rn ?_
            refine aops_e rfl (oe_call rfl rfl (fcall_row (FCall.of_fun (ref11Made _ _ _ (by have := (bd.f (0, h.evs[k].t)) 0; exact Nat.le_trans this (by omega))))) rfl ?_)
            rintro _ _ ⟨s', rfl, rfl⟩
            refine qq rfl rfl (qr_indexAddr_int rfl rfl (by decide) (by decide)) ?_
            refine rn ?_
            exact ⟨_, _, _, _, by unfold stepK; first | (rw [if_pos (by simpa using hc33)]; exact eA) | (rw [if_neg (by simpa using hc33), if_pos (by simp at hc33; simp_all)]; exact eA) | (rw [if_neg (by simpa using hc33), if_neg (by simp at hc33; simp_all), if_pos (by simpa using hc56)]; exact eA) | (rw [if_neg (by simpa using hc33), if_neg (by simp at hc33; simp_all), if_neg (by simpa using hc56)]; exact eA)⟩
          · first | cases hc41 | exact absurd hc41 (by decide) | (exfalso; simp_all; done)
        · refine rn ?_
          refine aw_cond rfl (fun hc41 => ?_) (fun hc41 => ?_)
          · refine rn ?_
            refine qq rfl rfl (qr_indexAddr_int rfl rfl (by decide) (by decide)) ?_
            refine rn ?_
            refine aops_e rfl (oe_call rfl rfl (fcall_row (FCall.of_fun (ref11First _ _ _ (by have := bd 2; omega)))) rfl ?_)
            rintro _ _ ⟨s', rfl, rfl⟩
            refine qq rfl rfl (qr_indexAddr_int rfl rfl (by decide) (by decide)) ?_
            refine rn ?_
            refine qq rfl rfl (qr_indexAddr_int rfl rfl (by decide) (by decide)) ?_
            refine rn ?_
            refine aops_e rfl (oe_call rfl rfl (fcall_row (FCall.of_fun (ref11Made _ _ _ (by have := (bd.f (0, h.evs[k].t)) 0; exact Nat.le_trans this (by omega))))) rfl ?_)
            rintro _ _ ⟨s', rfl, rfl⟩
            refine qq rfl rfl (qr_indexAddr_int rfl rfl (by decide) (by decide)) ?_
            refine rn ?_
            exact ⟨_, _, _, _, by unfold stepK; first | (rw [if_pos (by simpa using hc33)]; exact eA) | (rw [if_neg (by simpa using hc33), if_pos (by simp at hc33; simp_all)]; exact eA) | (rw [if_neg (by simpa using hc33), if_neg (by simp at hc33; simp_all), if_pos (by simpa using hc56)]; exact eA) | (rw [if_neg (by simpa using hc33), if_neg (by simp at hc33; simp_all), if_neg (by simpa using hc56)]; exact eA)⟩
          · refine rn ?_
            refine aw_cond rfl (fun hc56 => ?_) (fun hc56 => ?_)
            · refine rn ?_
              refine qq rfl rfl (qr_indexAddr_int rfl rfl (by decide) (by decide)) ?_
              refine rn ?_
              refine aops_e rfl (oe_call rfl rfl (fcall_row (FCall.of_fun (ref11First _ _ _ (by have := bd 3; omega)))) rfl ?_)
              rintro _ _ ⟨s', rfl, rfl⟩
              refine qq rfl rfl (qr_indexAddr_int rfl rfl (by decide) (by decide)) ?_
              refine rn ?_
              exact ⟨_, _, _, _, by unfold stepK; first | (rw [if_pos (by simpa using hc33)]; exact eA) | (rw [if_neg (by simpa using hc33), if_pos (by simp at hc33; simp_all)]; exact eA) | (rw [if_neg (by simpa using hc33), if_neg (by simp at hc33; simp_all), if_pos (by simpa using hc56)]; exact eA) | (rw [if_neg (by simpa using hc33), if_neg (by simp at hc33; simp_all), if_neg (by simpa using hc56)]; exact eA)⟩
            · refine rn ?_
              exact ⟨_, _, _, _, by unfold stepK; first | (rw [if_pos (by simpa using hc33)]; exact eA) | (rw [if_neg (by simpa using hc33), if_pos (by simp at hc33; simp_all)]; exact eA) | (rw [if_neg (by simpa using hc33), if_neg (by simp at hc33; simp_all), if_pos (by simpa using hc56)]; exact eA) | (rw [if_neg (by simpa using hc33), if_neg (by simp at hc33; simp_all), if_neg (by simpa using hc56)]; exact eA)⟩
    · intro s0 s1 s2 s3
      refine rn ?_
      refine aw_rng4 h.evs[k].scan.length (fun j s0 s1 s2 s3 => ⟨[(67, iv j), (1, .v (.pointer (some ⟨b1, 0, none⟩))), (2, .v (.pointer (some ⟨b2, 0, none⟩))), (3, .v (.pointer (some ⟨b3, 0, none⟩))), (19, evsA h.evs), (20, iv (h.evs.map evR).length), (21, iv k), (65, seensA h.evs[k].scan), (66, iv (h.evs[k].scan.map seenR).length)], [.box b5 56 (evR h.evs[k]), .row s0.v 1 3 ((((h.evs[k].scan.take j).foldl stepS (stepK (stepF (spE h k) (0, h.evs[k].t)) h.evs[k])) 0).map intR), .row s1.v 1 3 ((((h.evs[k].scan.take j).foldl stepS (stepK (stepF (spE h k) (0, h.evs[k].t)) h.evs[k])) 1).map intR), .row s2.v 1 3 ((((h.evs[k].scan.take j).foldl stepS (stepK (stepF (spE h k) (0, h.evs[k].t)) h.evs[k])) 2).map intR), .row s3.v 1 3 ((((h.evs[k].scan.take j).foldl stepS (stepK (stepF (spE h k) (0, h.evs[k].t)) h.evs[k])) 3).map intR), .box b3 184 [.v s0.v, .v s1.v, .v s2.v, .v s3.v], .box b2 184 [.v (.slice none 0 0), .v (.slice none 0 0), .v (.slice none 0 0), .v (.slice none 0 0)], .box b1 28 (histC h)], []⟩) _ _ _ _ (es) ?_
      intro j s0 s1 s2 s3 lj
      refine rn ?_
      refine aw_cond rfl (fun hc68 => ?_) (fun hc68 => ?_)
      · have hj := ltMap hc68
        have rj := atRow (f := seenR) hj
        have bj := Bd.fold (c := 2) (l := h.evs[k].scan.take j) (fun s _ L n h => h.s s) ((bd.f (0, h.evs[k].t)).k h.evs[k])
        have bl : (h.evs[k].scan.take j).length ≤ 3000 := by rw [List.length_take]; omega
        refine rn ?_
        refine aops_e rfl (oe_alloc rfl fun b7 => ?_)
        refine rn ?_
        refine qq rfl rfl (qr_indexAddr_int rfl rfl (by decide) (by decide)) ?_
        refine rn ?_
        refine aops_e rfl (oe_call rfl rfl (fcall_row (FCall.of_fun (ref11First _ _ _ (by have := bj 2; omega)))) rfl ?_)
        rintro _ _ ⟨s', rfl, rfl⟩
        refine qq rfl rfl (qr_indexAddr_int rfl rfl (by decide) (by decide)) ?_
        refine rn ?_
        refine qq rfl rfl (qr_indexAddr_int rfl rfl (by decide) (by decide)) ?_
        refine rn ?_
        refine aops_e rfl (oe_call rfl rfl (fcall_row (FCall.of_fun (ref11Made _ _ _ (by have := bj 0; omega)))) rfl ?_)
        rintro _ _ ⟨s', rfl, rfl⟩
        refine qq rfl rfl (qr_indexAddr_int rfl rfl (by decide) (by decide)) ?_
        refine rn ?_
        have e : (h.evs[k].scan.take (j + 1)).foldl stepS (stepK (stepF (spE h k) (0, h.evs[k].t)) h.evs[k]) = stepS ((h.evs[k].scan.take j).foldl stepS (stepK (stepF (spE h k) (0, h.evs[k].t)) h.evs[k])) h.evs[k].scan[j] := foldTake _ _ hj
        exact ⟨hj, _, _, _, _, by simp only [e]; exact eA⟩
      · have qj := geMap hc68 lj
        refine rn ?_
        have e : spE h (k + 1) = (h.evs[k].scan.take j).foldl stepS (stepK (stepF (spE h k) (0, h.evs[k].t)) h.evs[k]) := by rw [spE, foldTake _ _ hk, H.stepE, foldEnd _ _ qj]; rfl
        exact ⟨hk, _, _, _, _, by simp only [e]; exact eA⟩
  · have qk := geMap hc22 lk
    refine rn ?_
    refine aw_rng4 h.ords.length (fun k s0 s1 s2 s3 => ⟨[(88, iv k), (1, .v (.pointer (some ⟨b1, 0, none⟩))), (2, .v (.pointer (some ⟨b2, 0, none⟩))), (3, .v (.pointer (some ⟨b3, 0, none⟩))), (86, ordsA h.ords), (87, iv (h.ords.map ordR).length)], [.row s0.v 1 3 (((spO h k) 0).map intR), .row s1.v 1 3 (((spO h k) 1).map intR), .row s2.v 1 3 (((spO h k) 2).map intR), .row s3.v 1 3 (((spO h k) 3).map intR), .box b3 184 [.v s0.v, .v s1.v, .v s2.v, .v s3.v], .box b2 184 [.v (.slice none 0 0), .v (.slice none 0 0), .v (.slice none 0 0), .v (.slice none 0 0)], .box b1 28 (histC h)], []⟩) _ _ _ _ (by rw [show spO h 0 = spE h k from (foldEnd stepE noR qk).symm]; exact es) ?_
    intro k s0 s1 s2 s3 lk
    refine rn ?_
    refine aw_cond rfl (fun hc89 => ?_) (fun hc89 => ?_)
    · have hk := ltMap hc89
      have rk := atRow (f := ordR) hk
      have bd := bdO la k lk
      have ls := la.ordts h.ords[k] (List.getElem_mem hk)
      have le := la.ords
      refine rn ?_
      refine aops_e rfl (oe_alloc rfl fun b9 => ?_)
      refine rn ?_
      refine qq rfl rfl (qr_indexAddr_int rfl rfl (by decide) (by decide)) ?_
      refine rn ?_
      refine aops_e rfl (oe_call rfl rfl (fcall_row (FCall.of_fun (ref11First _ _ _ (by have := bd 2; omega)))) rfl ?_)
      rintro _ _ ⟨s', rfl, rfl⟩
      refine qq rfl rfl (qr_indexAddr_int rfl rfl (by decide) (by decide)) ?_
      refine rn ?_
      refine aw_rng4 h.ords[k].ts.length (fun j s0 s1 s2 s3 => ⟨[(101, iv j), (1, .v (.pointer (some ⟨b1, 0, none⟩))), (2, .v (.pointer (some ⟨b2, 0, none⟩))), (3, .v (.pointer (some ⟨b3, 0, none⟩))), (86, ordsA h.ords), (87, iv (h.ords.map ordR).length), (88, iv k), (99, intsA h.ords[k].ts), (100, iv (h.ords[k].ts.map intR).length)], [.box b9 101 (ordR h.ords[k]), .row s0.v 1 3 ((((h.ords[k].ts.take j).foldl addT (stepF (spO h k) (2, h.ords[k].o))) 0).map intR), .row s1.v 1 3 ((((h.ords[k].ts.take j).foldl addT (stepF (spO h k) (2, h.ords[k].o))) 1).map intR), .row s2.v 1 3 ((((h.ords[k].ts.take j).foldl addT (stepF (spO h k) (2, h.ords[k].o))) 2).map intR), .row s3.v 1 3 ((((h.ords[k].ts.take j).foldl addT (stepF (spO h k) (2, h.ords[k].o))) 3).map intR), .box b3 184 [.v s0.v, .v s1.v, .v s2.v, .v s3.v], .box b2 184 [.v (.slice none 0 0), .v (.slice none 0 0), .v (.slice none 0 0), .v (.slice none 0 0)], .box b1 28 (histC h)], []⟩) _ _ _ _ (es) ?_
      intro j s0 s1 s2 s3 lj
      refine rn ?_
      refine aw_cond rfl (fun hc102 => ?_) (fun hc102 => ?_)
      · have hj := ltMap hc102
        have rj := atRow (f := intR) hj
        have bj := Bd.fold (c := 1) (l := h.ords[k].ts.take j) (fun s _ L n h => h.t s) (bd.f (2, h.ords[k].o))
        have bl : (h.ords[k].ts.take j).length ≤ 3000 := by rw [List.length_take]; omega
        refine rn ?_
        refine qq rfl rfl (qr_indexAddr_int rfl rfl (by decide) (by decide)) ?_
        refine rn ?_
        refine aops_e rfl (oe_call rfl rfl (fcall_row (FCall.of_fun (ref11First _ _ _ (by have := bj 0; omega)))) rfl ?_)
        rintro _ _ ⟨s', rfl, rfl⟩
        refine qq rfl rfl (qr_indexAddr_int rfl rfl (by decide) (by decide)) ?_
        refine rn ?_
        have e : (h.ords[k].ts.take (j + 1)).foldl addT (stepF (spO h k) (2, h.ords[k].o)) = addT ((h.ords[k].ts.take j).foldl addT (stepF (spO h k) (2, h.ords[k].o))) h.ords[k].ts[j] := foldTake _ _ hj
        exact ⟨hj, _, _, _, _, by simp only [e]; exact eA⟩
      · have qj := geMap hc102 lj
        refine rn ?_
        have e : spO h (k + 1) = (h.ords[k].ts.take j).foldl addT (stepF (spO h k) (2, h.ords[k].o)) := by rw [spO, foldTake _ _ hk, stepO, foldEnd _ _ qj]; rfl
        exact ⟨hk, _, _, _, _, by simp only [e]; exact eA⟩
    · have qk := geMap hc89 lk
      refine rn ?_
      refine aw_rng4 h.mats.length (fun k s0 s1 s2 s3 => ⟨[(115, iv k), (1, .v (.pointer (some ⟨b1, 0, none⟩))), (2, .v (.pointer (some ⟨b2, 0, none⟩))), (3, .v (.pointer (some ⟨b3, 0, none⟩))), (113, matsA h.mats), (114, iv (h.mats.map matR).length)], [.row s0.v 1 3 (((spM h k) 0).map intR), .row s1.v 1 3 (((spM h k) 1).map intR), .row s2.v 1 3 (((spM h k) 2).map intR), .row s3.v 1 3 (((spM h k) 3).map intR), .box b3 184 [.v s0.v, .v s1.v, .v s2.v, .v s3.v], .box b2 184 [.v (.slice none 0 0), .v (.slice none 0 0), .v (.slice none 0 0), .v (.slice none 0 0)], .box b1 28 (histC h)], []⟩) _ _ _ _ (by rw [show spM h 0 = spO h k from (foldEnd stepO _ qk).symm]; exact es) ?_
      intro k s0 s1 s2 s3 lk
      refine rn ?_
      refine aw_cond rfl (fun hc116 => ?_) (fun hc116 => ?_)
      · have hk := ltMap hc116
        have rk := atRow (f := matR) hk
        have bd := bdM la k lk
        have ls := la.matts h.mats[k] (List.getElem_mem hk)
        have le := la.mats
        refine rn ?_
        refine aops_e rfl (oe_alloc rfl fun b13 => ?_)
        refine rn ?_
        refine qq rfl rfl (qr_indexAddr_int rfl rfl (by decide) (by decide)) ?_
        refine rn ?_
        refine aops_e rfl (oe_call rfl rfl (fcall_row (FCall.of_fun (ref11First _ _ _ (by have := bd 3; omega)))) rfl ?_)
        rintro _ _ ⟨s', rfl, rfl⟩
        refine qq rfl rfl (qr_indexAddr_int rfl rfl (by decide) (by decide)) ?_
        refine rn ?_
        refine qq rfl rfl (qr_indexAddr_int rfl rfl (by decide) (by decide)) ?_
        refine rn ?_
        refine aops_e rfl (oe_call rfl rfl (fcall_row (FCall.of_fun (ref11First _ _ _ (by have := bd 2; omega)))) rfl ?_)
        rintro _ _ ⟨s', rfl, rfl⟩
        refine qq rfl rfl (qr_indexAddr_int rfl rfl (by decide) (by decide)) ?_
        refine rn ?_
        refine aw_rng4 h.mats[k].ts.length (fun j s0 s1 s2 s3 => ⟨[(134, iv j), (1, .v (.pointer (some ⟨b1, 0, none⟩))), (2, .v (.pointer (some ⟨b2, 0, none⟩))), (3, .v (.pointer (some ⟨b3, 0, none⟩))), (113, matsA h.mats), (114, iv (h.mats.map matR).length), (115, iv k), (132, intsA h.mats[k].ts), (133, iv (h.mats[k].ts.map intR).length)], [.box b13 103 (matR h.mats[k]), .row s0.v 1 3 ((((h.mats[k].ts.take j).foldl addT (stepF (stepF (spM h k) (3, h.mats[k].p)) (2, h.mats[k].o))) 0).map intR), .row s1.v 1 3 ((((h.mats[k].ts.take j).foldl addT (stepF (stepF (spM h k) (3, h.mats[k].p)) (2, h.mats[k].o))) 1).map intR), .row s2.v 1 3 ((((h.mats[k].ts.take j).foldl addT (stepF (stepF (spM h k) (3, h.mats[k].p)) (2, h.mats[k].o))) 2).map intR), .row s3.v 1 3 ((((h.mats[k].ts.take j).foldl addT (stepF (stepF (spM h k) (3, h.mats[k].p)) (2, h.mats[k].o))) 3).map intR), .box b3 184 [.v s0.v, .v s1.v, .v s2.v, .v s3.v], .box b2 184 [.v (.slice none 0 0), .v (.slice none 0 0), .v (.slice none 0 0), .v (.slice none 0 0)], .box b1 28 (histC h)], []⟩) _ _ _ _ (es) ?_
        intro j s0 s1 s2 s3 lj
        refine rn ?_
        refine aw_cond rfl (fun hc135 => ?_) (fun hc135 => ?_)
        · have hj := ltMap hc135
          have rj := atRow (f := intR) hj
          have bj := Bd.fold (c := 1) (l := h.mats[k].ts.take j) (fun s _ L n h => h.t s) ((bd.f (3, h.mats[k].p)).f (2, h.mats[k].o))
          have bl : (h.mats[k].ts.take j).length ≤ 3000 := by rw [List.length_take]; omega
          refine rn ?_
          refine qq rfl rfl (qr_indexAddr_int rfl rfl (by decide) (by decide)) ?_
          refine rn ?_
          refine aops_e rfl (oe_call rfl rfl (fcall_row (FCall.of_fun (ref11First _ _ _ (by have := bj 0; omega)))) rfl ?_)
          rintro _ _ ⟨s', rfl, rfl⟩
          refine qq rfl rfl (qr_indexAddr_int rfl rfl (by decide) (by decide)) ?_
          refine rn ?_
          have e : (h.mats[k].ts.take (j + 1)).foldl addT (stepF (stepF (spM h k) (3, h.mats[k].p)) (2, h.mats[k].o)) = addT ((h.mats[k].ts.take j).foldl addT (stepF (stepF (spM h k) (3, h.mats[k].p)) (2, h.mats[k].o))) h.mats[k].ts[j] := foldTake _ _ hj
          exact ⟨hj, _, _, _, _, by simp only [e]; exact eA⟩
        · have qj := geMap hc135 lj
          refine rn ?_
          have e : spM h (k + 1) = (h.mats[k].ts.take j).foldl addT (stepF (stepF (spM h k) (3, h.mats[k].p)) (2, h.mats[k].o)) := by rw [spM, foldTake _ _ hk, stepM, foldEnd _ _ qj]; rfl
          exact ⟨hk, _, _, _, _, by simp only [e]; exact eA⟩
      · have qk := geMap hc116 lk
        refine rn ?_
        refine aw_rng4 h.wants.length (fun k s0 s1 s2 s3 => ⟨[(148, iv k), (2, .v (.pointer (some ⟨b2, 0, none⟩))), (3, .v (.pointer (some ⟨b3, 0, none⟩))), (146, wansA h.wants), (147, iv (h.wants.map wanR).length)], [.row s0.v 1 3 (((spW h k) 0).map intR), .row s1.v 1 3 (((spW h k) 1).map intR), .row s2.v 1 3 (((spW h k) 2).map intR), .row s3.v 1 3 (((spW h k) 3).map intR), .box b3 184 [.v s0.v, .v s1.v, .v s2.v, .v s3.v], .box b2 184 [.v (.slice none 0 0), .v (.slice none 0 0), .v (.slice none 0 0), .v (.slice none 0 0)], .box b1 28 (histC h)], []⟩) _ _ _ _ (by rw [show spW h 0 = spM h k from (foldEnd stepM _ qk).symm]; exact es) ?_
        intro k s0 s1 s2 s3 lk
        refine rn ?_
        refine aw_cond rfl (fun hc149 => ?_) (fun hc149 => ?_)
        · have hk := ltMap hc149
          have rk := atRow (f := wanR) hk
          have bd := bdW la k lk
          have le := la.wants
          refine rn ?_
          refine aops_e rfl (oe_alloc rfl fun b17 => ?_)
          refine rn ?_
          refine qq rfl rfl (qr_indexAddr_int rfl rfl (by decide) (by decide)) ?_
          refine rn ?_
          refine aops_e rfl (oe_call rfl rfl (fcall_row (FCall.of_fun (ref11First _ _ _ (by have := bd 1; omega)))) rfl ?_)
          rintro _ _ ⟨s', rfl, rfl⟩
          refine qq rfl rfl (qr_indexAddr_int rfl rfl (by decide) (by decide)) ?_
          refine rn ?_
          have e : spW h (k + 1) = stepW (spW h k) h.wants[k] := foldTake _ _ hk
          exact ⟨hk, _, _, _, _, by simp only [e]; exact eA⟩
        · have qk := geMap hc149 lk
          refine rn ?_
          exact retq (.cons _ _ _ _ (.agg _ _ _ _ _ _ _ rfl inferInstance inferInstance inferInstance rfl) .nil) (.trans (vent_freeze_cell [] _) (.trans (vent_freeze_cell [_] _) (.trans (vent_freeze_cell [_, _] _) (.trans (vent_freeze_cell [_, _, _] _) (.drop [_, _, _] _ _))))) ⟨rfl, by rw [← show spW h k = spokenF h from foldEnd _ _ qk]; rfl⟩
end Go.Proofs
/- The walk of the reference's Right. Conditions: none. -/
set_option linter.unusedVariables false
set_option linter.unusedSimpArgs false
set_option maxRecDepth 10000
namespace Go.Proofs
open Go Go.Ab
attribute [local irreducible] QR QV OE aops aw dsoup dsoupM dalloc dallocM thn inBlk
open Go.H
theorem refRight (h : Hist) (la : Lim 4611686018427387904 h) : ACall Tryz.prog 92 [.agg (histC h)] [] (fun r h' => h' = [] ∧ r = bv (rightB h)) := by
  refine acall_of_aw Tryz.func92 rfl rfl rfl ?_
  refine rn ?_
  refine aops_e rfl (oe_box rfl rfl rfl fun b1 => ?_)
  refine rn ?_
  refine qv rfl rfl (qv_call rfl rfl (pcall (refShaped h la) (Sbs.refl _))) ?_
  refine rn ?_
  refine aw_cond rfl (fun hc10 => ?_) (fun hc10 => ?_)
  · refine rn ?_
    refine rq 1 ?_
    exact ⟨rfl, congrArg bv (by rw [right_s (by simpa using hc10)])⟩
  · have hs : shapedB h = true := by simpa using hc10
    have la3 := shaped_lim hs
    refine rn ?_
    refine qv rfl rfl (qv_call rfl rfl (pcall (refSpoken h la3) (Sbs.refl _))) ?_
    refine rn ?_
    refine aw_rng (4) (fun k : Nat => ∀ j, j < k → okS h j = true) (fun k => [(13, iv k)]) [(1, _), (12, _)] (fun j hj => by omega) ?_
    intro k lk zk
    refine rn ?_
    refine aw_cond rfl (fun hc14 => ?_) (fun hc14 => ?_)
    · have hk : k < 4 := by simp at hc14; omega
      have r0 := sp_at h hk
      have r1 := many_at h hk
      have bl := spoken_len la3 k
      refine rn ?_
      refine aw_cond rfl (fun hc35 => ?_) (fun hc35 => ?_)
      · refine rn ?_
        refine rq 1 ?_
        exact ⟨rfl, congrArg bv (by rw [right_f hk]; rw [okS, beq_eq_false_iff_ne.2 (by simp at hc35; omega), Bool.false_and])⟩
      · have hlen : (spokenF h k).length = (nmK h k).length := by simp at hc35; omega
        refine rn ?_
        refine aw_rng ((spokenF h k).length) (fun i : Nat => uptoF 0 (spokenF h k) = uptoF i ((spokenF h k).drop i)) (fun i => [(38, iv i)]) [(1, _), (12, _), (13, _), (36, _), (37, _)] rfl ?_
        intro i li zi
        refine rn ?_
        refine aw_cond rfl (fun hc39 => ?_) (fun hc39 => ?_)
        · have hi := ltMap hc39
          have ri := atRow (f := intR) hi
          refine rn ?_
          refine aw_cond rfl (fun hc45 => ?_) (fun hc45 => ?_)
          · refine rn ?_
            refine rq 1 ?_
            exact ⟨rfl, congrArg bv (by rw [right_f hk]; rw [okS, upto_f hi zi (by simp at hc45; omega), Bool.and_false])⟩
          · refine rn ?_
            exact ⟨hi, upto_step hi zi (by simp at hc45; omega), eA⟩
        · have qi := geMap hc39 li
          refine rn ?_
          exact ⟨hk, fun j hj => (Nat.lt_or_ge j k).elim (zk j) (fun q => by
            obtain rfl : j = k := by omega
            rw [okS, hlen, upto_e qi zi]; simp), eA⟩
    · have qk : k = 4 := by simp at hc14; omega
      subst qk
      refine rn ?_
      refine rq 1 ?_
      exact ⟨rfl, congrArg bv (by rw [right_t hs zk])⟩
theorem refRightM (h : Hist) (la : Lim 4611686018427387904 h) : ACall Tryz.prog 92 [.agg (histC h)] [] (fun r h' => h' = [] ∧ r = bv (mayB h)) :=
  (refRight h la).mono fun _ _ q => ⟨q.1, by rw [q.2, rightB_eq]⟩
end Go.Proofs
/- The walks of the reference's Check, Final, Sees, Sights. Conditions: none. -/
set_option linter.unusedVariables false
set_option linter.unusedSimpArgs false
set_option maxRecDepth 10000
namespace Go.Proofs
open Go Go.Ab
attribute [local irreducible] QR QV OE aops aw dsoup dsoupM dalloc dallocM thn inBlk jsoup jch lsoup
open Go.H
theorem lw_hit {l : List Ev} {t x : Int} {j : Nat} (h : j < l.length) (hw : wroteQ t x l[j] = true) : lastW l t x (j + 1) = some (l[j].v, j) := by
  rw [lastW, List.getElem?_eq_getElem h]; simp only [hw, if_true]
theorem lw_miss {l : List Ev} {t x : Int} {j : Nat} (h : j < l.length) (hw : wroteQ t x l[j] = false) : lastW l t x (j + 1) = lastW l t x j := by
  rw [lastW, List.getElem?_eq_getElem h]; simp [hw]
theorem refSound (h : Hist) (la : Lim 4611686018427387904 h) : ACall Tryz.prog 93 [.agg (histC h)] [] (fun r h' => h' = [] ∧ r = bv (soundB h)) := by
  refine acall_of_aw Tryz.func93 rfl rfl rfl ?_
  refine rn ?_
  refine aops_e rfl (oe_box rfl rfl rfl fun b1 => ?_)
  refine rn ?_
  refine qv rfl rfl (qv_call rfl rfl (pcall (refRightM h la) (Sbs.refl _))) ?_
  refine rn ?_
  refine aw_cond rfl (fun hc7 => ?_) (fun hc7 => ?_)
  · have hm : mayB h = false := by simpa using hc7
    refine rn ?_
    refine rq 1 ?_
    exact ⟨rfl, congrArg bv (by rw [soundB, hm]; rfl)⟩
  · have hm : mayB h = true := by simpa using hc7
    refine rn ?_
    refine qv rfl rfl (qv_call rfl rfl (pcall (refFirst15 h ((may3000 hm).mono (by decide))) (Sbs.refl _))) ?_
    obtain ⟨bi, bj, be⟩ := brk_two (firstIn (placeR h) rules10)
    rw [be]
    refine rn ?_
    refine aops_e rfl (oe_alloc rfl fun b3 => ?_)
    refine rn ?_
    refine rq 2 ?_
    exact ⟨rfl, congrArg bv (by rw [soundB, hm, show firstH h = firstIn (placeR h) rules10 from first_eq hm]; cases firstIn (placeR h) rules10 <;> rfl)⟩
theorem refCheck16 (h : Hist) (la : Lim 4611686018427387904 h) : ACall Tryz.prog 37 [.agg (histC h)] [] (fun r h' => h' = [] ∧ r = iv (checkI h)) := by
  refine acall_of_aw Tryz.func37 rfl rfl rfl ?_
  refine rn ?_
  refine aops_e rfl (oe_box rfl rfl rfl fun b1 => ?_)
  refine rn ?_
  refine qv rfl rfl (qv_call rfl rfl (pcall (refRightM h la) (Sbs.refl _))) ?_
  refine rn ?_
  refine aw_cond rfl (fun hc5 => ?_) (fun hc5 => ?_)
  · have hm : mayB h = false := by simpa using hc5
    refine rn ?_
    refine rq 1 ?_
    exact ⟨rfl, by rw [checkI, hm]; rfl⟩
  · have hm : mayB h = true := by simpa using hc5
    refine rn ?_
    refine qv rfl rfl (qv_call rfl rfl (pcall (refSound h la) (Sbs.refl _))) ?_
    refine rn ?_
    refine aw_cond rfl (fun hc8 => ?_) (fun hc8 => ?_)
    · refine rn ?_
      refine rq 1 ?_
      exact ⟨rfl, by rw [checkI, hm, if_pos rfl, if_neg (by simpa using hc8)]; rfl⟩
    · refine rn ?_
      refine rq 1 ?_
      exact ⟨rfl, by rw [checkI, hm, if_pos rfl, if_pos (by simpa using hc8)]; rfl⟩
end Go.Proofs
/- The walks of the reference's Committed, Begun, Line, Installed, Next, Rank. Conditions: none. -/
set_option linter.unusedVariables false
set_option linter.unusedSimpArgs false
set_option maxRecDepth 10000
namespace Go.Proofs
open Go Go.Ab
attribute [local irreducible] QR QV OE aops aw dsoup dsoupM dalloc dallocM thn inBlk jsoup jch lsoup
open Go.H
theorem cr_t {p : Int → Bool} {k : Nat} (h : p k = true) : (upR (k + 1)).filter p = (upR k).filter p ++ [(k : Int)] := by rw [upR_s, List.filter_append, List.filter_cons_of_pos h]; rfl
theorem cr_f {p : Int → Bool} {k : Nat} (h : p k = false) : (upR (k + 1)).filter p = (upR k).filter p := by rw [upR_s, List.filter_append, List.filter_cons_of_neg (by rw [h]; decide)]; simp
theorem up_le (p : Int → Bool) (k : Nat) : ((upR k).filter p).length ≤ k := Nat.le_trans (List.length_filter_le _ _) (by rw [upR, List.length_map, List.length_range]; exact Nat.le_refl _)
theorem refComm16 (h : Hist) (la : Lim 1000000 h) : ACall Tryz.prog 64 [.agg (histC h)] [] (fun r h' => h' = [] ∧ r = intsA (commR h)) := by
  refine acall_of_aw Tryz.func64 rfl rfl rfl ?_
  have bt := la.ts
  refine rn ?_
  refine aops_e rfl (oe_box rfl rfl rfl fun b1 => ?_)
  refine rn ?_
  refine aw_rng1 h.ts.length (fun k s => ⟨[(8, iv k), (3, .v s.v), (1, .v (.pointer (some ⟨b1, 0, none⟩))), (7, iv (h.ts.map strR).length)], .row s.v 1 3 (((upR k).filter (fun t : Int => hasB h.evs t 5)).map intR) :: .box b1 28 (histC h) :: [], []⟩) ⟨none, 0, 0⟩ (ent_trans (ent_nilrow 1 3) es) ?_
  intro k s lk
  refine rn ?_
  refine aw_cond rfl (fun hc9 => ?_) (fun hc9 => ?_)
  · have hk := ltMap hc9
    have rk := atRow (f := strR) hk
    refine rn ?_
    refine qv rfl rfl (qv_call rfl rfl (pcall (refComm h k (la.mono (by decide))) (Sbs.refl _))) ?_
    refine rn ?_
    refine aw_cond rfl (fun hc13 => ?_) (fun hc13 => ?_)
    · refine rn ?_
      refine qv rfl rfl (qv_buildSlice rfl rfl) ?_
      refine aops_e rfl (oe_append_row rfl rfl (by simp only [List.length_map, List.length_cons, List.length_nil]; have := up_le (fun t : Int => hasB h.evs t 5) k; omega) rfl (fun s17 => ?_) (one_int [(k : Int)]))
      refine aops_slice s17 fun sv hsv => ?_
      subst hsv
      refine rn ?_
      first | exact ⟨hk, sv, by rw [cr_t (by exact hc13), List.map_append]; exact eA⟩ | exact ⟨hk, s, by rw [cr_f (by exact hc13)]; exact eA⟩
    · refine rn ?_
      first | exact ⟨hk, sv, by rw [cr_t (by exact hc13), List.map_append]; exact eA⟩ | exact ⟨hk, s, by rw [cr_f (by exact hc13)]; exact eA⟩
  · have qk := geMap hc9 lk
    refine rn ?_
    exact retq (.cons _ _ _ _ (.tmp _ _ rfl) .nil) (.trans vent_freeze (.drop [_] _ _)) ⟨rfl, by rw [qk]; rfl⟩
end Go.Proofs
/- The walks of the reference 23. Conditions: none. -/
set_option linter.unusedVariables false
set_option linter.unusedSimpArgs false
set_option maxRecDepth 10000
namespace Go.Proofs
open Go Go.Ab
attribute [local irreducible] QR QV OE aops aw dsoup dsoupM dalloc dallocM thn inBlk jsoup jch lsoup
open Go.H
theorem com_at {h : Hist} (hs : soundB h = true) (t : Int) : decide (atI t 0 (commR h) < 0) = !hasB h.evs t 5 := by
  rw [at_lt0]
  congr 1
  rw [Bool.eq_iff_iff, List.contains_iff_mem, ← comm_eq hs, comm_mem]
theorem dirG_n2 {h : Hist} (hs : soundB h = true) {a : List Int} {e : Ev} (hx : decide (atI e.t 0 (commR h) < 0) = true ∨ decide (lvAt a e.t < 2) = true) : dirG h a e = false := by
  rw [com_at hs] at hx
  rw [dirG]
  rcases hx with q | q
  · have : hasB h.evs e.t 5 = false := by simpa using q
    rw [this]; rfl
  · have := of_decide_eq_true q
    rw [decide_eq_false (by omega), Bool.and_false]
theorem dirG_y2 {h : Hist} (hs : soundB h = true) {a : List Int} {e : Ev} (hx : decide (atI e.t 0 (commR h) < 0) = false) (hy : decide (lvAt a e.t < 2) = false) : dirG h a e = true := by
  rw [com_at hs] at hx
  have := of_decide_eq_false hy
  rw [dirG, decide_eq_true (by omega), Bool.and_true]; simpa using hx
theorem commR_len {h : Hist} (hs : soundB h = true) : (commR h).length ≤ h.evs.length := by
  rw [← comm_eq hs]; exact commLen _
theorem pc1 {h : Hist} {k : Nat} {s : Seen} (hq : dirA h s = true) : dirT h k s 1 = [⟨1, k, s.o, s.v⟩] := by rw [dirT, dirT, dirQ, if_pos rfl, if_pos hq]; rfl
theorem pc0 {h : Hist} {k : Nat} {s : Seen} (hq : dirA h s = false) : dirT h k s 1 = [] := by rw [dirT, dirT, dirQ, if_pos rfl, if_neg (by rw [hq]; decide)]; rfl
theorem pc2 {h : Hist} {k : Nat} {s : Seen} {B : List Dirt} (hq : dirB h s = true) : B ++ dirT h k s 2 = B ++ dirT h k s 1 ++ [⟨2, k, s.o, s.v⟩] := by rw [dirT, show dirQ h s 1 = dirB h s from rfl, if_pos hq, List.append_assoc]; rfl
theorem pc3 {h : Hist} {k : Nat} {s : Seen} {B : List Dirt} (hq : dirB h s = false) : B ++ dirT h k s 2 = B ++ dirT h k s 1 := by rw [dirT, show dirQ h s 1 = dirB h s from rfl, if_neg (by rw [hq]; decide), List.append_nil]
theorem refCheck23 (h : Hist) (la : Lim 4611686018427387904 h) (a : List Int) (ha : a.length ≤ 1000000) : ACall Tryz.prog 18 [.agg (histC h), intsA a] [] (fun r h' => h' = [] ∧ r = iv (dirC h a)) := by
  refine acall_of_aw Tryz.func18 rfl rfl rfl ?_
  refine rn ?_
  refine aops_e rfl (oe_box rfl rfl rfl fun b2 => ?_)
  refine rn ?_
  refine qv rfl rfl (qv_call rfl rfl (pcall (refCheck16 h la) (Sbs.refl _))) ?_
  refine rn ?_
  refine aw_cond rfl (fun hc9 => ?_) (fun hc9 => ?_)
  · have hc := nzT hc9
    refine rn ?_
    refine rq 1 ?_
    exact ⟨rfl, by rw [dirC, if_neg hc]; rfl⟩
  · have hc := nzF hc9
    refine rn ?_
    refine qv rfl rfl (qv_call rfl rfl (pcall (ref9All a (Nat.le_trans ha (by decide))) (Sbs.refl _))) ?_
    refine rn ?_
    refine aw_cond rfl (fun hc13 => ?_) (fun hc13 => ?_)
    · have hl : ¬ levsB a = true := by simpa using hc13
      refine rn ?_
      refine rq 1 ?_
      exact ⟨rfl, by rw [dirC, if_pos hc, if_neg hl]; rfl⟩
    · have hl : levsB a = true := by simpa using hc13
      refine rn ?_
      refine aw_cond rfl (fun hc19 => ?_) (fun hc19 => ?_)
      · have hn : ¬ a.length = h.ts.length := by have q := hc19; simp at q; omega
        refine rn ?_
        refine rq 1 ?_
        exact ⟨rfl, by rw [dirC, if_pos hc, if_pos hl, if_neg hn]; rfl⟩
      · have hn : a.length = h.ts.length := by have q := hc19; simp at q; omega
        refine rn ?_
        refine rq 1 ?_
        exact ⟨rfl, by rw [dirC, if_pos hc, if_pos hl, if_pos hn]; rfl⟩
theorem seen3 {h : Hist} (lA : Lim 3000 h) {k : Nat} (hk : k < h.evs.length) : (seenOf h.evs[k]).length ≤ 3000 := by
  rw [seenOf]; split
  · show 1 ≤ 3000; decide
  · exact lA.scans _ (List.getElem_mem hk)
theorem dir_sn (B : List Dirt) (x : Dirt) : (B ++ [x]).map dirR = B.map dirR ++ [dirR x] := by rw [List.map_append]; rfl
theorem dirT1_len (h : Hist) (k : Nat) (s : Seen) : (dirT h k s 1).length ≤ 1 := by rw [dirT, dirT]; split <;> simp
theorem tkz {h : Hist} {k : Nat} {e : Ev} {l : List Seen} {j : Nat} (qj : j = l.length) : (l.take j).flatMap (dirS h k e) = l.flatMap (dirS h k e) := by rw [qj, List.take_length]
set_option maxHeartbeats 4000000 in
theorem refAll23 (h : Hist) (la : Lim 1000000 h) (a : List Int) (hd : dirC h a = 0) : ACall Tryz.prog 19 [.agg (histC h), intsA a] [] (fun r h' => h' = [] ∧ r = dirsA (dirAll h a)) := by
  refine acall_of_aw Tryz.func19 rfl rfl rfl ?_
  obtain ⟨hc, hlv, hal⟩ := dirC_0.1 hd
  have hs := checkI_0.1 hc
  have lA := chk_lim hc
  have lE := lA.evs
  have lT := lA.ts
  have bC : (commR h).length ≤ 4611686018427387904 := Nat.le_trans (commR_len hs) (Nat.le_trans lE (by decide))
  refine rn ?_
  refine aops_e rfl (oe_box rfl rfl rfl fun b2 => ?_)
  refine rn ?_
  refine qv rfl rfl (qv_call rfl rfl (pcall (refComm16 h la) (Sbs.refl _))) ?_
  refine rn ?_
  refine aw_rng1 h.evs.length (fun k s => ⟨[(19, iv k), (5, .v s.v), (1, intsA a), (2, .v (.pointer (some ⟨b2, 0, none⟩))), (6, intsA (commR h)), (17, evsA h.evs), (18, iv (h.evs.map evR).length)], .row s.v 5 40 ((dirK h a k).map dirR) :: .box b2 28 (histC h) :: [], []⟩) ⟨none, 0, 0⟩ (ent_trans (ent_nilrow 5 40) es) ?_
  intro k s lk
  refine rn ?_
  refine aw_cond rfl (fun hc20 => ?_) (fun hc20 => ?_)
  · have hk := ltMap hc20
    have rk := atRow (f := evR) hk
    have mt := may_t (sound_may hs).1 h.evs[k] (List.getElem_mem hk)
    have hrl : (a.map intR)[h.evs[k].t.toNat]? = some (intR (lvAt a h.evs[k].t)) := lv_row (by omega) (by omega)
    refine rn ?_
    refine aops_e rfl (oe_alloc rfl fun b8 => ?_)
    refine rn ?_
    refine qv rfl rfl (qv_call rfl rfl (pcall (refAt (commR h) h.evs[k].t bC) (Sbs.refl _))) ?_
    refine rn ?_
    refine asplit (fun hg6_5 => ?_) (fun hg6_5 => ?_)
    · refine rn ?_
      refine aw_ct rfl ?_
      have hg : dirG h a h.evs[k] = false := dirG_n2 hs (by first | exact .inl hg6_5 | exact .inr hc36)
      refine rn ?_
      first | exact ⟨hk, s, by rw [dirK_n hk hg]; exact eA⟩ | exact ⟨hk, s, by rw [dirK_y hk hg, ← tkz qj]; exact eA⟩
    · refine q1 ?_
      refine q1 ?_
      refine q1 ?_
      refine qq rfl rfl (qr_index_int rfl rfl mt.1 hrl) ?_
      refine rn ?_
      refine aw_cond rfl (fun hc36 => ?_) (fun hc36 => ?_)
      · have hg : dirG h a h.evs[k] = false := dirG_n2 hs (by first | exact .inl hg6_5 | exact .inr hc36)
        refine rn ?_
        first | exact ⟨hk, s, by rw [dirK_n hk hg]; exact eA⟩ | exact ⟨hk, s, by rw [dirK_y hk hg, ← tkz qj]; exact eA⟩
      · have hg : dirG h a h.evs[k] = true := dirG_y2 hs hg6_5 hc36
        refine rn ?_
        refine qv rfl rfl (qv_call rfl rfl (pcall (refSeen h.evs[k]) (Sbs.refl _))) ?_
        refine rn ?_
        refine aw_rng1 (seenOf h.evs[k]).length (fun j s => ⟨[(40, iv j), (5, .v s.v), (1, intsA a), (2, .v (.pointer (some ⟨b2, 0, none⟩))), (6, intsA (commR h)), (7, iv k), (8, .v (.pointer (some ⟨b8, 0, none⟩))), (17, evsA h.evs), (18, iv (h.evs.map evR).length), (19, iv k), (38, seensA (seenOf h.evs[k])), (39, iv ((seenOf h.evs[k]).map seenR).length)], .box b8 56 (evR h.evs[k]) :: .row s.v 5 40 ((dirK h a k ++ ((seenOf h.evs[k]).take j).flatMap (dirS h k h.evs[k])).map dirR) :: .box b2 28 (histC h) :: [], []⟩) s (by simpa using eA) ?_
        intro j s lj
        refine rn ?_
        refine aw_cond rfl (fun hc41 => ?_) (fun hc41 => ?_)
        · have hj := ltMap hc41
          have rj := atRow (f := seenR) hj
          have bj := seenOf_len (e := h.evs[k]) (Nat.le_trans (lA.scans h.evs[k] (List.getElem_mem hk)) (by decide))
          have bP : (dirK h a k ++ ((seenOf h.evs[k]).take j).flatMap (dirS h k h.evs[k])).length ≤ 40000000 := by have h1 := dirK_len lA a (Nat.le_of_lt hk); have h2 := flat_len (dirS h k h.evs[k]) 2 (dirS_len h k h.evs[k]) ((seenOf h.evs[k]).take j); rw [List.length_append]; have h3 := List.length_take_le j (seenOf h.evs[k]); have h4 : (seenOf h.evs[k]).length ≤ 3000 := seen3 lA hk; omega
          refine rn ?_
          refine aops_e rfl (oe_alloc rfl fun b10 => ?_)
          refine rn ?_
          refine asplit (fun hg10_4 => ?_) (fun hg10_4 => ?_)
          · refine rn ?_
            refine aw_ct rfl ?_
            have hn : dirN h.evs[k] (seenOf h.evs[k])[j] = true := by rw [dirN]; first | (rw [hg10_4]; rfl) | (rw [hg10_4, hc55]; rfl)
            refine rn ?_
            first | exact ⟨hj, s, by rw [flat_n hj hn]; exact eA⟩ | exact ⟨hj, sv, by rw [flat_y hj hn, pc2 hB, dir_sn]; exact eA⟩ | exact ⟨hj, s, by rw [flat_y hj hn, pc3 hB]; exact eA⟩
          · refine rn ?_
            refine aw_cond rfl (fun hc55 => ?_) (fun hc55 => ?_)
            · have hn : dirN h.evs[k] (seenOf h.evs[k])[j] = true := by rw [dirN]; first | (rw [hg10_4]; rfl) | (rw [hg10_4, hc55]; rfl)
              refine rn ?_
              first | exact ⟨hj, s, by rw [flat_n hj hn]; exact eA⟩ | exact ⟨hj, sv, by rw [flat_y hj hn, pc2 hB, dir_sn]; exact eA⟩ | exact ⟨hj, s, by rw [flat_y hj hn, pc3 hB]; exact eA⟩
            · have hn : dirN h.evs[k] (seenOf h.evs[k])[j] = false := by rw [dirN, hg10_4, hc55]; rfl
              refine aw_skip ?_
              refine rn0 ?_
              refine aw_cutE (fun _ : SV => True) (fun s => ⟨[(5, .v s.v), (1, intsA a), (2, .v (.pointer (some ⟨b2, 0, none⟩))), (6, intsA (commR h)), (7, iv k), (8, .v (.pointer (some ⟨b8, 0, none⟩))), (10, .v (.pointer (some ⟨b10, 0, none⟩))), (17, evsA h.evs), (18, iv (h.evs.map evR).length), (19, iv k), (38, seensA (seenOf h.evs[k])), (39, iv ((seenOf h.evs[k]).map seenR).length), (40, iv j)], .box b10 59 (seenR (seenOf h.evs[k])[j]) :: .box b8 56 (evR h.evs[k]) :: .row s.v 5 40 (((dirK h a k ++ ((seenOf h.evs[k]).take j).flatMap (dirS h k h.evs[k])) ++ dirT h k (seenOf h.evs[k])[j] 1).map dirR) :: .box b2 28 (histC h) :: [], []⟩) ?_ ?_
              · refine rn ?_
                refine qv rfl rfl (qv_call rfl rfl (pcall (refAt (commR h) (seenOf h.evs[k])[j].v.t bC) (Sbs.refl _))) ?_
                refine rn ?_
                refine aw_cond rfl (fun hc61 => ?_) (fun hc61 => ?_)
                · have hA : dirA h (seenOf h.evs[k])[j] = true := by rw [dirA, ← com_at hs]; exact hc61
                  refine aw_region ?_
                  refine q1 ?_
                  refine q1 ?_
                  refine q1 ?_
                  refine q1 ?_
                  refine q1 ?_
                  refine q1 ?_
                  refine qq rfl rfl (qr_build (out := [iv 1, iv k, iv (seenOf h.evs[k])[j].o, iv (seenOf h.evs[k])[j].v.t, iv (seenOf h.evs[k])[j].v.k]) rfl (by rfl)) ?_
                  refine qv rfl rfl (qv_buildSlice rfl rfl) ?_
                  refine aops_e rfl (oe_append_row rfl rfl (by simp only [List.length_map, List.length_cons, List.length_nil]; have := bP; omega) rfl (fun s70 => ?_) (one_dir [(⟨1, k, (seenOf h.evs[k])[j].o, (seenOf h.evs[k])[j].v⟩ : Dirt)]))
                  refine aops_slice s70 fun sv hsv => ?_
                  subst hsv
                  refine rn ?_
                  first | exact ⟨sv, trivial, by rw [pc1 hA, dir_sn]; exact eA⟩ | exact ⟨s, trivial, by rw [pc0 hA, List.append_nil]; exact eA⟩
                · have hA : dirA h (seenOf h.evs[k])[j] = false := by rw [dirA, ← com_at hs]; exact hc61
                  refine rn ?_
                  first | exact ⟨sv, trivial, by rw [pc1 hA, dir_sn]; exact eA⟩ | exact ⟨s, trivial, by rw [pc0 hA, List.append_nil]; exact eA⟩
              · intro s _
                have bQ : ((dirK h a k ++ ((seenOf h.evs[k]).take j).flatMap (dirS h k h.evs[k])) ++ dirT h k (seenOf h.evs[k])[j] 1).length ≤ 40000001 := by rw [List.length_append]; have : (dirT h k (seenOf h.evs[k])[j] 1).length ≤ 1 := dirT1_len _ _ _; omega
                refine rn ?_
                refine aops_e rfl (oe_alloc rfl fun b11 => ?_)
                refine rn ?_
                refine aw_range h.evs.length (fun _ => True) (fun m => ⟨[(75, iv m), (5, .v s.v), (1, intsA a), (2, .v (.pointer (some ⟨b2, 0, none⟩))), (6, intsA (commR h)), (7, iv k), (8, .v (.pointer (some ⟨b8, 0, none⟩))), (10, .v (.pointer (some ⟨b10, 0, none⟩))), (11, .v (.pointer (some ⟨b11, 0, none⟩))), (17, evsA h.evs), (18, iv (h.evs.map evR).length), (19, iv k), (38, seensA (seenOf h.evs[k])), (39, iv ((seenOf h.evs[k]).map seenR).length), (40, iv j), (73, evsA h.evs), (74, iv (h.evs.map evR).length)], .box b11 38 (verR (verO (lastW h.evs (seenOf h.evs[k])[j].v.t (seenOf h.evs[k])[j].o m))) :: .box b10 59 (seenR (seenOf h.evs[k])[j]) :: .box b8 56 (evR h.evs[k]) :: .row s.v 5 40 (((dirK h a k ++ ((seenOf h.evs[k]).take j).flatMap (dirS h k h.evs[k])) ++ dirT h k (seenOf h.evs[k])[j] 1).map dirR) :: .box b2 28 (histC h) :: [], []⟩) trivial eA ?_
                intro m lm _
                refine rn ?_
                refine aw_cond rfl (fun hc76 => ?_) (fun hc76 => ?_)
                · have hm := ltMap hc76
                  have rm := atRow (f := evR) hm
                  refine rn ?_
                  refine aops_e rfl (oe_alloc rfl fun b13 => ?_)
                  refine rn ?_
                  refine asplit (fun hg17_3 => ?_) (fun hg17_3 => ?_)
                  · refine rn ?_
                    refine asplit (fun hg17_11 => ?_) (fun hg17_11 => ?_)
                    · refine rn ?_
                      refine aw_cond rfl (fun hc96 => ?_) (fun hc96 => ?_)
                      · have hw : wroteQ (seenOf h.evs[k])[j].v.t (seenOf h.evs[k])[j].o h.evs[m] = true := by rw [wroteQ]; first | (rw [hg17_3, hg17_11, hc96]; rfl) | (rw [hg17_3, hc96]; simp_all)
                        refine rn ?_
                        first | exact ⟨hm, trivial, by rw [lw_hit hm hw]; exact eA⟩ | exact ⟨hm, trivial, by rw [lw_miss hm hw]; exact eA⟩
                      · have hw : wroteQ (seenOf h.evs[k])[j].v.t (seenOf h.evs[k])[j].o h.evs[m] = false := by rw [wroteQ]; first | (rw [hg17_3, hg17_11, hc96]; rfl) | (rw [hg17_3, hg17_11]; rfl) | (rw [hg17_3]; rfl) | skip
                        refine rn ?_
                        first | exact ⟨hm, trivial, by rw [lw_hit hm hw]; exact eA⟩ | exact ⟨hm, trivial, by rw [lw_miss hm hw]; exact eA⟩
                    · refine rn ?_
                      refine aw_cf rfl ?_
                      have hw : wroteQ (seenOf h.evs[k])[j].v.t (seenOf h.evs[k])[j].o h.evs[m] = false := by rw [wroteQ]; first | (rw [hg17_3, hg17_11, hc96]; rfl) | (rw [hg17_3, hg17_11]; rfl) | (rw [hg17_3]; rfl) | skip
                      refine rn ?_
                      first | exact ⟨hm, trivial, by rw [lw_hit hm hw]; exact eA⟩ | exact ⟨hm, trivial, by rw [lw_miss hm hw]; exact eA⟩
                  · refine rn ?_
                    refine aw_cf rfl ?_
                    have hw : wroteQ (seenOf h.evs[k])[j].v.t (seenOf h.evs[k])[j].o h.evs[m] = false := by rw [wroteQ]; first | (rw [hg17_3, hg17_11, hc96]; rfl) | (rw [hg17_3, hg17_11]; rfl) | (rw [hg17_3]; rfl) | skip
                    refine rn ?_
                    first | exact ⟨hm, trivial, by rw [lw_hit hm hw]; exact eA⟩ | exact ⟨hm, trivial, by rw [lw_miss hm hw]; exact eA⟩
                · have qm := geMap hc76 lm
                  rw [qm]
                  refine rn ?_
                  refine aw_cond rfl (fun hc103 => ?_) (fun hc103 => ?_)
                  · have hB : dirB h (seenOf h.evs[k])[j] = true := by rw [dirB, ← ver_ne]; exact hc103
                    refine aw_region ?_
                    refine q1 ?_
                    refine q1 ?_
                    refine q1 ?_
                    refine q1 ?_
                    refine q1 ?_
                    refine q1 ?_
                    refine qq rfl rfl (qr_build (out := [iv 2, iv k, iv (seenOf h.evs[k])[j].o, iv (seenOf h.evs[k])[j].v.t, iv (seenOf h.evs[k])[j].v.k]) rfl (by rfl)) ?_
                    refine qv rfl rfl (qv_buildSlice rfl rfl) ?_
                    refine aops_e rfl (oe_append_row rfl rfl (by simp only [List.length_map, List.length_cons, List.length_nil]; have := bQ; omega) rfl (fun s112 => ?_) (one_dir [(⟨2, k, (seenOf h.evs[k])[j].o, (seenOf h.evs[k])[j].v⟩ : Dirt)]))
                    refine aops_slice s112 fun sv hsv => ?_
                    subst hsv
                    refine rn ?_
                    first | exact ⟨hj, s, by rw [flat_n hj hn]; exact eA⟩ | exact ⟨hj, sv, by rw [flat_y hj hn, pc2 hB, dir_sn]; exact eA⟩ | exact ⟨hj, s, by rw [flat_y hj hn, pc3 hB]; exact eA⟩
                  · have hB : dirB h (seenOf h.evs[k])[j] = false := by rw [dirB, ← ver_ne]; exact hc103
                    refine rn ?_
                    first | exact ⟨hj, s, by rw [flat_n hj hn]; exact eA⟩ | exact ⟨hj, sv, by rw [flat_y hj hn, pc2 hB, dir_sn]; exact eA⟩ | exact ⟨hj, s, by rw [flat_y hj hn, pc3 hB]; exact eA⟩
        · have qj := geMap hc41 lj
          refine rn ?_
          first | exact ⟨hk, s, by rw [dirK_n hk hg]; exact eA⟩ | exact ⟨hk, s, by rw [dirK_y hk hg, ← tkz qj]; exact eA⟩
  · have qk := geMap hc20 lk
    refine rn ?_
    exact retq (.cons _ _ _ _ (.tmp _ _ rfl) .nil) (.trans vent_freeze (.drop [_] _ _)) ⟨rfl, by rw [all_0 hd, dirL, ← qk]; rfl⟩
end Go.Proofs
/- The walks of law 23's small, wakes, levels. Conditions: none. -/
set_option linter.unusedVariables false
set_option linter.unusedSimpArgs false
set_option maxRecDepth 10000
namespace Go.Proofs
open Go Go.Ab
attribute [local irreducible] QR QV OE aops aw dsoup dsoupM dalloc dallocM thn inBlk jsoup jch lsoup
open Go.H
theorem small23  : ACall Tryz.prog 55 [] [] (fun r h' => h' = [] ∧ r = .agg (histC dtH)) := by
  refine acall_of_aw Tryz.func55 rfl rfl rfl ?_
  refine rn ?_
  refine aops_e rfl (oe_alloc rfl fun b0 => ?_)
  refine rn ?_
  refine qv rfl rfl (qv_buildSlice rfl rfl) ?_
  refine qv rfl rfl (qv_buildSlice rfl rfl) ?_
  refine qv rfl rfl (qv_buildSlice rfl rfl) ?_
  refine rn ?_
  refine qv rfl rfl (qv_buildSlice rfl rfl) ?_
  refine rn ?_
  exact retq (.cons _ _ _ _ (.agg _ _ _ _ _ _ _ rfl inferInstance inferInstance inferInstance rfl) .nil) (.trans (.drop1 _ _ _) (.le (Sb.aggs (bs := histC dtH) (by exact ⟨.unfull, .unfull, .unfull, .nil _ _, (.lists (by simp) ⟨⟨.refl _, .refl _, .refl _, .refl _, .refl _, .refl _, .refl _, .refl _, .nil _ _, trivial⟩, ⟨.refl _, .refl _, .refl _, .refl _, .refl _, .refl _, .refl _, .refl _, .nil _ _, trivial⟩, ⟨.refl _, .refl _, .refl _, .refl _, .refl _, .refl _, .refl _, .refl _, .nil _ _, trivial⟩, ⟨.refl _, .refl _, .refl _, .refl _, .refl _, .refl _, .refl _, .refl _, .nil _ _, trivial⟩, ⟨.refl _, .refl _, .refl _, .refl _, .refl _, .refl _, .refl _, .refl _, .nil _ _, trivial⟩, ⟨.refl _, .refl _, .refl _, .refl _, .refl _, .refl _, .refl _, .refl _, .nil _ _, trivial⟩, ⟨.refl _, .refl _, .refl _, .refl _, .refl _, .refl _, .refl _, .refl _, .nil _ _, trivial⟩, trivial⟩), .nil _ _, .nil _ _, .nil _ _, trivial⟩)).le)) ⟨rfl, rfl⟩
theorem limD : Lim 4611686018427387904 dtH := ⟨by decide, by decide, by decide, by decide, by decide, by decide, by decide, by decide, by decide, by decide, by decide⟩
theorem dtA1 : ACall Tryz.prog 16 [.agg (histC dtH), intsA [1, 2]] (.glob 0 186 limitsC :: .glob 2 287 firstC :: .glob 3 290 acceptC :: .glob 1 250 asksC :: []) (fun r h' => h' = .glob 0 186 limitsC :: .glob 2 287 firstC :: .glob 3 290 acceptC :: .glob 1 250 asksC :: [] ∧ r = .tup [dirsA [⟨1, 5, 0, ⟨0, 1⟩⟩, ⟨2, 5, 0, ⟨0, 1⟩⟩], iv 0]) := (dirtyAll dtH limD [1, 2] (by decide)).mono fun _ _ q => ⟨q.1, by rw [q.2, dt_all12, dt_12]⟩
theorem dtA2 : ACall Tryz.prog 17 [.agg (histC dtH), intsA [4, 1]] (.glob 0 186 limitsC :: .glob 2 287 firstC :: .glob 3 290 acceptC :: .glob 1 250 asksC :: []) (fun r h' => h' = .glob 0 186 limitsC :: .glob 2 287 firstC :: .glob 3 290 acceptC :: .glob 1 250 asksC :: [] ∧ r = .tup [.agg (dirR dir0), bv false, iv 0]) := (dirtyFirst dtH limD [4, 1] (by decide)).mono fun _ _ q => ⟨q.1, by rw [q.2, dt_all41, dt_41]; rfl⟩
theorem dtA3 : ACall Tryz.prog 17 [.agg (histC dtH), intsA [2]] (.glob 0 186 limitsC :: .glob 2 287 firstC :: .glob 3 290 acceptC :: .glob 1 250 asksC :: []) (fun r h' => h' = .glob 0 186 limitsC :: .glob 2 287 firstC :: .glob 3 290 acceptC :: .glob 1 250 asksC :: [] ∧ r = .tup [.agg (dirR dir0), bv false, iv 2]) := (dirtyFirst dtH limD [2] (by decide)).mono fun _ _ q => ⟨q.1, by rw [q.2, dt_all2, dt_2]; rfl⟩
theorem dtA4 : ACall Tryz.prog 23 [.agg (histC dtH), intsA [1, 3], .agg (dirR ⟨2, 5, 0, ⟨0, 1⟩⟩)] (.glob 0 186 limitsC :: .glob 2 287 firstC :: .glob 3 290 acceptC :: .glob 1 250 asksC :: []) (fun r h' => h' = .glob 0 186 limitsC :: .glob 2 287 firstC :: .glob 3 290 acceptC :: .glob 1 250 asksC :: [] ∧ r = bv true) := (dirtyIs dtH limD [1, 3] (by decide) ⟨2, 5, 0, ⟨0, 1⟩⟩).mono fun _ _ q => ⟨q.1, by rw [q.2, dt_all13]; rfl⟩
theorem wakes23  : ACall Tryz.prog 13 [] (.glob 0 186 limitsC :: .glob 2 287 firstC :: .glob 3 290 acceptC :: .glob 1 250 asksC :: []) (fun r h' => h' = .glob 0 186 limitsC :: .glob 2 287 firstC :: .glob 3 290 acceptC :: .glob 1 250 asksC :: [] ∧ r = bv true) := by
  refine acall_of_aw Tryz.func13 rfl rfl rfl ?_
  refine rn ?_
  refine qv rfl rfl (qv_call rfl rfl (pcall small23 (Sbs.refl _))) ?_
  refine qv rfl rfl (qv_buildSlice rfl rfl) ?_
  refine qv rfl rfl (qv_call rfl rfl (gcall (h := []) dtA1 (by exact ⟨.refl _, .unfull, trivial⟩))) ?_
  refine rn ?_
  refine qv rfl rfl (qv_call rfl rfl (pcall small23 (Sbs.refl _))) ?_
  refine qv rfl rfl (qv_buildSlice rfl rfl) ?_
  refine qv rfl rfl (qv_call rfl rfl (gcall (h := []) dtA2 (by exact ⟨.refl _, .unfull, trivial⟩))) ?_
  refine rn ?_
  refine aops_e rfl (oe_alloc rfl fun b3 => ?_)
  refine rn ?_
  refine qv rfl rfl (qv_call rfl rfl (pcall small23 (Sbs.refl _))) ?_
  refine qv rfl rfl (qv_buildSlice rfl rfl) ?_
  refine qv rfl rfl (qv_call rfl rfl (gcall (h := [_]) dtA3 (by exact ⟨.refl _, .unfull, trivial⟩))) ?_
  refine rn ?_
  refine aops_e rfl (oe_alloc rfl fun b6 => ?_)
  refine rn ?_
  refine aw_draw 45 rfl ?_
  refine dq rfl rfl qrA ?_
  refine dq rfl rfl qrA ?_
  refine dq rfl rfl qrA ?_
  refine dq rfl rfl qrA ?_
  refine dq rfl rfl qrA ?_
  refine dq rfl rfl qrA ?_
  refine dq rfl rfl qrA ?_
  refine dq rfl rfl qrA ?_
  refine dq rfl rfl qrA ?_
  refine dq rfl rfl qrA ?_
  refine dq rfl rfl qrA ?_
  refine dq rfl rfl qrA ?_
  refine dq rfl rfl qrA ?_
  refine dq rfl rfl qrA ?_
  refine dq rfl rfl qrA ?_
  refine dq rfl rfl qrA ?_
  refine dq rfl rfl qrA ?_
  refine dq rfl rfl qrA ?_
  refine dq rfl rfl qrA ?_
  refine dq rfl rfl qrA ?_
  refine dq rfl rfl qrA ?_
  refine dq rfl rfl qrA ?_
  refine dq rfl rfl qrA ?_
  refine dq rfl rfl qrA ?_
  refine dq rfl rfl qrA ?_
  refine dq rfl rfl qrA ?_
  refine dq rfl rfl (qr_index_int rfl rfl (by decide) rfl) ?_
  refine dq rfl rfl qrA ?_
  refine dq rfl rfl qrA ?_
  refine dq rfl rfl qrA ?_
  refine dq rfl rfl qrA ?_
  refine dq rfl rfl qrA ?_
  refine dq rfl rfl qrA ?_
  refine dq rfl rfl qrA ?_
  refine dq rfl rfl (qr_index_int rfl rfl (by decide) rfl) ?_
  refine rn ?_
  refine dv rfl rfl (by exact qv_call rfl rfl (pcall small23 (Sbs.refl _))) ?_
  refine dv rfl rfl (qv_buildSlice rfl rfl) ?_
  refine dq rfl rfl qrA ?_
  refine dq rfl rfl (qr_index_int rfl rfl (by decide) rfl) ?_
  refine rn ?_
  refine qv rfl rfl (qv_call rfl rfl (gcall (h := [_, _]) dtA4 (by exact ⟨.refl _, .unfull, .refl _, trivial⟩))) ?_
  refine rn ?_
  refine rq 2 ?_
  exact ⟨rfl, rfl⟩
def levX (a : List Int) : List Int := a.take 14
theorem levX_len (a : List Int) : (levX a).length ≤ 14 := by simp only [levX, List.length_take]; omega
theorem levX_map (a : List Int) : (a.map intR).take (min (a.map intR).length 14) = (levX a).map intR := by
  rw [List.length_map, levX, ← List.map_take, Nat.min_comm, ← List.take_take, List.take_length]
theorem levels (a : List Int) (ha : a.length ≤ 4611686018427387904) : ACall Tryz.prog 15 [intsA a] [] (fun r h' => h' = [] ∧ r = intsA (levX a)) := by
  refine acall_of_aw Tryz.func15 rfl rfl rfl ?_
  refine aw_seq (aw_region ?_)
  refine q1 ?_
  refine aops_nil (thn_n ?_)
  refine aw_seq (aw_region ?_)
  refine q1 ?_
  refine q1 ?_
  refine q1 ?_
  refine qq rfl rfl (qr_minN (a.map intR).length 14 rfl rfl) ?_
  refine qq rfl rfl (qr_slice_hE (rows' := (levX a).map intR) rfl rfl (Nat.min_le_left _ _) (levX_map a)) ?_
  refine qv rfl rfl (qv_call rfl rfl (pcall (cloneInt ((levX a).map intR) (by rw [List.length_map]; exact Nat.le_trans (levX_len a) (by decide))) (Sbs.refl _))) ?_
  refine rn ?_
  refine rq 0 ?_
  exact ⟨rfl, rfl⟩
end Go.Proofs
/- The walks of law 23's cut and few. Conditions: none. -/
set_option linter.unusedVariables false
set_option linter.unusedSimpArgs false
set_option maxRecDepth 10000
namespace Go.Proofs
open Go Go.Ab
attribute [local irreducible] QR QV OE aops aw dsoup dsoupM dalloc dallocM thn inBlk jsoup jch lsoup
open Go.H
theorem cut23 {full : Bool} (l : List ByteArray) (most : Nat) (hm : most ≤ 1000) : ACall Tryz.prog 56 [.list full 1 (l.map strR), iv most] [] (fun r h' => h' = [] ∧ r = strsA (cutL most l)) := by
  refine acall_of_aw Tryz.func56 rfl rfl rfl ?_
  refine aw_seq (aw_region ?_)
  refine q1 ?_
  refine aops_nil (thn_n ?_)
  refine aw_seq (aw_region ?_)
  refine q1 ?_
  refine q1 ?_
  refine q1 ?_
  refine q1 ?_
  refine qq rfl rfl (qr_minN (l.map strR).length most rfl rfl) ?_
  refine qq rfl rfl (qr_slice_hE (rows' := (l.take most).map strR) rfl rfl (by omega) (by rw [List.length_map]; exact take_min strR l most)) ?_
  refine aops_e rfl (oe_call rfl rfl (FCall.rowS (FCall.of_fun (cloneRowStr _ (by simp; omega) (one_str _)))) rfl ?_)
  rintro _ _ ⟨s, rfl, rfl⟩
  refine rn ?_
  refine aw_loop' (fun k : Nat => k ≤ (l.take most).length) (fun k => ⟨[(17, iv k), (16, iv ((l.take most).map strR).length), (15, .v s.v), (5, .v s.v)], [.row s.v 1 9 ((((l.take most).take k).map cutS).map strR ++ ((l.take most).drop k).map strR)], []⟩) (fun k => (l.take most).length - k) 0 (by omega)
    (by simp only [List.take_zero, List.map_nil, List.nil_append, List.drop_zero]; exact (ent_sub (.cons _ _ _ rfl (.cons _ _ _ rfl (.cons _ _ _ rfl (.cons _ _ _ rfl (.nil))))))) ?_
  intro k hk
  refine rn ?_
  refine aw_cond rfl (fun hc18 => ?_) (fun hc18 => ?_)
  · have hk2 : k < (l.take most).length := by simpa using hc18
    obtain ⟨b, hb⟩ : ∃ b, b = (l.take most)[k] := ⟨_, rfl⟩
    have hd := List.drop_eq_getElem_cons hk2
    rw [← hb] at hd
    have hL := List.length_take_le most l
    have hkl : (((l.take most).take k).map cutS).length = k := by rw [List.length_map, List.length_take]; omega
    have hrow := mid_get (f := strR) (g := strR) (xs := ((l.take most).take k).map cutS) (k := k) hkl hd
    have hk3 : k < ((((l.take most).take k).map cutS).map strR ++ ((l.take most).drop k).map strR).length := by rw [mid_len hkl hk]; exact hk2
    refine aw_skip ?_
    refine thn_n ?_
    refine aw_seq ?_
    refine aw_block ?_
    refine aw_seq (aw_region ?_)
    refine q1 ?_
    refine q1 ?_
    refine qq rfl rfl (qr_load_rp_one rfl hrow rfl) ?_
    refine q1 ?_
    refine q1 ?_
    refine aops_nil (thn_n ?_)
    refine aw_region ?_
    refine q1 ?_
    refine q1 ?_
    refine q1 ?_
    refine q1 ?_
    refine q1 ?_
    refine qq rfl rfl (qr_minN b.size 40 rfl rfl) ?_
    refine qq rfl rfl (qr_slice_string_h rfl rfl (by omega)) ?_
    refine rn ?_
    refine aops_e rfl (oe_store_rp rfl rfl rfl hrow rfl (Nat.le_of_ble_eq_true rfl) ?_)
    refine rn ?_
    have hset := mid_set (f := strR) (g := strR) (l := (l.take most)) (xs := ((l.take most).take k).map cutS) (a := cutS b) (r := (strR b).take 0 ++ [sv (cutS b)] ++ (strR b).drop (0 + 1)) hkl hd rfl
    have hx : ((l.take most).take k).map cutS ++ [cutS b] = ((l.take most).take (k + 1)).map cutS := by rw [List.take_succ_eq_append_getElem hk2, hb]; simp
    rw [hx] at hset
    exact ⟨k + 1, by omega, (by rw [← hset]; exact (ent_sub (.cons _ _ _ rfl (.cons _ _ _ rfl (.cons _ _ _ rfl (.cons _ _ _ rfl (.nil))))))), by omega⟩
  · obtain rfl : k = (l.take most).length := by
      have : ¬ k < (l.take most).length := by simpa using hc18
      omega
    rw [List.take_length, List.drop_length, List.map_nil, List.append_nil]
    refine rn ?_
    exact retq (.cons _ _ _ _ (.tmp _ _ rfl) .nil) vent_freeze ⟨rfl, rfl⟩
set_option maxHeartbeats 4000000 in
theorem few23 (h : Hist) (la : Lim 4611686018427387904 h) : ACall Tryz.prog 14 [.agg (histC h)] [] (fun r h' => h' = [] ∧ r = .agg (histC (fewA h))) := by
  refine acall_of_aw Tryz.func14 rfl rfl rfl ?_
  refine rn ?_
  refine aops_e rfl (oe_box rfl rfl rfl fun b1 => ?_)
  refine aops_e rfl (oe_alloc rfl fun b2 => ?_)
  refine rn0 ?_
  refine aw_cutE (fun _ : Nat => True) (fun b3 => ⟨[(1, .v (.pointer (some ⟨b1, 0, none⟩))), (2, .v (.pointer (some ⟨b2, 0, none⟩))), (3, .v (.pointer (some ⟨b3, 0, none⟩)))], [.box b3 28 [strsA (cutL 12 h.ts), strsA (cutL 8 h.ss), strsA (cutL 10 h.os), strsA (cutL 6 h.ps), nilA, nilA, nilA, nilA], .box b2 28 histZ, .box b1 28 (histC h)], []⟩) ?_ ?_
  · refine aw_draw 14 rfl ?_
    refine rn ?_
    refine dv rfl rfl (by exact qv_call rfl rfl (pcall (cut23 h.ts 12 (by decide)) (Sbs.refl _))) ?_
    refine rn ?_
    refine dv rfl rfl (by exact qv_call rfl rfl (pcall (cut23 h.ss 8 (by decide)) (Sbs.refl _))) ?_
    refine rn ?_
    refine dv rfl rfl (by exact qv_call rfl rfl (pcall (cut23 h.os 10 (by decide)) (Sbs.refl _))) ?_
    refine rn ?_
    refine dv rfl rfl (by exact qv_call rfl rfl (pcall (cut23 h.ps 6 (by decide)) (Sbs.refl _))) ?_
    refine rn ?_
    refine dalloc_a rfl fun b3 => ?_
    refine rn ?_
    exact ⟨b3, trivial, (ent_sub (.cons _ _ _ rfl (.cons _ _ _ rfl (.cons _ _ _ rfl (.nil)))))⟩
  · intro b3 _
    refine rn ?_
    refine aw_loop' (fun x : Nat × SV => x.1 ≤ h.evs.length) (fun x => ⟨[(26, iv x.1), (25, iv (h.evs.map evR).length), (24, evsA h.evs), (1, .v (.pointer (some ⟨b1, 0, none⟩))), (2, .v (.pointer (some ⟨b2, 0, none⟩))), (3, .v (.pointer (some ⟨b3, 0, none⟩)))], [.row x.2.v 9 56 (((h.evs.take (min x.1 70)).map cutE2).map evR), .box b3 28 [strsA (cutL 12 h.ts), strsA (cutL 8 h.ss), strsA (cutL 10 h.os), strsA (cutL 6 h.ps), .v x.2.v, nilA, nilA, nilA], .box b2 28 histZ, .box b1 28 (histC h)], []⟩) (fun x => h.evs.length - x.1) (0, nilS) (by simp)
      (ent_trans (ent_nilrow 9 56) (ent_sub (.cons _ _ _ rfl (.cons _ _ _ rfl (.cons _ _ _ rfl (.cons _ _ _ rfl (.cons _ _ _ rfl (.cons _ _ _ rfl (.nil))))))))) ?_
    rintro ⟨k, s⟩ hk
    simp only at hk
    refine rn ?_
    refine aw_cond rfl (fun hc27 => ?_) (fun hc27 => ?_)
    · have hk2 : k < h.evs.length := by simpa using hc27
      obtain ⟨e, he⟩ : ∃ e, e = h.evs[k] := ⟨_, rfl⟩
      have hrow : (h.evs.map evR)[k]? = some (evR e) := by rw [he]; simp [hk2]
      have hle := la.evs
      refine rn ?_
      refine aops_e rfl (oe_alloc rfl fun b5 => ?_)
      refine rn ?_
      refine aw_cond rfl (fun hc32 => ?_) (fun hc32 => ?_)
      · have hlt : k < 70 := by have := hc32; simp at this; omega
        refine aw_seq (aw_region ?_)
        refine q1 ?_
        refine q1 ?_
        refine q1 ?_
        refine q1 ?_
        refine q1 ?_
        refine qq rfl rfl (qr_minN (e.scan.map seenR).length 12 rfl rfl) ?_
        refine qq rfl rfl (qr_slice_hE (rows' := (e.scan.take 12).map seenR) rfl rfl (by omega) (by rw [List.length_map]; exact take_min seenR e.scan 12)) ?_
        refine qv rfl rfl (qv_call rfl rfl (pcall (cloneSeen ((e.scan.take 12).map seenR) (by simp; omega)) (Sbs.refl _))) ?_
        refine rn ?_
        refine qv rfl rfl (qv_buildSlice rfl rfl) ?_
        refine aops_e rfl (oe_append_row rfl rfl (by have := tk_len h.evs k 70; simp at this ⊢; omega) rfl (fun s46 => ?_) (fun r hr => by simp at hr; subst hr; rfl))
        refine aops_slice s46 fun sv hsv => ?_
        subst hsv
        refine rn ?_
        have hx : ((h.evs.take (min (k + 1) 70)).map cutE2).map evR = ((h.evs.take (min k 70)).map cutE2).map evR ++ [evR (cutE2 e)] := by rw [tk_go hk2 hlt he]; simp
        exact ⟨(k + 1, sv), by simp only; omega, (by rw [hx]; exact (ent_trans (ent_drop (h1 := [_])) (ent_sub (.cons _ _ _ rfl (.cons _ _ _ rfl (.cons _ _ _ rfl (.cons _ _ _ rfl (.cons _ _ _ rfl (.cons _ _ _ rfl (.nil)))))))))), by simp only; omega⟩
      · have hlt : ¬ k < 70 := by have := hc32; simp at this; omega
        refine rn ?_
        exact ⟨(k + 1, s), by simp only; omega, (by rw [tk_no hlt]; exact (ent_trans (ent_drop (h1 := [_])) (ent_sub (.cons _ _ _ rfl (.cons _ _ _ rfl (.cons _ _ _ rfl (.cons _ _ _ rfl (.cons _ _ _ rfl (.cons _ _ _ rfl (.nil)))))))))), by simp only; omega⟩
    · obtain rfl : k = h.evs.length := by
        have : ¬ k < h.evs.length := by simpa using hc27
        omega
      obtain ⟨sE, hsE⟩ : ∃ sE : SV, sE = s := ⟨_, rfl⟩
      simp only [tk_end, ← hsE]
      refine rn ?_
      refine aw_loop' (fun x : Nat × SV => x.1 ≤ h.ords.length) (fun x => ⟨[(52, iv x.1), (51, iv (h.ords.map ordR).length), (50, ordsA h.ords), (1, .v (.pointer (some ⟨b1, 0, none⟩))), (2, .v (.pointer (some ⟨b2, 0, none⟩))), (3, .v (.pointer (some ⟨b3, 0, none⟩)))], [.row x.2.v 2 101 (((h.ords.take (min x.1 14)).map cutO2).map ordR), .row sE.v 9 56 (((h.evs.take 70).map cutE2).map evR), .box b3 28 [strsA (cutL 12 h.ts), strsA (cutL 8 h.ss), strsA (cutL 10 h.os), strsA (cutL 6 h.ps), .v sE.v, .v x.2.v, nilA, nilA], .box b2 28 histZ, .box b1 28 (histC h)], []⟩) (fun x => h.ords.length - x.1) (0, nilS) (by simp)
        (ent_trans (ent_nilrow 2 101) (ent_sub (.cons _ _ _ rfl (.cons _ _ _ rfl (.cons _ _ _ rfl (.cons _ _ _ rfl (.cons _ _ _ rfl (.cons _ _ _ rfl (.nil))))))))) ?_
      rintro ⟨k, s⟩ hk
      simp only at hk
      refine rn ?_
      refine aw_cond rfl (fun hc53 => ?_) (fun hc53 => ?_)
      · have hk2 : k < h.ords.length := by simpa using hc53
        obtain ⟨e, he⟩ : ∃ e, e = h.ords[k] := ⟨_, rfl⟩
        have hrow : (h.ords.map ordR)[k]? = some (ordR e) := by rw [he]; simp [hk2]
        have hle := la.ords
        refine rn ?_
        refine aops_e rfl (oe_alloc rfl fun b7 => ?_)
        refine rn ?_
        refine aw_cond rfl (fun hc58 => ?_) (fun hc58 => ?_)
        · have hlt : k < 14 := by have := hc58; simp at this; omega
          refine aw_draw 14 rfl ?_
          refine dq rfl rfl qrA ?_
          refine dq rfl rfl qrA ?_
          refine dq rfl rfl qrA ?_
          refine dq rfl rfl qrA ?_
          refine dq rfl rfl qrA ?_
          refine dq rfl rfl qrA ?_
          refine dq rfl rfl qrA ?_
          refine dq rfl rfl qrA ?_
          refine dq rfl rfl qrA ?_
          refine dq rfl rfl (qr_minN (e.ts.map intR).length 14 rfl rfl) ?_
          refine dq rfl rfl (qr_slice_hE (rows' := (e.ts.take 14).map intR) rfl rfl (by omega) (by rw [List.length_map]; exact take_min intR e.ts 14)) ?_
          refine dv rfl rfl (by exact qv_call rfl rfl (pcall (cloneInt ((e.ts.take 14).map intR) (by simp; omega)) (Sbs.refl _))) ?_
          refine rn ?_
          refine dv rfl rfl (qv_buildSlice rfl rfl) ?_
          refine rn ?_
          refine aops_e rfl (oe_append_row rfl rfl (by have := tk_len h.ords k 14; simp at this ⊢; omega) rfl (fun s73 => ?_) (fun r hr => by simp at hr; subst hr; rfl))
          refine aops_slice s73 fun sv hsv => ?_
          subst hsv
          refine rn ?_
          have hx : ((h.ords.take (min (k + 1) 14)).map cutO2).map ordR = ((h.ords.take (min k 14)).map cutO2).map ordR ++ [ordR (cutO2 e)] := by rw [tk_go hk2 hlt he]; simp
          exact ⟨(k + 1, sv), by simp only; omega, (by rw [hx]; exact (ent_trans (ent_drop (h1 := [_])) (ent_sub (.cons _ _ _ rfl (.cons _ _ _ rfl (.cons _ _ _ rfl (.cons _ _ _ rfl (.cons _ _ _ rfl (.cons _ _ _ rfl (.nil)))))))))), by simp only; omega⟩
        · have hlt : ¬ k < 14 := by have := hc58; simp at this; omega
          refine rn ?_
          exact ⟨(k + 1, s), by simp only; omega, (by rw [tk_no hlt]; exact (ent_trans (ent_drop (h1 := [_])) (ent_sub (.cons _ _ _ rfl (.cons _ _ _ rfl (.cons _ _ _ rfl (.cons _ _ _ rfl (.cons _ _ _ rfl (.cons _ _ _ rfl (.nil)))))))))), by simp only; omega⟩
      · obtain rfl : k = h.ords.length := by
          have : ¬ k < h.ords.length := by simpa using hc53
          omega
        obtain ⟨sO, hsO⟩ : ∃ sO : SV, sO = s := ⟨_, rfl⟩
        simp only [tk_end, ← hsO]
        refine rn ?_
        refine aw_loop' (fun x : Nat × SV => x.1 ≤ h.mats.length) (fun x => ⟨[(79, iv x.1), (78, iv (h.mats.map matR).length), (77, matsA h.mats), (1, .v (.pointer (some ⟨b1, 0, none⟩))), (2, .v (.pointer (some ⟨b2, 0, none⟩))), (3, .v (.pointer (some ⟨b3, 0, none⟩)))], [.row x.2.v 4 103 (((h.mats.take (min x.1 20)).map cutM2).map matR), .row sO.v 2 101 (((h.ords.take 14).map cutO2).map ordR), .row sE.v 9 56 (((h.evs.take 70).map cutE2).map evR), .box b3 28 [strsA (cutL 12 h.ts), strsA (cutL 8 h.ss), strsA (cutL 10 h.os), strsA (cutL 6 h.ps), .v sE.v, .v sO.v, .v x.2.v, nilA], .box b2 28 histZ, .box b1 28 (histC h)], []⟩) (fun x => h.mats.length - x.1) (0, nilS) (by simp)
          (ent_trans (ent_nilrow 4 103) (ent_sub (.cons _ _ _ rfl (.cons _ _ _ rfl (.cons _ _ _ rfl (.cons _ _ _ rfl (.cons _ _ _ rfl (.cons _ _ _ rfl (.nil))))))))) ?_
        rintro ⟨k, s⟩ hk
        simp only at hk
        refine rn ?_
        refine aw_cond rfl (fun hc80 => ?_) (fun hc80 => ?_)
        · have hk2 : k < h.mats.length := by simpa using hc80
          obtain ⟨e, he⟩ : ∃ e, e = h.mats[k] := ⟨_, rfl⟩
          have hrow : (h.mats.map matR)[k]? = some (matR e) := by rw [he]; simp [hk2]
          have hle := la.mats
          refine rn ?_
          refine aops_e rfl (oe_alloc rfl fun b9 => ?_)
          refine rn ?_
          refine aw_cond rfl (fun hc85 => ?_) (fun hc85 => ?_)
          · have hlt : k < 20 := by have := hc85; simp at this; omega
            refine aw_seq (aw_region ?_)
            refine q1 ?_
            refine q1 ?_
            refine q1 ?_
            refine q1 ?_
            refine q1 ?_
            refine qq rfl rfl (qr_minN (e.ts.map intR).length 14 rfl rfl) ?_
            refine qq rfl rfl (qr_slice_hE (rows' := (e.ts.take 14).map intR) rfl rfl (by omega) (by rw [List.length_map]; exact take_min intR e.ts 14)) ?_
            refine qv rfl rfl (qv_call rfl rfl (pcall (cloneInt ((e.ts.take 14).map intR) (by simp; omega)) (Sbs.refl _))) ?_
            refine rn ?_
            refine qv rfl rfl (qv_buildSlice rfl rfl) ?_
            refine aops_e rfl (oe_append_row rfl rfl (by have := tk_len h.mats k 20; simp at this ⊢; omega) rfl (fun s99 => ?_) (fun r hr => by simp at hr; subst hr; rfl))
            refine aops_slice s99 fun sv hsv => ?_
            subst hsv
            refine rn ?_
            have hx : ((h.mats.take (min (k + 1) 20)).map cutM2).map matR = ((h.mats.take (min k 20)).map cutM2).map matR ++ [matR (cutM2 e)] := by rw [tk_go hk2 hlt he]; simp
            exact ⟨(k + 1, sv), by simp only; omega, (by rw [hx]; exact (ent_trans (ent_drop (h1 := [_])) (ent_sub (.cons _ _ _ rfl (.cons _ _ _ rfl (.cons _ _ _ rfl (.cons _ _ _ rfl (.cons _ _ _ rfl (.cons _ _ _ rfl (.nil)))))))))), by simp only; omega⟩
          · have hlt : ¬ k < 20 := by have := hc85; simp at this; omega
            refine rn ?_
            exact ⟨(k + 1, s), by simp only; omega, (by rw [tk_no hlt]; exact (ent_trans (ent_drop (h1 := [_])) (ent_sub (.cons _ _ _ rfl (.cons _ _ _ rfl (.cons _ _ _ rfl (.cons _ _ _ rfl (.cons _ _ _ rfl (.cons _ _ _ rfl (.nil)))))))))), by simp only; omega⟩
        · obtain rfl : k = h.mats.length := by
            have : ¬ k < h.mats.length := by simpa using hc80
            omega
          obtain ⟨sM, hsM⟩ : ∃ sM : SV, sM = s := ⟨_, rfl⟩
          simp only [tk_end, ← hsM]
          refine aw_exit ?_
          refine thn_e ?_
          refine thn_e ?_
          refine inBlk_hit ?_
          refine thn_n ?_
          refine aw_seq (aw_region ?_)
          refine q1 ?_
          refine q1 ?_
          refine q1 ?_
          refine q1 ?_
          refine q1 ?_
          refine qq rfl rfl (qr_minN (h.wants.map wanR).length 12 rfl rfl) ?_
          refine qq rfl rfl (qr_slice_hE (rows' := (h.wants.take 12).map wanR) rfl rfl (by omega) (by rw [List.length_map]; exact take_min wanR h.wants 12)) ?_
          refine qv rfl rfl (qv_call rfl rfl (pcall (cloneWan ((h.wants.take 12).map wanR) (by simp; omega)) (Sbs.refl _))) ?_
          refine rn ?_
          exact retq (.cons _ _ _ _ (.agg _ _ _ _ _ _ _ rfl inferInstance inferInstance inferInstance rfl) .nil) (.trans (vent_freeze_cell [_, _, _, _, _, _] _) (.trans (vent_freeze_cell [_, _, _, _, _] _) (.trans (vent_freeze_cell [_, _, _, _] _) (.drop [_, _, _] _ _)))) ⟨rfl, rfl⟩
end Go.Proofs
