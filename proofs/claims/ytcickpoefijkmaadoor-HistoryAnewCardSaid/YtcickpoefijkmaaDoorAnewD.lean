/- Plain laws for completed histories. Conditions: as each lemma states. -/
import Derived.Test.YtcickpoefijkmaaDoorAnewC
set_option linter.unusedVariables false
namespace Go.H
open Go Go.Ab
theorem many_mono {m m' : List Int} {x : Nat × Int} (h : manyStep m x = some m') : (∀ s, m.getD s 0 ≤ m'.getD s 0) ∧ (x.1 < m.length → x.2 < m'.getD x.1 0) ∧ m'.length = m.length := by
  unfold manyStep at h
  simp only at h
  split at h
  · cases h
  · cases h
    refine ⟨fun s => ?_, fun hx => ?_, by simp⟩
    · simp only [List.getD_eq_getElem?_getD, List.getElem?_set]
      by_cases hs : x.1 = s
      · subst hs
        by_cases hl : x.1 < m.length
        · simp [hl]; omega
        · simp [hl]
      · simp [hs]
    · simp only [List.getD_eq_getElem?_getD, List.getElem?_set]
      simp [hx]; omega
theorem goes_mono : ∀ {l : List (Nat × Int)} {m m' : List Int}, goes manyStep (some m) l = some m' → (∀ s, m.getD s 0 ≤ m'.getD s 0) ∧ (∀ x ∈ l, x.1 < m.length → x.2 < m'.getD x.1 0) ∧ m'.length = m.length
  | [], m, m', h => by cases h; exact ⟨fun s => Int.le_refl _, (fun x hx => (by cases hx)), rfl⟩
  | x :: l, m, m', h => by
    have h' : goes manyStep (manyStep m x) l = some m' := h
    cases hs : manyStep m x with
    | none => rw [hs, goes_none] at h'; cases h'
    | some m1 =>
      rw [hs] at h'
      obtain ⟨a1, a2, a3⟩ := many_mono hs
      obtain ⟨b1, b2, b3⟩ := goes_mono h'
      refine ⟨fun s => Int.le_trans (a1 s) (b1 s), fun y hy hl => ?_, by omega⟩
      rcases List.mem_cons.1 hy with rfl | hy
      · have := a2 hl; have := b1 y.1; omega
      · exact b2 y hy (by omega)
theorem many_same {m : List Int} {t : Int} (h : t < m.getD 0 0) : manyStep m (0, t) = some m := by
  unfold manyStep
  simp only
  rw [if_neg (by omega)]
  congr 1
  refine List.ext_getElem? fun i => ?_
  rw [List.getElem?_set]
  by_cases hi : 0 = i
  · subst hi
    by_cases hl : 0 < m.length
    · simp [hl] at h ⊢; omega
    · simp [hl]
  · simp [hi]
theorem evL_abort (t : Nat) : evL (abortE t) = [(0, (t : Int))] := rfl
theorem goes_aborts : ∀ {l : List Nat} {m : List Int}, (∀ t ∈ l, ((t : Nat) : Int) < m.getD 0 0) → goes manyStep (some m) ((l.map abortE).flatMap evL) = some m
  | [], m, _ => rfl
  | t :: l, m, h => by
    have h1 : goes manyStep (some m) (((t :: l).map abortE).flatMap evL) = goes manyStep (manyStep m (0, (t : Int))) ((l.map abortE).flatMap evL) := rfl
    rw [h1, many_same (h t (by simp))]
    exact goes_aborts fun x hx => h x (by simp [hx])
theorem begun_spoken {l : List Ev} {t : Int} (h : begunL l t = true) : (0, t) ∈ l.flatMap evL := by
  obtain ⟨e, he, hq⟩ := List.any_eq_true.1 h
  simp only [Bool.and_eq_true, beq_iff_eq] at hq
  exact List.mem_flatMap.2 ⟨e, he, by rw [← hq.1]; simp [evL]⟩
theorem openL_mem {h : Hist} {t : Nat} : t ∈ openL h ↔ t < h.ts.length ∧ begunL h.evs t = true ∧ overL h.evs t = false := by
  simp [openL]
theorem openL_len (h : Hist) : (openL h).length ≤ h.ts.length := opensTo_len h h.ts.length
theorem event_abort {h : Hist} {t : Nat} (ht : t < h.ts.length) : eventB h (abortE t) = true := by
  have h1 : toldB h.ts (t : Nat) = true := (toldB_iff _ _).2 ⟨by omega, by omega⟩
  simp only [eventB, abortE, evEq_eq, h1, cand]
  simp
theorem compl_shaped {h : Hist} (hs : shapedB h = true) (hl : h.evs.length + (openL h).length ≤ 3000) : shapedB (complH h) = true := by
  have hp := shaped_parts hs
  obtain ⟨h0, h1, h2, h3, h4⟩ := hp
  have e4 : okK (complH h) 4 = true := by
    have : okK h 4 = (okK h 0 && (namesB (limK 0) (nmK h 0) && namesB (limK 1) (nmK h 1) && namesB (limK 2) (nmK h 2) && namesB (limK 3) (nmK h 3))) := by simp [okK, Bool.and_assoc]
    rw [this] at h0
    have h0' := Bool.and_eq_true_iff.1 h0
    have : okK (complH h) 4 = (okK (complH h) 0 && (namesB (limK 0) (nmK h 0) && namesB (limK 1) (nmK h 1) && namesB (limK 2) (nmK h 2) && namesB (limK 3) (nmK h 3))) := by simp [okK, Bool.and_assoc]; rfl
    rw [this, h0'.2, Bool.and_true]
    have hz := h0'.1
    simp only [okK, sizesB, Bool.and_eq_true, decide_eq_true_eq] at hz ⊢
    refine ⟨?_, hz.2⟩
    show (((h.evs ++ (openL h).map abortE).length : Nat) : Int) ≤ 3000
    simp; omega
  have e5 : (complH h).evs.all (eventB (complH h)) = true := by
    rw [List.all_eq_true]
    intro e he
    show eventB h e = true
    rcases List.mem_append.1 he with he | he
    · exact h1 e he
    · obtain ⟨t, ht, rfl⟩ := List.mem_map.1 he
      exact event_abort (openL_mem.1 ht).1
  rw [shapedB, e4, e5]
  simp only [Bool.true_and, Bool.and_eq_true, List.all_eq_true]
  exact ⟨⟨h2, h3⟩, h4⟩
theorem compl_may {h : Hist} (hm : mayB h = true) (hl : h.evs.length + (openL h).length ≤ 3000) : mayB (complH h) = true := by
  have hs := may_shaped hm
  have hq : manyL h = some (lensL h) := by
    unfold mayB at hm; simpa using (Bool.and_eq_true_iff.1 hm).2
  have : manyL (complH h) = some (lensL (complH h)) := by
    have e : spokenL (complH h) = h.evs.flatMap evL ++ (((openL h).map abortE).flatMap evL ++ (h.ords.flatMap ordL ++ (h.mats.flatMap matL ++ h.wants.flatMap wanL))) := by
      show (h.evs ++ (openL h).map abortE).flatMap evL ++ _ = _
      rw [List.flatMap_append, List.append_assoc]; rfl
    have e2 : lensL (complH h) = lensL h := rfl
    rw [manyL, e, e2, goes_append, goes_append]
    rw [manyL, spokenL, goes_append] at hq
    cases hg : goes manyStep (some [0, 0, 0, 0]) (h.evs.flatMap evL) with
    | none => rw [hg, goes_none] at hq; cases hq
    | some m1 =>
      rw [hg] at hq
      rw [goes_aborts fun t ht => (goes_mono hg).2.1 _ (begun_spoken (openL_mem.1 ht).2.1) (by simp)]
      exact hq
  unfold mayB
  rw [compl_shaped hs hl, this]; simp
theorem begun_app (l m : List Ev) (t : Int) : begunL (l ++ m) t = (begunL l t || begunL m t) := by simp [begunL]
theorem over_app (l m : List Ev) (t : Int) : overL (l ++ m) t = (overL l t || overL m t) := by simp [overL]
theorem begun_aborts (l : List Nat) (t : Int) : begunL (l.map abortE) t = false := by
  simp [begunL, abortE]
theorem over_aborts {l : List Nat} {t : Nat} (h : t ∈ l) : overL (l.map abortE) t = true := by
  simp only [overL, List.any_eq_true, List.mem_map]
  exact ⟨abortE t, ⟨t, h, rfl⟩, by simp [abortE]⟩
theorem compl_closed {h : Hist} {t : Nat} (ht : t < h.ts.length) (hb : begunL (complH h).evs t = true) : overL (complH h).evs t = true := by
  show overL (h.evs ++ (openL h).map abortE) t = true
  have hb' : begunL h.evs t = true := by
    have : begunL (h.evs ++ (openL h).map abortE) t = true := hb
    rw [begun_app, begun_aborts, Bool.or_false] at this; exact this
  rw [over_app]
  cases ho : overL h.evs t with
  | true => rfl
  | false => rw [over_aborts (openL_mem.2 ⟨ht, hb', ho⟩)]; rfl
theorem compl_open {h : Hist} : openL (complH h) = [] := by
  rw [List.eq_nil_iff_forall_not_mem]
  intro t ht
  obtain ⟨h1, h2, h3⟩ := openL_mem.1 ht
  rw [compl_closed (h := h) h1 h2] at h3; cases h3
theorem compl_twice (h : Hist) : complH (complH h) = complH h := by
  have e : (complH (complH h)).evs = (complH h).evs := by
    show (complH h).evs ++ (openL (complH h)).map abortE = _
    rw [compl_open]; simp
  show ({ complH h with evs := (complH (complH h)).evs } : Hist) = complH h
  rw [e]
theorem few_len (x : Hist) : (fewH x).evs.length + (openL (fewH x)).length ≤ 3000 := by
  have h1 : (fewH x).evs.length ≤ 80 := by simp [fewH]; omega
  have h2 : (fewH x).ts.length ≤ 20 := by simp [fewH, cutL]; omega
  have h3 := openL_len (fewH x)
  omega
theorem few_may {x : Hist} (hm : mayB (fewH x) = true) : complE (fewH x) = 0 := complE_0 hm (few_len x)
theorem few_not {x : Hist} (hc : complE (fewH x) ≠ 0) : mayB (fewH x) = false ∧ checkE (fewH x) = 210 := by
  cases hm : mayB (fewH x) with
  | true => exact absurd (few_may hm) hc
  | false => exact ⟨rfl, by rw [checkE, hm]; rfl⟩
theorem few_yes {x : Hist} (hc : complE (fewH x) = 0) : mayB (fewH x) = true := by
  cases hm : mayB (fewH x) with
  | true => rfl
  | false => rw [complE_210 hm] at hc; cases hc
theorem ends_again {x : Hist} (hc : complE (fewH x) = 0) : complR (fewH x) = complH (fewH x) ∧ mayB (complH (fewH x)) = true ∧ complE (complH (fewH x)) = 0 ∧ complR (complH (fewH x)) = complH (fewH x) := by
  have hm := few_yes hc
  have hm2 := compl_may hm (few_len x)
  have hl : (complH (fewH x)).evs.length + (openL (complH (fewH x))).length ≤ 3000 := by
    rw [compl_open]
    have := few_len x
    show ((fewH x).evs ++ (openL (fewH x)).map abortE).length + 0 ≤ 3000
    simp; omega
  have hc2 := complE_0 hm2 hl
  exact ⟨by rw [complR, if_pos hc], hm2, hc2, by rw [complR, if_pos hc2, compl_twice]⟩
theorem compl_at {h : Hist} {k : Nat} {e : Ev} (he : (complH h).evs[k]? = some e) : (∀ (hk : k < h.evs.length), e = h.evs[k]) ∧ (¬ k < h.evs.length → e.kind = 6) := by
  have he' : (h.evs ++ (openL h).map abortE)[k]? = some e := he
  constructor
  · intro hk
    rw [List.getElem?_append_left hk, List.getElem?_eq_getElem hk] at he'
    exact (Option.some.inj he').symm
  · intro hk
    rw [List.getElem?_append_right (by omega)] at he'
    have := List.mem_of_getElem? he'
    obtain ⟨t, _, rfl⟩ := List.mem_map.1 this
    rfl
theorem compl_ended {x : Hist} (hc : complE (fewH x) = 0) {t : Int} (hb : begunL (complH (fewH x)).evs t = true) : overL (complH (fewH x)).evs t = true := by
  have hm := few_yes hc
  obtain ⟨e, he, hq⟩ := List.any_eq_true.1 hb
  simp only [Bool.and_eq_true, beq_iff_eq] at hq
  have hs := (shaped_parts (compl_shaped (may_shaped hm) (few_len x))).2.1 e he
  obtain ⟨_, _, ht, _⟩ := event_parts hs
  have ht' := (toldB_iff _ _).1 ht
  obtain ⟨n, hn⟩ : ∃ n : Nat, t = n := ⟨t.toNat, by omega⟩
  subst hn
  exact compl_closed (h := fewH x) (by have : ((complH (fewH x)).ts.length : Int) = (fewH x).ts.length := rfl; omega) hb
/-! Maps of marks. -/
def MB (es : List (Int × AV)) (f : Int → Bool) : Prop := (es.map (·.1)).Nodup ∧ ∀ t, (lookM t es).getD (.v (.bool false)) = bv (f t)
theorem mb0 : MB [] (fun t => begunL [] t) := ⟨.nil, fun t => rfl⟩
theorem mb0' : MB [] (fun t => overL [] t) := ⟨.nil, fun t => rfl⟩
theorem updM_fst {K : Type} [DecidableEq K] (k : K) (a : AV) : ∀ es : List (K × AV), (updM k a es).map (·.1) = if k ∈ es.map (·.1) then es.map (·.1) else es.map (·.1) ++ [k]
  | [] => by simp [updM]
  | p :: r => by
    simp only [updM]
    by_cases h : p.1 = k
    · simp [h]
    · rw [if_neg h]
      simp only [List.map_cons, updM_fst k a r, List.mem_cons]
      by_cases h2 : k ∈ r.map (·.1)
      · simp [h2]
      · simp [h2, Ne.symm h]
theorem MB.upd {es : List (Int × AV)} {f g : Int → Bool} (h : MB es f) {k : Int} {b : Bool} (hb : b = g k) (hg : ∀ t, t ≠ k → g t = f t) : MB (updM k (bv b) es) g := by
  refine ⟨?_, fun t => ?_⟩
  · rw [updM_fst]
    split
    · exact h.1
    · rename_i hk
      rw [List.nodup_append]
      exact ⟨h.1, by simp, fun x hx y hy e => by simp only [List.mem_singleton] at hy; subst hy; exact hk (e ▸ hx)⟩
  · rw [lookM_updM]
    by_cases ht : t = k
    · subst ht; rw [if_pos rfl, hb]; rfl
    · rw [if_neg ht, h.2 t, hg t ht]
theorem lookM_mem {K : Type} [DecidableEq K] : ∀ {es : List (K × AV)} {i : Nat} (hi : i < es.length), (es.map (·.1)).Nodup → lookM es[i].1 es = some es[i].2
  | p :: r, 0, _, _ => by simp [lookM]
  | p :: r, i + 1, hi, hn => by
    simp only [List.map_cons, List.nodup_cons] at hn
    have hi' : i < r.length := by simpa using hi
    simp only [List.getElem_cons_succ, lookM]
    rw [if_neg (fun e => hn.1 (by rw [e]; exact List.mem_map.2 ⟨r[i], List.getElem_mem hi', rfl⟩))]
    exact lookM_mem hi' hn.2
theorem MB.at {es : List (Int × AV)} {f : Int → Bool} (h : MB es f) {i : Nat} (hi : i < es.length) : es[i].2 = bv (f es[i].1) := by
  have := h.2 es[i].1
  rw [lookM_mem hi h.1] at this
  exact this
theorem begun_ne {l : List Ev} {e : Ev} {t : Int} (ht : t ≠ e.t) : begunL (l ++ [e]) t = begunL l t := by
  rw [begun_snoc]; simp [Ne.symm ht]
theorem over_ne {l : List Ev} {e : Ev} {t : Int} (ht : t ≠ e.t) : overL (l ++ [e]) t = overL l t := by
  rw [over_snoc]; simp [Ne.symm ht]
theorem begun_eq (l : List Ev) (e : Ev) : begunL (l ++ [e]) e.t = (begunL l e.t || e.kind == 1) := by
  rw [begun_snoc]; simp
theorem over_eq (l : List Ev) (e : Ev) : overL (l ++ [e]) e.t = (overL l e.t || (e.kind == 5 || e.kind == 6)) := by
  rw [over_snoc]; simp
theorem seen_len {N : Nat} {l : List Nat} (h : l.Nodup) (hl : ∀ i ∈ l, i < N) : l.length ≤ N := nodup_lt h hl
theorem few_lim (x : Hist) : Lim 1000 (fewH x) := by
  refine ⟨by simp [fewH, cutL]; omega, by simp [fewH, cutL]; omega, by simp [fewH, cutL]; omega, by simp [fewH, cutL]; omega, by simp [fewH]; omega, by simp [fewH]; omega, by simp [fewH]; omega, by simp [fewH]; omega, fun e he => ?_, fun e he => ?_, fun e he => ?_⟩
  · obtain ⟨a, _, rfl⟩ := List.mem_map.1 he; simp [cutE]; omega
  · obtain ⟨a, _, rfl⟩ := List.mem_map.1 he; simp [cutO]; omega
  · obtain ⟨a, _, rfl⟩ := List.mem_map.1 he; simp [cutM]; omega
theorem compl_lim {x : Hist} : Lim 4000 (complH (fewH x)) := by
  have l := few_lim x
  have hn := few_len x
  refine ⟨Nat.le_trans l.ts (by decide), Nat.le_trans l.ss (by decide), Nat.le_trans l.os (by decide), Nat.le_trans l.ps (by decide), ?_, Nat.le_trans l.ords (by decide), Nat.le_trans l.mats (by decide), Nat.le_trans l.wants (by decide), fun e he => ?_, fun e he => Nat.le_trans (l.ordts e he) (by decide), fun e he => Nat.le_trans (l.matts e he) (by decide)⟩
  · show ((fewH x).evs ++ (openL (fewH x)).map abortE).length ≤ 4000
    simp; omega
  · have he' : e ∈ (fewH x).evs ++ (openL (fewH x)).map abortE := he
    rcases List.mem_append.1 he' with he | he
    · exact Nat.le_trans (l.scans e he) (by decide)
    · obtain ⟨t, _, rfl⟩ := List.mem_map.1 he; simp [abortE]
end Go.H
/- Numbered anew a history may be. Conditions: aS each lemma states. -/
set_option linter.unusedVariables false
namespace Go.H
open Go Go.Ab
theorem fresh_iff : ∀ (l m : List ByteArray), freshB m l = true ↔ (∀ s ∈ l, wordB s = true) ∧ l.Nodup ∧ ∀ s ∈ l, s ∉ m
  | [], m => by simp [freshB]
  | x :: l, m => by
    simp only [freshB, Bool.and_eq_true, Bool.not_eq_true', memB_f, fresh_iff l (m ++ [x]), List.mem_cons, List.nodup_cons, List.mem_append, List.not_mem_nil, or_false, not_or, forall_eq_or_imp]
    constructor
    · rintro ⟨⟨a, b⟩, c, d, e⟩
      exact ⟨⟨a, c⟩, ⟨fun hx => (e x hx).2 rfl, d⟩, b, fun s hs => (e s hs).1⟩
    · rintro ⟨⟨a, c⟩, ⟨d, f⟩, b, e⟩
      exact ⟨⟨a, b⟩, c, f, fun s hs => ⟨e s hs, fun q => d (q ▸ hs)⟩⟩
theorem names_new {most : Nat} {l : List ByteArray} {ks : List Int} (hl : namesB most l = true) (hn : ks.Nodup) (hb : ∀ n ∈ ks, 0 ≤ n ∧ n < l.length) (hlen : ks.length ≤ l.length) : namesB most (ks.map (nameAt l)) = true := by
  simp only [namesB, Bool.and_eq_true, decide_eq_true_eq, fresh_iff, List.length_map] at hl ⊢
  obtain ⟨h1, h2, h3, _⟩ := hl
  have hat : ∀ n ∈ ks, ∃ (i : Nat) (hi : i < l.length), n = i ∧ nameAt l n = l[i] := fun n hn' => by
    obtain ⟨i, rfl⟩ : ∃ i : Nat, n = i := ⟨n.toNat, by have := hb n hn'; omega⟩
    have hi : i < l.length := by have := hb _ hn'; omega
    exact ⟨i, hi, rfl, nameAt_get hi⟩
  refine ⟨by omega, fun s hs => ?_, ?_, by simp⟩
  · obtain ⟨n, hn', rfl⟩ := List.mem_map.1 hs
    obtain ⟨i, hi, _, e⟩ := hat n hn'
    rw [e]; exact h2 _ (List.getElem_mem hi)
  · rw [List.nodup_iff_pairwise_ne, List.pairwise_map]
    refine (List.nodup_iff_pairwise_ne.1 hn).imp_of_mem ?_
    intro a b ha hb' hne e
    obtain ⟨i, hi, rfl, ei⟩ := hat a ha
    obtain ⟨j, hj, rfl, ej⟩ := hat b hb'
    rw [ei, ej] at e
    have hp := List.pairwise_iff_getElem.1 (List.nodup_iff_pairwise_ne.1 h3)
    rcases Nat.lt_trichotomy i j with q | q | q
    · exact hp i j hi hj q e
    · exact hne (by rw [q])
    · exact hp j i hj hi q e.symm
section
variable {h : Hist} (hs : shapedB h = true)
include hs
theorem number_shaped : shapedB (numberH h) = true := by
  obtain ⟨hk, h1, h2, h3, h4⟩ := shaped_parts hs
  have hkn := known_ok hs
  have ht := told_n hs
  have hnm : ∀ s, s < 4 → namesB (limK s) (nmK (numberH h) s) = true := fun s h4 => by
    rw [nmK_number hs h4]
    refine names_new ?_ (hkn.nd s) (hkn.lt s) (hkn.len s)
    have := hk
    simp only [okK, Bool.and_eq_true] at this
    match s, h4 with
    | 0, _ => exact this.1.1.1.2
    | 1, _ => exact this.1.1.2
    | 2, _ => exact this.1.2
    | 3, _ => exact this.2
  have hev : (numberH h).evs = h.evs.map (mEv (newN (knownK h))) := by rw [number_eq hs]; rfl
  have hord : (numberH h).ords = h.ords.map (mOrd (newN (knownK h))) := by rw [number_eq hs]; rfl
  have hmat : (numberH h).mats = h.mats.map (mMat (newN (knownK h))) := by rw [number_eq hs]; rfl
  have hwan : (numberH h).wants = h.wants.map (mWan (newN (knownK h))) := by rw [number_eq hs]; rfl
  have hsz : sizesB (numberH h) = true := by
    have : sizesB h = true := by
      have := hk
      simp only [okK, Bool.and_eq_true] at this
      exact this.1.1.1.1
    unfold sizesB at this ⊢
    rw [hev, hord, hmat, hwan, List.length_map, List.length_map, List.length_map, List.length_map]
    exact this
  have n0 := hnm 0 (by omega); have n1 := hnm 1 (by omega); have n2 := hnm 2 (by omega); have n3 := hnm 3 (by omega)
  simp only [shapedB, okK, Bool.and_eq_true, List.all_eq_true]
  refine ⟨⟨⟨⟨⟨⟨⟨⟨hsz, n0⟩, n1⟩, n2⟩, n3⟩, ?_⟩, ?_⟩, ?_⟩, ?_⟩
  · intro e he
    rw [hev] at he
    obtain ⟨a, ha, rfl⟩ := List.mem_map.1 he
    exact ev_told (h1 a ha) fun x hx => ht x (by simp only [spokenL, List.mem_append, List.mem_flatMap]; exact .inl ⟨a, ha, hx⟩)
  · intro e he
    rw [hord] at he
    obtain ⟨a, ha, rfl⟩ := List.mem_map.1 he
    exact ord_told (h2 a ha) fun x hx => ht x (by simp only [spokenL, List.mem_append, List.mem_flatMap]; exact .inr (.inl ⟨a, ha, hx⟩))
  · intro e he
    rw [hmat] at he
    obtain ⟨a, ha, rfl⟩ := List.mem_map.1 he
    exact mat_told (h3 a ha) fun x hx => ht x (by simp only [spokenL, List.mem_append, List.mem_flatMap]; exact .inr (.inr (.inl ⟨a, ha, hx⟩)))
  · intro e he
    rw [hwan] at he
    obtain ⟨a, ha, rfl⟩ := List.mem_map.1 he
    exact wan_told (h4 a ha) fun x hx => ht x (by simp only [spokenL, List.mem_append, List.mem_flatMap]; exact .inr (.inr (.inr ⟨a, ha, hx⟩)))
theorem number_may : mayB (numberH h) = true := by
  have hsp : spokenL (numberH h) = (spokenL h).map (ren (newN (knownK h))) := by
    rw [number_eq hs]; exact spoken_m _ h
  obtain ⟨m', e1, e2⟩ := many_new (K := knownK h) (spokenL h) olds0 [0, 0, 0, 0] rng0.cnt (sp4 hs) (.refl _)
  refine check_0.1 (check_eq (number_shaped hs) (m := m') ?_ e2.m4 fun k hk => ?_)
  · unfold manyL; rw [hsp]; exact e1
  · rw [e2.eq k hk, nmK_number hs hk, List.length_map]; rfl
end
theorem number_evs {h : Hist} (hs : shapedB h = true) : (numberH h).evs = h.evs.map (mEv (newN (knownK h))) := by rw [number_eq hs]; rfl
/-- Two places of one name. -/
theorem name_rows {l l' : List ByteArray} {i j : Int} (h1 : 0 ≤ i ∧ i < l.length) (h2 : 0 ≤ j ∧ j < l'.length) (e : nameAt l i = nameAt l' j) :
    ∃ (m m2 : Nat) (x : ByteArray), i = m ∧ j = m2 ∧ (l.map strR)[m]? = some (strR x) ∧ (l'.map strR)[m2]? = some (strR x) := by
  obtain ⟨m, rfl⟩ : ∃ m : Nat, i = m := ⟨i.toNat, by omega⟩
  obtain ⟨m2, rfl⟩ : ∃ m2 : Nat, j = m2 := ⟨j.toNat, by omega⟩
  have a : m < l.length := by omega
  have b : m2 < l'.length := by omega
  rw [nameAt_get a, nameAt_get b] at e
  exact ⟨m, m2, l[m], rfl, rfl, by simp [a], by simp [b, e]⟩
section
variable {P : Program} {dst : Option Tmp} {ty : TypeId} {pos : String} {after : Array Edge} {guard : Option (Nat × Bool)} {x y : Operand} {h : List Res} {f : Operand → Option AV}
theorem qr_nestr_self {T T' : TypeId} {a : ByteArray} (hx : f x = some (.v (.string a))) (hy : f y = some (.v (.string a))) : QR P h f ⟨dst, .binOp .neq T x y T', ty, pos, after, guard⟩ (bv false) := by
  have := qr_nestr (P := P) (h := h) (T := T) (T' := T') (dst := dst) (ty := ty) (pos := pos) (after := after) (guard := guard) hx hy
  simpa using this
end
/-- What the law asks of a history that is told, numbered anew. -/
structure Anew (h n : Hist) : Prop where
  r : numR h = n
  e : numE h = 0
  r2 : numR n = n
  e2 : numE n = 0
  chk : checkE n = 0
  same : checkE h = 0 → n = h
  evs : n.evs.length = h.evs.length
  ords : n.ords.length = h.ords.length
  mats : n.mats.length = h.mats.length
  wants : n.wants.length = h.wants.length
theorem anew {h : Hist} (hs : shapedB h = true) : Anew h (numberH h) := by
  have hm := number_may hs
  have hs2 := number_shaped hs
  refine ⟨by simp [numR, hs], by simp [numE, hs], by rw [numR, if_pos hs2]; exact may_same hm, by simp [numE, hs2], check_0.2 hm, fun hc => may_same (check_0.1 hc), ?_, ?_, ?_, ?_⟩
  all_goals rw [number_eq hs]; simp [mH]
/-- By names both tell the same, event by event. -/
structure AnewE (h n : Hist) (a b : Ev) : Prop where
  kind : b.kind = a.kind
  l : b.l = a.l
  scan : b.scan.length = a.scan.length
  ht : 0 ≤ a.t ∧ a.t < h.ts.length
  nt : 0 ≤ b.t ∧ b.t < n.ts.length
  t : nameAt h.ts a.t = nameAt n.ts b.t
  k : b.v.k = a.v.k
  ho : a.kind = 3 → 0 ≤ a.o ∧ a.o < h.os.length
  no : a.kind = 3 → 0 ≤ b.o ∧ b.o < n.os.length
  o : a.kind = 3 → nameAt h.os a.o = nameAt n.os b.o
  hv : a.kind = 3 → a.v.k > 0 → 0 ≤ a.v.t ∧ a.v.t < h.ts.length
  nv : a.kind = 3 → a.v.k > 0 → 0 ≤ b.v.t ∧ b.v.t < n.ts.length
  v : a.kind = 3 → a.v.k > 0 → nameAt h.ts a.v.t = nameAt n.ts b.v.t
theorem mVer_k (ρ : Nat → Int → Int) (v : Ver) : (mVer ρ v).k = v.k := by unfold mVer; split <;> rfl
theorem mKind_v (ρ : Nat → Int → Int) (e : Ev) : (mKind ρ e).v.k = e.v.k := by
  unfold mKind; repeat' split
  all_goals first | rfl | exact mVer_k ρ e.v
theorem anewE {h : Hist} (hs : shapedB h = true) {a : Ev} (ha : a ∈ h.evs) : AnewE h (numberH h) a (mEv (newN (knownK h)) a) := by
  have sub : ∀ x ∈ evL a, x ∈ spokenL h := fun x hx => by simp only [spokenL, List.mem_append, List.mem_flatMap]; exact .inl ⟨a, ha, hx⟩
  have ok := fun x hx => shaped_ok hs x (sub x hx)
  have told := fun x hx => (toldB_iff _ _).1 (told_n hs x (sub x hx))
  have name := fun x hx => name_n hs x (sub x hx)
  have m0 : ((0 : Nat), a.t) ∈ evL a := by simp [evL]
  have et : (mEv (newN (knownK h)) a).t = newN (knownK h) 0 a.t := mKind_t _ { a with t := newN (knownK h) 0 a.t }
  have mo : a.kind = 3 → ((2 : Nat), a.o) ∈ evL a := fun k3 => by simp [evL, kindL_2 (.inr k3)]
  have eo : a.kind = 3 → (mEv (newN (knownK h)) a).o = newN (knownK h) 2 a.o := fun k3 => by simp [mEv, mKind, k3]
  have mv : a.kind = 3 → a.v.k > 0 → ((0 : Nat), a.v.t) ∈ evL a := fun k3 hk => by simp [evL, kindL_2 (.inr k3), madeL, hk]
  have evt : a.kind = 3 → a.v.k > 0 → (mEv (newN (knownK h)) a).v.t = newN (knownK h) 0 a.v.t := fun k3 hk => by simp [mEv, mKind, k3, mVer, hk]
  refine ⟨mKind_kind _ _, mKind_l _ _, by simp [mEv], (ok _ m0).2, by rw [et]; exact told _ m0, by rw [et]; exact (name _ m0).symm, mKind_v _ _, fun k3 => (ok _ (mo k3)).2, fun k3 => by rw [eo k3]; exact told _ (mo k3), fun k3 => by rw [eo k3]; exact (name _ (mo k3)).symm,
    fun k3 hk => (ok _ (mv k3 hk)).2, fun k3 hk => by rw [evt k3 hk]; exact told _ (mv k3 hk), fun k3 hk => by rw [evt k3 hk]; exact (name _ (mv k3 hk)).symm⟩
end Go.H
