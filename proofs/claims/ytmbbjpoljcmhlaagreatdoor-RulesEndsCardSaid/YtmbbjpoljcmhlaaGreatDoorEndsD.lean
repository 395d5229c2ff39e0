/- Plain laws for completed histories. Conditions: as each lemma states. -/
import Derived.Test.YtmbbjpoljcmhlaaGreatDoorEndsC
set_option linter.unusedSimpArgs false
set_option linter.unusedVariables false
set_option linter.unusedVariables false
namespace Go.H
open Go Go.Ab
theorem many_mono {m m' : List Int} {x : Nat × Int} (h : manyStep m x = some m') : (∀ s, m.getD s 0 ≤ m'.getD s 0) ∧ (x.1 < m.length → x.2 < m'.getD x.1 0) ∧ m'.length = m.length := by
  unfold manyStep at h
  simp only at h
  split at h
  · cases h
  · cases h
    refine ⟨fun s => ?_, fun hx => ?_, by simp⟩
    · simp only [List.getD_eq_getElem?_getD, List.getElem?_set]
      by_cases hs : x.1 = s
      · subst hs
        by_cases hl : x.1 < m.length
        · simp [hl]; omega
        · simp [hl]
      · simp [hs]
    · simp only [List.getD_eq_getElem?_getD, List.getElem?_set]
      simp [hx]; omega
theorem goes_mono : ∀ {l : List (Nat × Int)} {m m' : List Int}, goes manyStep (some m) l = some m' → (∀ s, m.getD s 0 ≤ m'.getD s 0) ∧ (∀ x ∈ l, x.1 < m.length → x.2 < m'.getD x.1 0) ∧ m'.length = m.length
  | [], m, m', h => by cases h; exact ⟨fun s => Int.le_refl _, (fun x hx => (by cases hx)), rfl⟩
  | x :: l, m, m', h => by
    have h' : goes manyStep (manyStep m x) l = some m' := h
    cases hs : manyStep m x with
    | none => rw [hs, goes_none] at h'; cases h'
    | some m1 =>
      rw [hs] at h'
      obtain ⟨a1, a2, a3⟩ := many_mono hs
      obtain ⟨b1, b2, b3⟩ := goes_mono h'
      refine ⟨fun s => Int.le_trans (a1 s) (b1 s), fun y hy hl => ?_, by omega⟩
      rcases List.mem_cons.1 hy with rfl | hy
      · have := a2 hl; have := b1 y.1; omega
      · exact b2 y hy (by omega)
theorem many_same {m : List Int} {t : Int} (h : t < m.getD 0 0) : manyStep m (0, t) = some m := by
  unfold manyStep
  simp only
  rw [if_neg (by omega)]
  congr 1
  refine List.ext_getElem? fun i => ?_
  rw [List.getElem?_set]
  by_cases hi : 0 = i
  · subst hi
    by_cases hl : 0 < m.length
    · simp [hl] at h ⊢; omega
    · simp [hl]
  · simp [hi]
theorem goes_aborts : ∀ {l : List Nat} {m : List Int}, (∀ t ∈ l, ((t : Nat) : Int) < m.getD 0 0) → goes manyStep (some m) ((l.map abortE).flatMap evL) = some m
  | [], m, _ => rfl
  | t :: l, m, h => by
    have h1 : goes manyStep (some m) (((t :: l).map abortE).flatMap evL) = goes manyStep (manyStep m (0, (t : Int))) ((l.map abortE).flatMap evL) := rfl
    rw [h1, many_same (h t (by simp))]
    exact goes_aborts fun x hx => h x (by simp [hx])
theorem begun_spoken {l : List Ev} {t : Int} (h : begunL l t = true) : (0, t) ∈ l.flatMap evL := by
  obtain ⟨e, he, hq⟩ := List.any_eq_true.1 h
  simp only [Bool.and_eq_true, beq_iff_eq] at hq
  exact List.mem_flatMap.2 ⟨e, he, by rw [← hq.1]; simp [evL]⟩
theorem openL_mem {h : Hist} {t : Nat} : t ∈ openL h ↔ t < h.ts.length ∧ begunL h.evs t = true ∧ overL h.evs t = false := by
  simp [openL]
theorem openL_len (h : Hist) : (openL h).length ≤ h.ts.length := opensTo_len h h.ts.length
theorem event_abort {h : Hist} {t : Nat} (ht : t < h.ts.length) : eventB h (abortE t) = true := by
  have h1 : toldB h.ts (t : Nat) = true := (toldB_iff _ _).2 ⟨by omega, by omega⟩
  simp only [eventB, abortE, evEq_eq, h1, cand]
  simp
theorem compl_shaped {h : Hist} (hs : shapedB h = true) (hl : h.evs.length + (openL h).length ≤ 3000) : shapedB (complH h) = true := by
  have hp := shaped_parts hs
  obtain ⟨h0, h1, h2, h3, h4⟩ := hp
  have e4 : okK (complH h) 4 = true := by
    have : okK h 4 = (okK h 0 && (namesB (limK 0) (nmK h 0) && namesB (limK 1) (nmK h 1) && namesB (limK 2) (nmK h 2) && namesB (limK 3) (nmK h 3))) := by simp [okK, Bool.and_assoc]
    rw [this] at h0
    have h0' := Bool.and_eq_true_iff.1 h0
    have : okK (complH h) 4 = (okK (complH h) 0 && (namesB (limK 0) (nmK h 0) && namesB (limK 1) (nmK h 1) && namesB (limK 2) (nmK h 2) && namesB (limK 3) (nmK h 3))) := by simp [okK, Bool.and_assoc]; rfl
    rw [this, h0'.2, Bool.and_true]
    have hz := h0'.1
    simp only [okK, sizesB, Bool.and_eq_true, decide_eq_true_eq] at hz ⊢
    refine ⟨?_, hz.2⟩
    show (((h.evs ++ (openL h).map abortE).length : Nat) : Int) ≤ 3000
    simp; omega
  have e5 : (complH h).evs.all (eventB (complH h)) = true := by
    rw [List.all_eq_true]
    intro e he
    show eventB h e = true
    rcases List.mem_append.1 he with he | he
    · exact h1 e he
    · obtain ⟨t, ht, rfl⟩ := List.mem_map.1 he
      exact event_abort (openL_mem.1 ht).1
  rw [shapedB, e4, e5]
  simp only [Bool.true_and, Bool.and_eq_true, List.all_eq_true]
  exact ⟨⟨h2, h3⟩, h4⟩
theorem compl_may {h : Hist} (hm : mayB h = true) (hl : h.evs.length + (openL h).length ≤ 3000) : mayB (complH h) = true := by
  have hs := may_shaped hm
  have hq : manyL h = some (lensL h) := by
    unfold mayB at hm; simpa using (Bool.and_eq_true_iff.1 hm).2
  have : manyL (complH h) = some (lensL (complH h)) := by
    have e : spokenL (complH h) = h.evs.flatMap evL ++ (((openL h).map abortE).flatMap evL ++ (h.ords.flatMap ordL ++ (h.mats.flatMap matL ++ h.wants.flatMap wanL))) := by
      show (h.evs ++ (openL h).map abortE).flatMap evL ++ _ = _
      rw [List.flatMap_append, List.append_assoc]; rfl
    have e2 : lensL (complH h) = lensL h := rfl
    rw [manyL, e, e2, goes_append, goes_append]
    rw [manyL, spokenL, goes_append] at hq
    cases hg : goes manyStep (some [0, 0, 0, 0]) (h.evs.flatMap evL) with
    | none => rw [hg, goes_none] at hq; cases hq
    | some m1 =>
      rw [hg] at hq
      rw [goes_aborts fun t ht => (goes_mono hg).2.1 _ (begun_spoken (openL_mem.1 ht).2.1) (by simp)]
      exact hq
  unfold mayB
  rw [compl_shaped hs hl, this]; simp
theorem begun_app (l m : List Ev) (t : Int) : begunL (l ++ m) t = (begunL l t || begunL m t) := by simp [begunL]
theorem over_app (l m : List Ev) (t : Int) : overL (l ++ m) t = (overL l t || overL m t) := by simp [overL]
/-! Maps of marks. -/
def MB (es : List (Int × AV)) (f : Int → Bool) : Prop := (es.map (·.1)).Nodup ∧ ∀ t, (lookM t es).getD (.v (.bool false)) = bv (f t)
theorem lookM_mem {K : Type} [DecidableEq K] : ∀ {es : List (K × AV)} {i : Nat} (hi : i < es.length), (es.map (·.1)).Nodup → lookM es[i].1 es = some es[i].2
  | p :: r, 0, _, _ => by simp [lookM]
  | p :: r, i + 1, hi, hn => by
    simp only [List.map_cons, List.nodup_cons] at hn
    have hi' : i < r.length := by simpa using hi
    simp only [List.getElem_cons_succ, lookM]
    rw [if_neg (fun e => hn.1 (by rw [e]; exact List.mem_map.2 ⟨r[i], List.getElem_mem hi', rfl⟩))]
    exact lookM_mem hi' hn.2
theorem MB.at {es : List (Int × AV)} {f : Int → Bool} (h : MB es f) {i : Nat} (hi : i < es.length) : es[i].2 = bv (f es[i].1) := by
  have := h.2 es[i].1
  rw [lookM_mem hi h.1] at this
  exact this
end Go.H
/- Numbered anew: what is told by a plain function of the old numbers; numbered once more it is the same. Conditions: aS each lemma states. -/
set_option linter.unusedVariables false
namespace Go.H
open Go Go.Ab
section
variable (ρ : Nat → Int → Int)
end
section
variable {σ : Type} {f : σ → Nat → Int → Int × σ} {ρ : Nat → Int → Int}
variable (f) in
def after : σ → List (Nat × Int) → σ
  | s, [] => s
  | s, x :: l => after (f s x.1 x.2).2 l
end
/-! What is spoken of, renumbered. -/
section
variable (ρ : Nat → Int → Int)
end
/-! Renumbered by nothing. -/
end Go.H
/- Numbered once more it is the same. Conditions: aS each lemma states. -/
set_option linter.unusedVariables false
namespace Go.H
open Go Go.Ab
/-- What is known later begins with what was known. -/
def Ext (k k' : Olds) : Prop := ∀ s, ∃ t, k'.getD s [] = k.getD s [] ++ t
theorem Ext.refl (k : Olds) : Ext k k := fun s => ⟨[], by simp⟩
theorem Ext.trans {a b c : Olds} (h : Ext a b) (k : Ext b c) : Ext a c := fun s => by
  obtain ⟨t, e⟩ := h s
  obtain ⟨u, e'⟩ := k s
  exact ⟨t ++ u, by rw [e', e, List.append_assoc]⟩
/-- As many are told aS are known. -/
structure Cnt (k : Olds) (m : List Int) : Prop where
  k4 : k.length = 4
  m4 : m.length = 4
  eq : ∀ s, s < 4 → m.getD s 0 = (k.getD s []).length
/-! One that may be is numbered aS it is. -/
def rangeI (m : Nat) : List Int := (List.range m).map Int.ofNat
structure Rng (k : Olds) (m : List Int) : Prop where
  cnt : Cnt k m
  rg : ∀ s, s < 4 → k.getD s [] = rangeI (k.getD s []).length
end Go.H
/- Numbered anew a history may be; by names it tells the same. Conditions: aS each lemma states. -/
set_option linter.unusedVariables false
namespace Go.H
open Go Go.Ab
section
variable {h : Hist} (hs : shapedB h = true)
include hs
end
section
variable {h n : Hist} {ρ : Nat → Int → Int}
end
end Go.H
/- Numbered anew a history may be. Conditions: aS each lemma states. -/
set_option linter.unusedVariables false
namespace Go.H
open Go Go.Ab
section
variable {h : Hist} (hs : shapedB h = true)
include hs
end
section
variable {P : Program} {dst : Option Tmp} {ty : TypeId} {pos : String} {after : Array Edge} {guard : Option (Nat × Bool)} {x y : Operand} {h : List Res} {f : Operand → Option AV}
end
/-- What the law asks of a history that is told, numbered anew. -/
structure Anew (h n : Hist) : Prop where
  r : numR h = n
  e : numE h = 0
  r2 : numR n = n
  e2 : numE n = 0
  chk : checkE n = 0
  same : checkE h = 0 → n = h
  evs : n.evs.length = h.evs.length
  ords : n.ords.length = h.ords.length
  mats : n.mats.length = h.mats.length
  wants : n.wants.length = h.wants.length
/-- By names both tell the same, event by event. -/
structure AnewE (h n : Hist) (a b : Ev) : Prop where
  kind : b.kind = a.kind
  l : b.l = a.l
  scan : b.scan.length = a.scan.length
  ht : 0 ≤ a.t ∧ a.t < h.ts.length
  nt : 0 ≤ b.t ∧ b.t < n.ts.length
  t : nameAt h.ts a.t = nameAt n.ts b.t
  k : b.v.k = a.v.k
  ho : a.kind = 3 → 0 ≤ a.o ∧ a.o < h.os.length
  no : a.kind = 3 → 0 ≤ b.o ∧ b.o < n.os.length
  o : a.kind = 3 → nameAt h.os a.o = nameAt n.os b.o
  hv : a.kind = 3 → a.v.k > 0 → 0 ≤ a.v.t ∧ a.v.t < h.ts.length
  nv : a.kind = 3 → a.v.k > 0 → 0 ≤ b.v.t ∧ b.v.t < n.ts.length
  v : a.kind = 3 → a.v.k > 0 → nameAt h.ts a.v.t = nameAt n.ts b.v.t
end Go.H
/- What the references of layer 11 answer. Conditions: none (definitions). -/
set_option linter.unusedVariables false
namespace Go.H
open Go Go.Ab
/-- Where a number stands in a row; -1: it is not there. -/
def atI (n : Int) : Nat → List Int → Int
  | _, [] => -1
  | i, x :: r => if x = n then (i : Int) else atI n (i + 1) r
end Go.H
/- The references' tests are the program's own. Conditions: none. -/
set_option linter.unusedVariables false
namespace Go.H
open Go Go.Ab
end Go.H
/- Runes: how many bytes one has. Conditions: aS each lemma states. -/
set_option linter.unusedVariables false
set_option maxRecDepth 20000
namespace Go.H
open Go Go.Ab
end Go.H
/- A rune further on. Conditions: none. -/
set_option linter.unusedVariables false
set_option maxRecDepth 20000
namespace Go.H
open Go Go.Ab
end Go.H
/- The rune 65533: wrong bytes, or the three that are its own. Conditions: aS each lemma states. -/
set_option linter.unusedVariables false
set_option maxRecDepth 20000
namespace Go.H
open Go Go.Ab
end Go.H
/- Words, by the reference: the same. Conditions: aS each lemma states. -/
set_option linter.unusedVariables false
set_option maxRecDepth 20000
namespace Go.H
open Go Go.Ab
end Go.H
/- Steps of the reference's word; names that are words, each once. Conditions: aS each lemma states. -/
set_option linter.unusedVariables false
namespace Go.H
open Go Go.Ab
end Go.H
/- The reference's rows of what is spoken of; a shaped history, by parts. Conditions: aS each lemma states. -/
set_option linter.unusedVariables false
namespace Go.H
open Go Go.Ab
/-! What is spoken of, aS the reference gathers it: rows by sorts. -/
abbrev Rw := Nat → List Int
def addF (l : List Int) (n : Int) : List Int := if atI n 0 l ≥ 0 then l else l ++ [n]
def addV (l : List Int) (v : Ver) : List Int := if v.k = 0 then l else addF l v.t
def stepF (L : Rw) (x : Nat × Int) : Rw := fun i => match Nat.beq i x.1 with
  | true => addF (L i) x.2
  | false => L i
def stepV (L : Rw) (v : Ver) : Rw := fun i => match Nat.beq i 0 with
  | true => addV (L i) v
  | false => L i
def stepS (L : Rw) (s : Seen) : Rw := stepV (stepF L (2, s.o)) s.v
def stepK (L : Rw) (e : Ev) : Rw :=
  if e.kind = 1 then stepF L (1, e.s) else if e.kind = 2 ∨ e.kind = 3 then stepV (stepF L (2, e.o)) e.v else if e.kind = 4 then stepF L (3, e.p) else L
def stepE (L : Rw) (e : Ev) : Rw := e.scan.foldl stepS (stepK (stepF L (0, e.t)) e)
def addT (L : Rw) (t : Int) : Rw := stepF L (0, t)
def stepO (L : Rw) (r : Ord) : Rw := r.ts.foldl addT (stepF L (2, r.o))
def stepM (L : Rw) (r : Mat) : Rw := r.ts.foldl addT (stepF (stepF L (3, r.p)) (2, r.o))
def Bd (L : Rw) (n : Nat) : Prop := ∀ i, (L i).length ≤ n
theorem addF_len (l : List Int) (n : Int) : (addF l n).length ≤ l.length + 1 := by
  unfold addF; split <;> simp
theorem addV_len (l : List Int) (v : Ver) : (addV l v).length ≤ l.length + 1 := by
  unfold addV; split
  · omega
  · exact addF_len _ _
theorem Bd.f {L : Rw} {n : Nat} (h : Bd L n) (x : Nat × Int) : Bd (stepF L x) (n + 1) := fun i => by
  unfold stepF
  cases Nat.beq i x.1 with
  | true => exact Nat.le_trans (addF_len _ _) (Nat.succ_le_succ (h i))
  | false => exact Nat.le_succ_of_le (h i)
theorem Bd.v {L : Rw} {n : Nat} (h : Bd L n) (v : Ver) : Bd (stepV L v) (n + 1) := fun i => by
  unfold stepV
  cases Nat.beq i 0 with
  | true => exact Nat.le_trans (addV_len _ _) (Nat.succ_le_succ (h i))
  | false => exact Nat.le_succ_of_le (h i)
theorem Bd.le {L : Rw} {n m : Nat} (h : Bd L n) (hm : n ≤ m) : Bd L m := fun i => Nat.le_trans (h i) hm
theorem Bd.fold {α : Type} {f : Rw → α → Rw} {c : Nat} : ∀ {l : List α} {L : Rw} {n : Nat}, (∀ x ∈ l, ∀ L n, Bd L n → Bd (f L x) (n + c)) → Bd L n → Bd (l.foldl f L) (n + c * l.length)
  | [], L, n, _, h => h.le (by simp)
  | x :: r, L, n, hf, h => (Bd.fold (fun y hy => hf y (by simp [hy])) (hf x (by simp) L n h)).le (by simp only [List.length_cons, Nat.mul_succ]; omega)
theorem Bd.s {L : Rw} {n : Nat} (h : Bd L n) (s : Seen) : Bd (stepS L s) (n + 2) := (h.f _).v _
theorem Bd.k {L : Rw} {n : Nat} (h : Bd L n) (e : Ev) : Bd (stepK L e) (n + 2) := by
  unfold stepK
  split
  · exact (h.f _).le (by omega)
  split
  · exact ((h.f _).v _).le (by omega)
  split
  · exact (h.f _).le (by omega)
  · exact h.le (by omega)
theorem Bd.e {L : Rw} {n : Nat} (h : Bd L n) {e : Ev} (hs : e.scan.length ≤ 3000) : Bd (stepE L e) (n + 10000) :=
  (Bd.fold (c := 2) (fun s _ L n h => h.s s) ((h.f _).k e)).le (by omega)
theorem Bd.t {L : Rw} {n : Nat} (h : Bd L n) (t : Int) : Bd (addT L t) (n + 1) := h.f _
theorem Bd.o {L : Rw} {n : Nat} (h : Bd L n) {r : Ord} (hs : r.ts.length ≤ 3000) : Bd (stepO L r) (n + 10000) :=
  (Bd.fold (c := 1) (fun s _ L n h => h.t s) (h.f _)).le (by omega)
theorem Bd.m {L : Rw} {n : Nat} (h : Bd L n) {r : Mat} (hs : r.ts.length ≤ 3000) : Bd (stepM L r) (n + 10000) :=
  (Bd.fold (c := 1) (fun s _ L n h => h.t s) ((h.f _).f _)).le (by omega)
end Go.H
/- The reference's Right is the program's test. Conditions: aS each lemma states. -/
set_option linter.unusedVariables false
namespace Go.H
open Go Go.Ab
def upR (n : Nat) : List Int := (List.range n).map fun i : Nat => (i : Int)
theorem atI_iff (n : Int) : ∀ (l : List Int) (i : Nat), atI n i l ≥ 0 ↔ n ∈ l
  | [], i => by simp [atI]
  | x :: r, i => by
    unfold atI
    split
    · rename_i h; simp [h]
    · rename_i h
      rw [atI_iff n r (i + 1), List.mem_cons]
      constructor
      · intro k; exact .inr k
      · rintro (k | k)
        · exact absurd k.symm h
        · exact k
theorem addF_mem (l : List Int) (n : Int) : addF l n = if n ∈ l then l else l ++ [n] := by
  unfold addF
  by_cases h : n ∈ l
  · rw [if_pos ((atI_iff n l 0).2 h), if_pos h]
  · rw [if_neg (fun q => h ((atI_iff n l 0).1 q)), if_neg h]
theorem stepF_at (L : Rw) (x : Nat × Int) : stepF L x x.1 = addF (L x.1) x.2 := by
  unfold stepF; rw [Nat.beq_refl]
theorem stepF_ne (L : Rw) (x : Nat × Int) {i : Nat} (h : i ≠ x.1) : stepF L x i = L i := by
  unfold stepF
  rw [show Nat.beq i x.1 = false from by
    cases q : Nat.beq i x.1 with
    | false => rfl
    | true => exact absurd (Nat.eq_of_beq_eq_true q) h]
/-- Rows only grow. -/
theorem grow (xs : List (Nat × Int)) : ∀ (L : Rw) (s : Nat), ∃ m, xs.foldl stepF L s = L s ++ m := by
  induction xs with
  | nil => intro L s; exact ⟨[], by simp⟩
  | cons x xs ih =>
    intro L s
    obtain ⟨m, hm⟩ := ih (stepF L x) s
    rw [List.foldl_cons, hm]
    by_cases h : s = x.1
    · subst h
      rw [stepF_at, addF_mem]
      split
      · exact ⟨m, rfl⟩
      · exact ⟨x.2 :: m, by simp⟩
    · rw [stepF_ne _ _ h]; exact ⟨m, rfl⟩
def InvM (L : Rw) (m : List Int) : Prop := m.length = 4 ∧ ∀ s, s < 4 → 0 ≤ m.getD s 0 ∧ L s = upR (m.getD s 0).toNat
/-! The reference's steps are steps over what is spoken of. -/
end Go.H
/- The events of all transactions are the events. Conditions: aS each lemma states. -/
set_option linter.unusedVariables false
namespace Go.H
open Go Go.Ab
theorem may_t {h : Hist} (hm : mayB h = true) : ∀ e ∈ h.evs, 0 ≤ e.t ∧ e.t < h.ts.length := by
  intro e he
  have hs : shapedB h = true := by unfold mayB at hm; simp only [Bool.and_eq_true] at hm; exact hm.1
  have := (shaped_parts hs).2.1 e he
  obtain ⟨_, _, ht, _⟩ := event_parts this
  exact (toldB_iff _ _).1 ht
end Go.H
/- A history in memory of its own, lent, reads aS plain lists. Conditions: none. -/
set_option linter.unusedVariables false
namespace Go.H
open Go Go.Ab
end Go.H
/- The reference's Has, and who is open. Conditions: none. -/
set_option linter.unusedVariables false
namespace Go.H
open Go Go.Ab
def hasB (l : List Ev) (t c : Int) : Bool := !(l.all fun e => !(e.t == t && e.kind == c))
theorem hasB_any (l : List Ev) (t c : Int) : hasB l t c = l.any fun e => e.t == t && e.kind == c := by
  induction l with
  | nil => rfl
  | cons e l ih =>
    rw [List.any_cons, ← ih, hasB, List.all_cons, Bool.not_and, Bool.not_not]; rfl
end Go.H
namespace Go.H
open Go Go.Ab
end Go.H
/- What is wrong with histories: the program's rules and the reference's, aS plain functions, and that they agree on shaped histories. Conditions: aS each lemma states. -/
set_option linter.unusedVariables false
set_option linter.unusedSimpArgs false
namespace Go.H
open Go Go.Ab
/-- A transaction has begun, and is over, ahead; its writes of an object. -/
def begunB (l : List Ev) (t : Int) : Bool := hasB l t 1
def overB (l : List Ev) (t : Int) : Bool := l.any fun y => y.t == t && (y.kind == 5 || y.kind == 6)
def wroteL (l : List Ev) (t x : Int) : List Ev := l.filter fun y => y.kind == 2 && y.t == t && y.o == x
def lastV (l : List Ev) (t x : Int) : Option Ver := ((wroteL l t x).getLast?).map Ev.v
def thereB (l : List Ev) (x : Int) (v : Ver) : Bool := l.any fun y => y.kind == 2 && y.o == x && y.v == v
def seenOf (e : Ev) : List Seen := if e.kind = 3 then [⟨e.o, e.v⟩] else e.scan
/-- The program's rules of events. -/
def wrongP (rule : Nat) (e : Ev) (l : List Ev) : Bool :=
  match rule with
  | 1 => begunB l e.t == (e.kind == 1)
  | 2 => overB l e.t
  | 3 => e.kind == 2 && e.v.k != ((wroteL l e.t e.o).length : Int) + 1
  | 4 => (seenOf e).any fun s => decide (s.v.k > 0) && !thereB l s.o s.v
  | 5 => (seenOf e).any fun s => match lastV l e.t s.o with | some v => v != s.v | none => false
  | 6 => !decide ((e.scan.map Seen.o).Nodup)
  | _ => false
/-- The reference's. -/
def wrongR (rule : Nat) (e : Ev) (l : List Ev) : Bool :=
  match rule with
  | 1 => begunB l e.t && e.kind == 1 || !begunB l e.t && e.kind != 1
  | 2 => overB l e.t
  | 3 => e.kind == 2 && e.v.k != ((wroteL l e.t e.o).length : Int) + 1
  | 4 => (seenOf e).any fun s => !(s.v.k == 0 || thereB l s.o s.v)
  | 5 => (seenOf e).any fun s => match (wroteL l e.t s.o).getLast? with | some y => y.v != s.v | none => false
  | 6 => (List.range (seenOf e).length).any fun i => ((seenOf e).take i).any fun p => some p.o == ((seenOf e)[i]?).map Seen.o
  | _ => false
theorem wrong_1 (e : Ev) (l : List Ev) : wrongP 1 e l = wrongR 1 e l := by
  simp only [wrongP, wrongR]
  cases begunB l e.t <;> cases h : (e.kind == 1) <;> simp_all
theorem ver_le {ts : List ByteArray} {v : Ver} (h : verB ts v = true) : 0 ≤ v.k := by
  unfold verB at h
  split at h
  · rename_i h0; simp at h0; omega
  · simp only [Bool.and_eq_true, decide_eq_true_eq] at h; omega
theorem wrong_4 {e : Ev} {l : List Ev} (h : ∀ s ∈ seenOf e, 0 ≤ s.v.k) : wrongP 4 e l = wrongR 4 e l := by
  simp only [wrongP, wrongR]
  rw [Bool.eq_iff_iff]
  simp only [List.any_eq_true, Bool.and_eq_true, decide_eq_true_eq, Bool.not_eq_true', Bool.or_eq_false_iff, beq_eq_false_iff_ne]
  constructor
  · rintro ⟨s, hs, h0, h1⟩; exact ⟨s, hs, by omega, h1⟩
  · rintro ⟨s, hs, h0, h1⟩; exact ⟨s, hs, by have := h s hs; omega, h1⟩
theorem wrong_5 (e : Ev) (l : List Ev) : wrongP 5 e l = wrongR 5 e l := by
  simp only [wrongP, wrongR, lastV]
  congr 1; funext s
  cases (wroteL l e.t s.o).getLast? <;> rfl
theorem dup_any (l : List Seen) : ((List.range l.length).any fun i => (l.take i).any fun p => some p.o == (l[i]?).map Seen.o) = !decide ((l.map Seen.o).Nodup) := by
  rw [Bool.eq_iff_iff]
  simp only [List.any_eq_true, List.mem_range, Bool.not_eq_true', decide_eq_false_iff_not, beq_iff_eq]
  rw [show (l.map Seen.o).Nodup ↔ _ from List.pairwise_iff_getElem]
  constructor
  · rintro ⟨i, hi, p, hp, he⟩ hn
    obtain ⟨j, hj, rfl⟩ := List.mem_iff_getElem.1 hp
    rw [List.length_take] at hj
    refine hn j i (by simp; omega) (by simpa using hi) (by omega) ?_
    rw [List.getElem?_eq_getElem hi, List.getElem_take] at he
    rw [List.getElem_map, List.getElem_map]
    exact Option.some.inj he
  · intro hn
    simp only [Classical.not_forall] at hn
    obtain ⟨i, j, hi, hj, hij, he⟩ := hn
    have hi' := hi; have hj' := hj
    rw [List.length_map] at hi' hj'
    have he := Classical.not_not.1 he
    rw [List.getElem_map, List.getElem_map] at he
    refine ⟨j, hj', l[i], ?_, ?_⟩
    · rw [List.mem_take_iff_getElem]; exact ⟨i, by omega, rfl⟩
    · rw [List.getElem?_eq_getElem hj', Option.map_some, he]
theorem wrong_6 {e : Ev} {l : List Ev} (h : e.kind = 3 → e.scan = []) : wrongP 6 e l = wrongR 6 e l := by
  simp only [wrongP, wrongR]
  rw [dup_any]
  unfold seenOf
  split
  · rename_i h2; rw [h h2]; rfl
  · rfl
theorem ev_seen {h : Hist} {e : Ev} (he : eventB h e = true) : (∀ s ∈ seenOf e, 0 ≤ s.v.k) ∧ (e.kind = 3 → e.scan = []) := by
  obtain ⟨h1, h7, ht, hc, hq⟩ := event_parts he
  refine ⟨fun s hs => ?_, fun h3 => ?_⟩
  · unfold seenOf at hs
    split at hs
    · rename_i h3
      rw [List.mem_singleton] at hs; subst hs
      rw [cand, if_neg (by omega), if_neg (by omega), if_pos h3] at hc
      simp only [mayRead, Bool.and_eq_true] at hc
      exact ver_le hc.2
    · rename_i h3
      by_cases h4 : e.kind = 4
      · rw [cand, if_neg (by omega), if_neg (by omega), if_neg h3, if_pos h4] at hc
        simp only [mayScan, Bool.and_eq_true, List.all_eq_true] at hc
        have := hc.2 s hs
        simp only [seenB, Bool.and_eq_true] at this
        exact ver_le this.2
      · have : e.scan = [] := by
          rw [← hq]; simp only [cand]
          repeat' split
          all_goals first | rfl | omega
        rw [this] at hs; cases hs
  · rw [← hq]; simp only [cand, if_neg (show ¬ e.kind = 1 by omega), if_neg (show ¬ e.kind = 2 by omega), if_pos h3]
end Go.H
/- Writers, orders, matches, wants: the program's rules and the reference's agree. Conditions: aS each lemma states. -/
set_option linter.unusedVariables false
set_option linter.unusedSimpArgs false
namespace Go.H
open Go Go.Ab
def srt (l : List Int) : List Int := l.mergeSort (fun x y => decide (x ≤ y))
/-- A row without what follows its like. -/
def cmpct : List Int → List Int
  | [] => []
  | [x] => [x]
  | x :: y :: r => if x = y then cmpct (y :: r) else x :: cmpct (y :: r)
theorem cmpct_mem (z : Int) : ∀ l : List Int, z ∈ cmpct l ↔ z ∈ l
  | [] => Iff.rfl
  | [x] => Iff.rfl
  | x :: y :: r => by
    rw [cmpct]
    split
    · rename_i h; subst h; rw [cmpct_mem z (x :: r)]; simp
    · rw [List.mem_cons, cmpct_mem z (y :: r), List.mem_cons (a := z) (b := x)]
theorem cmpct_lt : ∀ l : List Int, l.Pairwise (· ≤ ·) → (cmpct l).Pairwise (· < ·)
  | [], _ => .nil
  | [x], _ => by simp [cmpct]
  | x :: y :: r, h => by
    rw [cmpct]
    obtain ⟨h1, h2⟩ := List.pairwise_cons.1 h
    split
    · exact cmpct_lt _ h2
    · rename_i hne
      refine List.pairwise_cons.2 ⟨fun z hz => ?_, cmpct_lt _ h2⟩
      rw [cmpct_mem] at hz
      obtain ⟨h3, h4⟩ := List.pairwise_cons.1 h2
      have hxy := h1 y (by simp)
      rcases List.mem_cons.1 hz with rfl | hz
      · omega
      · have := h3 z hz; omega
theorem cmpct_len : ∀ l : List Int, (cmpct l).length ≤ l.length
  | [] => by simp [cmpct]
  | [x] => by simp [cmpct]
  | x :: y :: r => by
    rw [cmpct]; have := cmpct_len (y :: r)
    split <;> simp only [List.length_cons] at * <;> omega
theorem cmpct_full : ∀ l : List Int, (cmpct l).length = l.length → cmpct l = l
  | [], _ => rfl
  | [x], _ => rfl
  | x :: y :: r, h => by
    rw [cmpct] at h ⊢
    have hl := cmpct_len (y :: r)
    split at h
    · simp only [List.length_cons] at h hl; omega
    · rename_i hne
      rw [if_neg hne, cmpct_full (y :: r) (by simpa using h)]
theorem srt_perm (l : List Int) : (srt l).Perm l := List.mergeSort_perm _ _
theorem srt_le (l : List Int) : (srt l).Pairwise (· ≤ ·) := by
  have := List.pairwise_mergeSort (le := fun x y : Int => decide (x ≤ y)) (by intro a b c; simp; omega) (by intro a b; simp; omega) l
  exact this.imp (by simp)
theorem lt_nodup {l : List Int} (h : l.Pairwise (· < ·)) : l.Nodup := h.imp (fun h e => by omega)
theorem cmpct_nodup : ∀ l : List Int, l.Nodup → cmpct l = l
  | [], _ => rfl
  | [x], _ => rfl
  | x :: y :: r, h => by
    obtain ⟨h1, h2⟩ := List.nodup_cons.1 h
    rw [cmpct, if_neg (by rintro rfl; exact h1 (by simp)), cmpct_nodup _ h2]
/-- Each once: sorted and without repetition it is aS long. -/
theorem once_nodup (l : List Int) : (cmpct (srt l)).length = l.length ↔ l.Nodup := by
  have hl : (srt l).length = l.length := (srt_perm l).length_eq
  constructor
  · intro h
    have e := cmpct_full (srt l) (by rw [h, hl])
    have := lt_nodup (cmpct_lt _ (srt_le l))
    rw [e] at this
    exact (srt_perm l).nodup_iff.1 this
  · intro h
    rw [cmpct_nodup _ ((srt_perm l).nodup_iff.2 h), hl]
/-- Two rising rows of the same are one. -/
theorem lt_ext : ∀ (l m : List Int), l.Pairwise (· < ·) → m.Pairwise (· < ·) → (∀ z, z ∈ l ↔ z ∈ m) → l = m := by
  intro l m hl hm h
  refine List.Perm.eq_of_pairwise (le := (· ≤ ·)) (fun a b _ _ h1 h2 => by omega) (hl.imp (fun h => by omega)) (hm.imp (fun h => by omega)) ?_
  exact (List.perm_ext_iff_of_nodup (lt_nodup hl) (lt_nodup hm)).2 h
/-- The program's writers of an object, and the reference's. -/
def writersP (l : List Ev) (x : Int) : List Int := cmpct (srt ((l.filter fun e => e.kind == 2 && e.o == x && l.any fun y => y.t == e.t && y.kind == 5).map Ev.t))
def writersR (h : Hist) (x : Int) : List Int := ((upR h.ts.length).filter fun t => (h.evs.any fun e => e.kind == 2 && e.t == t && e.o == x) && hasB h.evs t 5)
theorem writers_eq {h : Hist} (ht : ∀ e ∈ h.evs, 0 ≤ e.t ∧ e.t < h.ts.length) (x : Int) (hu : (upR h.ts.length).Pairwise (· < ·)) (hm : ∀ z, z ∈ upR h.ts.length ↔ 0 ≤ z ∧ z < h.ts.length) : writersP h.evs x = writersR h x := by
  refine lt_ext _ _ (cmpct_lt _ (srt_le _)) (hu.filter _) fun z => ?_
  rw [writersP, cmpct_mem, (srt_perm _).mem_iff]
  simp only [writersR, hasB_any, List.mem_map, List.mem_filter, hm, Bool.and_eq_true, List.any_eq_true, beq_iff_eq]
  constructor
  · rintro ⟨e, ⟨he, ⟨h2, h3⟩, y, hy, h4, h5⟩, rfl⟩
    exact ⟨ht e he, ⟨e, he, ⟨h2, rfl⟩, h3⟩, y, hy, h4, h5⟩
  · rintro ⟨_, ⟨e, he, ⟨h2, rfl⟩, h3⟩, y, hy, h4, h5⟩
    exact ⟨e, ⟨he, ⟨h2, h3⟩, y, hy, h4, h5⟩, rfl⟩
/-- Some of others, each once. -/
def onceP (ts f : List Int) : Bool := decide ((cmpct (srt ts)).length = ts.length) && !ts.any fun t => !f.contains t
def someR (ts f : List Int) : Bool := decide ts.Nodup && ts.all fun t => f.contains t
theorem once_some (ts f : List Int) : onceP ts f = someR ts f := by
  unfold onceP someR
  rw [Bool.eq_iff_iff]
  simp only [Bool.and_eq_true, decide_eq_true_eq, once_nodup, List.all_eq_true, Bool.not_eq_true', List.any_eq_false, Bool.not_eq_true, Bool.not_eq_false', Bool.not_eq_false]
theorem nodup_le : ∀ (ts f : List Int), ts.Nodup → (∀ t ∈ ts, t ∈ f) → ts.length ≤ f.length
  | [], f, _, _ => by simp
  | t :: r, f, hn, hs => by
    obtain ⟨h1, h2⟩ := List.nodup_cons.1 hn
    have ht := hs t (by simp)
    have := nodup_le r (f.erase t) h2 (fun z hz => (List.mem_erase_of_ne (by rintro rfl; exact h1 hz)).2 (hs z (by simp [hz])))
    rw [List.length_erase_of_mem ht] at this
    have := List.length_pos_of_mem ht
    rw [List.length_cons]; omega
/-- All, each once: the same length is enough. -/
theorem some_len {ts f : List Int} (hf : f.Nodup) (h : someR ts f = true) : decide (ts.length = f.length) = someR f ts := by
  simp only [someR, Bool.and_eq_true, decide_eq_true_eq, List.all_eq_true, List.contains_iff_mem] at h
  rw [Bool.eq_iff_iff]
  simp only [someR, Bool.and_eq_true, decide_eq_true_eq, List.all_eq_true, List.contains_iff_mem]
  constructor
  · intro e
    refine ⟨hf, fun t ht => Classical.byContradiction fun hn => ?_⟩
    have := nodup_le (t :: ts) f (List.nodup_cons.2 ⟨hn, h.1⟩) (fun z hz => by rcases List.mem_cons.1 hz with rfl | hz; exact ht; exact h.2 z hz)
    rw [List.length_cons] at this; omega
  · rintro ⟨_, hs⟩
    exact Nat.le_antisymm (nodup_le _ _ h.1 h.2) (nodup_le _ _ hf hs)
end Go.H
/- The rules of rows, the first place and the first rule: the program's and the reference's agree on histories that may be. Conditions: aS each lemma states. -/
set_option linter.unusedVariables false
set_option linter.unusedSimpArgs false
namespace Go.H
open Go Go.Ab
theorem upR_mem (n : Nat) (z : Int) : z ∈ upR n ↔ 0 ≤ z ∧ z < n := by
  simp only [upR, List.mem_map, List.mem_range]
  constructor
  · rintro ⟨i, hi, rfl⟩; omega
  · rintro ⟨h0, h1⟩; exact ⟨z.toNat, by omega, by omega⟩
theorem upR_lt (n : Nat) : (upR n).Pairwise (· < ·) := by
  rw [upR, List.pairwise_map]
  exact List.pairwise_lt_range.imp (fun h => by omega)
theorem writers_may {h : Hist} (hm : mayB h = true) (x : Int) : writersP h.evs x = writersR h x :=
  writers_eq (may_t hm) x (upR_lt _) (upR_mem _)
theorem writers_nodup (l : List Ev) (x : Int) : (writersP l x).Nodup := lt_nodup (cmpct_lt _ (srt_le _))
def orderP (h : Hist) (i : Nat) (r : Ord) : Bool := ((h.ords.take i).any fun p => p.o == r.o) || !onceP r.ts (writersP h.evs r.o) || !decide (r.ts.length = (writersP h.evs r.o).length)
def orderR (h : Hist) (i : Nat) (r : Ord) : Bool := ((h.ords.take i).any fun p => p.o == r.o) || !someR r.ts (writersR h r.o) || !someR (writersR h r.o) r.ts
theorem order_eq {h : Hist} (hm : mayB h = true) (i : Nat) (r : Ord) : orderP h i r = orderR h i r := by
  unfold orderP orderR
  rw [once_some, ← writers_may hm]
  cases hs : someR r.ts (writersP h.evs r.o) with
  | false => simp
  | true => rw [some_len (writers_nodup _ _) hs]
def missP (h : Hist) (x : Int) : Bool := decide (1 < (writersP h.evs x).length) && !h.ords.any fun r => r.o == x
def missR (h : Hist) (x : Int) : Bool := !(h.ords.any fun r => r.o == x) && decide (2 ≤ (writersR h x).length)
theorem miss_eq {h : Hist} (hm : mayB h = true) (x : Int) : missP h x = missR h x := by
  unfold missP missR
  rw [← writers_may hm, Bool.and_comm]
  rfl
def matchP (h : Hist) (i : Nat) (r : Mat) : Bool := ((h.mats.take i).any fun p => p.p == r.p && p.o == r.o) || !onceP r.ts (writersP h.evs r.o)
def matchR (h : Hist) (i : Nat) (r : Mat) : Bool := ((h.mats.take i).any fun p => p.p == r.p && p.o == r.o) || !someR r.ts (writersR h r.o)
theorem match_eq {h : Hist} (hm : mayB h = true) (i : Nat) (r : Mat) : matchP h i r = matchR h i r := by
  unfold matchP matchR; rw [once_some, ← writers_may hm]
def wantW (h : Hist) (i : Nat) (r : Wan) : Bool := ((h.wants.take i).any fun p => p.s == r.s) || !h.evs.any fun e => e.kind == 1 && e.s == r.s
/-- The first place of a row at which something is wrong. -/
def rowF {α : Type} (w : Nat → α → Bool) : Nat → List α → Option Nat
  | _, [] => none
  | i, x :: r => if w i x then some i else rowF w (i + 1) r
theorem rowF_congr {α : Type} {w v : Nat → α → Bool} : ∀ (l : List α) (i : Nat), (∀ x ∈ l, ∀ i, w i x = v i x) → rowF w i l = rowF v i l
  | [], _, _ => rfl
  | x :: r, i, h => by rw [rowF, rowF, h x (by simp), rowF_congr r (i + 1) (fun y hy => h y (by simp [hy]))]
def placeP (h : Hist) (rule : Nat) : Option Nat :=
  match rule with
  | 7 => rowF (orderP h) 0 h.ords
  | 8 => rowF (fun x _ => missP h (x : Int)) 0 h.os
  | 9 => rowF (matchP h) 0 h.mats
  | 10 => rowF (wantW h) 0 h.wants
  | r => rowF (fun i e => wrongP r e (h.evs.take i)) 0 h.evs
def placeR (h : Hist) (rule : Nat) : Option Nat :=
  match rule with
  | 7 => rowF (orderR h) 0 h.ords
  | 8 => rowF (fun x _ => missR h (x : Int)) 0 h.os
  | 9 => rowF (matchR h) 0 h.mats
  | 10 => rowF (wantW h) 0 h.wants
  | r => rowF (fun i e => wrongR r e (h.evs.take i)) 0 h.evs
theorem wrong_eq {h : Hist} {e : Ev} (he : eventB h e = true) (l : List Ev) : ∀ r, wrongP r e l = wrongR r e l
  | 0 => rfl
  | 1 => wrong_1 e l
  | 2 => rfl
  | 3 => rfl
  | 4 => wrong_4 (ev_seen he).1
  | 5 => wrong_5 e l
  | 6 => wrong_6 (ev_seen he).2
  | _ + 7 => rfl
theorem place_eq {h : Hist} (hm : mayB h = true) (rule : Nat) : placeP h rule = placeR h rule := by
  have hs : shapedB h = true := by unfold mayB at hm; simp only [Bool.and_eq_true] at hm; exact hm.1
  have hE := (shaped_parts hs).2.1
  unfold placeP placeR
  split
  · exact rowF_congr _ _ fun r _ i => order_eq hm i r
  · exact rowF_congr _ _ fun r _ i => miss_eq hm _
  · exact rowF_congr _ _ fun r _ i => match_eq hm i r
  · rfl
  · exact rowF_congr _ _ fun e he i => wrong_eq (hE e he) _ _
/-- The first rule that is broken, and where. -/
def firstIn (p : Nat → Option Nat) : List Nat → Option (Nat × Nat)
  | [] => none
  | r :: l => match p r with | some i => some (r, i) | none => firstIn p l
def rules10 : List Nat := [1, 2, 3, 4, 5, 6, 7, 8, 9, 10]
theorem first_eq {h : Hist} (hm : mayB h = true) : firstIn (placeP h) rules10 = firstIn (placeR h) rules10 := by
  rw [show placeP h = placeR h from funext (place_eq hm)]
/-- What is wrong is of the first rule that is broken. -/
theorem first_some {p : Nat → Option Nat} : ∀ {l : List Nat} {r i : Nat}, l.Pairwise (· < ·) → firstIn p l = some (r, i) → p r = some i ∧ r ∈ l ∧ ∀ q ∈ l, q < r → p q = none
  | [], _, _, _, h => by cases h
  | a :: l, r, i, hl, h => by
    rw [firstIn] at h
    obtain ⟨h1, h2⟩ := List.pairwise_cons.1 hl
    cases ha : p a with
    | some j =>
      rw [ha] at h; cases h
      exact ⟨ha, by simp, fun q hq hr => by rcases List.mem_cons.1 hq with rfl | hq; omega; have := h1 q hq; omega⟩
    | none =>
      rw [ha] at h
      obtain ⟨h3, h4, h5⟩ := first_some h2 h
      exact ⟨h3, by simp [h4], fun q hq hr => by rcases List.mem_cons.1 hq with rfl | hq; exact ha; exact h5 q hq hr⟩
theorem first_none {p : Nat → Option Nat} : ∀ {l : List Nat}, firstIn p l = none → ∀ q ∈ l, p q = none
  | [], _, q, hq => by cases hq
  | a :: l, h, q, hq => by
    rw [firstIn] at h
    cases ha : p a with
    | some j => rw [ha] at h; cases h
    | none => rw [ha] at h; rcases List.mem_cons.1 hq with rfl | hq; exact ha; exact first_none h q hq
end Go.H
/- A well-formed history, completed, is well-formed, and has the same writers. Conditions: aS each lemma states. -/
set_option linter.unusedVariables false
set_option linter.unusedSimpArgs false
namespace Go.H
open Go Go.Ab
theorem rowF_none {α : Type} {w : Nat → α → Bool} : ∀ (l : List α) (i : Nat), rowF w i l = none ↔ ∀ j, (h : j < l.length) → w (i + j) l[j] = false
  | [], i => by simp [rowF]
  | x :: r, i => by
    rw [rowF]
    constructor
    · intro h j hj
      split at h
      · cases h
      · rename_i h0
        cases j with
        | zero => simpa using h0
        | succ j =>
          have := (rowF_none r (i + 1)).1 h j (by simpa using hj)
          rw [show i + (j + 1) = i + 1 + j by omega]; exact this
    · intro h
      have h0 : w i x = false := h 0 (Nat.zero_lt_succ _)
      rw [if_neg (by rw [h0]; decide)]
      refine (rowF_none r (i + 1)).2 fun j hj => ?_
      have := h (j + 1) (by simpa using hj)
      rw [show i + 1 + j = i + (j + 1) by omega]; exact this
theorem begunB_eq (l : List Ev) (t : Int) : begunB l t = begunL l t := by rw [begunB, hasB_any, begunL]
theorem overB_eq (l : List Ev) (t : Int) : overB l t = overL l t := by rw [overB, overL]
theorem ab_kind {l : List Nat} {e : Ev} (h : e ∈ l.map abortE) : e.kind = 6 ∧ e.scan = [] := by
  obtain ⟨t, _, rfl⟩ := List.mem_map.1 h; exact ⟨rfl, rfl⟩
theorem any_ab {p : Ev → Bool} (l : List Ev) (m : List Nat) (h : ∀ e : Ev, e.kind = 6 → p e = false) : (l ++ m.map abortE).any p = l.any p := by
  rw [List.any_append]
  have : (m.map abortE).any p = false := by
    rw [List.any_eq_false]; intro e he; rw [h e (ab_kind he).1]; simp
  rw [this, Bool.or_false]
theorem writers_ab (l : List Ev) (m : List Nat) (x : Int) : writersP (l ++ m.map abortE) x = writersP l x := by
  have e1 : ∀ t : Int, (l ++ m.map abortE).any (fun y => y.t == t && y.kind == 5) = l.any fun y => y.t == t && y.kind == 5 := fun t => any_ab _ _ fun e h => by simp [h]
  unfold writersP
  simp only [e1]
  rw [List.filter_append]
  have : (m.map abortE).filter (fun e => e.kind == 2 && e.o == x && l.any fun y => y.t == e.t && y.kind == 5) = [] := by
    rw [List.filter_eq_nil_iff]; intro e he; simp [(ab_kind he).1]
  rw [this, List.append_nil]
theorem over_abs {m : List Nat} {t : Nat} (h : t ∉ m) : overL (m.map abortE) t = false := by
  rw [overL, List.any_eq_false]
  intro e he
  obtain ⟨s, hs, rfl⟩ := List.mem_map.1 he
  have : s ≠ t := fun e => h (e ▸ hs)
  simp [abortE]; omega
theorem ab_right {h : Hist} {m n : List Nat} {t : Nat} (ho : openL h = m ++ t :: n) (r : Nat) : wrongP r (abortE t) (h.evs ++ m.map abortE) = false := by
  have ht : t ∈ openL h := by rw [ho]; simp
  obtain ⟨_, hb, hv⟩ := openL_mem.1 ht
  have hn : t ∉ m := by
    have : (openL h).Nodup := by rw [openL]; exact List.nodup_range.filter _
    rw [ho] at this
    intro hm
    have := (List.nodup_append.1 this).2.2
    exact absurd rfl (this t hm t (by simp))
  match r with
  | 0 => rfl
  | 1 =>
    simp only [wrongP, begunB_eq]
    rw [show (abortE t).t = (t : Int) from rfl, begun_app, hb]; rfl
  | 2 =>
    simp only [wrongP, overB_eq]
    rw [show (abortE t).t = (t : Int) from rfl, over_app, hv, over_abs hn]; rfl
  | 3 => rfl
  | 4 => rfl
  | 5 => rfl
  | 6 => rfl
  | _ + 7 => rfl
theorem ends_rule {h : Hist} (r : Nat) (hr : placeP h r = none) : placeP (complH h) r = none := by
  have hw : ∀ x, writersP (complH h).evs x = writersP h.evs x := fun x => writers_ab _ _ x
  unfold placeP at hr ⊢
  split
  · simp only [rowF_none, orderP, hw] at hr ⊢; exact hr
  · simp only [rowF_none, missP, hw] at hr ⊢; exact hr
  · simp only [rowF_none, matchP, hw] at hr ⊢; exact hr
  · simp only [rowF_none, wantW] at hr ⊢
    intro j hj
    have := hr j hj
    rw [show (complH h).evs = h.evs ++ (openL h).map abortE from rfl, any_ab _ _ (fun e he => by simp [he])]
    exact this
  · rename_i h7 h8 h9 h10
    split at hr
    · exact absurd rfl h7
    · exact absurd rfl h8
    · exact absurd rfl h9
    · exact absurd rfl h10
    · rw [rowF_none] at hr ⊢
      intro j hj
      have hc : (complH h).evs = h.evs ++ (openL h).map abortE := rfl
      simp only [hc] at hj ⊢
      by_cases hl : j < h.evs.length
      · rw [List.getElem_append_left hl, Nat.zero_add, List.take_append_of_le_length (by omega)]
        have := hr j hl
        rwa [Nat.zero_add] at this
      · rw [List.length_append, List.length_map] at hj
        have hk : j - h.evs.length < (openL h).length := by omega
        rw [List.getElem_append_right (by omega), List.getElem_map, Nat.zero_add, List.take_append, List.take_of_length_le (by omega), ← List.map_take]
        exact ab_right (n := (openL h).drop (j - h.evs.length + 1)) (by rw [List.getElem_cons_drop, List.take_append_drop]) r
theorem ends_sound {h : Hist} (hs : firstIn (placeP h) rules10 = none) : firstIn (placeP (complH h)) rules10 = none := by
  have := first_none hs
  have hn : ∀ q ∈ rules10, placeP (complH h) q = none := fun q hq => ends_rule q (this q hq)
  cases hf : firstIn (placeP (complH h)) rules10 with
  | none => rfl
  | some p =>
    obtain ⟨a, b⟩ := p
    obtain ⟨h1, h2, _⟩ := first_some (by decide) hf
    rw [hn a h2] at h1; cases h1
theorem ends_writers (h : Hist) (x : Int) : writersP (complH h).evs x = writersP h.evs x := writers_ab _ _ x
end Go.H
/- The first rule that is broken, aS an answer. Conditions: aS each lemma states. -/
set_option linter.unusedVariables false
namespace Go.H
open Go Go.Ab
theorem rules10_at {k : Nat} (h1 : 1 ≤ k) (h2 : k ≤ 10) : rules10.drop (k - 1) = k :: rules10.drop k := by
  have : ∀ k, k < 11 → 1 ≤ k → rules10.drop (k - 1) = k :: rules10.drop k := by decide
  exact this k (by omega) h1
theorem first_step {p : Nat → Option Nat} {k : Nat} (h1 : 1 ≤ k) (h2 : k ≤ 10) (hz : firstIn p rules10 = firstIn p (rules10.drop (k - 1))) (hp : p k = none) : firstIn p rules10 = firstIn p (rules10.drop (k + 1 - 1)) := by
  rw [hz, rules10_at h1 h2, firstIn, hp]; rfl
theorem first_hit {p : Nat → Option Nat} {k i : Nat} (h1 : 1 ≤ k) (h2 : k ≤ 10) (hz : firstIn p rules10 = firstIn p (rules10.drop (k - 1))) (hp : p k = some i) : firstIn p rules10 = some (k, i) := by
  rw [hz, rules10_at h1 h2, firstIn, hp]
theorem first_over {p : Nat → Option Nat} {k : Nat} (h1 : 11 ≤ k) (h2 : k ≤ 11) (hz : firstIn p rules10 = firstIn p (rules10.drop (k - 1))) : firstIn p rules10 = none := by
  obtain rfl : k = 11 := by omega
  rw [hz]; rfl
/-- What is wrong with a history. -/
def firstH (h : Hist) : Option (Nat × Nat) := firstIn (placeP h) rules10
def brk : Option (Nat × Nat) → List AV
  | some (r, i) => [iv r, iv i]
  | none => [iv 0, iv 0]
def soundB (h : Hist) : Bool := mayB h && (firstH h).isNone
def firstAns (h : Hist) : AV := if mayB h = true then .tup [.agg (brk (firstH h)), bv (firstH h).isSome, iv 0] else .tup [.agg [iv 0, iv 0], bv false, iv 210]
def natI : Option Nat → Int
  | some n => n
  | none => 0
def writersW (h : Hist) (x : Int) : AV := if mayB h = true then .tup [intsA (writersP h.evs x), iv 0] else .tup [intsA [], iv 210]
theorem brk_two (o : Option (Nat × Nat)) : ∃ i j, brk o = [iv i, iv j] := by
  cases o with
  | none => exact ⟨_, _, rfl⟩
  | some p => exact ⟨_, _, rfl⟩
theorem firstAns_tup (h : Hist) : ∃ i j b e, firstAns h = .tup [.agg [iv i, iv j], bv b, iv e] ∧ soundB h = ((e == 0) && !b) := by
  unfold firstAns soundB
  obtain ⟨i, j, hb⟩ := brk_two (firstH h)
  by_cases hm : mayB h = true
  · rw [if_pos hm, hm, hb]; refine ⟨_, _, _, _, rfl, ?_⟩; cases firstH h <;> rfl
  · rw [if_neg hm, Bool.eq_false_iff.2 hm]; exact ⟨_, _, _, _, rfl, rfl⟩
end Go.H
/- The law's small histories of layer 15, and what is wrong with them. Conditions: none. -/
set_option linter.unusedVariables false
namespace Go.H
open Go Go.Ab
def lateE : Ev := ⟨3, 0, 0, 0, 0, ⟨0, 1⟩, 0, []⟩
def lateH : Hist := { smallH with evs := smallH.evs ++ [lateE] }
theorem late_may : mayB lateH = true := by decide +kernel
theorem small_may : mayB smallH = true := by decide +kernel
theorem v15a : firstAns smallH = .tup [.agg [iv 0, iv 0], bv false, iv 0] := by
  have : firstH smallH = none := by decide +kernel
  rw [firstAns, if_pos small_may, this]; rfl
theorem v15b : firstAns lateH = .tup [.agg [iv 2, iv 3], bv true, iv 0] := by
  have : firstH lateH = some (2, 3) := by decide +kernel
  rw [firstAns, if_pos late_may, this]; rfl
theorem v15c : writersW smallH 0 = .tup [intsA [0], iv 0] := by
  have : writersP smallH.evs 0 = [0] := by decide +kernel
  rw [writersW, if_pos small_may, this]
theorem v15d : soundB smallH = true := by
  have : firstH smallH = none := by decide +kernel
  rw [soundB, small_may, this]; rfl
/-- A history that can be gone through. -/
def cutE2 (e : Ev) : Ev := { e with scan := e.scan.take 12 }
def cutO2 (r : Ord) : Ord := { r with ts := r.ts.take 14 }
def cutM2 (r : Mat) : Mat := { r with ts := r.ts.take 14 }
def fewA (h : Hist) : Hist := ⟨cutL 12 h.ts, cutL 8 h.ss, cutL 10 h.os, cutL 6 h.ps, (h.evs.take 70).map cutE2, (h.ords.take 14).map cutO2, (h.mats.take 20).map cutM2, h.wants.take 12⟩
theorem fewA_lim (h : Hist) : Lim 100 (fewA h) := by
  refine ⟨?_, ?_, ?_, ?_, ?_, ?_, ?_, ?_, ?_, ?_, ?_⟩
  iterate 4 (· simp only [fewA, cutL, List.length_map, List.length_take]; omega)
  iterate 4 (· simp only [fewA, List.length_map, List.length_take]; omega)
  · intro e he
    simp only [fewA, List.mem_map] at he
    obtain ⟨e', _, rfl⟩ := he
    simp only [cutE2, List.length_take]; omega
  · intro e he
    simp only [fewA, List.mem_map] at he
    obtain ⟨e', _, rfl⟩ := he
    simp only [cutO2, List.length_take]; omega
  · intro e he
    simp only [fewA, List.mem_map] at he
    obtain ⟨e', _, rfl⟩ := he
    simp only [cutM2, List.length_take]; omega
end Go.H
/- RulesEnds, aS the law asks it. Conditions: aS each lemma states. -/
set_option linter.unusedVariables false
namespace Go.H
open Go Go.Ab
theorem sound_may {h : Hist} (hs : soundB h = true) : mayB h = true ∧ firstIn (placeP h) rules10 = none := by
  unfold soundB at hs
  simp only [Bool.and_eq_true, Option.isNone_iff_eq_none] at hs
  exact hs
theorem may_sound {h : Hist} (hm : mayB h = true) (hf : firstIn (placeP h) rules10 = none) : soundB h = true := by
  rw [soundB, hm, firstH, hf]; rfl
theorem fewA_len (x : Hist) : (fewA x).evs.length + (openL (fewA x)).length ≤ 3000 := by
  have := (fewA_lim x).evs
  have := openL_len (fewA x)
  have := (fewA_lim x).ts
  omega
theorem ends15 {x : Hist} (hs : soundB (fewA x) = true) : complE (fewA x) = 0 ∧ complR (fewA x) = complH (fewA x) ∧ soundB (complH (fewA x)) = true ∧ Lim 3000 (complH (fewA x)) := by
  obtain ⟨hm, hf⟩ := sound_may hs
  have h0 := complE_0 hm (fewA_len x)
  have hcm := compl_may hm (fewA_len x)
  refine ⟨h0, by rw [complR, if_pos h0], may_sound hcm (ends_sound hf), ?_⟩
  unfold mayB at hcm; simp only [Bool.and_eq_true] at hcm; exact shaped_lim hcm.1
theorem writers_le' (l : List Ev) (x : Int) : (writersP l x).Pairwise (· ≤ ·) := (cmpct_lt _ (srt_le _)).imp fun h => by omega
end Go.H
