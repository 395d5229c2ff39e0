/- What is wrong with histories: the program's rules and the reference's, as plain functions, and that they agree on shaped histories. Conditions: as each lemma states. -/
import Derived.Test.YtkoaoaogmlpocaaGreatDoorWChC
set_option linter.unusedSimpArgs false
set_option linter.unusedVariables false
set_option linter.unusedVariables false
set_option linter.unusedSimpArgs false
namespace Go.H
open Go Go.Ab
/-- A transaction has begun, and is over, ahead; its writes of an object. -/
def begunB (l : List Ev) (t : Int) : Bool := hasB l t 1
def overB (l : List Ev) (t : Int) : Bool := l.any fun y => y.t == t && (y.kind == 5 || y.kind == 6)
def wroteL (l : List Ev) (t x : Int) : List Ev := l.filter fun y => y.kind == 2 && y.t == t && y.o == x
def lastV (l : List Ev) (t x : Int) : Option Ver := ((wroteL l t x).getLast?).map Ev.v
def thereB (l : List Ev) (x : Int) (v : Ver) : Bool := l.any fun y => y.kind == 2 && y.o == x && y.v == v
def seenOf (e : Ev) : List Seen := if e.kind = 3 then [⟨e.o, e.v⟩] else e.scan
/-- The program's rules of events. -/
def wrongP (rule : Nat) (e : Ev) (l : List Ev) : Bool :=
  match rule with
  | 1 => begunB l e.t == (e.kind == 1)
  | 2 => overB l e.t
  | 3 => e.kind == 2 && e.v.k != ((wroteL l e.t e.o).length : Int) + 1
  | 4 => (seenOf e).any fun s => decide (s.v.k > 0) && !thereB l s.o s.v
  | 5 => (seenOf e).any fun s => match lastV l e.t s.o with | some v => v != s.v | none => false
  | 6 => !decide ((e.scan.map Seen.o).Nodup)
  | _ => false
/-- The reference's. -/
def wrongR (rule : Nat) (e : Ev) (l : List Ev) : Bool :=
  match rule with
  | 1 => begunB l e.t && e.kind == 1 || !begunB l e.t && e.kind != 1
  | 2 => overB l e.t
  | 3 => e.kind == 2 && e.v.k != ((wroteL l e.t e.o).length : Int) + 1
  | 4 => (seenOf e).any fun s => !(s.v.k == 0 || thereB l s.o s.v)
  | 5 => (seenOf e).any fun s => match (wroteL l e.t s.o).getLast? with | some y => y.v != s.v | none => false
  | 6 => (List.range (seenOf e).length).any fun i => ((seenOf e).take i).any fun p => some p.o == ((seenOf e)[i]?).map Seen.o
  | _ => false
theorem wrong_1 (e : Ev) (l : List Ev) : wrongP 1 e l = wrongR 1 e l := by
  simp only [wrongP, wrongR]
  cases begunB l e.t <;> cases h : (e.kind == 1) <;> simp_all
theorem ver_le {ts : List ByteArray} {v : Ver} (h : verB ts v = true) : 0 ≤ v.k := by
  unfold verB at h
  split at h
  · rename_i h0; simp at h0; omega
  · simp only [Bool.and_eq_true, decide_eq_true_eq] at h; omega
theorem wrong_4 {e : Ev} {l : List Ev} (h : ∀ s ∈ seenOf e, 0 ≤ s.v.k) : wrongP 4 e l = wrongR 4 e l := by
  simp only [wrongP, wrongR]
  rw [Bool.eq_iff_iff]
  simp only [List.any_eq_true, Bool.and_eq_true, decide_eq_true_eq, Bool.not_eq_true', Bool.or_eq_false_iff, beq_eq_false_iff_ne]
  constructor
  · rintro ⟨s, hs, h0, h1⟩; exact ⟨s, hs, by omega, h1⟩
  · rintro ⟨s, hs, h0, h1⟩; exact ⟨s, hs, by have := h s hs; omega, h1⟩
theorem wrong_5 (e : Ev) (l : List Ev) : wrongP 5 e l = wrongR 5 e l := by
  simp only [wrongP, wrongR, lastV]
  congr 1; funext s
  cases (wroteL l e.t s.o).getLast? <;> rfl
theorem dup_any (l : List Seen) : ((List.range l.length).any fun i => (l.take i).any fun p => some p.o == (l[i]?).map Seen.o) = !decide ((l.map Seen.o).Nodup) := by
  rw [Bool.eq_iff_iff]
  simp only [List.any_eq_true, List.mem_range, Bool.not_eq_true', decide_eq_false_iff_not, beq_iff_eq]
  rw [show (l.map Seen.o).Nodup ↔ _ from List.pairwise_iff_getElem]
  constructor
  · rintro ⟨i, hi, p, hp, he⟩ hn
    obtain ⟨j, hj, rfl⟩ := List.mem_iff_getElem.1 hp
    rw [List.length_take] at hj
    refine hn j i (by simp; omega) (by simpa using hi) (by omega) ?_
    rw [List.getElem?_eq_getElem hi, List.getElem_take] at he
    rw [List.getElem_map, List.getElem_map]
    exact Option.some.inj he
  · intro hn
    simp only [Classical.not_forall] at hn
    obtain ⟨i, j, hi, hj, hij, he⟩ := hn
    have hi' := hi; have hj' := hj
    rw [List.length_map] at hi' hj'
    have he := Classical.not_not.1 he
    rw [List.getElem_map, List.getElem_map] at he
    refine ⟨j, hj', l[i], ?_, ?_⟩
    · rw [List.mem_take_iff_getElem]; exact ⟨i, by omega, rfl⟩
    · rw [List.getElem?_eq_getElem hj', Option.map_some, he]
theorem wrong_6 {e : Ev} {l : List Ev} (h : e.kind = 3 → e.scan = []) : wrongP 6 e l = wrongR 6 e l := by
  simp only [wrongP, wrongR]
  rw [dup_any]
  unfold seenOf
  split
  · rename_i h2; rw [h h2]; rfl
  · rfl
theorem ev_seen {h : Hist} {e : Ev} (he : eventB h e = true) : (∀ s ∈ seenOf e, 0 ≤ s.v.k) ∧ (e.kind = 3 → e.scan = []) := by
  obtain ⟨h1, h7, ht, hc, hq⟩ := event_parts he
  refine ⟨fun s hs => ?_, fun h3 => ?_⟩
  · unfold seenOf at hs
    split at hs
    · rename_i h3
      rw [List.mem_singleton] at hs; subst hs
      rw [cand, if_neg (by omega), if_neg (by omega), if_pos h3] at hc
      simp only [mayRead, Bool.and_eq_true] at hc
      exact ver_le hc.2
    · rename_i h3
      by_cases h4 : e.kind = 4
      · rw [cand, if_neg (by omega), if_neg (by omega), if_neg h3, if_pos h4] at hc
        simp only [mayScan, Bool.and_eq_true, List.all_eq_true] at hc
        have := hc.2 s hs
        simp only [seenB, Bool.and_eq_true] at this
        exact ver_le this.2
      · have : e.scan = [] := by
          rw [← hq]; simp only [cand]
          repeat' split
          all_goals first | rfl | omega
        rw [this] at hs; cases hs
  · rw [← hq]; simp only [cand, if_neg (show ¬ e.kind = 1 by omega), if_neg (show ¬ e.kind = 2 by omega), if_pos h3]
end Go.H
/- Writers, orders, matches, wants: the program's rules and the reference's agree. Conditions: as each lemma states. -/
set_option linter.unusedVariables false
set_option linter.unusedSimpArgs false
namespace Go.H
open Go Go.Ab
def srt (l : List Int) : List Int := l.mergeSort (fun x y => decide (x ≤ y))
/-- A row without what follows its like. -/
def cmpct : List Int → List Int
  | [] => []
  | [x] => [x]
  | x :: y :: r => if x = y then cmpct (y :: r) else x :: cmpct (y :: r)
theorem cmpct_mem (z : Int) : ∀ l : List Int, z ∈ cmpct l ↔ z ∈ l
  | [] => Iff.rfl
  | [x] => Iff.rfl
  | x :: y :: r => by
    rw [cmpct]
    split
    · rename_i h; subst h; rw [cmpct_mem z (x :: r)]; simp
    · rw [List.mem_cons, cmpct_mem z (y :: r), List.mem_cons (a := z) (b := x)]
theorem cmpct_lt : ∀ l : List Int, l.Pairwise (· ≤ ·) → (cmpct l).Pairwise (· < ·)
  | [], _ => .nil
  | [x], _ => by simp [cmpct]
  | x :: y :: r, h => by
    rw [cmpct]
    obtain ⟨h1, h2⟩ := List.pairwise_cons.1 h
    split
    · exact cmpct_lt _ h2
    · rename_i hne
      refine List.pairwise_cons.2 ⟨fun z hz => ?_, cmpct_lt _ h2⟩
      rw [cmpct_mem] at hz
      obtain ⟨h3, h4⟩ := List.pairwise_cons.1 h2
      have hxy := h1 y (by simp)
      rcases List.mem_cons.1 hz with rfl | hz
      · omega
      · have := h3 z hz; omega
theorem cmpct_len : ∀ l : List Int, (cmpct l).length ≤ l.length
  | [] => by simp [cmpct]
  | [x] => by simp [cmpct]
  | x :: y :: r => by
    rw [cmpct]; have := cmpct_len (y :: r)
    split <;> simp only [List.length_cons] at * <;> omega
theorem cmpct_full : ∀ l : List Int, (cmpct l).length = l.length → cmpct l = l
  | [], _ => rfl
  | [x], _ => rfl
  | x :: y :: r, h => by
    rw [cmpct] at h ⊢
    have hl := cmpct_len (y :: r)
    split at h
    · simp only [List.length_cons] at h hl; omega
    · rename_i hne
      rw [if_neg hne, cmpct_full (y :: r) (by simpa using h)]
theorem srt_perm (l : List Int) : (srt l).Perm l := List.mergeSort_perm _ _
theorem srt_le (l : List Int) : (srt l).Pairwise (· ≤ ·) := by
  have := List.pairwise_mergeSort (le := fun x y : Int => decide (x ≤ y)) (by intro a b c; simp; omega) (by intro a b; simp; omega) l
  exact this.imp (by simp)
theorem lt_nodup {l : List Int} (h : l.Pairwise (· < ·)) : l.Nodup := h.imp (fun h e => by omega)
theorem cmpct_nodup : ∀ l : List Int, l.Nodup → cmpct l = l
  | [], _ => rfl
  | [x], _ => rfl
  | x :: y :: r, h => by
    obtain ⟨h1, h2⟩ := List.nodup_cons.1 h
    rw [cmpct, if_neg (by rintro rfl; exact h1 (by simp)), cmpct_nodup _ h2]
/-- Each once: sorted and without repetition it is as long. -/
theorem once_nodup (l : List Int) : (cmpct (srt l)).length = l.length ↔ l.Nodup := by
  have hl : (srt l).length = l.length := (srt_perm l).length_eq
  constructor
  · intro h
    have e := cmpct_full (srt l) (by rw [h, hl])
    have := lt_nodup (cmpct_lt _ (srt_le l))
    rw [e] at this
    exact (srt_perm l).nodup_iff.1 this
  · intro h
    rw [cmpct_nodup _ ((srt_perm l).nodup_iff.2 h), hl]
/-- Two rising rows of the same are one. -/
theorem lt_ext : ∀ (l m : List Int), l.Pairwise (· < ·) → m.Pairwise (· < ·) → (∀ z, z ∈ l ↔ z ∈ m) → l = m := by
  intro l m hl hm h
  refine List.Perm.eq_of_pairwise (le := (· ≤ ·)) (fun a b _ _ h1 h2 => by omega) (hl.imp (fun h => by omega)) (hm.imp (fun h => by omega)) ?_
  exact (List.perm_ext_iff_of_nodup (lt_nodup hl) (lt_nodup hm)).2 h
/-- The program's writers of an object, and the reference's. -/
def writersP (l : List Ev) (x : Int) : List Int := cmpct (srt ((l.filter fun e => e.kind == 2 && e.o == x && l.any fun y => y.t == e.t && y.kind == 5).map Ev.t))
def writersR (h : Hist) (x : Int) : List Int := ((upR h.ts.length).filter fun t => (h.evs.any fun e => e.kind == 2 && e.t == t && e.o == x) && hasB h.evs t 5)
theorem writers_eq {h : Hist} (ht : ∀ e ∈ h.evs, 0 ≤ e.t ∧ e.t < h.ts.length) (x : Int) (hu : (upR h.ts.length).Pairwise (· < ·)) (hm : ∀ z, z ∈ upR h.ts.length ↔ 0 ≤ z ∧ z < h.ts.length) : writersP h.evs x = writersR h x := by
  refine lt_ext _ _ (cmpct_lt _ (srt_le _)) (hu.filter _) fun z => ?_
  rw [writersP, cmpct_mem, (srt_perm _).mem_iff]
  simp only [writersR, hasB_any, List.mem_map, List.mem_filter, hm, Bool.and_eq_true, List.any_eq_true, beq_iff_eq]
  constructor
  · rintro ⟨e, ⟨he, ⟨h2, h3⟩, y, hy, h4, h5⟩, rfl⟩
    exact ⟨ht e he, ⟨e, he, ⟨h2, rfl⟩, h3⟩, y, hy, h4, h5⟩
  · rintro ⟨_, ⟨e, he, ⟨h2, rfl⟩, h3⟩, y, hy, h4, h5⟩
    exact ⟨e, ⟨he, ⟨h2, h3⟩, y, hy, h4, h5⟩, rfl⟩
/-- Some of others, each once. -/
def onceP (ts f : List Int) : Bool := decide ((cmpct (srt ts)).length = ts.length) && !ts.any fun t => !f.contains t
def someR (ts f : List Int) : Bool := decide ts.Nodup && ts.all fun t => f.contains t
theorem once_some (ts f : List Int) : onceP ts f = someR ts f := by
  unfold onceP someR
  rw [Bool.eq_iff_iff]
  simp only [Bool.and_eq_true, decide_eq_true_eq, once_nodup, List.all_eq_true, Bool.not_eq_true', List.any_eq_false, Bool.not_eq_true, Bool.not_eq_false', Bool.not_eq_false]
theorem nodup_le : ∀ (ts f : List Int), ts.Nodup → (∀ t ∈ ts, t ∈ f) → ts.length ≤ f.length
  | [], f, _, _ => by simp
  | t :: r, f, hn, hs => by
    obtain ⟨h1, h2⟩ := List.nodup_cons.1 hn
    have ht := hs t (by simp)
    have := nodup_le r (f.erase t) h2 (fun z hz => (List.mem_erase_of_ne (by rintro rfl; exact h1 hz)).2 (hs z (by simp [hz])))
    rw [List.length_erase_of_mem ht] at this
    have := List.length_pos_of_mem ht
    rw [List.length_cons]; omega
/-- All, each once: the same length is enough. -/
theorem some_len {ts f : List Int} (hf : f.Nodup) (h : someR ts f = true) : decide (ts.length = f.length) = someR f ts := by
  simp only [someR, Bool.and_eq_true, decide_eq_true_eq, List.all_eq_true, List.contains_iff_mem] at h
  rw [Bool.eq_iff_iff]
  simp only [someR, Bool.and_eq_true, decide_eq_true_eq, List.all_eq_true, List.contains_iff_mem]
  constructor
  · intro e
    refine ⟨hf, fun t ht => Classical.byContradiction fun hn => ?_⟩
    have := nodup_le (t :: ts) f (List.nodup_cons.2 ⟨hn, h.1⟩) (fun z hz => by rcases List.mem_cons.1 hz with rfl | hz; exact ht; exact h.2 z hz)
    rw [List.length_cons] at this; omega
  · rintro ⟨_, hs⟩
    exact Nat.le_antisymm (nodup_le _ _ h.1 h.2) (nodup_le _ _ hf hs)
end Go.H
/- The rules of rows, the first place and the first rule: the program's and the reference's agree on histories that may be. Conditions: as each lemma states. -/
set_option linter.unusedVariables false
set_option linter.unusedSimpArgs false
namespace Go.H
open Go Go.Ab
theorem upR_mem (n : Nat) (z : Int) : z ∈ upR n ↔ 0 ≤ z ∧ z < n := by
  simp only [upR, List.mem_map, List.mem_range]
  constructor
  · rintro ⟨i, hi, rfl⟩; omega
  · rintro ⟨h0, h1⟩; exact ⟨z.toNat, by omega, by omega⟩
theorem upR_lt (n : Nat) : (upR n).Pairwise (· < ·) := by
  rw [upR, List.pairwise_map]
  exact List.pairwise_lt_range.imp (fun h => by omega)
theorem writers_may {h : Hist} (hm : mayB h = true) (x : Int) : writersP h.evs x = writersR h x :=
  writers_eq (may_t hm) x (upR_lt _) (upR_mem _)
theorem writers_nodup (l : List Ev) (x : Int) : (writersP l x).Nodup := lt_nodup (cmpct_lt _ (srt_le _))
def orderP (h : Hist) (i : Nat) (r : Ord) : Bool := ((h.ords.take i).any fun p => p.o == r.o) || !onceP r.ts (writersP h.evs r.o) || !decide (r.ts.length = (writersP h.evs r.o).length)
def orderR (h : Hist) (i : Nat) (r : Ord) : Bool := ((h.ords.take i).any fun p => p.o == r.o) || !someR r.ts (writersR h r.o) || !someR (writersR h r.o) r.ts
theorem order_eq {h : Hist} (hm : mayB h = true) (i : Nat) (r : Ord) : orderP h i r = orderR h i r := by
  unfold orderP orderR
  rw [once_some, ← writers_may hm]
  cases hs : someR r.ts (writersP h.evs r.o) with
  | false => simp
  | true => rw [some_len (writers_nodup _ _) hs]
def missP (h : Hist) (x : Int) : Bool := decide (1 < (writersP h.evs x).length) && !h.ords.any fun r => r.o == x
def missR (h : Hist) (x : Int) : Bool := !(h.ords.any fun r => r.o == x) && decide (2 ≤ (writersR h x).length)
theorem miss_eq {h : Hist} (hm : mayB h = true) (x : Int) : missP h x = missR h x := by
  unfold missP missR
  rw [← writers_may hm, Bool.and_comm]
  rfl
def matchP (h : Hist) (i : Nat) (r : Mat) : Bool := ((h.mats.take i).any fun p => p.p == r.p && p.o == r.o) || !onceP r.ts (writersP h.evs r.o)
def matchR (h : Hist) (i : Nat) (r : Mat) : Bool := ((h.mats.take i).any fun p => p.p == r.p && p.o == r.o) || !someR r.ts (writersR h r.o)
theorem match_eq {h : Hist} (hm : mayB h = true) (i : Nat) (r : Mat) : matchP h i r = matchR h i r := by
  unfold matchP matchR; rw [once_some, ← writers_may hm]
def wantW (h : Hist) (i : Nat) (r : Wan) : Bool := ((h.wants.take i).any fun p => p.s == r.s) || !h.evs.any fun e => e.kind == 1 && e.s == r.s
/-- The first place of a row at which something is wrong. -/
def rowF {α : Type} (w : Nat → α → Bool) : Nat → List α → Option Nat
  | _, [] => none
  | i, x :: r => if w i x then some i else rowF w (i + 1) r
theorem rowF_congr {α : Type} {w v : Nat → α → Bool} : ∀ (l : List α) (i : Nat), (∀ x ∈ l, ∀ i, w i x = v i x) → rowF w i l = rowF v i l
  | [], _, _ => rfl
  | x :: r, i, h => by rw [rowF, rowF, h x (by simp), rowF_congr r (i + 1) (fun y hy => h y (by simp [hy]))]
def placeP (h : Hist) (rule : Nat) : Option Nat :=
  match rule with
  | 7 => rowF (orderP h) 0 h.ords
  | 8 => rowF (fun x _ => missP h (x : Int)) 0 h.os
  | 9 => rowF (matchP h) 0 h.mats
  | 10 => rowF (wantW h) 0 h.wants
  | r => rowF (fun i e => wrongP r e (h.evs.take i)) 0 h.evs
def placeR (h : Hist) (rule : Nat) : Option Nat :=
  match rule with
  | 7 => rowF (orderR h) 0 h.ords
  | 8 => rowF (fun x _ => missR h (x : Int)) 0 h.os
  | 9 => rowF (matchR h) 0 h.mats
  | 10 => rowF (wantW h) 0 h.wants
  | r => rowF (fun i e => wrongR r e (h.evs.take i)) 0 h.evs
theorem wrong_eq {h : Hist} {e : Ev} (he : eventB h e = true) (l : List Ev) : ∀ r, wrongP r e l = wrongR r e l
  | 0 => rfl
  | 1 => wrong_1 e l
  | 2 => rfl
  | 3 => rfl
  | 4 => wrong_4 (ev_seen he).1
  | 5 => wrong_5 e l
  | 6 => wrong_6 (ev_seen he).2
  | _ + 7 => rfl
theorem place_eq {h : Hist} (hm : mayB h = true) (rule : Nat) : placeP h rule = placeR h rule := by
  have hs : shapedB h = true := by unfold mayB at hm; simp only [Bool.and_eq_true] at hm; exact hm.1
  have hE := (shaped_parts hs).2.1
  unfold placeP placeR
  split
  · exact rowF_congr _ _ fun r _ i => order_eq hm i r
  · exact rowF_congr _ _ fun r _ i => miss_eq hm _
  · exact rowF_congr _ _ fun r _ i => match_eq hm i r
  · rfl
  · exact rowF_congr _ _ fun e he i => wrong_eq (hE e he) _ _
/-- The first rule that is broken, and where. -/
def firstIn (p : Nat → Option Nat) : List Nat → Option (Nat × Nat)
  | [] => none
  | r :: l => match p r with | some i => some (r, i) | none => firstIn p l
def rules10 : List Nat := [1, 2, 3, 4, 5, 6, 7, 8, 9, 10]
theorem first_eq {h : Hist} (hm : mayB h = true) : firstIn (placeP h) rules10 = firstIn (placeR h) rules10 := by
  rw [show placeP h = placeR h from funext (place_eq hm)]
theorem first_none {p : Nat → Option Nat} : ∀ {l : List Nat}, firstIn p l = none → ∀ q ∈ l, p q = none
  | [], _, q, hq => by cases hq
  | a :: l, h, q, hq => by
    rw [firstIn] at h
    cases ha : p a with
    | some j => rw [ha] at h; cases h
    | none => rw [ha] at h; rcases List.mem_cons.1 hq with rfl | hq; exact ha; exact first_none h q hq
end Go.H
/- A well-formed history, completed, is well-formed, and has the same writers. Conditions: as each lemma states. -/
set_option linter.unusedVariables false
set_option linter.unusedSimpArgs false
namespace Go.H
open Go Go.Ab
theorem rowF_none {α : Type} {w : Nat → α → Bool} : ∀ (l : List α) (i : Nat), rowF w i l = none ↔ ∀ j, (h : j < l.length) → w (i + j) l[j] = false
  | [], i => by simp [rowF]
  | x :: r, i => by
    rw [rowF]
    constructor
    · intro h j hj
      split at h
      · cases h
      · rename_i h0
        cases j with
        | zero => simpa using h0
        | succ j =>
          have := (rowF_none r (i + 1)).1 h j (by simpa using hj)
          rw [show i + (j + 1) = i + 1 + j by omega]; exact this
    · intro h
      have h0 : w i x = false := h 0 (Nat.zero_lt_succ _)
      rw [if_neg (by rw [h0]; decide)]
      refine (rowF_none r (i + 1)).2 fun j hj => ?_
      have := h (j + 1) (by simpa using hj)
      rw [show i + 1 + j = i + (j + 1) by omega]; exact this
end Go.H
/- The first rule that is broken, as an answer. Conditions: as each lemma states. -/
set_option linter.unusedVariables false
namespace Go.H
open Go Go.Ab
theorem rules10_at {k : Nat} (h1 : 1 ≤ k) (h2 : k ≤ 10) : rules10.drop (k - 1) = k :: rules10.drop k := by
  have : ∀ k, k < 11 → 1 ≤ k → rules10.drop (k - 1) = k :: rules10.drop k := by decide
  exact this k (by omega) h1
theorem first_step {p : Nat → Option Nat} {k : Nat} (h1 : 1 ≤ k) (h2 : k ≤ 10) (hz : firstIn p rules10 = firstIn p (rules10.drop (k - 1))) (hp : p k = none) : firstIn p rules10 = firstIn p (rules10.drop (k + 1 - 1)) := by
  rw [hz, rules10_at h1 h2, firstIn, hp]; rfl
theorem first_hit {p : Nat → Option Nat} {k i : Nat} (h1 : 1 ≤ k) (h2 : k ≤ 10) (hz : firstIn p rules10 = firstIn p (rules10.drop (k - 1))) (hp : p k = some i) : firstIn p rules10 = some (k, i) := by
  rw [hz, rules10_at h1 h2, firstIn, hp]
theorem first_over {p : Nat → Option Nat} {k : Nat} (h1 : 11 ≤ k) (h2 : k ≤ 11) (hz : firstIn p rules10 = firstIn p (rules10.drop (k - 1))) : firstIn p rules10 = none := by
  obtain rfl : k = 11 := by omega
  rw [hz]; rfl
/-- What is wrong with a history. -/
def firstH (h : Hist) : Option (Nat × Nat) := firstIn (placeP h) rules10
def brkC : Option (Nat × Nat) → List AV
  | some (r, i) => [iv r, iv i]
  | none => [iv 0, iv 0]
def soundB (h : Hist) : Bool := mayB h && (firstH h).isNone
def firstAns (h : Hist) : AV := if mayB h = true then .tup [.agg (brkC (firstH h)), bv (firstH h).isSome, iv 0] else .tup [.agg [iv 0, iv 0], bv false, iv 210]
def natI : Option Nat → Int
  | some n => n
  | none => 0
theorem brk_two (o : Option (Nat × Nat)) : ∃ i j, brkC o = [iv i, iv j] := by
  cases o with
  | none => exact ⟨_, _, rfl⟩
  | some p => exact ⟨_, _, rfl⟩
theorem firstAns_tup (h : Hist) : ∃ i j b e, firstAns h = .tup [.agg [iv i, iv j], bv b, iv e] ∧ soundB h = ((e == 0) && !b) := by
  unfold firstAns soundB
  obtain ⟨i, j, hb⟩ := brk_two (firstH h)
  by_cases hm : mayB h = true
  · rw [if_pos hm, hm, hb]; refine ⟨_, _, _, _, rfl, ?_⟩; cases firstH h <;> rfl
  · rw [if_neg hm, Bool.eq_false_iff.2 hm]; exact ⟨_, _, _, _, rfl, rfl⟩
end Go.H
/- The law's small histories of layer 15, and what is wrong with them. Conditions: none. -/
set_option linter.unusedVariables false
namespace Go.H
open Go Go.Ab
end Go.H
/- RulesEnds, as the law asks it. Conditions: as each lemma states. -/
set_option linter.unusedVariables false
namespace Go.H
open Go Go.Ab
theorem sound_may {h : Hist} (hs : soundB h = true) : mayB h = true ∧ firstIn (placeP h) rules10 = none := by
  unfold soundB at hs
  simp only [Bool.and_eq_true, Option.isNone_iff_eq_none] at hs
  exact hs
end Go.H
/- Numbered anew: what is told by a plain function of the old numbers; numbered once more it is the same. Conditions: as each lemma states. -/
set_option linter.unusedVariables false
namespace Go.H
open Go Go.Ab
section
variable (ρ : Nat → Int → Int)
end
section
variable {σ : Type} {f : σ → Nat → Int → Int × σ} {ρ : Nat → Int → Int}
variable (f) in
def after : σ → List (Nat × Int) → σ
  | s, [] => s
  | s, x :: l => after (f s x.1 x.2).2 l
end
/-! What is spoken of, renumbered. -/
section
variable (ρ : Nat → Int → Int)
end
/-! Renumbered by nothing. -/
end Go.H
/- Numbered once more it is the same. Conditions: as each lemma states. -/
set_option linter.unusedVariables false
namespace Go.H
open Go Go.Ab
/-- As many are told as are known. -/
structure Cnt (k : Olds) (m : List Int) : Prop where
  k4 : k.length = 4
  m4 : m.length = 4
  eq : ∀ s, s < 4 → m.getD s 0 = (k.getD s []).length
/-! One that may be is numbered as it is. -/
def rangeI (m : Nat) : List Int := (List.range m).map Int.ofNat
structure Rng (k : Olds) (m : List Int) : Prop where
  cnt : Cnt k m
  rg : ∀ s, s < 4 → k.getD s [] = rangeI (k.getD s []).length
end Go.H
/- Numbered anew a history may be; by names it tells the same. Conditions: as each lemma states. -/
set_option linter.unusedVariables false
namespace Go.H
open Go Go.Ab
section
variable {h : Hist} (hs : shapedB h = true)
include hs
end
section
variable {h n : Hist} {ρ : Nat → Int → Int}
end
end Go.H
/- The reference numbers anew as the program does. Conditions: as each lemma states. -/
set_option linter.unusedVariables false
namespace Go.H
open Go Go.Ab
/-! The reference's rows. -/
end Go.H
/- The reference's small questions on rows. Conditions: as each lemma states. -/
set_option linter.unusedVariables false
set_option linter.unusedSimpArgs false
namespace Go.H
open Go Go.Ab
/-- Writers, up to a place. -/
def wroteQ (t x : Int) (e : Ev) : Bool := e.kind == 2 && e.t == t && e.o == x
theorem upR_s (k : Nat) : upR (k + 1) = upR k ++ [(k : Int)] := by simp [upR, List.range_succ]
section
variable {h : Hist} {i : Nat}
end
section
variable {l : List Ev} {t x : Int} {k : Nat}
end
end Go.H
/- The reference's question on an event. Conditions: as each lemma states. -/
set_option linter.unusedVariables false
set_option linter.unusedSimpArgs false
namespace Go.H
open Go Go.Ab
end Go.H
/- The reference's Place, by a question on one place. Conditions: as each lemma states. -/
set_option linter.unusedVariables false
set_option linter.unusedSimpArgs false
namespace Go.H
open Go Go.Ab
end Go.H
