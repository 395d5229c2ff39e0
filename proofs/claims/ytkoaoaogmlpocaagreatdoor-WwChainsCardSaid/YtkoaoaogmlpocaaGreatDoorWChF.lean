/- The abstract logic, part 28: slices.Sort and slices.Compact at []int, as contracts over a row of one's own (the kit's shelf has walked them). Conditions: none (lemmas over any program that has the functions). -/
import Derived.Test.YtkoaoaogmlpocaaGreatDoorWChE
import Derived.Shelf.Sort.Plain
import Derived.Shelf.Slices.In.SortNone
import Derived.Shelf.Slices.CompactI
set_option linter.unusedSectionVars false
set_option linter.unusedSimpArgs false
set_option linter.unusedVariables false
set_option linter.unusedVariables false
namespace Go.Ab
open Go Go.Shelf Go.Sort Go.Proofs
def numR (n : Int) : List AV := [.v (.int .i64 n)]
/-- A row of numbers written over, and blocks made beside it. -/
theorem row_over {X : Nat → Prop} {w : World} {a : Addr} {cap : Nat} {T : TypeId} {xs ys zs : List Int} (hh : HRel X w [.row (.slice (some a) xs.length cap) 1 T (xs.map numR)]) (hl : ys.length = xs.length) (hz : zs = ys.take zs.length) (n : Nat) (os : Array Obj) :
    HRel X (grow (putRow (Value.int .i64) (Sort.ahead w n) a.block a.off ys.toArray) os) [.row (.slice (some a) zs.length cap) 1 T (zs.map numR)] ∧
    Keep [a.block] w [a.block] (grow (putRow (Value.int .i64) (Sort.ahead w n) a.block a.off ys.toArray) os) := by
  obtain ⟨h1, h2, h3, h4, c, h5, h6, h7⟩ := hh.holds _ (List.mem_singleton.2 rfl)
  have hb : a.block < w.heap.size := (hh.lt a.block (by simp [owns, Res.own])).1
  have hX : ¬ X a.block := (hh.lt a.block (by simp [owns, Res.own])).2
  obtain ⟨w', hw'⟩ : ∃ w', w' = grow (putRow (Value.int .i64) (Sort.ahead w n) a.block a.off ys.toArray) os := ⟨_, rfl⟩
  rw [← hw']
  have hheap : w'.heap = (w.heap.modify a.block (onCells (putCells (Value.int .i64) a.off ys.toArray))) ++ os := by rw [hw']; rfl
  have hos : w'.os = w.os ∧ w'.output = w.output := by rw [hw']; exact ⟨rfl, rfl⟩
  have hsize : w.heap.size ≤ w'.heap.size := by rw [hheap]; simp
  have hold : ∀ b, b < w.heap.size → b ≠ a.block → w'.heap[b]? = w.heap[b]? := fun b hb hne => by
    rw [hheap, Array.getElem?_append_left (by simpa using hb), Array.getElem?_modify, if_neg (Ne.symm hne)]
  have hnew : w'.heap[a.block]? = some (.cells (putCells (Value.int .i64) a.off ys.toArray c) T (0, 0)) := by
    rw [hheap, Array.getElem?_append_left (by simpa using hb), Array.getElem?_modify, if_pos rfl, h5]; rfl
  have hlen : zs.length ≤ ys.length := by
    have := congrArg List.length hz
    rw [List.length_take] at this; omega
  refine ⟨⟨by simp [owns, Res.own], fun b hb2 => ?_, fun b hb2 => Nat.lt_of_lt_of_le (hh.xlt b hb2) hsize, fun r hr => ?_⟩, ⟨hsize, fun b hb2 hne => ?_, hos⟩⟩
  · have : b = a.block := by simpa [owns, Res.own] using hb2
    subst this; exact ⟨Nat.lt_of_lt_of_le hb hsize, hX⟩
  · rw [List.mem_singleton] at hr
    subst hr
    refine ⟨h1, by simp, by simp at h2 h3; omega, fun i hi => by simp [numR], _, hnew, by simpa [putCells] using h6, fun i hi j hj => ?_⟩
    have hi2 : i < zs.length := by simpa using hi
    have hj0 : j = 0 := by simp [numR] at hj; omega
    subst hj0
    have hc : a.off + i < c.size := by simp at h2 h3; omega
    refine ⟨.int .i64 (zs[i]), ?_, ?_⟩
    · have hz2 : zs[i] = ys[i]'(by omega) := by
        have : zs[i]? = (ys.take zs.length)[i]? := by rw [← hz]
        rw [List.getElem?_take_of_lt hi2, List.getElem?_eq_getElem hi2, List.getElem?_eq_getElem (by omega)] at this
        exact Option.some.inj this
      have e : a.off + i * 1 + 0 = a.off + i := by omega
      rw [e]
      simp only [putCells, Array.getElem?_mapIdx]
      rw [Array.getElem?_eq_getElem hc]
      simp only [Option.map_some]
      rw [if_pos ⟨by omega, by simp; omega⟩, hz2]
      have e2 : a.off + i - a.off = i := by omega
      rw [e2]
      congr 2
      exact getElem!_pos _ _ (by simp; omega)
    · simp only [List.getElem_map, numR]
      exact .v _
  · have hne2 : b ≠ a.block := by simpa using hne
    exact ⟨hold b hb2 hne2, hne⟩
theorem row_nums {X : Nat → Prop} {w : World} {a : Addr} {cap : Nat} {T : TypeId} {xs : List Int} (hh : HRel X w [.row (.slice (some a) xs.length cap) 1 T (xs.map numR)]) : Holds (Value.int .i64) w a.block a.off xs.toArray ∧ a.block < w.heap.size ∧ xs.length ≤ cap ∧ a.spot = none := by
  obtain ⟨h1, h2, h3, h4, c, h5, h6, h7⟩ := hh.holds _ (List.mem_singleton.2 rfl)
  refine ⟨fun j hj => ?_, (hh.lt a.block (by simp [owns, Res.own])).1, h3, h1⟩
  have hj2 : j < xs.length := by simpa using hj
  obtain ⟨v, e, r⟩ := h7 j (by simpa using hj2) 0 (by simp [numR])
  simp only [List.getElem_map, numR] at r
  have hv : v = .int .i64 xs[j] := r.v_eq
  subst hv
  have e0 : a.off + j * 1 + 0 = a.off + j := by omega
  rw [e0] at e
  refine ⟨?_, ?_⟩
  · have e2 : w.cell? ⟨a.block, a.off + j, none⟩ = some (.int .i64 xs[j]) := by simp [World.cell?, h5, e]
    have e3 : xs.toArray[j]! = xs[j] := getElem!_pos xs.toArray j hj
    rw [e2, e3]
  · simp [World.frozen?, h5]
theorem row_nil {X : Nat → Prop} {w : World} {n cap : Nat} {T : TypeId} {xs : List Int} (hh : HRel X w [.row (.slice none n cap) 1 T (xs.map numR)]) : xs = [] ∧ n = 0 ∧ cap = 0 := by
  obtain ⟨h1, h2, h3⟩ := hh.holds _ (List.mem_singleton.2 rfl)
  exact ⟨by simpa using h1, h2, h3⟩
section
variable {P : Program} {ρ : Ren}
theorem acall_sort (Ly : Lays.n189 P ρ) (s : SV) (T : TypeId) (xs : List Int) (hs : xs.length < 4611686018427387904) :
    ACall P (ρ.f 189) [.v s.v] [.row s.v 1 T (xs.map numR)] (fun r h' => h' = [.row s.v 1 T ((xs.mergeSort fun x y => decide (x ≤ y)).map numR)] ∧ r = .v (.tuple #[])) := by
  intro X w vs hh ha
  match vs, ha with
  | [v], ⟨hv, _⟩ =>
    obtain rfl := hv.v_eq
    obtain ⟨a, n, cap⟩ := s
    cases a with
    | none =>
      obtain ⟨rfl, rfl, rfl⟩ := row_nil hh
      refine callsIn_wide.2 ((Any.slices_Sort_int_none Ly none 0 w).mono ?_)
      rintro e w' ⟨rfl, rfl⟩
      exact ⟨_, _, _, rfl, ⟨rfl, rfl⟩, .v _, by simpa using hh, .refl _ _⟩
    | some a =>
      have hn : n = xs.length := by
        have := (hh.holds _ (List.mem_singleton.2 rfl)).2.1
        simpa using this
      subst hn
      obtain ⟨g1, g2, g3, g4⟩ := row_nums hh
      obtain ⟨b, off, sp⟩ := a
      simp only at g1 g2 g4
      subst g4
      refine callsIn_wide.2 ((Any.slices_Sort_int Ly b off cap xs w g1 g2 hs).mono ?_)
      rintro e w' ⟨rfl, n, os, rfl⟩
      have hlen : (xs.mergeSort fun x y => decide (x ≤ y)).length = xs.length := List.length_mergeSort _
      obtain ⟨k1, k2⟩ := row_over (zs := xs.mergeSort fun x y => decide (x ≤ y)) hh hlen (List.take_length).symm n os
      rw [hlen] at k1
      exact ⟨_, _, _, rfl, ⟨rfl, rfl⟩, .v _, k1, k2⟩
theorem acall_compact (Ly : Lays2.n20 P ρ) (s : SV) (T : TypeId) (xs : List Int) (hs : xs.length ≤ 4611686018427387904) :
    ACall P (ρ.f 20) [.v s.v] [.row s.v 1 T (xs.map numR)] (fun r h' => ∃ s' : SV, h' = [.row s'.v 1 T ((Lib.compact xs).map numR)] ∧ r = .v s'.v) := by
  intro X w vs hh ha
  match vs, ha with
  | [v], ⟨hv, _⟩ =>
    obtain rfl := hv.v_eq
    obtain ⟨a, n, cap⟩ := s
    cases a with
    | none =>
      obtain ⟨rfl, rfl, rfl⟩ := row_nil hh
      refine callsIn_wide.2 ((Any.slices_Compact_int_empty Ly none 0 w).mono ?_)
      rintro e w' ⟨rfl, rfl⟩
      exact ⟨_, _, _, rfl, ⟨⟨none, 0, 0⟩, rfl, rfl⟩, .v _, hh, .refl _ _⟩
    | some a =>
      have hn : n = xs.length := by
        have := (hh.holds _ (List.mem_singleton.2 rfl)).2.1
        simpa using this
      subst hn
      obtain ⟨g1, g2, g3, g4⟩ := row_nums hh
      obtain ⟨b, off, sp⟩ := a
      simp only at g1 g2 g4
      subst g4
      refine callsIn_wide.2 ((Any.slices_Compact_int Ly b off cap xs w g1 (by omega) g3).mono ?_)
      rintro e w' ⟨rfl, q, rfl⟩
      have hle : (Lib.compact xs).length ≤ xs.length := by
        unfold Lib.compact Lib.compactUpTo
        rw [List.length_map]
        exact Nat.le_trans (List.length_filter_le _ _) (by simp)
      obtain ⟨k1, k2⟩ := row_over (ys := Lib.compact xs ++ List.replicate (xs.length - (Lib.compact xs).length) 0) (zs := Lib.compact xs) hh (by simp; omega) (by rw [List.take_left']; rfl) q #[]
      rw [grow_empty] at k1 k2
      exact ⟨_, _, _, rfl, ⟨⟨some ⟨b, off, none⟩, (Lib.compact xs).length, cap⟩, rfl, rfl⟩, .v _, k1, k2⟩
end
end Go.Ab
/- Who has committed, writers; a row compacted. Conditions: as each lemma states. -/
set_option linter.unusedVariables false
namespace Go.H
open Go Go.Ab
theorem cmpct_snoc (y : Int) : ∀ l : List Int, cmpct (l ++ [y]) = cmpct l ++ (if l.getLast? = some y then [] else [y])
  | [] => by simp [cmpct]
  | [x] => by
    by_cases h : x = y
    · subst h; simp [cmpct]
    · simp [cmpct, h]
  | x :: z :: r => by
    have ih := cmpct_snoc y (z :: r)
    simp only [List.cons_append] at ih ⊢
    have hl : (x :: z :: r).getLast? = (z :: r).getLast? := by simp [List.getLast?_cons]
    rw [hl, cmpct, cmpct]
    by_cases h : x = z
    · rw [if_pos h, if_pos h]; exact ih
    · rw [if_neg h, if_neg h, ih]; rfl
theorem compact_eq (xs : List Int) : Lib.compact xs = cmpct xs := by
  have key : ∀ m, m ≤ xs.length → Lib.compactUpTo xs.toArray m = cmpct (xs.take m) := by
    intro m
    induction m with
    | zero => intro _; rfl
    | succ m ih =>
      intro hm
      have hlt : m < xs.length := hm
      rw [Lib.compactUpTo_succ, ih (by omega), List.take_succ_eq_append_getElem hlt, cmpct_snoc]
      congr 1
      have e1 : xs.toArray[m]! = xs[m] := by simp [hlt]
      by_cases h0 : m = 0
      · subst h0
        simp [Lib.keeps, hlt]
      · have hlt' : m - 1 < xs.length := by omega
        have e2 : xs.toArray[m - 1]! = xs[m - 1] := by simp [hlt']
        have e3 : (xs.take m).getLast? = some xs[m - 1] := by
          rw [List.getLast?_eq_getElem?, List.length_take, Nat.min_eq_left (by omega), List.getElem?_take_of_lt (by omega)]
          simp [hlt']
        rw [e3]
        unfold Lib.keeps
        rw [e1, e2]
        by_cases he : xs[m] = xs[m - 1]
        · rw [if_neg (by simp [h0, he]), if_pos (by rw [he])]
        · rw [if_pos (by simp [he]), if_neg (fun q => he (Option.some.inj q).symm)]
  have := key xs.length (Nat.le_refl _)
  rw [List.take_length] at this
  exact this
/-- Who has committed among events. -/
def donT (l : List Ev) : List (Int × Bool) := l.foldl (fun m e => putT e.t ((getT e.t m).getD false || e.kind == 5) m) []
theorem donT_go (t : Int) : ∀ (l : List Ev) (m : List (Int × Bool)), (getT t (l.foldl (fun m e => putT e.t ((getT e.t m).getD false || e.kind == 5) m) m)).getD false = ((getT t m).getD false || l.any fun y => y.t == t && y.kind == 5)
  | [], m => by simp
  | e :: l, m => by
    rw [List.foldl_cons, donT_go t l, List.any_cons, get_put]
    by_cases h : e.t = t
    · subst h; simp [Bool.or_assoc]
    · have : (e.t == t) = false := by simpa using h
      rw [if_neg h, this, Bool.false_and, Bool.false_or]
theorem donT_get (l : List Ev) (t : Int) : (getT t (donT l)).getD false = l.any fun y => y.t == t && y.kind == 5 := by
  rw [donT, donT_go]; simp [getT]
theorem donT_next {l : List Ev} {k : Nat} (hk : k < l.length) : donT (l.take (k + 1)) = putT l[k].t ((getT l[k].t (donT (l.take k))).getD false || l[k].kind == 5) (donT (l.take k)) := by
  rw [List.take_succ_eq_append_getElem hk, donT, List.foldl_append]; rfl
section
variable {α : Type} {l : List α} {k : Nat} {p : α → Bool}
theorem flt_t (hk : k < l.length) (h : p l[k] = true) : (l.take (k + 1)).filter p = (l.take k).filter p ++ [l[k]] := by
  rw [List.take_succ_eq_append_getElem hk, List.filter_append]; simp [h]
theorem flt_f (hk : k < l.length) (h : p l[k] = false) : (l.take (k + 1)).filter p = (l.take k).filter p := by
  rw [List.take_succ_eq_append_getElem hk, List.filter_append]; simp [h]
theorem flt_le : ((l.take k).filter p).length ≤ l.length := Nat.le_trans (List.length_filter_le _ _) (by simp; omega)
end
def wrB (l : List Ev) (x : Int) (e : Ev) : Bool := e.kind == 2 && e.o == x && l.any fun y => y.t == e.t && y.kind == 5
theorem writersP_eq (l : List Ev) (x : Int) : writersP l x = cmpct (srt ((l.filter (wrB l x)).map Ev.t)) := rfl
theorem contains_any (l : List Int) (n : Int) : (l.any fun a => a == n) = l.contains n := by
  rw [Bool.eq_iff_iff]; simp
theorem writers_le (l : List Ev) (x : Int) : (writersP l x).length ≤ l.length := by
  rw [writersP_eq]
  refine Nat.le_trans (cmpct_len _) ?_
  rw [(srt_perm _).length_eq, List.length_map]
  exact List.length_filter_le _ _
theorem len_bne (a b : Nat) : ((a : Int) != (b : Int)) = !decide (a = b) := by
  rw [Bool.eq_iff_iff]; simp; omega
theorem FCall.new {P : Program} {fv : AV} {args : List AV} {h : List Res} {R : AV → List Res → Prop} (hc : FCall P fv args [] R) : FCall P fv args h (fun r h' => ∃ h1, R r h1 ∧ h' = h1 ++ h) :=
  (hc.frame h).mono fun _ _ ⟨h1, e, q⟩ => ⟨h1, q, e⟩
end Go.H
/- What is asked of the index, as answers. Conditions: as each lemma states. -/
set_option linter.unusedVariables false
namespace Go.H
open Go Go.Ab
def askE (h : Hist) (n many : Int) : Int := if checkI h = 0 then (if 0 ≤ n ∧ n < many then 0 else 2) else checkI h
def onE (e : Int) (l : List Int) : List Int := if e = 0 then l else []
theorem ask_0 {h : Hist} {n many : Int} (he : askE h n many = 0) : soundB h = true ∧ 0 ≤ n ∧ n < many := by
  unfold askE at he
  split at he
  · rename_i hc
    split at he
    · rename_i hn; exact ⟨checkI_0.1 hc, hn⟩
    · cases he
  · rename_i hc; exact absurd he hc
theorem ask_c {h : Hist} {n many : Int} (hc : checkI h ≠ 0) : askE h n many = checkI h := by rw [askE, if_neg hc]
theorem ask_a {h : Hist} {n many : Int} (hc : checkI h = 0) (hn : ¬ (0 ≤ n ∧ n < many)) : askE h n many = 2 := by rw [askE, if_pos hc, if_neg hn]
theorem ask_y {h : Hist} {n many : Int} (hc : checkI h = 0) (hn : 0 ≤ n ∧ n < many) : askE h n many = 0 := by rw [askE, if_pos hc, if_pos hn]
/-- Those that have committed, as a map. -/
def endM (l : List Ev) : List (Int × Bool) := setT (fun e : Ev => e.kind == 5) Ev.t [] l
theorem endM_get (l : List Ev) (t : Int) : (getT t (endM l)).getD false = hasB l t 5 := by
  rw [endM, setT_get, hasB_any]
  have : (l.any fun e => e.kind == 5 && decide (e.t = t)) = l.any fun y => y.t == t && y.kind == 5 := by
    congr 1; funext e; rw [Bool.and_comm]; rfl
  rw [this]
  cases l.any fun y => y.t == t && y.kind == 5 <;> rfl
theorem endM_y {l : List Ev} {k : Nat} (hk : k < l.length) (h5 : (l[k].kind == 5) = true) : endM (l.take (k + 1)) = putT l[k].t true (endM (l.take k)) := by
  rw [List.take_succ_eq_append_getElem hk, endM, setT, List.foldl_append, List.foldl_cons, List.foldl_nil, if_pos h5]; rfl
theorem endM_n {l : List Ev} {k : Nat} (hk : k < l.length) (h5 : (l[k].kind == 5) = false) : endM (l.take (k + 1)) = endM (l.take k) := by
  rw [List.take_succ_eq_append_getElem hk, endM, setT, List.foldl_append, List.foldl_cons, List.foldl_nil, if_neg (by rw [h5]; decide)]; rfl
end Go.H
/- The law's small history of layer 16, and what the index says of it. Conditions: none. -/
set_option linter.unusedVariables false
namespace Go.H
open Go Go.Ab
/-- A history that can be gone through. -/
def ownX (h : Hist) : Hist := { h with evs := h.evs.take 80 }
theorem ownX_lim {h : Hist} {N : Nat} (la : Lim N h) : Lim N (ownX h) :=
  ⟨la.ts, la.ss, la.os, la.ps, by have := la.evs; simp only [ownX, List.length_take]; omega, la.ords, la.mats, la.wants, fun e he => la.scans e (List.mem_of_mem_take he), la.ordts, la.matts⟩
end Go.H
/- What is dirty, of a history at levels: as a plain function, and what holds of it. Conditions: as each lemma states. -/
set_option linter.unusedVariables false
set_option linter.unusedSimpArgs false
namespace Go.H
open Go Go.Ab
structure Dirt where
  kind : Int
  ev : Int
  o : Int
  v : Ver
  deriving DecidableEq
/-! DirtyEvents. -/
/-! DirtyRises. -/
end Go.H
/- The history that law 23 wakes with, and what the laws on dirty reads say of it: plain facts. Conditions: as each lemma states. -/
set_option linter.unusedVariables false
set_option linter.unusedSimpArgs false
namespace Go.H
open Go Go.Ab
end Go.H
/- Rows in order: merging, sorting by merges, putting into an ordered row, leaving out what is alike. Conditions: as each lemma states. -/
set_option linter.unusedVariables false
set_option linter.unusedSimpArgs false
namespace Go.H
open Go Go.Ab
section
variable {α : Type} (cmp : α → α → Int)
/-- Two rows merged. -/
def mrg : List α → List α → List α
  | [], b => b
  | x :: a, [] => x :: a
  | x :: a, y :: b => if cmp y x < 0 then y :: mrg (x :: a) b else x :: mrg a (y :: b)
termination_by a b => a.length + b.length
theorem mrg_nil (a : List α) : mrg cmp a [] = a := by cases a <;> simp [mrg]
theorem mrg_perm : ∀ (a b : List α), (mrg cmp a b).Perm (a ++ b)
  | [], b => by simp [mrg]
  | x :: a, [] => by simp [mrg]
  | x :: a, y :: b => by
    rw [mrg]
    split
    · exact ((mrg_perm (x :: a) b).cons y).trans (List.perm_middle (l₁ := x :: a)).symm
    · exact (mrg_perm a (y :: b)).cons x
termination_by a b => a.length + b.length
structure CmpOk : Prop where
  trans : ∀ a b c, cmp a b ≤ 0 → cmp b c ≤ 0 → cmp a c ≤ 0
  anti : ∀ a b, cmp b a = - cmp a b
variable {cmp}
variable (cmp)
/-- Runs, two by two. -/
def pairUp : List (List α) → List (List α)
  | a :: b :: r => mrg cmp a b :: pairUp r
  | l => l
theorem pairUp_len : ∀ l : List (List α), (pairUp cmp l).length = (l.length + 1) / 2
  | [] => by simp [pairUp]
  | [a] => by simp [pairUp]
  | a :: b :: r => by rw [pairUp, List.length_cons, pairUp_len r, List.length_cons, List.length_cons]; omega
theorem pairUp_perm : ∀ l : List (List α), (pairUp cmp l).flatten.Perm l.flatten
  | [] => .refl _
  | [a] => .refl _
  | a :: b :: r => by
    rw [pairUp, List.flatten_cons, List.flatten_cons, List.flatten_cons, ← List.append_assoc]
    exact (mrg_perm cmp a b).append (pairUp_perm r)
def bothR (l : List (List α)) (k : Nat) : List α := if k + 1 = l.length then (l[k]?).getD [] else mrg cmp ((l[k]?).getD []) ((l[k + 1]?).getD [])
theorem pairUp_get : ∀ (l : List (List α)) (i : Nat), i < (pairUp cmp l).length → (pairUp cmp l)[i]? = some (bothR cmp l (2 * i))
  | [], i, h => by simp [pairUp] at h
  | [a], i, h => by
    have : i = 0 := by simpa [pairUp] using h
    subst this; rfl
  | a :: b :: r, 0, h => by
    rw [pairUp, bothR, if_neg (by simp)]; rfl
  | a :: b :: r, i + 1, h => by
    have h' : i < (pairUp cmp r).length := by simpa [pairUp] using h
    rw [pairUp, List.getElem?_cons_succ, pairUp_get r i h', bothR, bothR, show 2 * (i + 1) = 2 * i + 1 + 1 by omega]
    simp only [List.length_cons, List.getElem?_cons_succ]
    by_cases e : 2 * i + 1 = r.length
    · rw [if_pos e, if_pos (by omega)]
    · rw [if_neg e, if_neg (by omega)]
/-- Runs merged till one is left. -/
def srtR (l : List (List α)) : List (List α) := if h : 1 < l.length then srtR (pairUp cmp l) else l
termination_by l.length
decreasing_by rw [pairUp_len]; omega
theorem srtR_go {l : List (List α)} (h : 1 < l.length) : srtR cmp l = srtR cmp (pairUp cmp l) := by rw [srtR, dif_pos h]
theorem srtR_end {l : List (List α)} (h : ¬ 1 < l.length) : srtR cmp l = l := by rw [srtR, dif_neg h]
theorem srtR_perm (l : List (List α)) : (srtR cmp l).flatten.Perm l.flatten := by
  by_cases h : 1 < l.length
  · rw [srtR_go cmp h]
    have : (pairUp cmp l).length < l.length := by rw [pairUp_len]; omega
    exact (srtR_perm (pairUp cmp l)).trans (pairUp_perm cmp l)
  · rw [srtR_end cmp h]
termination_by l.length
theorem srtR_len (l : List (List α)) : (srtR cmp l).length ≤ 1 := by
  by_cases h : 1 < l.length
  · rw [srtR_go cmp h]
    have : (pairUp cmp l).length < l.length := by rw [pairUp_len]; omega
    exact srtR_len (pairUp cmp l)
  · rw [srtR_end cmp h]; omega
termination_by l.length
def sortL (l : List α) : List α := ((srtR cmp (l.map fun x => [x]))[0]?).getD []
theorem head_flatS (l : List (List α)) (h : l.length ≤ 1) : (l[0]?).getD [] = l.flatten := by
  match l, h with
  | [], _ => rfl
  | [a], _ => simp
theorem flat_sing (l : List α) : (l.map fun x => [x]).flatten = l := by
  induction l with
  | nil => rfl
  | cons a r ih => rw [List.map_cons, List.flatten_cons, ih]; rfl
theorem sortL_perm (l : List α) : (sortL cmp l).Perm l := by
  rw [sortL, head_flatS _ (srtR_len cmp _)]
  have := srtR_perm cmp (l.map fun x => [x])
  rwa [flat_sing] at this
variable {cmp}
/-! Strictly ordered rows. -/
end
section
variable {α : Type} [DecidableEq α] (cmp : α → α → Int)
variable {cmp}
end
section
variable {α : Type}
/-- Of neighbours that are alike the first one: each held against the one ahead. -/
def compG (q : α → α → Bool) : α → List α → List α
  | _, [] => []
  | p, y :: r => if q y p = true then compG q y r else y :: compG q y r
def compF (q : α → α → Bool) : List α → List α
  | [] => []
  | x :: r => x :: compG q x r
end
end Go.H
/- Rows merged and sorted, step by step. Conditions: as each lemma states. -/
set_option linter.unusedVariables false
set_option linter.unusedSimpArgs false
namespace Go.H
open Go Go.Ab
variable {α : Type} (cmp : α → α → Int)
theorem mrg_y {a b : List α} {i j : Nat} (hi : i < a.length) (hj : j < b.length) (h : cmp b[j] a[i] < 0) : mrg cmp (a.drop i) (b.drop j) = b[j] :: mrg cmp (a.drop i) (b.drop (j + 1)) := by
  rw [List.drop_eq_getElem_cons hi, List.drop_eq_getElem_cons hj, mrg, if_pos h]
theorem mrg_n {a b : List α} {i j : Nat} (hi : i < a.length) (hj : j < b.length) (h : ¬ cmp b[j] a[i] < 0) : mrg cmp (a.drop i) (b.drop j) = a[i] :: mrg cmp (a.drop (i + 1)) (b.drop j) := by
  rw [List.drop_eq_getElem_cons hi, List.drop_eq_getElem_cons hj, mrg, if_neg h]
theorem mrg_over {a b : List α} (h : a = [] ∨ b = []) : mrg cmp a b = a ++ b := by
  rcases h with rfl | rfl
  · simp [mrg]
  · rw [mrg_nil, List.append_nil]
theorem flat_mem {L : List (List α)} {r : List α} (h : r ∈ L) : r.length ≤ L.flatten.length := by
  induction L with
  | nil => cases h
  | cons a L ih =>
    rw [List.flatten_cons, List.length_append]
    rcases List.mem_cons.1 h with rfl | h
    · omega
    · have := ih h; omega
theorem pair_odd {L : List (List α)} {i : Nat} (h : 2 * i + 1 = L.length) : bothR cmp L (2 * i) = L[2 * i]'(by omega) := by
  rw [bothR, if_pos h, List.getElem?_eq_getElem (by omega)]; rfl
theorem pair_two {L : List (List α)} {i : Nat} (h : 2 * i + 1 < L.length) : bothR cmp L (2 * i) = mrg cmp (L[2 * i]'(by omega)) L[2 * i + 1] := by
  rw [bothR, if_neg (by omega), List.getElem?_eq_getElem (by omega), List.getElem?_eq_getElem h]; rfl
theorem pair_take {L : List (List α)} {i : Nat} (h : i < (L.length + 1) / 2) : (pairUp cmp L).take (i + 1) = (pairUp cmp L).take i ++ [bothR cmp L (2 * i)] := by
  have hl : i < (pairUp cmp L).length := by rw [pairUp_len]; exact h
  rw [List.take_succ_eq_append_getElem hl]
  congr 2
  have := pairUp_get cmp L i hl
  rw [List.getElem?_eq_getElem hl] at this
  exact Option.some.inj this
theorem pair_all {L : List (List α)} {i : Nat} (h : i = (L.length + 1) / 2) : (pairUp cmp L).take i = pairUp cmp L := by
  rw [List.take_of_length_le]; rw [pairUp_len]; omega
theorem sort_nil {L : List (List α)} {l : List α} (h : srtR cmp L = srtR cmp (l.map fun a => [a])) (h0 : L.length = 0) : sortL cmp l = [] := by
  rw [sortL, ← h, srtR_end cmp (by omega), List.length_eq_zero_iff.1 h0]; rfl
theorem sort_one {r l : List α} (h : srtR cmp [r] = srtR cmp (l.map fun a => [a])) : sortL cmp l = r := by
  rw [sortL, ← h, srtR_end cmp (by simp)]; rfl
theorem one_flat (l : List α) : (l.map fun a => [a]).flatten = l := by induction l <;> simp_all
end Go.H
/- Who installs the next version: conflicts, their order, the program's and the reference's rows of them. Conditions: as each lemma states. -/
set_option linter.unusedVariables false
set_option linter.unusedSimpArgs false
namespace Go.H
open Go Go.Ab
structure Conf where
  f : Int
  t : Int
  k : Int
  a : Int
  b : Int
  o : Int
  p : Int
  deriving DecidableEq
def confR (c : Conf) : List AV := [iv c.f, iv c.t, iv c.k, iv c.a, iv c.b, iv c.o, iv c.p]
def confsA (l : List Conf) : AV := .list false 7 (l.map confR)
theorem one_conf (l : List Conf) : ∀ r ∈ l.map confR, r.all AV.one = true := by
  intro r hr; obtain ⟨a, _, rfl⟩ := List.mem_map.1 hr; rfl
def fldC (c : Conf) : List Int := [c.f, c.t, c.k, c.a, c.b, c.o, c.p]
def cmpL : List Int → List Int → Int
  | [], [] => 0
  | [], _ :: _ => -1
  | _ :: _, [] => 1
  | x :: a, y :: b => if x < y then -1 else if y < x then 1 else cmpL a b
def cmpC (a b : Conf) : Int := cmpL (fldC a) (fldC b)
theorem cmpL_self : ∀ a : List Int, cmpL a a = 0
  | [] => rfl
  | x :: a => by rw [cmpL, if_neg (by omega), if_neg (by omega), cmpL_self a]
theorem cmpC_self (a : Conf) : cmpC a a = 0 := cmpL_self _
/-! The conflicts of an object. -/
def lastAt (h : Hist) (t x : Int) : Int := atO (finW h.evs t x)
def wwC (h : Hist) (x a b : Int) : Conf := ⟨a, b, 0, lastAt h a x, lastAt h b x, x, 0⟩
def wwN (h : Hist) (x : Int) (l : List Int) (k : Nat) : Conf := wwC h x ((l[k]?).getD 0) ((l[k + 1]?).getD 0)
def wwL (h : Hist) (x : Int) (l : List Int) : List Conf := (List.range (l.length - 1)).map (wwN h x l)
def wwP (h : Hist) (x : Int) : List Conf := wwL h x (insP h x)
def wwRows (h : Hist) : List (List Conf) := (upR h.os.length).map (wwP h)
def sameFT (a b : Conf) : Bool := a.f == b.f && a.t == b.t
def wwAll (h : Hist) : List Conf := compF sameFT (sortL cmpC (wwRows h).flatten)
/-! The reference: conflicts put in their places, object by object. -/
/-- Is one ahead of another, of an object? -/
def aheadP (l : List Int) (f t : Int) : Bool := (l.takeWhile fun z => !(z == t)).contains f && !(f == t) && l.contains t
end Go.H
/- What holds of conflicts outright: chains, parts. Conditions: as each lemma states. -/
set_option linter.unusedVariables false
set_option linter.unusedSimpArgs false
namespace Go.H
open Go Go.Ab
/-! Who is ahead: by places. -/
theorem atI_ge (n : Int) : ∀ (l : List Int) (i : Nat), atI n i l = -1 ∨ (i : Int) ≤ atI n i l
  | [], i => .inl rfl
  | x :: r, i => by
    rw [atI]; split
    · exact .inr (Int.le_refl _)
    · rcases atI_ge n r (i + 1) with h | h
      · exact .inl h
      · exact .inr (by omega)
theorem atI_in (n : Int) : ∀ (l : List Int) (i : Nat), l.contains n = decide (0 ≤ atI n i l)
  | [], i => by simp [atI]
  | x :: r, i => by
    rw [atI, List.contains_cons]
    by_cases h : x = n
    · subst h; rw [if_pos rfl]; simp
    · rw [if_neg h, ← atI_in n r (i + 1)]
      have : (n == x) = false := by rw [beq_eq_false_iff_ne]; exact fun e => h e.symm
      rw [this, Bool.false_or]
theorem ahead_at (f t : Int) : ∀ (l : List Int) (i : Nat), aheadP l f t = (decide (atI f i l ≥ 0) && decide (atI t i l > atI f i l))
  | [], i => by simp [aheadP, atI]
  | x :: r, i => by
    have ih := ahead_at f t r (i + 1)
    by_cases ht : x = t
    · subst ht
      have e1 : aheadP (x :: r) f x = false := by rw [aheadP, List.takeWhile_cons]; simp
      rw [e1, atI, atI, if_pos rfl]
      by_cases hf : x = f
      · rw [if_pos hf]; simp
      · rw [if_neg hf]
        rcases atI_ge f r (i + 1) with h | h
        · rw [h]; rfl
        · rw [decide_eq_false (show ¬ (i : Int) > atI f (i + 1) r by omega), Bool.and_false]
    · have e0 : ((x :: r).takeWhile fun z => !(z == t)) = x :: r.takeWhile fun z => !(z == t) := by
        rw [List.takeWhile_cons, if_pos (by simpa using ht)]
      have e2 : (x :: r).contains t = r.contains t := by
        rw [List.contains_cons]
        have : (t == x) = false := by rw [beq_eq_false_iff_ne]; exact fun e => ht e.symm
        rw [this, Bool.false_or]
      by_cases hf : x = f
      · subst hf
        have e1 : aheadP (x :: r) x t = r.contains t := by
          rw [aheadP, e0, e2, List.contains_cons]
          have : (x == t) = false := by simpa using ht
          rw [this]; simp
        rw [e1, atI, atI, if_pos rfl, if_neg ht, decide_eq_true (show (i : Int) ≥ 0 by omega), Bool.true_and, atI_in t r (i + 1)]
        rcases atI_ge t r (i + 1) with h | h
        · rw [h]; rw [decide_eq_false (by omega), decide_eq_false (by omega)]
        · rw [decide_eq_true (by omega), decide_eq_true (by omega)]
      · have e1 : aheadP (x :: r) f t = aheadP r f t := by
          rw [aheadP, e0, e2, List.contains_cons, aheadP]
          have : (f == x) = false := by rw [beq_eq_false_iff_ne]; exact fun e => hf e.symm
          rw [this, Bool.false_or]
        rw [e1, ih, atI, atI, if_neg hf, if_neg ht]
def chainP (h : Hist) (f t : Int) : List Int := (upR h.os.length).filter fun x => aheadP (insP h x) f t
theorem chain_srt (h : Hist) (f t : Int) : (chainP h f t).Pairwise (· ≤ ·) := ((upR_lt _).filter _).imp fun h => Int.le_of_lt h
theorem chain_mem {h : Hist} {f t x : Int} : x ∈ chainP h f t ↔ (0 ≤ x ∧ x < h.os.length) ∧ aheadP (insP h x) f t = true := by
  rw [chainP, List.mem_filter, upR_mem]
theorem ahead_ne {l : List Int} {f t : Int} (h : aheadP l f t = true) : f ≠ t := by
  rw [ahead_at f t l 0, Bool.and_eq_true, decide_eq_true_eq, decide_eq_true_eq] at h
  rintro rfl; omega
theorem ahead_no {l : List Int} {f t : Int} (h : aheadP l f t = true) : aheadP l t f = false := by
  rw [ahead_at f t l 0, Bool.and_eq_true, decide_eq_true_eq, decide_eq_true_eq] at h
  rw [ahead_at t f l 0, decide_eq_false (show ¬ atI f 0 l > atI t 0 l by omega), Bool.and_false]
theorem atI_get {n : Int} : ∀ {l : List Int} {i : Nat}, 0 ≤ atI n i l → ∃ k, ∃ hk : k < l.length, atI n i l = ((i + k : Nat) : Int) ∧ l[k] = n
  | [], i, h => by simp [atI] at h
  | x :: r, i, h => by
    rw [atI] at h ⊢
    by_cases e : x = n
    · rw [if_pos e]; exact ⟨0, by simp, by rfl, e⟩
    · rw [if_neg e] at h ⊢
      obtain ⟨k, hk, h1, h2⟩ := atI_get h
      exact ⟨k + 1, by simpa using hk, by rw [h1]; congr 1; omega, by simpa using h2⟩
theorem ahead_get {l : List Int} {f t : Int} (h : aheadP l f t = true) : ∃ i j, ∃ hi : i < l.length, ∃ hj : j < l.length, i < j ∧ l[i] = f ∧ l[j] = t := by
  rw [ahead_at f t l 0, Bool.and_eq_true, decide_eq_true_eq, decide_eq_true_eq] at h
  obtain ⟨i, hi, e1, e2⟩ := atI_get h.1
  obtain ⟨j, hj, e3, e4⟩ := atI_get (n := t) (l := l) (i := 0) (by omega)
  exact ⟨i, j, hi, hj, by omega, e2, e4⟩
/-! WwChains: along the conflicts of an object. -/
def walkC (l : List Int) (i j k : Nat) : Int := if k ≤ i then (l[i]?).getD 0 else (l[min k j]?).getD 0
theorem walk_0 {l : List Int} {i j : Nat} (hi : i < l.length) : walkC l i j 0 = l[i] := by rw [walkC, if_pos (Nat.zero_le _), List.getElem?_eq_getElem hi]; rfl
theorem walk_end {l : List Int} {i j : Nat} (hj : j < l.length) (hij : i < j) : walkC l i j (l.length - 1) = l[j] := by
  rw [walkC, if_neg (by omega), Nat.min_eq_right (by omega), List.getElem?_eq_getElem hj]; rfl
theorem walk_y {l : List Int} (hn : l.Nodup) {i j k : Nat} (hj : j < l.length) (hij : i < j) (hk : k + 1 < l.length) (h1 : l[k] = walkC l i j k) (h2 : walkC l i j k ≠ l[j]) : walkC l i j (k + 1) = l[k + 1] := by
  have hinj : ∀ a b, (ha : a < l.length) → (hb : b < l.length) → l[a] = l[b] → a = b := fun a b ha hb e => (List.getElem_inj hn).1 e
  rw [walkC] at h1 h2
  split at h1
  · rename_i hki
    rw [List.getElem?_eq_getElem (by omega)] at h1
    have := hinj k i (by omega) (by omega) h1
    subst this
    rw [walkC, if_neg (by omega), Nat.min_eq_left (by omega), List.getElem?_eq_getElem hk]; rfl
  · rename_i hki
    rw [if_neg hki, List.getElem?_eq_getElem (by omega)] at h2
    rw [List.getElem?_eq_getElem (by omega)] at h1
    have := hinj k (min k j) (by omega) (by omega) h1
    have hkj : k ≠ j := fun e => h2 (by simp only [Option.getD_some]; congr 1; omega)
    rw [walkC, if_neg (by omega), Nat.min_eq_left (by omega), List.getElem?_eq_getElem hk]; rfl
theorem walk_n {l : List Int} {i j k : Nat} (hj : j < l.length) (hij : i < j) (hk : k + 1 < l.length) (h : l[k] ≠ walkC l i j k ∨ walkC l i j k = l[j]) (hn : l.Nodup) : walkC l i j (k + 1) = walkC l i j k := by
  have hinj : ∀ a b, (ha : a < l.length) → (hb : b < l.length) → l[a] = l[b] → a = b := fun a b ha hb e => (List.getElem_inj hn).1 e
  by_cases hki : k ≤ i
  · have e0 : walkC l i j k = l[i] := by rw [walkC, if_pos hki, List.getElem?_eq_getElem (by omega)]; rfl
    rw [e0] at h ⊢
    rcases h with h | h
    · have : k ≠ i := fun e => h (by subst e; rfl)
      rw [walkC, if_pos (by omega), List.getElem?_eq_getElem (by omega)]; rfl
    · have := hinj i j (by omega) hj h; omega
  · have e0 : walkC l i j k = l[min k j]'(by omega) := by rw [walkC, if_neg hki, List.getElem?_eq_getElem (by omega)]; rfl
    rw [e0] at h ⊢
    have hkj : j ≤ k := by
      rcases h with h | h
      · apply Classical.byContradiction
        intro q
        apply h; congr 1; omega
      · have := hinj _ _ (by omega) hj h; omega
    rw [walkC, if_neg (by omega), List.getElem?_eq_getElem (by omega)]
    simp only [Option.getD_some]; congr 1; omega
/-! WwParts. -/
end Go.H
/- The history that law 18 wakes with: plain facts. Conditions: as each lemma states. -/
set_option linter.unusedVariables false
set_option linter.unusedSimpArgs false
namespace Go.H
open Go Go.Ab
def evBg (t : Int) : Ev := ⟨1, t, 0, 1, 0, ⟨0, 0⟩, 0, []⟩
def evWr (t o : Int) : Ev := ⟨2, t, 0, 0, o, ⟨t, 1⟩, 0, []⟩
def evCm (t : Int) : Ev := ⟨5, t, 0, 0, 0, ⟨0, 0⟩, 0, []⟩
def smE : Nat → List Ev
  | 0 => []
  | k + 1 => smE k ++ [evBg k, evWr k 0] ++ (if k = 1 then [] else [evWr k 1]) ++ [evCm k]
theorem smE_1 {k : Nat} (h : k = 1) : smE (k + 1) = smE k ++ [evBg k, evWr k 0] ++ [evCm k] := by rw [smE, if_pos h, List.append_nil]
theorem smE_n {k : Nat} (h : k ≠ 1) : smE (k + 1) = smE k ++ [evBg k, evWr k 0] ++ [evWr k 1] ++ [evCm k] := by rw [smE, if_neg h]
theorem smE_len (k : Nat) : (smE k).length ≤ 4 * k := by
  induction k with
  | zero => exact Nat.le_refl _
  | succ k ih =>
    by_cases h : k = 1
    · rw [smE_1 h]; simp only [List.length_append, List.length_cons, List.length_nil]; omega
    · rw [smE_n h]; simp only [List.length_append, List.length_cons, List.length_nil]; omega
def wT (n : UInt8) : ByteArray := ⟨#[84, n]⟩
def bsmall : ByteArray := ⟨#[115]⟩
def bxx : ByteArray := ⟨#[120]⟩
def byy : ByteArray := ⟨#[121]⟩
def wwH : Hist := ⟨[wT 48, wT 49, wT 50], [bsmall], [bxx, byy], [], smE 3, [⟨0, [1, 0, 2]⟩, ⟨1, [2, 0]⟩], [], []⟩
theorem ww_may : mayB wwH = true := by decide +kernel
theorem ww_sound : soundB wwH = true := by
  have : firstH wwH = none := (first_eq ww_may).trans (by decide +kernel)
  rw [soundB, ww_may, this]; rfl
theorem ww_check : checkI wwH = 0 := checkI_0.2 ww_sound
theorem ww_allS : wwAll wwH = [⟨0, 2, 0, 1, 8, 0, 0⟩, ⟨1, 0, 0, 5, 1, 0, 0⟩, ⟨2, 0, 0, 9, 2, 1, 0⟩] := by decide +kernel
theorem ww_ch20 : chainP wwH 2 0 = [1] := by decide +kernel
theorem ww_ch21 : chainP wwH 2 1 = [] := by decide +kernel
end Go.H
