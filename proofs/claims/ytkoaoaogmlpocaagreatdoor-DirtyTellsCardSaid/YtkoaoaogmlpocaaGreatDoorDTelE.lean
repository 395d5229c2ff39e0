/- The abstract logic, part 28: slices.Sort and slices.Compact at []int, as contracts over a row of one's own (the kit's shelf has walked them). Conditions: none (lemmas over any program that has the functions). -/
import Derived.Test.YtkoaoaogmlpocaaGreatDoorDTelD
import Derived.Shelf.Sort.Plain
import Derived.Shelf.Slices.In.SortNone
import Derived.Shelf.Slices.CompactI
set_option linter.unusedSectionVars false
set_option linter.unusedSimpArgs false
set_option linter.unusedVariables false
set_option linter.unusedVariables false
namespace Go.Ab
open Go Go.Shelf Go.Sort Go.Proofs
def numR (n : Int) : List AV := [.v (.int .i64 n)]
/-- A row of numbers written over, and blocks made beside it. -/
theorem row_over {X : Nat → Prop} {w : World} {a : Addr} {cap : Nat} {T : TypeId} {xs ys zs : List Int} (hh : HRel X w [.row (.slice (some a) xs.length cap) 1 T (xs.map numR)]) (hl : ys.length = xs.length) (hz : zs = ys.take zs.length) (n : Nat) (os : Array Obj) :
    HRel X (grow (putRow (Value.int .i64) (Sort.ahead w n) a.block a.off ys.toArray) os) [.row (.slice (some a) zs.length cap) 1 T (zs.map numR)] ∧
    Keep [a.block] w [a.block] (grow (putRow (Value.int .i64) (Sort.ahead w n) a.block a.off ys.toArray) os) := by
  obtain ⟨h1, h2, h3, h4, c, h5, h6, h7⟩ := hh.holds _ (List.mem_singleton.2 rfl)
  have hb : a.block < w.heap.size := (hh.lt a.block (by simp [owns, Res.own])).1
  have hX : ¬ X a.block := (hh.lt a.block (by simp [owns, Res.own])).2
  obtain ⟨w', hw'⟩ : ∃ w', w' = grow (putRow (Value.int .i64) (Sort.ahead w n) a.block a.off ys.toArray) os := ⟨_, rfl⟩
  rw [← hw']
  have hheap : w'.heap = (w.heap.modify a.block (onCells (putCells (Value.int .i64) a.off ys.toArray))) ++ os := by rw [hw']; rfl
  have hos : w'.os = w.os ∧ w'.output = w.output := by rw [hw']; exact ⟨rfl, rfl⟩
  have hsize : w.heap.size ≤ w'.heap.size := by rw [hheap]; simp
  have hold : ∀ b, b < w.heap.size → b ≠ a.block → w'.heap[b]? = w.heap[b]? := fun b hb hne => by
    rw [hheap, Array.getElem?_append_left (by simpa using hb), Array.getElem?_modify, if_neg (Ne.symm hne)]
  have hnew : w'.heap[a.block]? = some (.cells (putCells (Value.int .i64) a.off ys.toArray c) T (0, 0)) := by
    rw [hheap, Array.getElem?_append_left (by simpa using hb), Array.getElem?_modify, if_pos rfl, h5]; rfl
  have hlen : zs.length ≤ ys.length := by
    have := congrArg List.length hz
    rw [List.length_take] at this; omega
  refine ⟨⟨by simp [owns, Res.own], fun b hb2 => ?_, fun b hb2 => Nat.lt_of_lt_of_le (hh.xlt b hb2) hsize, fun r hr => ?_⟩, ⟨hsize, fun b hb2 hne => ?_, hos⟩⟩
  · have : b = a.block := by simpa [owns, Res.own] using hb2
    subst this; exact ⟨Nat.lt_of_lt_of_le hb hsize, hX⟩
  · rw [List.mem_singleton] at hr
    subst hr
    refine ⟨h1, by simp, by simp at h2 h3; omega, fun i hi => by simp [numR], _, hnew, by simpa [putCells] using h6, fun i hi j hj => ?_⟩
    have hi2 : i < zs.length := by simpa using hi
    have hj0 : j = 0 := by simp [numR] at hj; omega
    subst hj0
    have hc : a.off + i < c.size := by simp at h2 h3; omega
    refine ⟨.int .i64 (zs[i]), ?_, ?_⟩
    · have hz2 : zs[i] = ys[i]'(by omega) := by
        have : zs[i]? = (ys.take zs.length)[i]? := by rw [← hz]
        rw [List.getElem?_take_of_lt hi2, List.getElem?_eq_getElem hi2, List.getElem?_eq_getElem (by omega)] at this
        exact Option.some.inj this
      have e : a.off + i * 1 + 0 = a.off + i := by omega
      rw [e]
      simp only [putCells, Array.getElem?_mapIdx]
      rw [Array.getElem?_eq_getElem hc]
      simp only [Option.map_some]
      rw [if_pos ⟨by omega, by simp; omega⟩, hz2]
      have e2 : a.off + i - a.off = i := by omega
      rw [e2]
      congr 2
      exact getElem!_pos _ _ (by simp; omega)
    · simp only [List.getElem_map, numR]
      exact .v _
  · have hne2 : b ≠ a.block := by simpa using hne
    exact ⟨hold b hb2 hne2, hne⟩
theorem row_nums {X : Nat → Prop} {w : World} {a : Addr} {cap : Nat} {T : TypeId} {xs : List Int} (hh : HRel X w [.row (.slice (some a) xs.length cap) 1 T (xs.map numR)]) : Holds (Value.int .i64) w a.block a.off xs.toArray ∧ a.block < w.heap.size ∧ xs.length ≤ cap ∧ a.spot = none := by
  obtain ⟨h1, h2, h3, h4, c, h5, h6, h7⟩ := hh.holds _ (List.mem_singleton.2 rfl)
  refine ⟨fun j hj => ?_, (hh.lt a.block (by simp [owns, Res.own])).1, h3, h1⟩
  have hj2 : j < xs.length := by simpa using hj
  obtain ⟨v, e, r⟩ := h7 j (by simpa using hj2) 0 (by simp [numR])
  simp only [List.getElem_map, numR] at r
  have hv : v = .int .i64 xs[j] := r.v_eq
  subst hv
  have e0 : a.off + j * 1 + 0 = a.off + j := by omega
  rw [e0] at e
  refine ⟨?_, ?_⟩
  · have e2 : w.cell? ⟨a.block, a.off + j, none⟩ = some (.int .i64 xs[j]) := by simp [World.cell?, h5, e]
    have e3 : xs.toArray[j]! = xs[j] := getElem!_pos xs.toArray j hj
    rw [e2, e3]
  · simp [World.frozen?, h5]
theorem row_nil {X : Nat → Prop} {w : World} {n cap : Nat} {T : TypeId} {xs : List Int} (hh : HRel X w [.row (.slice none n cap) 1 T (xs.map numR)]) : xs = [] ∧ n = 0 ∧ cap = 0 := by
  obtain ⟨h1, h2, h3⟩ := hh.holds _ (List.mem_singleton.2 rfl)
  exact ⟨by simpa using h1, h2, h3⟩
section
variable {P : Program} {ρ : Ren}
theorem acall_sort (Ly : Lays.n189 P ρ) (s : SV) (T : TypeId) (xs : List Int) (hs : xs.length < 4611686018427387904) :
    ACall P (ρ.f 189) [.v s.v] [.row s.v 1 T (xs.map numR)] (fun r h' => h' = [.row s.v 1 T ((xs.mergeSort fun x y => decide (x ≤ y)).map numR)] ∧ r = .v (.tuple #[])) := by
  intro X w vs hh ha
  match vs, ha with
  | [v], ⟨hv, _⟩ =>
    obtain rfl := hv.v_eq
    obtain ⟨a, n, cap⟩ := s
    cases a with
    | none =>
      obtain ⟨rfl, rfl, rfl⟩ := row_nil hh
      refine callsIn_wide.2 ((Any.slices_Sort_int_none Ly none 0 w).mono ?_)
      rintro e w' ⟨rfl, rfl⟩
      exact ⟨_, _, _, rfl, ⟨rfl, rfl⟩, .v _, by simpa using hh, .refl _ _⟩
    | some a =>
      have hn : n = xs.length := by
        have := (hh.holds _ (List.mem_singleton.2 rfl)).2.1
        simpa using this
      subst hn
      obtain ⟨g1, g2, g3, g4⟩ := row_nums hh
      obtain ⟨b, off, sp⟩ := a
      simp only at g1 g2 g4
      subst g4
      refine callsIn_wide.2 ((Any.slices_Sort_int Ly b off cap xs w g1 g2 hs).mono ?_)
      rintro e w' ⟨rfl, n, os, rfl⟩
      have hlen : (xs.mergeSort fun x y => decide (x ≤ y)).length = xs.length := List.length_mergeSort _
      obtain ⟨k1, k2⟩ := row_over (zs := xs.mergeSort fun x y => decide (x ≤ y)) hh hlen (List.take_length).symm n os
      rw [hlen] at k1
      exact ⟨_, _, _, rfl, ⟨rfl, rfl⟩, .v _, k1, k2⟩
theorem acall_compact (Ly : Lays2.n20 P ρ) (s : SV) (T : TypeId) (xs : List Int) (hs : xs.length ≤ 4611686018427387904) :
    ACall P (ρ.f 20) [.v s.v] [.row s.v 1 T (xs.map numR)] (fun r h' => ∃ s' : SV, h' = [.row s'.v 1 T ((Lib.compact xs).map numR)] ∧ r = .v s'.v) := by
  intro X w vs hh ha
  match vs, ha with
  | [v], ⟨hv, _⟩ =>
    obtain rfl := hv.v_eq
    obtain ⟨a, n, cap⟩ := s
    cases a with
    | none =>
      obtain ⟨rfl, rfl, rfl⟩ := row_nil hh
      refine callsIn_wide.2 ((Any.slices_Compact_int_empty Ly none 0 w).mono ?_)
      rintro e w' ⟨rfl, rfl⟩
      exact ⟨_, _, _, rfl, ⟨⟨none, 0, 0⟩, rfl, rfl⟩, .v _, hh, .refl _ _⟩
    | some a =>
      have hn : n = xs.length := by
        have := (hh.holds _ (List.mem_singleton.2 rfl)).2.1
        simpa using this
      subst hn
      obtain ⟨g1, g2, g3, g4⟩ := row_nums hh
      obtain ⟨b, off, sp⟩ := a
      simp only at g1 g2 g4
      subst g4
      refine callsIn_wide.2 ((Any.slices_Compact_int Ly b off cap xs w g1 (by omega) g3).mono ?_)
      rintro e w' ⟨rfl, q, rfl⟩
      have hle : (Lib.compact xs).length ≤ xs.length := by
        unfold Lib.compact Lib.compactUpTo
        rw [List.length_map]
        exact Nat.le_trans (List.length_filter_le _ _) (by simp)
      obtain ⟨k1, k2⟩ := row_over (ys := Lib.compact xs ++ List.replicate (xs.length - (Lib.compact xs).length) 0) (zs := Lib.compact xs) hh (by simp; omega) (by rw [List.take_left']; rfl) q #[]
      rw [grow_empty] at k1 k2
      exact ⟨_, _, _, rfl, ⟨⟨some ⟨b, off, none⟩, (Lib.compact xs).length, cap⟩, rfl, rfl⟩, .v _, k1, k2⟩
end
end Go.Ab
/- Who has committed, writers; a row compacted. Conditions: as each lemma states. -/
set_option linter.unusedVariables false
namespace Go.H
open Go Go.Ab
theorem cmpct_snoc (y : Int) : ∀ l : List Int, cmpct (l ++ [y]) = cmpct l ++ (if l.getLast? = some y then [] else [y])
  | [] => by simp [cmpct]
  | [x] => by
    by_cases h : x = y
    · subst h; simp [cmpct]
    · simp [cmpct, h]
  | x :: z :: r => by
    have ih := cmpct_snoc y (z :: r)
    simp only [List.cons_append] at ih ⊢
    have hl : (x :: z :: r).getLast? = (z :: r).getLast? := by simp [List.getLast?_cons]
    rw [hl, cmpct, cmpct]
    by_cases h : x = z
    · rw [if_pos h, if_pos h]; exact ih
    · rw [if_neg h, if_neg h, ih]; rfl
theorem compact_eq (xs : List Int) : Lib.compact xs = cmpct xs := by
  have key : ∀ m, m ≤ xs.length → Lib.compactUpTo xs.toArray m = cmpct (xs.take m) := by
    intro m
    induction m with
    | zero => intro _; rfl
    | succ m ih =>
      intro hm
      have hlt : m < xs.length := hm
      rw [Lib.compactUpTo_succ, ih (by omega), List.take_succ_eq_append_getElem hlt, cmpct_snoc]
      congr 1
      have e1 : xs.toArray[m]! = xs[m] := by simp [hlt]
      by_cases h0 : m = 0
      · subst h0
        simp [Lib.keeps, hlt]
      · have hlt' : m - 1 < xs.length := by omega
        have e2 : xs.toArray[m - 1]! = xs[m - 1] := by simp [hlt']
        have e3 : (xs.take m).getLast? = some xs[m - 1] := by
          rw [List.getLast?_eq_getElem?, List.length_take, Nat.min_eq_left (by omega), List.getElem?_take_of_lt (by omega)]
          simp [hlt']
        rw [e3]
        unfold Lib.keeps
        rw [e1, e2]
        by_cases he : xs[m] = xs[m - 1]
        · rw [if_neg (by simp [h0, he]), if_pos (by rw [he])]
        · rw [if_pos (by simp [he]), if_neg (fun q => he (Option.some.inj q).symm)]
  have := key xs.length (Nat.le_refl _)
  rw [List.take_length] at this
  exact this
/-- Who has committed among events. -/
def donT (l : List Ev) : List (Int × Bool) := l.foldl (fun m e => putT e.t ((getT e.t m).getD false || e.kind == 5) m) []
theorem donT_go (t : Int) : ∀ (l : List Ev) (m : List (Int × Bool)), (getT t (l.foldl (fun m e => putT e.t ((getT e.t m).getD false || e.kind == 5) m) m)).getD false = ((getT t m).getD false || l.any fun y => y.t == t && y.kind == 5)
  | [], m => by simp
  | e :: l, m => by
    rw [List.foldl_cons, donT_go t l, List.any_cons, get_put]
    by_cases h : e.t = t
    · subst h; simp [Bool.or_assoc]
    · have : (e.t == t) = false := by simpa using h
      rw [if_neg h, this, Bool.false_and, Bool.false_or]
theorem donT_get (l : List Ev) (t : Int) : (getT t (donT l)).getD false = l.any fun y => y.t == t && y.kind == 5 := by
  rw [donT, donT_go]; simp [getT]
theorem donT_next {l : List Ev} {k : Nat} (hk : k < l.length) : donT (l.take (k + 1)) = putT l[k].t ((getT l[k].t (donT (l.take k))).getD false || l[k].kind == 5) (donT (l.take k)) := by
  rw [List.take_succ_eq_append_getElem hk, donT, List.foldl_append]; rfl
section
variable {α : Type} {l : List α} {k : Nat} {p : α → Bool}
theorem flt_t (hk : k < l.length) (h : p l[k] = true) : (l.take (k + 1)).filter p = (l.take k).filter p ++ [l[k]] := by
  rw [List.take_succ_eq_append_getElem hk, List.filter_append]; simp [h]
theorem flt_f (hk : k < l.length) (h : p l[k] = false) : (l.take (k + 1)).filter p = (l.take k).filter p := by
  rw [List.take_succ_eq_append_getElem hk, List.filter_append]; simp [h]
theorem flt_le : ((l.take k).filter p).length ≤ l.length := Nat.le_trans (List.length_filter_le _ _) (by simp; omega)
end
def wrB (l : List Ev) (x : Int) (e : Ev) : Bool := e.kind == 2 && e.o == x && l.any fun y => y.t == e.t && y.kind == 5
theorem writersP_eq (l : List Ev) (x : Int) : writersP l x = cmpct (srt ((l.filter (wrB l x)).map Ev.t)) := rfl
theorem contains_any (l : List Int) (n : Int) : (l.any fun a => a == n) = l.contains n := by
  rw [Bool.eq_iff_iff]; simp
theorem writers_le (l : List Ev) (x : Int) : (writersP l x).length ≤ l.length := by
  rw [writersP_eq]
  refine Nat.le_trans (cmpct_len _) ?_
  rw [(srt_perm _).length_eq, List.length_map]
  exact List.length_filter_le _ _
theorem len_bne (a b : Nat) : ((a : Int) != (b : Int)) = !decide (a = b) := by
  rw [Bool.eq_iff_iff]; simp; omega
theorem FCall.new {P : Program} {fv : AV} {args : List AV} {h : List Res} {R : AV → List Res → Prop} (hc : FCall P fv args [] R) : FCall P fv args h (fun r h' => ∃ h1, R r h1 ∧ h' = h1 ++ h) :=
  (hc.frame h).mono fun _ _ ⟨h1, e, q⟩ => ⟨h1, q, e⟩
end Go.H
/- What is asked of the index, as answers. Conditions: as each lemma states. -/
set_option linter.unusedVariables false
namespace Go.H
open Go Go.Ab
def askE (h : Hist) (n many : Int) : Int := if checkI h = 0 then (if 0 ≤ n ∧ n < many then 0 else 2) else checkI h
def onE (e : Int) (l : List Int) : List Int := if e = 0 then l else []
theorem ask_0 {h : Hist} {n many : Int} (he : askE h n many = 0) : soundB h = true ∧ 0 ≤ n ∧ n < many := by
  unfold askE at he
  split at he
  · rename_i hc
    split at he
    · rename_i hn; exact ⟨checkI_0.1 hc, hn⟩
    · cases he
  · rename_i hc; exact absurd he hc
theorem ask_c {h : Hist} {n many : Int} (hc : checkI h ≠ 0) : askE h n many = checkI h := by rw [askE, if_neg hc]
theorem ask_a {h : Hist} {n many : Int} (hc : checkI h = 0) (hn : ¬ (0 ≤ n ∧ n < many)) : askE h n many = 2 := by rw [askE, if_pos hc, if_neg hn]
theorem ask_y {h : Hist} {n many : Int} (hc : checkI h = 0) (hn : 0 ≤ n ∧ n < many) : askE h n many = 0 := by rw [askE, if_pos hc, if_pos hn]
theorem ask_01 (h : Hist) : askE h 0 1 = checkI h := by
  unfold askE; split
  · rename_i h0; rw [h0]; rfl
  · rfl
end Go.H
/- The law's small history of layer 16, and what the index says of it. Conditions: none. -/
set_option linter.unusedVariables false
namespace Go.H
open Go Go.Ab
end Go.H
/- What is dirty, of a history at levels: as a plain function, and what holds of it. Conditions: as each lemma states. -/
set_option linter.unusedVariables false
set_option linter.unusedSimpArgs false
namespace Go.H
open Go Go.Ab
structure Dirt where
  kind : Int
  ev : Int
  o : Int
  v : Ver
  deriving DecidableEq
def dirR (d : Dirt) : List AV := [iv d.kind, iv d.ev, iv d.o, iv d.v.t, iv d.v.k]
def dirsA (l : List Dirt) : AV := .list false 5 (l.map dirR)
theorem one_dir (l : List Dirt) : ∀ r ∈ l.map dirR, r.all AV.one = true := by
  intro r hr; obtain ⟨a, _, rfl⟩ := List.mem_map.1 hr; rfl
def levsB (a : List Int) : Bool := a.all fun x => levB x == 0
def dirC (h : Hist) (a : List Int) : Int := if checkI h = 0 then (if levsB a = true then (if a.length = h.ts.length then 0 else 2) else 190) else checkI h
def lvAt (a : List Int) (t : Int) : Int := (a[t.toNat]?).getD 0
/-- Is an event one that is asked of? -/
def dirG (h : Hist) (a : List Int) (e : Ev) : Bool := hasB h.evs e.t 5 && decide (2 ≤ lvAt a e.t)
/-- Is what is seen passed over? -/
def dirN (e : Ev) (s : Seen) : Bool := s.v.k == 0 || s.v.t == e.t
def dirA (h : Hist) (s : Seen) : Bool := !hasB h.evs s.v.t 5
def dirB (h : Hist) (s : Seen) : Bool := verO (finW h.evs s.v.t s.o) != s.v
def dirS (h : Hist) (k : Nat) (e : Ev) (s : Seen) : List Dirt := if dirN e s = true then [] else (if dirA h s = true then [⟨1, k, s.o, s.v⟩] else []) ++ (if dirB h s = true then [⟨2, k, s.o, s.v⟩] else [])
def dirE (h : Hist) (a : List Int) (k : Nat) (e : Ev) : List Dirt := if dirG h a e = true then (seenOf e).flatMap (dirS h k e) else []
def dirK (h : Hist) (a : List Int) : Nat → List Dirt
  | 0 => []
  | k + 1 => dirK h a k ++ (match h.evs[k]? with | some e => dirE h a k e | none => [])
def dirL (h : Hist) (a : List Int) : List Dirt := dirK h a h.evs.length
def dirAll (h : Hist) (a : List Int) : List Dirt := if dirC h a = 0 then dirL h a else []
theorem dirK_s {h : Hist} {a : List Int} {k : Nat} (hk : k < h.evs.length) : dirK h a (k + 1) = dirK h a k ++ dirE h a k h.evs[k] := by
  rw [dirK, List.getElem?_eq_getElem hk]
theorem dirC_0 {h : Hist} {a : List Int} : dirC h a = 0 ↔ checkI h = 0 ∧ levsB a = true ∧ a.length = h.ts.length := by
  unfold dirC
  by_cases hc : checkI h = 0
  · rw [if_pos hc]
    by_cases hl : levsB a = true
    · rw [if_pos hl]
      by_cases hn : a.length = h.ts.length
      · rw [if_pos hn]; exact ⟨fun _ => ⟨hc, hl, hn⟩, fun _ => rfl⟩
      · rw [if_neg hn]; exact ⟨fun q => (by cases q), fun q => absurd q.2.2 hn⟩
    · rw [if_neg hl]; exact ⟨fun q => (by cases q), fun q => absurd q.2.1 hl⟩
  · rw [if_neg hc]; exact ⟨fun q => absurd q hc, fun q => absurd q.1 hc⟩
/-! DirtyEvents. -/
/-! DirtyRises. -/
end Go.H
/- The history that law 23 wakes with, and what the laws on dirty reads say of it: plain facts. Conditions: as each lemma states. -/
set_option linter.unusedVariables false
set_option linter.unusedSimpArgs false
namespace Go.H
open Go Go.Ab
def dtT1 : ByteArray := ⟨#[116, 49]⟩
def dtT2 : ByteArray := ⟨#[116, 50]⟩
def dtH : Hist := ⟨[dtT1, dtT2], [bS], [bX], [], [⟨1, 0, 0, 4, 0, ⟨0, 0⟩, 0, []⟩, ⟨2, 0, 0, 0, 0, ⟨0, 1⟩, 0, []⟩, ⟨2, 0, 0, 0, 0, ⟨0, 2⟩, 0, []⟩, ⟨6, 0, 0, 0, 0, ⟨0, 0⟩, 0, []⟩,
  ⟨1, 1, 0, 4, 0, ⟨0, 0⟩, 0, []⟩, ⟨3, 1, 0, 0, 0, ⟨0, 1⟩, 0, []⟩, ⟨5, 1, 0, 0, 0, ⟨0, 0⟩, 0, []⟩], [], [], []⟩
theorem dt_may : mayB dtH = true := by decide +kernel
theorem dt_sound : soundB dtH = true := by
  have : firstH dtH = none := (first_eq dt_may).trans (by decide +kernel)
  rw [soundB, dt_may, this]; rfl
theorem dt_check : checkI dtH = 0 := checkI_0.2 dt_sound
theorem dt_12 : dirC dtH [1, 2] = 0 := dirC_0.2 ⟨dt_check, by decide +kernel, rfl⟩
theorem dt_13 : dirC dtH [1, 3] = 0 := dirC_0.2 ⟨dt_check, by decide +kernel, rfl⟩
theorem dt_41 : dirC dtH [4, 1] = 0 := dirC_0.2 ⟨dt_check, by decide +kernel, rfl⟩
theorem dt_2 : dirC dtH [2] = 2 := by rw [dirC, if_pos dt_check]; decide +kernel
theorem dt_all12 : dirAll dtH [1, 2] = [⟨1, 5, 0, ⟨0, 1⟩⟩, ⟨2, 5, 0, ⟨0, 1⟩⟩] := by rw [dirAll, if_pos dt_12]; decide +kernel
theorem dt_all13 : dirAll dtH [1, 3] = [⟨1, 5, 0, ⟨0, 1⟩⟩, ⟨2, 5, 0, ⟨0, 1⟩⟩] := by rw [dirAll, if_pos dt_13]; decide +kernel
theorem dt_all41 : dirAll dtH [4, 1] = [] := by rw [dirAll, if_pos dt_41]; decide +kernel
theorem dt_all2 : dirAll dtH [2] = [] := by rw [dirAll, if_neg (by rw [dt_2]; decide)]
end Go.H
