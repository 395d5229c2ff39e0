/- The abstract logic, part 28: slices.Sort and slices.Compact at []int, as contracts over a row of one's own (the kit's shelf has walked them). Conditions: none (lemmas over any program that has the functions). -/
import Derived.Test.YtdbfjfphfbcgiaaGreatDoorMRankD
import Derived.Shelf.Sort.Plain
import Derived.Shelf.Slices.In.SortNone
import Derived.Shelf.Slices.CompactI
set_option linter.unusedSectionVars false
set_option linter.unusedSimpArgs false
set_option linter.unusedVariables false
set_option linter.unusedVariables false
namespace Go.Ab
open Go Go.Shelf Go.Sort Go.Proofs
def numR (n : Int) : List AV := [.v (.int .i64 n)]
/-- A row of numbers written over, and blocks made beside it. -/
theorem row_over {X : Nat → Prop} {w : World} {a : Addr} {cap : Nat} {T : TypeId} {xs ys zs : List Int} (hh : HRel X w [.row (.slice (some a) xs.length cap) 1 T (xs.map numR)]) (hl : ys.length = xs.length) (hz : zs = ys.take zs.length) (n : Nat) (os : Array Obj) :
    HRel X (grow (putRow (Value.int .i64) (Sort.ahead w n) a.block a.off ys.toArray) os) [.row (.slice (some a) zs.length cap) 1 T (zs.map numR)] ∧
    Keep [a.block] w [a.block] (grow (putRow (Value.int .i64) (Sort.ahead w n) a.block a.off ys.toArray) os) := by
  obtain ⟨h1, h2, h3, h4, c, h5, h6, h7⟩ := hh.holds _ (List.mem_singleton.2 rfl)
  have hb : a.block < w.heap.size := (hh.lt a.block (by simp [owns, Res.own])).1
  have hX : ¬ X a.block := (hh.lt a.block (by simp [owns, Res.own])).2
  obtain ⟨w', hw'⟩ : ∃ w', w' = grow (putRow (Value.int .i64) (Sort.ahead w n) a.block a.off ys.toArray) os := ⟨_, rfl⟩
  rw [← hw']
  have hheap : w'.heap = (w.heap.modify a.block (onCells (putCells (Value.int .i64) a.off ys.toArray))) ++ os := by rw [hw']; rfl
  have hos : w'.os = w.os ∧ w'.output = w.output := by rw [hw']; exact ⟨rfl, rfl⟩
  have hsize : w.heap.size ≤ w'.heap.size := by rw [hheap]; simp
  have hold : ∀ b, b < w.heap.size → b ≠ a.block → w'.heap[b]? = w.heap[b]? := fun b hb hne => by
    rw [hheap, Array.getElem?_append_left (by simpa using hb), Array.getElem?_modify, if_neg (Ne.symm hne)]
  have hnew : w'.heap[a.block]? = some (.cells (putCells (Value.int .i64) a.off ys.toArray c) T (0, 0)) := by
    rw [hheap, Array.getElem?_append_left (by simpa using hb), Array.getElem?_modify, if_pos rfl, h5]; rfl
  have hlen : zs.length ≤ ys.length := by
    have := congrArg List.length hz
    rw [List.length_take] at this; omega
  refine ⟨⟨by simp [owns, Res.own], fun b hb2 => ?_, fun b hb2 => Nat.lt_of_lt_of_le (hh.xlt b hb2) hsize, fun r hr => ?_⟩, ⟨hsize, fun b hb2 hne => ?_, hos⟩⟩
  · have : b = a.block := by simpa [owns, Res.own] using hb2
    subst this; exact ⟨Nat.lt_of_lt_of_le hb hsize, hX⟩
  · rw [List.mem_singleton] at hr
    subst hr
    refine ⟨h1, by simp, by simp at h2 h3; omega, fun i hi => by simp [numR], _, hnew, by simpa [putCells] using h6, fun i hi j hj => ?_⟩
    have hi2 : i < zs.length := by simpa using hi
    have hj0 : j = 0 := by simp [numR] at hj; omega
    subst hj0
    have hc : a.off + i < c.size := by simp at h2 h3; omega
    refine ⟨.int .i64 (zs[i]), ?_, ?_⟩
    · have hz2 : zs[i] = ys[i]'(by omega) := by
        have : zs[i]? = (ys.take zs.length)[i]? := by rw [← hz]
        rw [List.getElem?_take_of_lt hi2, List.getElem?_eq_getElem hi2, List.getElem?_eq_getElem (by omega)] at this
        exact Option.some.inj this
      have e : a.off + i * 1 + 0 = a.off + i := by omega
      rw [e]
      simp only [putCells, Array.getElem?_mapIdx]
      rw [Array.getElem?_eq_getElem hc]
      simp only [Option.map_some]
      rw [if_pos ⟨by omega, by simp; omega⟩, hz2]
      have e2 : a.off + i - a.off = i := by omega
      rw [e2]
      congr 2
      exact getElem!_pos _ _ (by simp; omega)
    · simp only [List.getElem_map, numR]
      exact .v _
  · have hne2 : b ≠ a.block := by simpa using hne
    exact ⟨hold b hb2 hne2, hne⟩
theorem row_nums {X : Nat → Prop} {w : World} {a : Addr} {cap : Nat} {T : TypeId} {xs : List Int} (hh : HRel X w [.row (.slice (some a) xs.length cap) 1 T (xs.map numR)]) : Holds (Value.int .i64) w a.block a.off xs.toArray ∧ a.block < w.heap.size ∧ xs.length ≤ cap ∧ a.spot = none := by
  obtain ⟨h1, h2, h3, h4, c, h5, h6, h7⟩ := hh.holds _ (List.mem_singleton.2 rfl)
  refine ⟨fun j hj => ?_, (hh.lt a.block (by simp [owns, Res.own])).1, h3, h1⟩
  have hj2 : j < xs.length := by simpa using hj
  obtain ⟨v, e, r⟩ := h7 j (by simpa using hj2) 0 (by simp [numR])
  simp only [List.getElem_map, numR] at r
  have hv : v = .int .i64 xs[j] := r.v_eq
  subst hv
  have e0 : a.off + j * 1 + 0 = a.off + j := by omega
  rw [e0] at e
  refine ⟨?_, ?_⟩
  · have e2 : w.cell? ⟨a.block, a.off + j, none⟩ = some (.int .i64 xs[j]) := by simp [World.cell?, h5, e]
    have e3 : xs.toArray[j]! = xs[j] := getElem!_pos xs.toArray j hj
    rw [e2, e3]
  · simp [World.frozen?, h5]
theorem row_nil {X : Nat → Prop} {w : World} {n cap : Nat} {T : TypeId} {xs : List Int} (hh : HRel X w [.row (.slice none n cap) 1 T (xs.map numR)]) : xs = [] ∧ n = 0 ∧ cap = 0 := by
  obtain ⟨h1, h2, h3⟩ := hh.holds _ (List.mem_singleton.2 rfl)
  exact ⟨by simpa using h1, h2, h3⟩
section
variable {P : Program} {ρ : Ren}
theorem acall_sort (Ly : Lays.n189 P ρ) (s : SV) (T : TypeId) (xs : List Int) (hs : xs.length < 4611686018427387904) :
    ACall P (ρ.f 189) [.v s.v] [.row s.v 1 T (xs.map numR)] (fun r h' => h' = [.row s.v 1 T ((xs.mergeSort fun x y => decide (x ≤ y)).map numR)] ∧ r = .v (.tuple #[])) := by
  intro X w vs hh ha
  match vs, ha with
  | [v], ⟨hv, _⟩ =>
    obtain rfl := hv.v_eq
    obtain ⟨a, n, cap⟩ := s
    cases a with
    | none =>
      obtain ⟨rfl, rfl, rfl⟩ := row_nil hh
      refine callsIn_wide.2 ((Any.slices_Sort_int_none Ly none 0 w).mono ?_)
      rintro e w' ⟨rfl, rfl⟩
      exact ⟨_, _, _, rfl, ⟨rfl, rfl⟩, .v _, by simpa using hh, .refl _ _⟩
    | some a =>
      have hn : n = xs.length := by
        have := (hh.holds _ (List.mem_singleton.2 rfl)).2.1
        simpa using this
      subst hn
      obtain ⟨g1, g2, g3, g4⟩ := row_nums hh
      obtain ⟨b, off, sp⟩ := a
      simp only at g1 g2 g4
      subst g4
      refine callsIn_wide.2 ((Any.slices_Sort_int Ly b off cap xs w g1 g2 hs).mono ?_)
      rintro e w' ⟨rfl, n, os, rfl⟩
      have hlen : (xs.mergeSort fun x y => decide (x ≤ y)).length = xs.length := List.length_mergeSort _
      obtain ⟨k1, k2⟩ := row_over (zs := xs.mergeSort fun x y => decide (x ≤ y)) hh hlen (List.take_length).symm n os
      rw [hlen] at k1
      exact ⟨_, _, _, rfl, ⟨rfl, rfl⟩, .v _, k1, k2⟩
theorem acall_compact (Ly : Lays2.n20 P ρ) (s : SV) (T : TypeId) (xs : List Int) (hs : xs.length ≤ 4611686018427387904) :
    ACall P (ρ.f 20) [.v s.v] [.row s.v 1 T (xs.map numR)] (fun r h' => ∃ s' : SV, h' = [.row s'.v 1 T ((Lib.compact xs).map numR)] ∧ r = .v s'.v) := by
  intro X w vs hh ha
  match vs, ha with
  | [v], ⟨hv, _⟩ =>
    obtain rfl := hv.v_eq
    obtain ⟨a, n, cap⟩ := s
    cases a with
    | none =>
      obtain ⟨rfl, rfl, rfl⟩ := row_nil hh
      refine callsIn_wide.2 ((Any.slices_Compact_int_empty Ly none 0 w).mono ?_)
      rintro e w' ⟨rfl, rfl⟩
      exact ⟨_, _, _, rfl, ⟨⟨none, 0, 0⟩, rfl, rfl⟩, .v _, hh, .refl _ _⟩
    | some a =>
      have hn : n = xs.length := by
        have := (hh.holds _ (List.mem_singleton.2 rfl)).2.1
        simpa using this
      subst hn
      obtain ⟨g1, g2, g3, g4⟩ := row_nums hh
      obtain ⟨b, off, sp⟩ := a
      simp only at g1 g2 g4
      subst g4
      refine callsIn_wide.2 ((Any.slices_Compact_int Ly b off cap xs w g1 (by omega) g3).mono ?_)
      rintro e w' ⟨rfl, q, rfl⟩
      have hle : (Lib.compact xs).length ≤ xs.length := by
        unfold Lib.compact Lib.compactUpTo
        rw [List.length_map]
        exact Nat.le_trans (List.length_filter_le _ _) (by simp)
      obtain ⟨k1, k2⟩ := row_over (ys := Lib.compact xs ++ List.replicate (xs.length - (Lib.compact xs).length) 0) (zs := Lib.compact xs) hh (by simp; omega) (by rw [List.take_left']; rfl) q #[]
      rw [grow_empty] at k1 k2
      exact ⟨_, _, _, rfl, ⟨⟨some ⟨b, off, none⟩, (Lib.compact xs).length, cap⟩, rfl, rfl⟩, .v _, k1, k2⟩
end
end Go.Ab
/- Who has committed, writers; a row compacted. Conditions: as each lemma states. -/
set_option linter.unusedVariables false
namespace Go.H
open Go Go.Ab
theorem cmpct_snoc (y : Int) : ∀ l : List Int, cmpct (l ++ [y]) = cmpct l ++ (if l.getLast? = some y then [] else [y])
  | [] => by simp [cmpct]
  | [x] => by
    by_cases h : x = y
    · subst h; simp [cmpct]
    · simp [cmpct, h]
  | x :: z :: r => by
    have ih := cmpct_snoc y (z :: r)
    simp only [List.cons_append] at ih ⊢
    have hl : (x :: z :: r).getLast? = (z :: r).getLast? := by simp [List.getLast?_cons]
    rw [hl, cmpct, cmpct]
    by_cases h : x = z
    · rw [if_pos h, if_pos h]; exact ih
    · rw [if_neg h, if_neg h, ih]; rfl
theorem compact_eq (xs : List Int) : Lib.compact xs = cmpct xs := by
  have key : ∀ m, m ≤ xs.length → Lib.compactUpTo xs.toArray m = cmpct (xs.take m) := by
    intro m
    induction m with
    | zero => intro _; rfl
    | succ m ih =>
      intro hm
      have hlt : m < xs.length := hm
      rw [Lib.compactUpTo_succ, ih (by omega), List.take_succ_eq_append_getElem hlt, cmpct_snoc]
      congr 1
      have e1 : xs.toArray[m]! = xs[m] := by simp [hlt]
      by_cases h0 : m = 0
      · subst h0
        simp [Lib.keeps, hlt]
      · have hlt' : m - 1 < xs.length := by omega
        have e2 : xs.toArray[m - 1]! = xs[m - 1] := by simp [hlt']
        have e3 : (xs.take m).getLast? = some xs[m - 1] := by
          rw [List.getLast?_eq_getElem?, List.length_take, Nat.min_eq_left (by omega), List.getElem?_take_of_lt (by omega)]
          simp [hlt']
        rw [e3]
        unfold Lib.keeps
        rw [e1, e2]
        by_cases he : xs[m] = xs[m - 1]
        · rw [if_neg (by simp [h0, he]), if_pos (by rw [he])]
        · rw [if_pos (by simp [he]), if_neg (fun q => he (Option.some.inj q).symm)]
  have := key xs.length (Nat.le_refl _)
  rw [List.take_length] at this
  exact this
/-- Who has committed among events. -/
def donT (l : List Ev) : List (Int × Bool) := l.foldl (fun m e => putT e.t ((getT e.t m).getD false || e.kind == 5) m) []
theorem donT_go (t : Int) : ∀ (l : List Ev) (m : List (Int × Bool)), (getT t (l.foldl (fun m e => putT e.t ((getT e.t m).getD false || e.kind == 5) m) m)).getD false = ((getT t m).getD false || l.any fun y => y.t == t && y.kind == 5)
  | [], m => by simp
  | e :: l, m => by
    rw [List.foldl_cons, donT_go t l, List.any_cons, get_put]
    by_cases h : e.t = t
    · subst h; simp [Bool.or_assoc]
    · have : (e.t == t) = false := by simpa using h
      rw [if_neg h, this, Bool.false_and, Bool.false_or]
theorem donT_get (l : List Ev) (t : Int) : (getT t (donT l)).getD false = l.any fun y => y.t == t && y.kind == 5 := by
  rw [donT, donT_go]; simp [getT]
theorem donT_next {l : List Ev} {k : Nat} (hk : k < l.length) : donT (l.take (k + 1)) = putT l[k].t ((getT l[k].t (donT (l.take k))).getD false || l[k].kind == 5) (donT (l.take k)) := by
  rw [List.take_succ_eq_append_getElem hk, donT, List.foldl_append]; rfl
section
variable {α : Type} {l : List α} {k : Nat} {p : α → Bool}
theorem flt_t (hk : k < l.length) (h : p l[k] = true) : (l.take (k + 1)).filter p = (l.take k).filter p ++ [l[k]] := by
  rw [List.take_succ_eq_append_getElem hk, List.filter_append]; simp [h]
theorem flt_f (hk : k < l.length) (h : p l[k] = false) : (l.take (k + 1)).filter p = (l.take k).filter p := by
  rw [List.take_succ_eq_append_getElem hk, List.filter_append]; simp [h]
theorem flt_le : ((l.take k).filter p).length ≤ l.length := Nat.le_trans (List.length_filter_le _ _) (by simp; omega)
end
def wrB (l : List Ev) (x : Int) (e : Ev) : Bool := e.kind == 2 && e.o == x && l.any fun y => y.t == e.t && y.kind == 5
theorem writersP_eq (l : List Ev) (x : Int) : writersP l x = cmpct (srt ((l.filter (wrB l x)).map Ev.t)) := rfl
theorem contains_any (l : List Int) (n : Int) : (l.any fun a => a == n) = l.contains n := by
  rw [Bool.eq_iff_iff]; simp
theorem writers_le (l : List Ev) (x : Int) : (writersP l x).length ≤ l.length := by
  rw [writersP_eq]
  refine Nat.le_trans (cmpct_len _) ?_
  rw [(srt_perm _).length_eq, List.length_map]
  exact List.length_filter_le _ _
theorem len_bne (a b : Nat) : ((a : Int) != (b : Int)) = !decide (a = b) := by
  rw [Bool.eq_iff_iff]; simp; omega
theorem FCall.new {P : Program} {fv : AV} {args : List AV} {h : List Res} {R : AV → List Res → Prop} (hc : FCall P fv args [] R) : FCall P fv args h (fun r h' => ∃ h1, R r h1 ∧ h' = h1 ++ h) :=
  (hc.frame h).mono fun _ _ ⟨h1, e, q⟩ => ⟨h1, q, e⟩
end Go.H
/- What is asked of the index, as answers. Conditions: as each lemma states. -/
set_option linter.unusedVariables false
namespace Go.H
open Go Go.Ab
def askE (h : Hist) (n many : Int) : Int := if checkI h = 0 then (if 0 ≤ n ∧ n < many then 0 else 2) else checkI h
def onE (e : Int) (l : List Int) : List Int := if e = 0 then l else []
theorem ask_0 {h : Hist} {n many : Int} (he : askE h n many = 0) : soundB h = true ∧ 0 ≤ n ∧ n < many := by
  unfold askE at he
  split at he
  · rename_i hc
    split at he
    · rename_i hn; exact ⟨checkI_0.1 hc, hn⟩
    · cases he
  · rename_i hc; exact absurd he hc
theorem ask_c {h : Hist} {n many : Int} (hc : checkI h ≠ 0) : askE h n many = checkI h := by rw [askE, if_neg hc]
theorem ask_a {h : Hist} {n many : Int} (hc : checkI h = 0) (hn : ¬ (0 ≤ n ∧ n < many)) : askE h n many = 2 := by rw [askE, if_pos hc, if_neg hn]
theorem ask_y {h : Hist} {n many : Int} (hc : checkI h = 0) (hn : 0 ≤ n ∧ n < many) : askE h n many = 0 := by rw [askE, if_pos hc, if_pos hn]
theorem ask_01 (h : Hist) : askE h 0 1 = checkI h := by
  unfold askE; split
  · rename_i h0; rw [h0]; rfl
  · rfl
/-- Those that have committed, as a map. -/
def endM (l : List Ev) : List (Int × Bool) := setT (fun e : Ev => e.kind == 5) Ev.t [] l
theorem endM_get (l : List Ev) (t : Int) : (getT t (endM l)).getD false = hasB l t 5 := by
  rw [endM, setT_get, hasB_any]
  have : (l.any fun e => e.kind == 5 && decide (e.t = t)) = l.any fun y => y.t == t && y.kind == 5 := by
    congr 1; funext e; rw [Bool.and_comm]; rfl
  rw [this]
  cases l.any fun y => y.t == t && y.kind == 5 <;> rfl
theorem endM_y {l : List Ev} {k : Nat} (hk : k < l.length) (h5 : (l[k].kind == 5) = true) : endM (l.take (k + 1)) = putT l[k].t true (endM (l.take k)) := by
  rw [List.take_succ_eq_append_getElem hk, endM, setT, List.foldl_append, List.foldl_cons, List.foldl_nil, if_pos h5]; rfl
theorem endM_n {l : List Ev} {k : Nat} (hk : k < l.length) (h5 : (l[k].kind == 5) = false) : endM (l.take (k + 1)) = endM (l.take k) := by
  rw [List.take_succ_eq_append_getElem hk, endM, setT, List.foldl_append, List.foldl_cons, List.foldl_nil, if_neg (by rw [h5]; decide)]; rfl
end Go.H
/- The law's small history of layer 16, and what the index says of it. Conditions: none. -/
set_option linter.unusedVariables false
namespace Go.H
open Go Go.Ab
end Go.H
/- What a predicate's scans have seen: the program's and the reference's, as plain functions. Conditions: as each lemma states. -/
set_option linter.unusedVariables false
set_option linter.unusedSimpArgs false
namespace Go.H
open Go Go.Ab
def matQ (p o : Int) (r : Mat) : Bool := r.p == p && r.o == o
def matF (h : Hist) (p o : Int) : Option Mat := h.mats.find? (matQ p o)
def mat0 : Mat := ⟨0, 0, false, []⟩
def matD (h : Hist) (p o : Int) : Mat := (matF h p o).getD mat0
def tabQ (m : Mat) (ts : List Int) : List Bool := m.first :: ts.map (fun t => m.ts.contains t)
/-- Does a version match, rank by rank? -/
def tabP (h : Hist) (p o : Int) : List Bool := tabQ (matD h p o) (insP h o)
def boolsA (l : List Bool) : AV := .list false 1 (l.map boolR)
theorem one_bool (l : List Bool) : ∀ r ∈ l.map boolR, r.all AV.one = true := by
  intro r hr; obtain ⟨a, _, rfl⟩ := List.mem_map.1 hr; rfl
theorem tabQ_len (m : Mat) (ts : List Int) : (tabQ m ts).length = ts.length + 1 := by simp [tabQ]
def insE (h : Hist) (o : Int) : Int := askE h o h.os.length
def tabE (h : Hist) (p o : Int) : Int := if insE h o = 0 then (if 0 ≤ p ∧ p < h.ps.length then 0 else 2) else insE h o
def mtE (h : Hist) (p o r : Int) : Int := if tabE h p o = 0 then (if 0 ≤ r ∧ r < (tabP h p o).length then 0 else 2) else tabE h p o
def mtB (h : Hist) (p o r : Int) : Bool := if mtE h p o r = 0 then ((tabP h p o)[r.toNat]?).getD false else false
/-- Ranks at which it becomes another. -/
def chgK (l : List Bool) : Nat → List Int
  | 0 => []
  | k + 1 => chgK l k ++ (if 0 < k ∧ l[k]? ≠ l[k - 1]? then [(k : Int)] else [])
def chgP (l : List Bool) : List Int := chgK l l.length
def chL (h : Hist) (p o : Int) : List Int := if tabE h p o = 0 then chgP (tabP h p o) else []
theorem chgK_0 {l : List Bool} {k : Nat} (h : k = 0) : chgK l (k + 1) = chgK l k := by rw [chgK, if_neg (by omega)]; simp
/-! The reference. -/
def mtM (m : Option Mat) (ts : List Int) (r : Int) : Bool := match m with
  | none => false
  | some m => if r = 0 then m.first else m.ts.contains ((ts[(r - 1).toNat]?).getD 0)
def mtcR (h : Hist) (p x r : Int) : Bool := mtM (matF h p x) (insR h x) r
def chR (f : Nat → Bool) : Nat → List Int
  | 0 => []
  | k + 1 => chR f k ++ (if f (k + 1) ≠ f k then [((k + 1 : Nat) : Int)] else [])
theorem chR_len (f : Nat → Bool) : ∀ n : Nat, (chR f n).length ≤ n
  | 0 => by simp [chR]
  | n + 1 => by
    have := chR_len f n
    rw [chR, List.length_append]
    split <;> simp <;> omega
theorem chgK_chR {l : List Bool} {f : Nat → Bool} (hf : ∀ k, (h : k < l.length) → l[k] = f k) : ∀ k, k < l.length → chgK l (k + 1) = chR f k
  | 0, h => chgK_0 rfl
  | k + 1, h => by
    rw [chgK, chgK_chR hf k (by omega), chR]
    congr 1
    rw [List.getElem?_eq_getElem h, show k + 1 - 1 = k by omega, List.getElem?_eq_getElem (show k < l.length by omega), hf _ h, hf k (by omega)]
    by_cases e : f (k + 1) = f k
    · rw [if_neg (by rw [e]; simp), if_neg (by simpa using e)]
    · rw [if_pos ⟨by omega, by simpa using e⟩, if_pos e]
theorem tab_len (h : Hist) (p o : Int) : (tabP h p o).length = (insP h o).length + 1 := tabQ_len _ _
theorem tabQ_get (m : Option Mat) (ts : List Int) {k : Nat} (hk : k < (tabQ (m.getD mat0) ts).length) : (tabQ (m.getD mat0) ts)[k] = mtM m ts k := by
  unfold mtM
  have hl := tabQ_len (m.getD mat0) ts
  cases m with
  | none => cases k with
    | zero => rfl
    | succ k => simp only [tabQ, List.getElem_cons_succ, List.getElem_map]; rfl
  | some m => cases k with
    | zero => rfl
    | succ k =>
      have hk' : k < ts.length := by omega
      simp only [tabQ, List.getElem_cons_succ, List.getElem_map]
      rw [if_neg (by omega), show (((k + 1 : Nat) : Int) - 1).toNat = k by omega, List.getElem?_eq_getElem hk']; rfl
theorem tab_mtR {h : Hist} {p x : Int} (hi : insP h x = insR h x) {k : Nat} (hk : k < (tabP h p x).length) : (tabP h p x)[k] = mtcR h p x k := by
  rw [mtcR, ← hi]; exact tabQ_get (matF h p x) (insP h x) hk
theorem ins_ask {h : Hist} {x : Int} : insE h x = 0 ↔ checkI h = 0 ∧ 0 ≤ x ∧ x < h.os.length := by
  constructor
  · intro e
    obtain ⟨a, b⟩ := ask_0 e
    exact ⟨checkI_0.2 a, b⟩
  · rintro ⟨a, b⟩; exact ask_y a b
theorem tab_0 {h : Hist} {p x : Int} : tabE h p x = 0 ↔ checkI h = 0 ∧ (0 ≤ x ∧ x < h.os.length) ∧ 0 ≤ p ∧ p < h.ps.length := by
  unfold tabE
  by_cases e : insE h x = 0
  · rw [if_pos e]
    obtain ⟨a, b⟩ := ins_ask.1 e
    by_cases hp : 0 ≤ p ∧ p < h.ps.length
    · rw [if_pos hp]; exact ⟨fun _ => ⟨a, b, hp⟩, fun _ => rfl⟩
    · rw [if_neg hp]; exact ⟨fun q => (by cases q), fun q => absurd q.2.2 hp⟩
  · rw [if_neg e]; exact ⟨fun q => absurd q e, fun q => absurd (ins_ask.2 ⟨q.1, q.2.1⟩) e⟩
theorem tab_c {h : Hist} {p x : Int} (hc : checkI h ≠ 0) : tabE h p x = checkI h := by
  have e : insE h x = checkI h := ask_c hc
  rw [tabE, e, if_neg hc]
theorem tab_n {h : Hist} {p x : Int} (hc : checkI h = 0) (hn : ¬ ((0 ≤ x ∧ x < h.os.length) ∧ 0 ≤ p ∧ p < h.ps.length)) : tabE h p x = 2 := by
  by_cases hx : 0 ≤ x ∧ x < h.os.length
  · have e : insE h x = 0 := ask_y hc hx
    rw [tabE, e, if_pos rfl, if_neg (fun q => hn ⟨hx, q⟩)]
  · have e : insE h x = 2 := ask_a hc hx
    rw [tabE, e, if_neg (by decide)]
theorem mt_e {h : Hist} {p x r : Int} (he : tabE h p x ≠ 0) : mtE h p x r = tabE h p x ∧ mtB h p x r = false ∧ chL h p x = [] := by
  have e : mtE h p x r = tabE h p x := by rw [mtE, if_neg he]
  exact ⟨e, by rw [mtB, e, if_neg he], by rw [chL, if_neg he]⟩
theorem mt_r {h : Hist} {p x r : Int} (he : tabE h p x = 0) (hr : ¬ (0 ≤ r ∧ r < (tabP h p x).length)) : mtE h p x r = 2 ∧ mtB h p x r = false := by
  have e : mtE h p x r = 2 := by rw [mtE, if_pos he, if_neg hr]
  exact ⟨e, by rw [mtB, e]; rfl⟩
theorem mt_y {h : Hist} {p x : Int} {k : Nat} (he : tabE h p x = 0) (hk : k < (tabP h p x).length) : mtE h p x k = 0 ∧ mtB h p x k = (tabP h p x)[k] := by
  have e : mtE h p x k = 0 := by rw [mtE, if_pos he, if_pos ⟨by omega, by omega⟩]
  exact ⟨e, by rw [mtB, e, if_pos rfl, Int.toNat_natCast, List.getElem?_eq_getElem hk]; rfl⟩
theorem tab_ins {h : Hist} {p x : Int} (he : tabE h p x = 0) : insP h x = insR h x := by
  obtain ⟨a, ⟨b, c⟩, _⟩ := tab_0.1 he
  exact ins_eq (checkI_0.1 a) b c
theorem ch_y {h : Hist} {p x : Int} (he : tabE h p x = 0) : chL h p x = chR (fun k => mtcR h p x k) (insR h x).length := by
  have hi := tab_ins he
  have hl := tab_len h p x
  rw [chL, if_pos he, chgP, hl, ← hi]
  exact chgK_chR (f := fun k => mtcR h p x k) (fun k hk => tab_mtR hi hk) _ (by omega)
/-! MatchRuns. -/
/-! The version set of a scan. -/
def scanV (scan : List Seen) (x : Int) : Option Ver := (scan.filter fun s => s.o == x).getLast?.map Seen.v
def ownV (l : List Ev) (t : Int) (n : Nat) (scan : List Seen) (x : Int) : Ver := match scanV scan x with
  | some v => v
  | none => verO (lastW l t x n)
/-! What is remembered of a scan's own writes, and of what it names, as a map. -/
def ownM (l : List Ev) (t : Int) : List (Int × Ver) := lasT (fun e : Ev => e.t == t && e.kind == 2) Ev.o Ev.v [] l
def scnM (m : List (Int × Ver)) (scan : List Seen) : List (Int × Ver) := lasT (fun _ : Seen => true) Seen.o Seen.v m scan
theorem ownM_y {l : List Ev} {t : Int} {k : Nat} (hk : k < l.length) (h : (l[k].t == t && l[k].kind == 2) = true) : ownM (l.take (k + 1)) t = putT l[k].o l[k].v (ownM (l.take k) t) := by
  rw [List.take_succ_eq_append_getElem hk, ownM, lasT, List.foldl_append, List.foldl_cons, List.foldl_nil, if_pos h]; rfl
theorem ownM_n {l : List Ev} {t : Int} {k : Nat} (hk : k < l.length) (h : (l[k].t == t && l[k].kind == 2) = false) : ownM (l.take (k + 1)) t = ownM (l.take k) t := by
  rw [List.take_succ_eq_append_getElem hk, ownM, lasT, List.foldl_append, List.foldl_cons, List.foldl_nil, if_neg (by rw [h]; decide)]; rfl
theorem scnM_s {m : List (Int × Ver)} {l : List Seen} {k : Nat} (hk : k < l.length) : scnM m (l.take (k + 1)) = putT l[k].o l[k].v (scnM m (l.take k)) := by
  rw [List.take_succ_eq_append_getElem hk, scnM, lasT, List.foldl_append, List.foldl_cons, List.foldl_nil, if_pos rfl]; rfl
theorem lastW_filter (l : List Ev) (t x : Int) : ∀ n, n ≤ l.length → (lastW l t x n).map Prod.fst = (((l.take n).filter (wroteQ t x)).getLast?).map Ev.v
  | 0, _ => by simp [lastW]
  | n + 1, hn => by
    have hk : n < l.length := hn
    rw [lastW, List.getElem?_eq_getElem hk, List.take_succ_eq_append_getElem hk, List.filter_append]
    simp only
    by_cases hw : wroteQ t x l[n] = true
    · rw [if_pos hw, List.filter_cons_of_pos hw]; simp
    · rw [if_neg hw, List.filter_cons_of_neg hw, lastW_filter l t x n (by omega)]; simp
theorem own_get {l : List Ev} {t x : Int} {n : Nat} (scan : List Seen) (hn : n ≤ l.length) : (getT x (scnM (ownM (l.take n) t) scan)).getD ⟨0, 0⟩ = ownV l t n scan x := by
  have h1 : getT x (ownM (l.take n) t) = (lastW l t x n).map Prod.fst := by
    rw [lastW_filter l t x n hn, ownM, lasT_get]
    have : ((l.take n).filter fun e => (e.t == t && e.kind == 2) && decide (e.o = x)) = (l.take n).filter (wroteQ t x) := by
      refine List.filter_congr fun e _ => ?_
      rw [wroteQ, Bool.eq_iff_iff]; simp only [Bool.and_eq_true, beq_iff_eq, decide_eq_true_eq]
      exact ⟨fun ⟨⟨a, b⟩, c⟩ => ⟨⟨b, a⟩, c⟩, fun ⟨⟨a, b⟩, c⟩ => ⟨⟨b, a⟩, c⟩⟩
    rw [this]
    cases (((l.take n).filter (wroteQ t x)).getLast?).map Ev.v <;> rfl
  have h2 : (scan.filter fun e => true && decide (e.o = x)) = scan.filter fun s => s.o == x := by
    refine List.filter_congr fun e _ => ?_
    rw [Bool.true_and]; rfl
  rw [scnM, lasT_get, h1, h2, ownV, scanV]
  cases ((scan.filter fun s => s.o == x).getLast?).map Seen.v with
  | some v => rfl
  | none => cases lastW l t x n <;> rfl
def setP (h : Hist) (e : Ev) (n : Nat) : List Seen := (upR h.os.length).map fun x => ⟨x, ownV h.evs e.t n e.scan x⟩
end Go.H
/- The law's small history of layer 17, and what is told of it. Conditions: none. -/
set_option linter.unusedVariables false
namespace Go.H
open Go Go.Ab
def bt1 : ByteArray := ⟨#[116, 49]⟩
def bt2 : ByteArray := ⟨#[116, 50]⟩
def bt3 : ByteArray := ⟨#[116, 51]⟩
def bP : ByteArray := ⟨#[112]⟩
def mxB (t : Int) : Ev := ⟨1, t, 0, 4, 0, ⟨0, 0⟩, 0, []⟩
def mxW (t : Int) : Ev := ⟨2, t, 0, 0, 0, ⟨t, 1⟩, 0, []⟩
def mxC (t : Int) : Ev := ⟨5, t, 0, 0, 0, ⟨0, 0⟩, 0, []⟩
def mxS (t : Int) : Ev := ⟨4, t, 0, 0, 0, ⟨0, 0⟩, 0, [⟨0, ⟨0, 1⟩⟩]⟩
def mxE : Nat → List Ev
  | 0 => []
  | k + 1 => mxE k ++ (mxB k :: ((if k = 2 then [mxS k] else []) ++ [mxW k, mxC k]))
def mxH : Hist := ⟨[bt1, bt2, bt3], [bS], [bX], [bP], mxE 3, [⟨0, [0, 1, 2]⟩], [⟨0, 0, true, [0, 2]⟩], []⟩
theorem mx_may : mayB mxH = true := by decide +kernel
theorem mx_sound : soundB mxH = true := by
  have : firstH mxH = none := (first_eq mx_may).trans (by decide +kernel)
  rw [soundB, mx_may, this]; rfl
theorem mx_check : checkI mxH = 0 := checkI_0.2 mx_sound
theorem mx_tab : tabE mxH 0 0 = 0 := tab_0.2 ⟨mx_check, by decide, by decide⟩
theorem mx_row : tabP mxH 0 0 = [true, true, false, true] := by decide +kernel
theorem mx_ch : chL mxH 0 0 = [2, 3] := by rw [chL, mx_tab, if_pos rfl, mx_row]; decide
theorem mx_m1 : mtE mxH 0 0 1 = 0 ∧ mtB mxH 0 0 1 = true := by
  have := mt_y (h := mxH) (p := 0) (x := 0) (k := 1) mx_tab (by rw [mx_row]; decide)
  refine ⟨this.1, this.2.trans ?_⟩
  simp only [mx_row]; rfl
theorem mx_m4 : mtE mxH 0 0 4 = 2 ∧ mtB mxH 0 0 4 = false := mt_r mx_tab (by rw [mx_row]; decide)
theorem mx_set : setP mxH (mxS 2) 7 = [⟨0, ⟨0, 1⟩⟩] := by decide +kernel
end Go.H
