/- The abstract logic, part 28: slices.Sort and slices.Compact at []int, as contracts over a row of one's own (the kit's shelf has walked them). Conditions: none (lemmas over any program that has the functions). -/
import Derived.Test.YtmbbjpoljcmhlaaGreatDoorEndsG
import Derived.Shelf.Sort.Plain
import Derived.Shelf.Slices.In.SortNone
import Derived.Shelf.Slices.CompactI
set_option linter.unusedSimpArgs false
set_option linter.unusedVariables false
set_option linter.unusedVariables false
namespace Go.Ab
open Go Go.Shelf Go.Sort Go.Proofs
def numR (n : Int) : List AV := [.v (.int .i64 n)]
/-- A row of numbers written over, and blocks made beside it. -/
theorem row_over {X : Nat → Prop} {w : World} {a : Addr} {cap : Nat} {T : TypeId} {xs ys zs : List Int} (hh : HRel X w [.row (.slice (some a) xs.length cap) 1 T (xs.map numR)]) (hl : ys.length = xs.length) (hz : zs = ys.take zs.length) (n : Nat) (os : Array Obj) :
    HRel X (grow (putRow (Value.int .i64) (Sort.ahead w n) a.block a.off ys.toArray) os) [.row (.slice (some a) zs.length cap) 1 T (zs.map numR)] ∧
    Keep [a.block] w [a.block] (grow (putRow (Value.int .i64) (Sort.ahead w n) a.block a.off ys.toArray) os) := by
  obtain ⟨h1, h2, h3, h4, c, h5, h6, h7⟩ := hh.holds _ (List.mem_singleton.2 rfl)
  have hb : a.block < w.heap.size := (hh.lt a.block (by simp [owns, Res.own])).1
  have hX : ¬ X a.block := (hh.lt a.block (by simp [owns, Res.own])).2
  obtain ⟨w', hw'⟩ : ∃ w', w' = grow (putRow (Value.int .i64) (Sort.ahead w n) a.block a.off ys.toArray) os := ⟨_, rfl⟩
  rw [← hw']
  have hheap : w'.heap = (w.heap.modify a.block (onCells (putCells (Value.int .i64) a.off ys.toArray))) ++ os := by rw [hw']; rfl
  have hos : w'.os = w.os ∧ w'.output = w.output := by rw [hw']; exact ⟨rfl, rfl⟩
  have hsize : w.heap.size ≤ w'.heap.size := by rw [hheap]; simp
  have hold : ∀ b, b < w.heap.size → b ≠ a.block → w'.heap[b]? = w.heap[b]? := fun b hb hne => by
    rw [hheap, Array.getElem?_append_left (by simpa using hb), Array.getElem?_modify, if_neg (Ne.symm hne)]
  have hnew : w'.heap[a.block]? = some (.cells (putCells (Value.int .i64) a.off ys.toArray c) T (0, 0)) := by
    rw [hheap, Array.getElem?_append_left (by simpa using hb), Array.getElem?_modify, if_pos rfl, h5]; rfl
  have hlen : zs.length ≤ ys.length := by
    have := congrArg List.length hz
    rw [List.length_take] at this; omega
  refine ⟨⟨by simp [owns, Res.own], fun b hb2 => ?_, fun b hb2 => Nat.lt_of_lt_of_le (hh.xlt b hb2) hsize, fun r hr => ?_⟩, ⟨hsize, fun b hb2 hne => ?_, hos⟩⟩
  · have : b = a.block := by simpa [owns, Res.own] using hb2
    subst this; exact ⟨Nat.lt_of_lt_of_le hb hsize, hX⟩
  · rw [List.mem_singleton] at hr
    subst hr
    refine ⟨h1, by simp, by simp at h2 h3; omega, fun i hi => by simp [numR], _, hnew, by simpa [putCells] using h6, fun i hi j hj => ?_⟩
    have hi2 : i < zs.length := by simpa using hi
    have hj0 : j = 0 := by simp [numR] at hj; omega
    subst hj0
    have hc : a.off + i < c.size := by simp at h2 h3; omega
    refine ⟨.int .i64 (zs[i]), ?_, ?_⟩
    · have hz2 : zs[i] = ys[i]'(by omega) := by
        have : zs[i]? = (ys.take zs.length)[i]? := by rw [← hz]
        rw [List.getElem?_take_of_lt hi2, List.getElem?_eq_getElem hi2, List.getElem?_eq_getElem (by omega)] at this
        exact Option.some.inj this
      have e : a.off + i * 1 + 0 = a.off + i := by omega
      rw [e]
      simp only [putCells, Array.getElem?_mapIdx]
      rw [Array.getElem?_eq_getElem hc]
      simp only [Option.map_some]
      rw [if_pos ⟨by omega, by simp; omega⟩, hz2]
      have e2 : a.off + i - a.off = i := by omega
      rw [e2]
      congr 2
      exact getElem!_pos _ _ (by simp; omega)
    · simp only [List.getElem_map, numR]
      exact .v _
  · have hne2 : b ≠ a.block := by simpa using hne
    exact ⟨hold b hb2 hne2, hne⟩
theorem row_nums {X : Nat → Prop} {w : World} {a : Addr} {cap : Nat} {T : TypeId} {xs : List Int} (hh : HRel X w [.row (.slice (some a) xs.length cap) 1 T (xs.map numR)]) : Holds (Value.int .i64) w a.block a.off xs.toArray ∧ a.block < w.heap.size ∧ xs.length ≤ cap ∧ a.spot = none := by
  obtain ⟨h1, h2, h3, h4, c, h5, h6, h7⟩ := hh.holds _ (List.mem_singleton.2 rfl)
  refine ⟨fun j hj => ?_, (hh.lt a.block (by simp [owns, Res.own])).1, h3, h1⟩
  have hj2 : j < xs.length := by simpa using hj
  obtain ⟨v, e, r⟩ := h7 j (by simpa using hj2) 0 (by simp [numR])
  simp only [List.getElem_map, numR] at r
  have hv : v = .int .i64 xs[j] := r.v_eq
  subst hv
  have e0 : a.off + j * 1 + 0 = a.off + j := by omega
  rw [e0] at e
  refine ⟨?_, ?_⟩
  · have e2 : w.cell? ⟨a.block, a.off + j, none⟩ = some (.int .i64 xs[j]) := by simp [World.cell?, h5, e]
    have e3 : xs.toArray[j]! = xs[j] := getElem!_pos xs.toArray j hj
    rw [e2, e3]
  · simp [World.frozen?, h5]
theorem row_nil {X : Nat → Prop} {w : World} {n cap : Nat} {T : TypeId} {xs : List Int} (hh : HRel X w [.row (.slice none n cap) 1 T (xs.map numR)]) : xs = [] ∧ n = 0 ∧ cap = 0 := by
  obtain ⟨h1, h2, h3⟩ := hh.holds _ (List.mem_singleton.2 rfl)
  exact ⟨by simpa using h1, h2, h3⟩
section
variable {P : Program} {ρ : Ren}
theorem acall_sort (Ly : Lays.n189 P ρ) (s : SV) (T : TypeId) (xs : List Int) (hs : xs.length < 4611686018427387904) :
    ACall P (ρ.f 189) [.v s.v] [.row s.v 1 T (xs.map numR)] (fun r h' => h' = [.row s.v 1 T ((xs.mergeSort fun x y => decide (x ≤ y)).map numR)] ∧ r = .v (.tuple #[])) := by
  intro X w vs hh ha
  match vs, ha with
  | [v], ⟨hv, _⟩ =>
    obtain rfl := hv.v_eq
    obtain ⟨a, n, cap⟩ := s
    cases a with
    | none =>
      obtain ⟨rfl, rfl, rfl⟩ := row_nil hh
      refine callsIn_wide.2 ((Any.slices_Sort_int_none Ly none 0 w).mono ?_)
      rintro e w' ⟨rfl, rfl⟩
      exact ⟨_, _, _, rfl, ⟨rfl, rfl⟩, .v _, by simpa using hh, .refl _ _⟩
    | some a =>
      have hn : n = xs.length := by
        have := (hh.holds _ (List.mem_singleton.2 rfl)).2.1
        simpa using this
      subst hn
      obtain ⟨g1, g2, g3, g4⟩ := row_nums hh
      obtain ⟨b, off, sp⟩ := a
      simp only at g1 g2 g4
      subst g4
      refine callsIn_wide.2 ((Any.slices_Sort_int Ly b off cap xs w g1 g2 hs).mono ?_)
      rintro e w' ⟨rfl, n, os, rfl⟩
      have hlen : (xs.mergeSort fun x y => decide (x ≤ y)).length = xs.length := List.length_mergeSort _
      obtain ⟨k1, k2⟩ := row_over (zs := xs.mergeSort fun x y => decide (x ≤ y)) hh hlen (List.take_length).symm n os
      rw [hlen] at k1
      exact ⟨_, _, _, rfl, ⟨rfl, rfl⟩, .v _, k1, k2⟩
theorem acall_compact (Ly : Lays2.n20 P ρ) (s : SV) (T : TypeId) (xs : List Int) (hs : xs.length ≤ 4611686018427387904) :
    ACall P (ρ.f 20) [.v s.v] [.row s.v 1 T (xs.map numR)] (fun r h' => ∃ s' : SV, h' = [.row s'.v 1 T ((Lib.compact xs).map numR)] ∧ r = .v s'.v) := by
  intro X w vs hh ha
  match vs, ha with
  | [v], ⟨hv, _⟩ =>
    obtain rfl := hv.v_eq
    obtain ⟨a, n, cap⟩ := s
    cases a with
    | none =>
      obtain ⟨rfl, rfl, rfl⟩ := row_nil hh
      refine callsIn_wide.2 ((Any.slices_Compact_int_empty Ly none 0 w).mono ?_)
      rintro e w' ⟨rfl, rfl⟩
      exact ⟨_, _, _, rfl, ⟨⟨none, 0, 0⟩, rfl, rfl⟩, .v _, hh, .refl _ _⟩
    | some a =>
      have hn : n = xs.length := by
        have := (hh.holds _ (List.mem_singleton.2 rfl)).2.1
        simpa using this
      subst hn
      obtain ⟨g1, g2, g3, g4⟩ := row_nums hh
      obtain ⟨b, off, sp⟩ := a
      simp only at g1 g2 g4
      subst g4
      refine callsIn_wide.2 ((Any.slices_Compact_int Ly b off cap xs w g1 (by omega) g3).mono ?_)
      rintro e w' ⟨rfl, q, rfl⟩
      have hle : (Lib.compact xs).length ≤ xs.length := by
        unfold Lib.compact Lib.compactUpTo
        rw [List.length_map]
        exact Nat.le_trans (List.length_filter_le _ _) (by simp)
      obtain ⟨k1, k2⟩ := row_over (ys := Lib.compact xs ++ List.replicate (xs.length - (Lib.compact xs).length) 0) (zs := Lib.compact xs) hh (by simp; omega) (by rw [List.take_left']; rfl) q #[]
      rw [grow_empty] at k1 k2
      exact ⟨_, _, _, rfl, ⟨⟨some ⟨b, off, none⟩, (Lib.compact xs).length, cap⟩, rfl, rfl⟩, .v _, k1, k2⟩
end
end Go.Ab
/- Who has committed, writers; a row compacted. Conditions: aS each lemma states. -/
set_option linter.unusedVariables false
namespace Go.H
open Go Go.Ab
theorem cmpct_snoc (y : Int) : ∀ l : List Int, cmpct (l ++ [y]) = cmpct l ++ (if l.getLast? = some y then [] else [y])
  | [] => by simp [cmpct]
  | [x] => by
    by_cases h : x = y
    · subst h; simp [cmpct]
    · simp [cmpct, h]
  | x :: z :: r => by
    have ih := cmpct_snoc y (z :: r)
    simp only [List.cons_append] at ih ⊢
    have hl : (x :: z :: r).getLast? = (z :: r).getLast? := by simp [List.getLast?_cons]
    rw [hl, cmpct, cmpct]
    by_cases h : x = z
    · rw [if_pos h, if_pos h]; exact ih
    · rw [if_neg h, if_neg h, ih]; rfl
theorem compact_eq (xs : List Int) : Lib.compact xs = cmpct xs := by
  have key : ∀ m, m ≤ xs.length → Lib.compactUpTo xs.toArray m = cmpct (xs.take m) := by
    intro m
    induction m with
    | zero => intro _; rfl
    | succ m ih =>
      intro hm
      have hlt : m < xs.length := hm
      rw [Lib.compactUpTo_succ, ih (by omega), List.take_succ_eq_append_getElem hlt, cmpct_snoc]
      congr 1
      have e1 : xs.toArray[m]! = xs[m] := by simp [hlt]
      by_cases h0 : m = 0
      · subst h0
        simp [Lib.keeps, hlt]
      · have hlt' : m - 1 < xs.length := by omega
        have e2 : xs.toArray[m - 1]! = xs[m - 1] := by simp [hlt']
        have e3 : (xs.take m).getLast? = some xs[m - 1] := by
          rw [List.getLast?_eq_getElem?, List.length_take, Nat.min_eq_left (by omega), List.getElem?_take_of_lt (by omega)]
          simp [hlt']
        rw [e3]
        unfold Lib.keeps
        rw [e1, e2]
        by_cases he : xs[m] = xs[m - 1]
        · rw [if_neg (by simp [h0, he]), if_pos (by rw [he])]
        · rw [if_pos (by simp [he]), if_neg (fun q => he (Option.some.inj q).symm)]
  have := key xs.length (Nat.le_refl _)
  rw [List.take_length] at this
  exact this
/-- Who has committed among events. -/
def donT (l : List Ev) : List (Int × Bool) := l.foldl (fun m e => putT e.t ((getT e.t m).getD false || e.kind == 5) m) []
theorem donT_go (t : Int) : ∀ (l : List Ev) (m : List (Int × Bool)), (getT t (l.foldl (fun m e => putT e.t ((getT e.t m).getD false || e.kind == 5) m) m)).getD false = ((getT t m).getD false || l.any fun y => y.t == t && y.kind == 5)
  | [], m => by simp
  | e :: l, m => by
    rw [List.foldl_cons, donT_go t l, List.any_cons, get_put]
    by_cases h : e.t = t
    · subst h; simp [Bool.or_assoc]
    · have : (e.t == t) = false := by simpa using h
      rw [if_neg h, this, Bool.false_and, Bool.false_or]
theorem donT_get (l : List Ev) (t : Int) : (getT t (donT l)).getD false = l.any fun y => y.t == t && y.kind == 5 := by
  rw [donT, donT_go]; simp [getT]
theorem donT_next {l : List Ev} {k : Nat} (hk : k < l.length) : donT (l.take (k + 1)) = putT l[k].t ((getT l[k].t (donT (l.take k))).getD false || l[k].kind == 5) (donT (l.take k)) := by
  rw [List.take_succ_eq_append_getElem hk, donT, List.foldl_append]; rfl
section
variable {α : Type} {l : List α} {k : Nat} {p : α → Bool}
theorem flt_t (hk : k < l.length) (h : p l[k] = true) : (l.take (k + 1)).filter p = (l.take k).filter p ++ [l[k]] := by
  rw [List.take_succ_eq_append_getElem hk, List.filter_append]; simp [h]
theorem flt_f (hk : k < l.length) (h : p l[k] = false) : (l.take (k + 1)).filter p = (l.take k).filter p := by
  rw [List.take_succ_eq_append_getElem hk, List.filter_append]; simp [h]
theorem flt_le : ((l.take k).filter p).length ≤ l.length := Nat.le_trans (List.length_filter_le _ _) (by simp; omega)
end
def wrB (l : List Ev) (x : Int) (e : Ev) : Bool := e.kind == 2 && e.o == x && l.any fun y => y.t == e.t && y.kind == 5
theorem writersP_eq (l : List Ev) (x : Int) : writersP l x = cmpct (srt ((l.filter (wrB l x)).map Ev.t)) := rfl
theorem contains_any (l : List Int) (n : Int) : (l.any fun a => a == n) = l.contains n := by
  rw [Bool.eq_iff_iff]; simp
theorem writers_le (l : List Ev) (x : Int) : (writersP l x).length ≤ l.length := by
  rw [writersP_eq]
  refine Nat.le_trans (cmpct_len _) ?_
  rw [(srt_perm _).length_eq, List.length_map]
  exact List.length_filter_le _ _
theorem len_bne (a b : Nat) : ((a : Int) != (b : Int)) = !decide (a = b) := by
  rw [Bool.eq_iff_iff]; simp; omega
theorem FCall.new {P : Program} {fv : AV} {args : List AV} {h : List Res} {R : AV → List Res → Prop} (hc : FCall P fv args [] R) : FCall P fv args h (fun r h' => ∃ h1, R r h1 ∧ h' = h1 ++ h) :=
  (hc.frame h).mono fun _ _ ⟨h1, e, q⟩ => ⟨h1, q, e⟩
end Go.H
/- The kit's contract of slices.Sort over this program. Conditions: none. -/
set_option linter.unusedVariables false
namespace Go.Proofs
open Go Go.Ab Go.Shelf
def sortRen : Go.Shelf.Ren := ⟨fun | 125 => 149 | 128 => 199 | 129 => 200 | 189 => 94 | 215 => 146 | 216 => 80 | 257 => 148 | 294 => 191 | 295 => 192 | 296 => 193 | 297 => 194 | 298 => 195 | 299 => 196 | 300 => 197 | 301 => 198 | 328 => 210 | 329 => 211 | 330 => 212 | 331 => 213 | 332 => 214 | 343 => 218 | n => n, fun | 0 => 0 | 3 => 3 | 4 => 4 | 5 => 5 | 9 => 9 | 28 => 40 | 46 => 49 | 51 => 215 | 53 => 217 | 131 => 63 | 182 => 208 | 183 => 209 | 218 => 227 | 222 => 125 | 228 => 233 | 229 => 71 | n => n, fun n => n⟩
theorem sortLays : Lays.n189 Tryz.prog sortRen := {
  mixed := by kernel_rfl
  f125 := Tryz.func149.trans (congrArg some (by kernel_rfl))
  f128 := Tryz.func199.trans (congrArg some (by kernel_rfl))
  f129 := Tryz.func200.trans (congrArg some (by kernel_rfl))
  f189 := Tryz.func94.trans (congrArg some (by kernel_rfl))
  f215 := Tryz.func146.trans (congrArg some (by kernel_rfl))
  f216 := Tryz.func80.trans (congrArg some (by kernel_rfl))
  f257 := Tryz.func148.trans (congrArg some (by kernel_rfl))
  f294 := Tryz.func191.trans (congrArg some (by kernel_rfl))
  f295 := Tryz.func192.trans (congrArg some (by kernel_rfl))
  f296 := Tryz.func193.trans (congrArg some (by kernel_rfl))
  f297 := Tryz.func194.trans (congrArg some (by kernel_rfl))
  f298 := Tryz.func195.trans (congrArg some (by kernel_rfl))
  f299 := Tryz.func196.trans (congrArg some (by kernel_rfl))
  f300 := Tryz.func197.trans (congrArg some (by kernel_rfl))
  f301 := Tryz.func198.trans (congrArg some (by kernel_rfl))
  f328 := Tryz.func210.trans (congrArg some (by kernel_rfl))
  f329 := Tryz.func211.trans (congrArg some (by kernel_rfl))
  f330 := Tryz.func212.trans (congrArg some (by kernel_rfl))
  f331 := Tryz.func213.trans (congrArg some (by kernel_rfl))
  f332 := Tryz.func214.trans (congrArg some (by kernel_rfl))
  f343 := Tryz.func218.trans (congrArg some (by kernel_rfl))
  t0 := Tryz.underlying0
  a0 := Tryz.isAgg0
  z0 := Tryz.sizeOf0
  v0 := Tryz.zeroValue0
  t3 := Tryz.underlying3
  a3 := Tryz.isAgg3
  z3 := Tryz.sizeOf3
  v3 := Tryz.zeroValue3
  t4 := Tryz.underlying4
  a4 := Tryz.isAgg4
  z4 := Tryz.sizeOf4
  v4 := Tryz.zeroValue4
  t5 := Tryz.underlying5
  a5 := Tryz.isAgg5
  z5 := Tryz.sizeOf5
  v5 := Tryz.zeroValue5
  t9 := Tryz.underlying9
  a9 := Tryz.isAgg9
  z9 := Tryz.sizeOf9
  v9 := Tryz.zeroValue9
  t28 := Tryz.underlying40
  a28 := Tryz.isAgg40
  z28 := Tryz.sizeOf40
  v28 := Tryz.zeroValue40
  t46 := Tryz.underlying49
  a46 := Tryz.isAgg49
  z46 := Tryz.sizeOf49
  v46 := Tryz.zeroValue49
  t51 := Tryz.underlying215
  a51 := Tryz.isAgg215
  z51 := Tryz.sizeOf215
  v51 := Tryz.zeroValue215
  t53 := Tryz.underlying217
  a53 := Tryz.isAgg217
  z53 := Tryz.sizeOf217
  v53 := Tryz.zeroValue217
  t131 := Tryz.underlying63
  a131 := Tryz.isAgg63
  z131 := Tryz.sizeOf63
  v131 := Tryz.zeroValue63
  t182 := Tryz.underlying208
  a182 := Tryz.isAgg208
  z182 := Tryz.sizeOf208
  v182 := Tryz.zeroValue208
  t183 := Tryz.underlying209
  a183 := Tryz.isAgg209
  z183 := Tryz.sizeOf209
  v183 := Tryz.zeroValue209
  t218 := Tryz.underlying227
  a218 := Tryz.isAgg227
  z218 := Tryz.sizeOf227
  v218 := Tryz.zeroValue227
  t222 := Tryz.underlying125
  a222 := Tryz.isAgg125
  z222 := Tryz.sizeOf125
  v222 := Tryz.zeroValue125
  t228 := Tryz.underlying233
  a228 := Tryz.isAgg233
  z228 := Tryz.sizeOf233
  v228 := Tryz.zeroValue233
  t229 := Tryz.underlying71
  a229 := Tryz.isAgg71
  z229 := Tryz.sizeOf71
  v229 := Tryz.zeroValue71 }
def compRen : Go.Shelf.Ren := ⟨fun | 20 => 127 | n => n, fun | 0 => 0 | 3 => 3 | 4 => 4 | 22 => 40 | n => n, fun n => n⟩
theorem compLays : Lays2.n20 Tryz.prog compRen := {
  mixed := by kernel_rfl
  f20 := Tryz.func127.trans (congrArg some (by kernel_rfl))
  i3 := by kernel_rfl
  t0 := Tryz.underlying0
  a0 := Tryz.isAgg0
  z0 := Tryz.sizeOf0
  v0 := Tryz.zeroValue0
  t3 := Tryz.underlying3
  a3 := Tryz.isAgg3
  z3 := Tryz.sizeOf3
  v3 := Tryz.zeroValue3
  t4 := Tryz.underlying4
  a4 := Tryz.isAgg4
  z4 := Tryz.sizeOf4
  v4 := Tryz.zeroValue4
  t22 := Tryz.underlying40
  a22 := Tryz.isAgg40
  z22 := Tryz.sizeOf40
  v22 := Tryz.zeroValue40 }
end Go.Proofs
/- The walks of slices.EqualFunc and slices.Clone. Conditions: none. -/
set_option linter.unusedVariables false
set_option linter.unusedSimpArgs false
set_option maxRecDepth 10000
namespace Go.Proofs
open Go Go.Ab
attribute [local irreducible] QR QV OE aops aw dsoup dsoupM dalloc dallocM thn inBlk
open Go.H
theorem cloneInt {f : Bool} (rows : List (List AV)) (hl : rows.length ≤ 1099511627776) : ACall Tryz.prog 66 [.list f 1 rows] [] (fun r h' => h' = [] ∧ r = .list false 1 rows) := by
  refine acall_of_aw Tryz.func66 rfl rfl rfl ?_
  refine rn ?_
  refine aops_e rfl (oe_eqnil rfl rfl rfl fun b4 hb4 => ?_)
  refine rn ?_
  refine aw_cond rfl (fun hc4 => ?_) (fun hc4 => ?_)
  · refine rn ?_
    have h0 := hb4 hc4
    subst h0
    exact retq (.cons _ _ _ _ (.tmp _ _ rfl) .nil) (.le (Sb.nil _ _).le) ⟨rfl, rfl⟩
  · refine rn ?_
    refine qv rfl rfl (qv_buildSlice rfl rfl) ?_
    refine rn ?_
    refine qv rfl rfl (qv_append rfl rfl (by simpa using hl)) ?_
    refine rn ?_
    exact retq (.cons _ _ _ _ (.tmp _ _ rfl) .nil) (.refl _ _) ⟨rfl, by rw [List.nil_append]; rfl⟩
theorem cloneRowInt {f : Bool} (rows : List (List AV)) (hl : rows.length ≤ 1099511627776) (hone : ∀ r ∈ rows, r.all AV.one = true) : ACall Tryz.prog 66 [.list f 1 rows] [] (fun r h' => ∃ s, h' = [.row s 1 3 rows] ∧ r = .v s) := by
  refine acall_of_aw Tryz.func66 rfl rfl rfl ?_
  refine rn ?_
  refine aops_e rfl (oe_eqnil rfl rfl rfl fun b4 hb4 => ?_)
  refine rn ?_
  refine aw_cond rfl (fun hc4 => ?_) (fun hc4 => ?_)
  · refine rn ?_
    have h0 := hb4 hc4
    subst h0
    exact retq (.cons _ _ _ _ (.tmp _ _ rfl) .nil) (vent_nilrow 1 3 _) ⟨_, rfl, rfl⟩
  · refine rn ?_
    refine aops_e rfl (oe_buildRow rfl rfl rfl fun s5 => ?_)
    refine rn ?_
    refine aops_e rfl (oe_append_row rfl rfl (by simpa using hl) rfl (fun s7 => ?_) hone)
    refine rn ?_
    exact retq (.cons _ _ _ _ (.tmp _ _ rfl) .nil) (.refl _ _) ⟨_, by rw [List.nil_append], rfl⟩
theorem cloneRowStr {f : Bool} (rows : List (List AV)) (hl : rows.length ≤ 1099511627776) (hone : ∀ r ∈ rows, r.all AV.one = true) : ACall Tryz.prog 85 [.list f 1 rows] [] (fun r h' => ∃ s, h' = [.row s 1 9 rows] ∧ r = .v s) := by
  refine acall_of_aw Tryz.func85 rfl rfl rfl ?_
  refine rn ?_
  refine aops_e rfl (oe_eqnil rfl rfl rfl fun b4 hb4 => ?_)
  refine rn ?_
  refine aw_cond rfl (fun hc4 => ?_) (fun hc4 => ?_)
  · refine rn ?_
    have h0 := hb4 hc4
    subst h0
    exact retq (.cons _ _ _ _ (.tmp _ _ rfl) .nil) (vent_nilrow 1 9 _) ⟨_, rfl, rfl⟩
  · refine rn ?_
    refine aops_e rfl (oe_buildRow rfl rfl rfl fun s5 => ?_)
    refine rn ?_
    refine aops_e rfl (oe_append_row rfl rfl (by simpa using hl) rfl (fun s7 => ?_) hone)
    refine rn ?_
    exact retq (.cons _ _ _ _ (.tmp _ _ rfl) .nil) (.refl _ _) ⟨_, by rw [List.nil_append], rfl⟩
theorem cloneSeen {f : Bool} (rows : List (List AV)) (hl : rows.length ≤ 1099511627776) : ACall Tryz.prog 65 [.list f 3 rows] [] (fun r h' => h' = [] ∧ r = .list false 3 rows) := by
  refine acall_of_aw Tryz.func65 rfl rfl rfl ?_
  refine rn ?_
  refine aops_e rfl (oe_eqnil rfl rfl rfl fun b4 hb4 => ?_)
  refine rn ?_
  refine aw_cond rfl (fun hc4 => ?_) (fun hc4 => ?_)
  · refine rn ?_
    have h0 := hb4 hc4
    subst h0
    exact retq (.cons _ _ _ _ (.tmp _ _ rfl) .nil) (.le (Sb.nil _ _).le) ⟨rfl, rfl⟩
  · refine rn ?_
    refine qv rfl rfl (qv_buildSlice rfl rfl) ?_
    refine rn ?_
    refine qv rfl rfl (qv_append rfl rfl (by simpa using hl)) ?_
    refine rn ?_
    exact retq (.cons _ _ _ _ (.tmp _ _ rfl) .nil) (.refl _ _) ⟨rfl, by rw [List.nil_append]; rfl⟩
theorem cloneRowSeen {f : Bool} (rows : List (List AV)) (hl : rows.length ≤ 1099511627776) (hone : ∀ r ∈ rows, r.all AV.one = true) : ACall Tryz.prog 65 [.list f 3 rows] [] (fun r h' => ∃ s, h' = [.row s 3 81 rows] ∧ r = .v s) := by
  refine acall_of_aw Tryz.func65 rfl rfl rfl ?_
  refine rn ?_
  refine aops_e rfl (oe_eqnil rfl rfl rfl fun b4 hb4 => ?_)
  refine rn ?_
  refine aw_cond rfl (fun hc4 => ?_) (fun hc4 => ?_)
  · refine rn ?_
    have h0 := hb4 hc4
    subst h0
    exact retq (.cons _ _ _ _ (.tmp _ _ rfl) .nil) (vent_nilrow 3 81 _) ⟨_, rfl, rfl⟩
  · refine rn ?_
    refine aops_e rfl (oe_buildRow rfl rfl rfl fun s5 => ?_)
    refine rn ?_
    refine aops_e rfl (oe_append_row rfl rfl (by simpa using hl) rfl (fun s7 => ?_) hone)
    refine rn ?_
    exact retq (.cons _ _ _ _ (.tmp _ _ rfl) .nil) (.refl _ _) ⟨_, by rw [List.nil_append], rfl⟩
theorem cloneRowEv {f : Bool} (rows : List (List AV)) (hl : rows.length ≤ 1099511627776) (hone : ∀ r ∈ rows, r.all AV.one = true) : ACall Tryz.prog 82 [.list f 9 rows] [] (fun r h' => ∃ s, h' = [.row s 9 77 rows] ∧ r = .v s) := by
  refine acall_of_aw Tryz.func82 rfl rfl rfl ?_
  refine rn ?_
  refine aops_e rfl (oe_eqnil rfl rfl rfl fun b4 hb4 => ?_)
  refine rn ?_
  refine aw_cond rfl (fun hc4 => ?_) (fun hc4 => ?_)
  · refine rn ?_
    have h0 := hb4 hc4
    subst h0
    exact retq (.cons _ _ _ _ (.tmp _ _ rfl) .nil) (vent_nilrow 9 77 _) ⟨_, rfl, rfl⟩
  · refine rn ?_
    refine aops_e rfl (oe_buildRow rfl rfl rfl fun s5 => ?_)
    refine rn ?_
    refine aops_e rfl (oe_append_row rfl rfl (by simpa using hl) rfl (fun s7 => ?_) hone)
    refine rn ?_
    exact retq (.cons _ _ _ _ (.tmp _ _ rfl) .nil) (.refl _ _) ⟨_, by rw [List.nil_append], rfl⟩
theorem cloneRowOrd {f : Bool} (rows : List (List AV)) (hl : rows.length ≤ 1099511627776) (hone : ∀ r ∈ rows, r.all AV.one = true) : ACall Tryz.prog 83 [.list f 2 rows] [] (fun r h' => ∃ s, h' = [.row s 2 98 rows] ∧ r = .v s) := by
  refine acall_of_aw Tryz.func83 rfl rfl rfl ?_
  refine rn ?_
  refine aops_e rfl (oe_eqnil rfl rfl rfl fun b4 hb4 => ?_)
  refine rn ?_
  refine aw_cond rfl (fun hc4 => ?_) (fun hc4 => ?_)
  · refine rn ?_
    have h0 := hb4 hc4
    subst h0
    exact retq (.cons _ _ _ _ (.tmp _ _ rfl) .nil) (vent_nilrow 2 98 _) ⟨_, rfl, rfl⟩
  · refine rn ?_
    refine aops_e rfl (oe_buildRow rfl rfl rfl fun s5 => ?_)
    refine rn ?_
    refine aops_e rfl (oe_append_row rfl rfl (by simpa using hl) rfl (fun s7 => ?_) hone)
    refine rn ?_
    exact retq (.cons _ _ _ _ (.tmp _ _ rfl) .nil) (.refl _ _) ⟨_, by rw [List.nil_append], rfl⟩
theorem cloneRowMat {f : Bool} (rows : List (List AV)) (hl : rows.length ≤ 1099511627776) (hone : ∀ r ∈ rows, r.all AV.one = true) : ACall Tryz.prog 84 [.list f 4 rows] [] (fun r h' => ∃ s, h' = [.row s 4 91 rows] ∧ r = .v s) := by
  refine acall_of_aw Tryz.func84 rfl rfl rfl ?_
  refine rn ?_
  refine aops_e rfl (oe_eqnil rfl rfl rfl fun b4 hb4 => ?_)
  refine rn ?_
  refine aw_cond rfl (fun hc4 => ?_) (fun hc4 => ?_)
  · refine rn ?_
    have h0 := hb4 hc4
    subst h0
    exact retq (.cons _ _ _ _ (.tmp _ _ rfl) .nil) (vent_nilrow 4 91 _) ⟨_, rfl, rfl⟩
  · refine rn ?_
    refine aops_e rfl (oe_buildRow rfl rfl rfl fun s5 => ?_)
    refine rn ?_
    refine aops_e rfl (oe_append_row rfl rfl (by simpa using hl) rfl (fun s7 => ?_) hone)
    refine rn ?_
    exact retq (.cons _ _ _ _ (.tmp _ _ rfl) .nil) (.refl _ _) ⟨_, by rw [List.nil_append], rfl⟩
theorem cloneWan {f : Bool} (rows : List (List AV)) (hl : rows.length ≤ 1099511627776) : ACall Tryz.prog 67 [.list f 2 rows] [] (fun r h' => h' = [] ∧ r = .list false 2 rows) := by
  refine acall_of_aw Tryz.func67 rfl rfl rfl ?_
  refine rn ?_
  refine aops_e rfl (oe_eqnil rfl rfl rfl fun b4 hb4 => ?_)
  refine rn ?_
  refine aw_cond rfl (fun hc4 => ?_) (fun hc4 => ?_)
  · refine rn ?_
    have h0 := hb4 hc4
    subst h0
    exact retq (.cons _ _ _ _ (.tmp _ _ rfl) .nil) (.le (Sb.nil _ _).le) ⟨rfl, rfl⟩
  · refine rn ?_
    refine qv rfl rfl (qv_buildSlice rfl rfl) ?_
    refine rn ?_
    refine qv rfl rfl (qv_append rfl rfl (by simpa using hl)) ?_
    refine rn ?_
    exact retq (.cons _ _ _ _ (.tmp _ _ rfl) .nil) (.refl _ _) ⟨rfl, by rw [List.nil_append]; rfl⟩
theorem cloneRowWan {f : Bool} (rows : List (List AV)) (hl : rows.length ≤ 1099511627776) (hone : ∀ r ∈ rows, r.all AV.one = true) : ACall Tryz.prog 67 [.list f 2 rows] [] (fun r h' => ∃ s, h' = [.row s 2 102 rows] ∧ r = .v s) := by
  refine acall_of_aw Tryz.func67 rfl rfl rfl ?_
  refine rn ?_
  refine aops_e rfl (oe_eqnil rfl rfl rfl fun b4 hb4 => ?_)
  refine rn ?_
  refine aw_cond rfl (fun hc4 => ?_) (fun hc4 => ?_)
  · refine rn ?_
    have h0 := hb4 hc4
    subst h0
    exact retq (.cons _ _ _ _ (.tmp _ _ rfl) .nil) (vent_nilrow 2 102 _) ⟨_, rfl, rfl⟩
  · refine rn ?_
    refine aops_e rfl (oe_buildRow rfl rfl rfl fun s5 => ?_)
    refine rn ?_
    refine aops_e rfl (oe_append_row rfl rfl (by simpa using hl) rfl (fun s7 => ?_) hone)
    refine rn ?_
    exact retq (.cons _ _ _ _ (.tmp _ _ rfl) .nil) (.refl _ _) ⟨_, by rw [List.nil_append], rfl⟩
end Go.Proofs
/- The walk of rules.look's writers. Conditions: none. -/
set_option linter.unusedVariables false
set_option linter.unusedSimpArgs false
set_option maxRecDepth 10000
namespace Go.Proofs
open Go Go.Ab
attribute [local irreducible] QR QV OE aops aw dsoup dsoupM dalloc dallocM thn inBlk jsoup jch lsoup
open Go.H
theorem sortI (s : SV) (xs : List Int) (hs : xs.length < 4611686018427387904) : ACall Tryz.prog 94 [.v s.v] [.row s.v 1 3 (xs.map intR)] (fun r h' => h' = [.row s.v 1 3 ((srt xs).map intR)] ∧ r = .v (.tuple #[])) :=
  acall_sort sortLays s 3 xs hs
theorem compI (s : SV) (xs : List Int) (hs : xs.length ≤ 4611686018427387904) : ACall Tryz.prog 127 [.v s.v] [.row s.v 1 3 (xs.map intR)] (fun r h' => ∃ s' : SV, h' = [.row s'.v 1 3 ((cmpct xs).map intR)] ∧ r = .v s'.v) := by
  rw [← compact_eq]; exact acall_compact compLays s 3 xs hs
theorem rWriters (h : Hist) (la : Lim 3000 h) (bl : Nat) (x : Int) (G : List Res) : ACall Tryz.prog 74 [.v (.pointer (some ⟨bl, 0, none⟩)), iv x] (.box bl 111 (lookN h) :: G) (fun r h' => h' = .box bl 111 (lookN h) :: G ∧ r = intsA (writersP h.evs x)) := by
  refine acall_of_aw Tryz.func74 rfl rfl rfl ?_
  have be := la.evs
  refine rn ?_
  refine aops_e rfl (oe_makeMap (enc := intK) rfl fun bm => ?_)
  refine rn ?_
  refine aw_range h.evs.length (fun k => True) (fun k => ⟨[(18, iv k), (0, .v (.pointer (some ⟨bl, 0, none⟩))), (1, iv x), (5, .v (.map (some bm))), (16, evsA h.evs), (17, iv (h.evs.map evR).length)], .map bm (encM intK (mapA bv (donT (h.evs.take k)))) :: .box bl 111 (lookN h) :: G, []⟩) trivial es ?_
  intro k lk _
  refine rn ?_
  refine aw_cond rfl (fun hc19 => ?_) (fun hc19 => ?_)
  · have hk := ltMap hc19
    have rk := atRow (f := evR) hk
    refine rn ?_
    refine aops_e rfl (oe_alloc rfl fun b7 => ?_)
    first | refine aops_e rfl (oe_store_all rfl rfl rfl ?_) | refine aops_e rfl (oe_store rfl rfl rfl rfl (Nat.le_of_ble_eq_true rfl) ?_)
    refine aops_nil (thn_n ?_)
    refine aw_region ?_
    refine q1 ?_
    refine q1 ?_
    refine q1 ?_
    refine q1 ?_
    refine q1 ?_
    refine q1 ?_
    refine qq rfl rfl (qr_lookT (enc := intK) (k := h.evs[k].t) false rfl rfl) ?_
    refine rn ?_
    refine asplit (fun hg5_7 => ?_) (fun hg5_7 => ?_)
    · refine rn ?_
      refine aops_e rfl (oe_mapUpdT (g := bv) (enc := intK) (k := h.evs[k].t) rfl rfl rfl ?_)
      refine rn ?_
      exact ⟨hk, trivial, by first | (rw [donT_next hk, hg5_7, Bool.true_or]; exact eA) | (rw [donT_next hk, hg5_7, Bool.false_or]; exact eA)⟩
    · refine rn ?_
      refine aops_e rfl (oe_mapUpdT (g := bv) (enc := intK) (k := h.evs[k].t) rfl rfl rfl ?_)
      refine rn ?_
      exact ⟨hk, trivial, by first | (rw [donT_next hk, hg5_7, Bool.true_or]; exact eA) | (rw [donT_next hk, hg5_7, Bool.false_or]; exact eA)⟩
  · have qk := geMap hc19 lk
    subst qk
    rw [List.take_length]
    refine rn ?_
    refine aw_rng1 h.evs.length (fun k s => ⟨[(41, iv k), (8, .v s.v), (1, iv x), (5, .v (.map (some bm))), (39, evsA h.evs), (40, iv (h.evs.map evR).length)], .row s.v 1 3 ((((h.evs.take k).filter (wrB h.evs x)).map Ev.t).map intR) :: .map bm (encM intK (mapA bv (donT h.evs))) :: .box bl 111 (lookN h) :: G, []⟩) ⟨none, 0, 0⟩ (ent_trans (ent_nilrow 1 3) es) ?_
    intro k s lk
    refine rn ?_
    refine aw_cond rfl (fun hc42 => ?_) (fun hc42 => ?_)
    · have hk := ltMap hc42
      have rk := atRow (f := evR) hk
      refine rn ?_
      refine aops_e rfl (oe_alloc rfl fun b10 => ?_)
      refine rn ?_
      refine asplit (fun hg11_3 => ?_) (fun hg11_3 => ?_)
      · refine rn ?_
        refine asplit (fun hg11_9 => ?_) (fun hg11_9 => ?_)
        · refine q1 ?_
          refine q1 ?_
          refine q1 ?_
          refine qq rfl rfl (qr_lookT (enc := intK) (k := h.evs[k].t) false rfl rfl) ?_
          refine rn ?_
          refine aw_cond rfl (fun hc59 => ?_) (fun hc59 => ?_)
          · have hx : wrB h.evs x h.evs[k] = true := by unfold wrB; rw [← donT_get]; simp_all
            refine rn ?_
            refine qv rfl rfl (qv_buildSlice rfl rfl) ?_
            refine aops_e rfl (oe_append_row rfl rfl (by simp only [List.length_map, List.length_cons, List.length_nil]; have := flt_le (l := h.evs) (k := k) (p := wrB h.evs x); omega) rfl (fun s64 => ?_) (one_int [h.evs[k].t]))
            refine aops_slice s64 fun sv hsv => ?_
            subst hsv
            refine rn ?_
            exact ⟨hk, sv, by rw [flt_t hk hx, List.map_append, List.map_append]; exact eA⟩
          · have hx : wrB h.evs x h.evs[k] = false := by unfold wrB; rw [← donT_get]; simp_all
            refine rn ?_
            exact ⟨hk, s, by rw [flt_f hk hx]; exact eA⟩
        · refine rn ?_
          refine aw_cf rfl ?_
          have hx : wrB h.evs x h.evs[k] = false := by unfold wrB; rw [← donT_get]; simp_all
          refine rn ?_
          exact ⟨hk, s, by rw [flt_f hk hx]; exact eA⟩
      · refine rn ?_
        refine aw_cf rfl ?_
        have hx : wrB h.evs x h.evs[k] = false := by unfold wrB; rw [← donT_get]; simp_all
        refine rn ?_
        exact ⟨hk, s, by rw [flt_f hk hx]; exact eA⟩
    · have qk := geMap hc42 lk
      subst qk
      refine rn ?_
      refine aops_e rfl (oe_call rfl rfl (fcall_row0 (FCall.of_fun (sortI s _ (by have := flt_le (l := h.evs) (k := h.evs.length) (p := wrB h.evs x); rw [List.length_map]; omega)))) rfl ?_)
      rintro _ _ ⟨rfl, rfl⟩
      refine rn ?_
      refine aops_e rfl (oe_call rfl rfl (fcall_row (FCall.of_fun (compI s _ (by rw [(srt_perm _).length_eq, List.length_map]; have := flt_le (l := h.evs) (k := h.evs.length) (p := wrB h.evs x); omega)))) rfl ?_)
      rintro _ _ ⟨s', rfl, rfl⟩
      refine rn ?_
      exact retq (.cons _ _ _ _ (.tmp _ _ rfl) .nil) (.trans vent_freeze (.drop1 _ _ _)) ⟨rfl, by rw [List.take_length]; rfl⟩
end Go.Proofs
/- The walks of slices.Contains, once and row. Conditions: none. -/
set_option linter.unusedVariables false
set_option linter.unusedSimpArgs false
set_option maxRecDepth 10000
namespace Go.Proofs
open Go Go.Ab
attribute [local irreducible] QR QV OE aops aw dsoup dsoupM dalloc dallocM thn inBlk jsoup jch lsoup
open Go.H
theorem indexI {f : Bool} (l : List Int) (n : Int) (hl : l.length ≤ 4611686018427387904) : ACall Tryz.prog 107 [.list f 1 (l.map intR), iv n] [] (fun r h' => h' = [] ∧ r = iv (fidx (fun a => a == n) 0 l)) := by
  refine acall_of_aw Tryz.func107 rfl rfl rfl ?_
  refine rn ?_
  refine aw_rng (l.length) (fun k : Nat => fidx (fun a => a == n) 0 l = fidx (fun a => a == n) k (l.drop k)) (fun k => [(8, iv k)]) [(0, _), (1, _), (7, _)] (by simp) ?_
  intro k lk zk
  refine rn ?_
  refine aw_cond rfl (fun hc9 => ?_) (fun hc9 => ?_)
  · have hk := ltMap hc9
    have rk := atRow (f := intR) hk
    refine rn ?_
    refine aw_cond rfl (fun hc16 => ?_) (fun hc16 => ?_)
    · refine rn ?_
      refine rq 0 ?_
      exact ⟨rfl, congrArg iv (by rw [zk, List.drop_eq_getElem_cons hk, fidx, if_pos (by rw [beq_iff_eq] at hc16 ⊢; exact hc16.symm)])⟩
    · refine rn ?_
      exact ⟨hk, by rw [zk, List.drop_eq_getElem_cons hk, fidx, if_neg (fun q => by rw [beq_iff_eq] at q; rw [q] at hc16; simp at hc16)], eA⟩
  · have qk := geMap hc9 lk
    refine rn ?_
    refine rq 0 ?_
    exact ⟨rfl, congrArg iv (by rw [zk, qk, List.drop_length]; rfl)⟩
theorem containsI {f : Bool} (l : List Int) (n : Int) (hl : l.length ≤ 4611686018427387904) : ACall Tryz.prog 51 [.list f 1 (l.map intR), iv n] [] (fun r h' => h' = [] ∧ r = bv (l.contains n)) := by
  refine acall_of_aw Tryz.func51 rfl rfl rfl ?_
  refine rn ?_
  refine qv rfl rfl (qv_call rfl rfl (pcall (indexI _ _ hl) (Sbs.refl _))) ?_
  refine rn ?_
  refine rq 0 ?_
  exact ⟨rfl, congrArg bv (by rw [fidx_ge, contains_any])⟩
theorem rOnce1 (f : List Int) (t : Int) (b : Nat) (G : List Res) (hl : f.length ≤ 4611686018427387904) : ACall Tryz.prog 271 [iv t, .v (.pointer (some ⟨b, 0, none⟩))] (.box b 40 [intsA f] :: G) (fun r h' => h' = .box b 40 [intsA f] :: G ∧ r = bv (!f.contains t)) := by
  refine acall_of_aw Tryz.func271 rfl rfl rfl ?_
  refine rn ?_
  refine qv rfl rfl (qv_call rfl rfl (pcall (containsI _ _ hl) (Sbs.refl _))) ?_
  refine rn ?_
  refine rq 0 ?_
  exact ⟨rfl, rfl⟩
theorem rOnce (ts f : List Int) (hl : ts.length ≤ 1000000) (hf : f.length ≤ 4611686018427387904) : ACall Tryz.prog 259 [intsA ts, intsA f] [] (fun r h' => h' = [] ∧ r = bv (onceP ts f)) := by
  refine acall_of_aw Tryz.func259 rfl rfl rfl ?_
  have hl' : ts.length ≤ 4611686018427387904 := Nat.le_trans hl (by decide)
  refine rn ?_
  refine aops_e rfl (oe_box rfl rfl rfl fun b3 => ?_)
  refine rn ?_
  refine aops_e rfl (oe_call rfl rfl (FCall.new (FCall.of_fun (cloneRowInt (ts.map intR) (by simp; omega) (fun r hr => by obtain ⟨n, _, rfl⟩ := List.mem_map.1 hr; rfl)))) rfl ?_)
  rintro _ _ ⟨_, ⟨s, rfl, rfl⟩, rfl⟩
  show aops _ _ _ _ _ _ ⟨_, .row s 1 3 (ts.map intR) :: [.box b3 40 [intsA f]], _⟩
  refine aops_slice s fun sv hsv => ?_
  subst hsv
  refine rn ?_
  refine aops_e rfl (oe_call rfl rfl (fcall_row0 (FCall.of_fun (sortI sv ts (by omega)))) rfl ?_)
  rintro _ _ ⟨rfl, rfl⟩
  refine rn ?_
  refine aops_e rfl (oe_call rfl rfl (fcall_row (FCall.of_fun (compI sv (srt ts) (by rw [(srt_perm _).length_eq]; omega)))) rfl ?_)
  rintro _ _ ⟨s', rfl, rfl⟩
  refine rn ?_
  refine asplit (fun hg3_6 => ?_) (fun hg3_6 => ?_)
  · refine rn ?_
    refine qv rfl rfl (qv_call rfl rfl (FCall.of_fun (containsFuncInt ts _ _ [.row s'.v 1 3 ((cmpct (srt ts)).map intR), .box b3 40 [intsA f]] (fun t _ => FCall.qt (h2 := [_]) (FCall.of_acall (fs := []) (cs := [.v (.pointer (some ⟨b3, 0, none⟩))]) (rOnce1 f t b3 [] hf)) (perm_swap [_] [_])) hl'))) ?_
    refine rn ?_
    refine rq 2 ?_
    exact ⟨rfl, congrArg bv (by unfold onceP; by_cases e : (cmpct (srt ts)).length = ts.length <;> first | (simp_all; done) | (exfalso; simp at hg3_6; omega))⟩
  · refine rn ?_
    refine rq 2 ?_
    exact ⟨rfl, congrArg bv (by unfold onceP; by_cases e : (cmpct (srt ts)).length = ts.length <;> first | (simp_all; done) | (exfalso; simp at hg3_6; omega))⟩
theorem rRowOrd {f : Bool} (l : List H.Ord) (fv : AV) (w : Nat → H.Ord → Bool) (G : List Res) (hp : ∀ k (hk : k < l.length), FCall Tryz.prog fv [iv k, .agg (ordR l[k])] G (fun r h' => h' = G ∧ r = bv (w k l[k]))) (hl : l.length ≤ 1000000) : ACall Tryz.prog 256 [.list f 2 (l.map ordR), fv] G (fun r h' => h' = G ∧ r = placeV (rowF w 0 l)) := by
  refine acall_of_aw Tryz.func256 rfl rfl rfl ?_
  refine rn ?_
  refine aw_range l.length (fun k => rowF w 0 l = rowF w k (l.drop k)) (fun k => ⟨[(10, iv k), (1, fv), (8, .list f 2 (l.map ordR)), (9, iv (l.map ordR).length)], G, []⟩) (by simp) es ?_
  intro k lk zk
  refine rn ?_
  refine aw_cond rfl (fun hc11 => ?_) (fun hc11 => ?_)
  · have hk := ltMap hc11
    have rk := atRow (f := ordR) hk
    refine rn ?_
    refine aops_e rfl (oe_alloc rfl fun b7 => ?_)
    refine rn ?_
    refine qv rfl rfl (qv_call rfl rfl (FCall.qt (h2 := [_]) (hp k hk) (perm_swap [_] _))) ?_
    refine rn ?_
    refine aw_cond rfl (fun hc18 => ?_) (fun hc18 => ?_)
    · refine rn ?_
      refine rq 1 ?_
      exact ⟨rfl, by rw [rowF_stop hk zk (by simpa using hc18)]; rfl⟩
    · refine rn ?_
      exact ⟨hk, rowF_step hk zk (by simpa using hc18), eA⟩
  · have qk := geMap hc11 lk
    refine rn ?_
    refine rq 0 ?_
    exact ⟨rfl, by rw [rowF_end qk zk]; rfl⟩
theorem rRowStr {f : Bool} (l : List ByteArray) (fv : AV) (w : Nat → ByteArray → Bool) (G : List Res) (hp : ∀ k (hk : k < l.length), FCall Tryz.prog fv [iv k, sv l[k]] G (fun r h' => h' = G ∧ r = bv (w k l[k]))) (hl : l.length ≤ 1000000) : ACall Tryz.prog 260 [.list f 1 (l.map strR), fv] G (fun r h' => h' = G ∧ r = placeV (rowF w 0 l)) := by
  refine acall_of_aw Tryz.func260 rfl rfl rfl ?_
  refine rn ?_
  refine aw_range l.length (fun k => rowF w 0 l = rowF w k (l.drop k)) (fun k => ⟨[(10, iv k), (1, fv), (8, .list f 1 (l.map strR)), (9, iv (l.map strR).length)], G, []⟩) (by simp) es ?_
  intro k lk zk
  refine rn ?_
  refine aw_cond rfl (fun hc11 => ?_) (fun hc11 => ?_)
  · have hk := ltMap hc11
    have rk := atRow (f := strR) hk
    refine rn ?_
    refine qv rfl rfl (qv_call rfl rfl (hp k hk)) ?_
    refine rn ?_
    refine aw_cond rfl (fun hc18 => ?_) (fun hc18 => ?_)
    · refine rn ?_
      refine rq 0 ?_
      exact ⟨rfl, by rw [rowF_stop hk zk (by simpa using hc18)]; rfl⟩
    · refine rn ?_
      exact ⟨hk, rowF_step hk zk (by simpa using hc18), eA⟩
  · have qk := geMap hc11 lk
    refine rn ?_
    refine rq 0 ?_
    exact ⟨rfl, by rw [rowF_end qk zk]; rfl⟩
theorem rRowMat {f : Bool} (l : List Mat) (fv : AV) (w : Nat → Mat → Bool) (G : List Res) (hp : ∀ k (hk : k < l.length), FCall Tryz.prog fv [iv k, .agg (matR l[k])] G (fun r h' => h' = G ∧ r = bv (w k l[k]))) (hl : l.length ≤ 1000000) : ACall Tryz.prog 263 [.list f 4 (l.map matR), fv] G (fun r h' => h' = G ∧ r = placeV (rowF w 0 l)) := by
  refine acall_of_aw Tryz.func263 rfl rfl rfl ?_
  refine rn ?_
  refine aw_range l.length (fun k => rowF w 0 l = rowF w k (l.drop k)) (fun k => ⟨[(10, iv k), (1, fv), (8, .list f 4 (l.map matR)), (9, iv (l.map matR).length)], G, []⟩) (by simp) es ?_
  intro k lk zk
  refine rn ?_
  refine aw_cond rfl (fun hc11 => ?_) (fun hc11 => ?_)
  · have hk := ltMap hc11
    have rk := atRow (f := matR) hk
    refine rn ?_
    refine aops_e rfl (oe_alloc rfl fun b7 => ?_)
    refine rn ?_
    refine qv rfl rfl (qv_call rfl rfl (FCall.qt (h2 := [_]) (hp k hk) (perm_swap [_] _))) ?_
    refine rn ?_
    refine aw_cond rfl (fun hc18 => ?_) (fun hc18 => ?_)
    · refine rn ?_
      refine rq 1 ?_
      exact ⟨rfl, by rw [rowF_stop hk zk (by simpa using hc18)]; rfl⟩
    · refine rn ?_
      exact ⟨hk, rowF_step hk zk (by simpa using hc18), eA⟩
  · have qk := geMap hc11 lk
    refine rn ?_
    refine rq 0 ?_
    exact ⟨rfl, by rw [rowF_end qk zk]; rfl⟩
theorem rRowWan {f : Bool} (l : List Wan) (fv : AV) (w : Nat → Wan → Bool) (G : List Res) (hp : ∀ k (hk : k < l.length), FCall Tryz.prog fv [iv k, .agg (wanR l[k])] G (fun r h' => h' = G ∧ r = bv (w k l[k]))) (hl : l.length ≤ 1000000) : ACall Tryz.prog 266 [.list f 2 (l.map wanR), fv] G (fun r h' => h' = G ∧ r = placeV (rowF w 0 l)) := by
  refine acall_of_aw Tryz.func266 rfl rfl rfl ?_
  refine rn ?_
  refine aw_range l.length (fun k => rowF w 0 l = rowF w k (l.drop k)) (fun k => ⟨[(10, iv k), (1, fv), (8, .list f 2 (l.map wanR)), (9, iv (l.map wanR).length)], G, []⟩) (by simp) es ?_
  intro k lk zk
  refine rn ?_
  refine aw_cond rfl (fun hc11 => ?_) (fun hc11 => ?_)
  · have hk := ltMap hc11
    have rk := atRow (f := wanR) hk
    refine rn ?_
    refine aops_e rfl (oe_alloc rfl fun b7 => ?_)
    refine rn ?_
    refine qv rfl rfl (qv_call rfl rfl (FCall.qt (h2 := [_]) (hp k hk) (perm_swap [_] _))) ?_
    refine rn ?_
    refine aw_cond rfl (fun hc18 => ?_) (fun hc18 => ?_)
    · refine rn ?_
      refine rq 1 ?_
      exact ⟨rfl, by rw [rowF_stop hk zk (by simpa using hc18)]; rfl⟩
    · refine rn ?_
      exact ⟨hk, rowF_step hk zk (by simpa using hc18), eA⟩
  · have qk := geMap hc11 lk
    refine rn ?_
    refine rq 0 ?_
    exact ⟨rfl, by rw [rowF_end qk zk]; rfl⟩
end Go.Proofs
/- The walks of the rules of rows. Conditions: none. -/
set_option linter.unusedVariables false
set_option linter.unusedSimpArgs false
set_option maxRecDepth 10000
namespace Go.Proofs
open Go Go.Ab
attribute [local irreducible] QR QV OE aops aw dsoup dsoupM dalloc dallocM thn inBlk jsoup jch lsoup
open Go.H
theorem rOrder11 (p r : H.Ord) (b : Nat) (G : List Res) : ACall Tryz.prog 258 [.agg (ordR p), .v (.pointer (some ⟨b, 0, none⟩))] (.box b 98 (ordR r) :: G) (fun x h' => h' = .box b 98 (ordR r) :: G ∧ x = bv (p.o == r.o)) := by
  refine acall_of_aw Tryz.func258 rfl rfl rfl ?_
  refine rn ?_
  refine aops_e rfl (oe_box rfl rfl rfl fun b2 => ?_)
  refine rn ?_
  refine rq 1 ?_
  exact ⟨rfl, congrArg bv (by first | rfl | (simp_all; done))⟩
theorem rMatch11 (p r : Mat) (b : Nat) (G : List Res) : ACall Tryz.prog 265 [.agg (matR p), .v (.pointer (some ⟨b, 0, none⟩))] (.box b 91 (matR r) :: G) (fun x h' => h' = .box b 91 (matR r) :: G ∧ x = bv (p.p == r.p && p.o == r.o)) := by
  refine acall_of_aw Tryz.func265 rfl rfl rfl ?_
  refine rn ?_
  refine aops_e rfl (oe_box rfl rfl rfl fun b2 => ?_)
  refine rn ?_
  refine asplit (fun hg1_5 => ?_) (fun hg1_5 => ?_)
  · refine rn ?_
    refine rq 1 ?_
    exact ⟨rfl, congrArg bv (by first | rfl | (simp_all; done))⟩
  · refine rn ?_
    refine rq 1 ?_
    exact ⟨rfl, congrArg bv (by first | rfl | (simp_all; done))⟩
theorem rWant12 (p r : Wan) (b : Nat) (G : List Res) : ACall Tryz.prog 269 [.agg (wanR p), .v (.pointer (some ⟨b, 0, none⟩))] (.box b 102 (wanR r) :: G) (fun x h' => h' = .box b 102 (wanR r) :: G ∧ x = bv (p.s == r.s)) := by
  refine acall_of_aw Tryz.func269 rfl rfl rfl ?_
  refine rn ?_
  refine aops_e rfl (oe_box rfl rfl rfl fun b2 => ?_)
  refine rn ?_
  refine rq 1 ?_
  exact ⟨rfl, congrArg bv (by first | rfl | (simp_all; done))⟩
theorem rWant11 (e : Ev) (r : Wan) (b : Nat) (G : List Res) : ACall Tryz.prog 268 [.agg (evR e), .v (.pointer (some ⟨b, 0, none⟩))] (.box b 102 (wanR r) :: G) (fun x h' => h' = .box b 102 (wanR r) :: G ∧ x = bv (e.kind == 1 && e.s == r.s)) := by
  refine acall_of_aw Tryz.func268 rfl rfl rfl ?_
  refine rn ?_
  refine aops_e rfl (oe_box rfl rfl rfl fun b2 => ?_)
  refine rn ?_
  refine asplit (fun hg1_3 => ?_) (fun hg1_3 => ?_)
  · refine rn ?_
    refine rq 1 ?_
    exact ⟨rfl, congrArg bv (by first | (simp_all; done) | (simp only [*]; done))⟩
  · refine rn ?_
    refine rq 1 ?_
    exact ⟨rfl, congrArg bv (by first | (simp_all; done) | (simp only [*]; done))⟩
theorem rMissing11 (r : H.Ord) (x : Int) (b : Nat) (G : List Res) : ACall Tryz.prog 262 [.agg (ordR r), .v (.pointer (some ⟨b, 0, none⟩))] (.box b 3 [iv x] :: G) (fun z h' => h' = .box b 3 [iv x] :: G ∧ z = bv (r.o == x)) := by
  refine acall_of_aw Tryz.func262 rfl rfl rfl ?_
  refine rn ?_
  refine aops_e rfl (oe_box rfl rfl rfl fun b2 => ?_)
  refine rn ?_
  refine rq 1 ?_
  exact ⟨rfl, congrArg bv (by first | rfl | (simp_all; done))⟩
theorem rOrder1 (h : Hist) (la : Lim 3000 h) (i : Nat) (hi : i ≤ h.ords.length) (r : H.Ord) (hr : r.ts.length ≤ 3000) (bl bp : Nat) (G : List Res) : ACall Tryz.prog 257 [iv i, .agg (ordR r), .v (.pointer (some ⟨bp, 0, none⟩))] (.box bp 105 [.v (.pointer (some ⟨bl, 0, none⟩))] :: .box bl 111 (lookN h) :: G) (fun x h' => h' = (.box bp 105 [.v (.pointer (some ⟨bl, 0, none⟩))] :: .box bl 111 (lookN h) :: G) ∧ x = bv (orderP h i r)) := by
  refine acall_of_aw Tryz.func257 rfl rfl rfl ?_
  have bo := la.ords
  refine rn ?_
  refine aops_e rfl (oe_box rfl rfl rfl fun b4 => ?_)
  refine rn ?_
  refine qv rfl rfl (qv_call rfl rfl (FCall.qt (h2 := .box b4 98 (ordR r) :: .box bp 105 [.v (.pointer (some ⟨bl, 0, none⟩))] :: G) (FCall.of_fun (rWriters h la bl r.o [])) (pt2 _ _ _ _))) ?_
  refine q1 ?_
  refine aops_nil (thn_n ?_)
  refine aw_seq (aw_region ?_)
  refine q1 ?_
  refine q1 ?_
  refine q1 ?_
  refine q1 ?_
  refine q1 ?_
  refine q1 ?_
  refine qq rfl rfl (qr_slice_h (k := i) rfl rfl (by rw [List.length_map]; omega)) ?_
  rw [← List.map_take]
  refine rn ?_
  refine qv rfl rfl (qv_call rfl rfl (FCall.of_fun (containsFuncOrd (h.ords.take i) _ _ (.box b4 98 (ordR r) :: .box bp 105 [.v (.pointer (some ⟨bl, 0, none⟩))] :: .box bl 111 (lookN h) :: G) (fun p _ => FCall.of_acall (fs := []) (cs := [.v (.pointer (some ⟨b4, 0, none⟩))]) (rOrder11 p r b4 (.box bp 105 [.v (.pointer (some ⟨bl, 0, none⟩))] :: .box bl 111 (lookN h) :: G))) (by rw [List.length_take]; have := la.ords; omega)))) ?_
  refine rn ?_
  refine asplit (fun hg2_9 => ?_) (fun hg2_9 => ?_)
  · refine rn ?_
    refine rq 1 ?_
    exact ⟨rfl, congrArg bv (by unfold orderP; first | (simp only [hg2_9, hg2_16, List.length_map, len_bne, Bool.not_true, Bool.not_false, Bool.true_or, Bool.or_true, Bool.false_or]; done) | (simp only [hg2_9, Bool.true_or]; done) | (simp_all [len_bne]; done))⟩
  · refine rn ?_
    refine qv rfl rfl (qv_call rfl rfl (pcall (rOnce r.ts (writersP h.evs r.o) (Nat.le_trans hr (by decide)) (Nat.le_trans (writers_le h.evs r.o) (Nat.le_trans la.evs (by decide)))) (Sbs.refl _))) ?_
    refine rn ?_
    refine asplit (fun hg2_16 => ?_) (fun hg2_16 => ?_)
    · refine rn ?_
      refine rq 1 ?_
      exact ⟨rfl, congrArg bv (by unfold orderP; first | (simp only [hg2_9, hg2_16, List.length_map, len_bne, Bool.not_true, Bool.not_false, Bool.true_or, Bool.or_true, Bool.false_or]; done) | (simp only [hg2_9, Bool.true_or]; done) | (simp_all [len_bne]; done))⟩
    · refine rn ?_
      refine rq 1 ?_
      exact ⟨rfl, congrArg bv (by unfold orderP; first | (simp only [hg2_9, hg2_16, List.length_map, len_bne, Bool.not_true, Bool.not_false, Bool.true_or, Bool.or_true, Bool.false_or]; done) | (simp only [hg2_9, Bool.true_or]; done) | (simp_all [len_bne]; done))⟩
theorem rMatch1 (h : Hist) (la : Lim 3000 h) (i : Nat) (hi : i ≤ h.mats.length) (r : Mat) (hr : r.ts.length ≤ 3000) (bl bp : Nat) (G : List Res) : ACall Tryz.prog 264 [iv i, .agg (matR r), .v (.pointer (some ⟨bp, 0, none⟩))] (.box bp 105 [.v (.pointer (some ⟨bl, 0, none⟩))] :: .box bl 111 (lookN h) :: G) (fun x h' => h' = (.box bp 105 [.v (.pointer (some ⟨bl, 0, none⟩))] :: .box bl 111 (lookN h) :: G) ∧ x = bv (matchP h i r)) := by
  refine acall_of_aw Tryz.func264 rfl rfl rfl ?_
  have bo := la.mats
  refine rn ?_
  refine aops_e rfl (oe_box rfl rfl rfl fun b4 => ?_)
  refine rn ?_
  refine aw_draw 16 rfl ?_
  refine dq rfl rfl qrA ?_
  refine dq rfl rfl qrA ?_
  refine dq rfl rfl qrA ?_
  refine dq rfl rfl qrA ?_
  refine dq rfl rfl qrA ?_
  refine dq rfl rfl qrA ?_
  refine dq rfl rfl (qr_slice_h (k := i) rfl rfl (by rw [List.length_map]; omega)) ?_
  rw [← List.map_take]
  refine rn ?_
  refine dv rfl rfl (by exact qv_call rfl rfl (FCall.of_fun (containsFuncMat (h.mats.take i) _ _ (.box b4 91 (matR r) :: .box bp 105 [.v (.pointer (some ⟨bl, 0, none⟩))] :: .box bl 111 (lookN h) :: G) (fun p _ => FCall.of_acall (fs := []) (cs := [.v (.pointer (some ⟨b4, 0, none⟩))]) (rMatch11 p r b4 (.box bp 105 [.v (.pointer (some ⟨bl, 0, none⟩))] :: .box bl 111 (lookN h) :: G))) (by rw [List.length_take]; have := la.mats; omega)))) ?_
  refine rn ?_
  refine dsplit (fun hg2_9 => ?_) (fun hg2_9 => ?_)
  · refine rn ?_
    refine rq 1 ?_
    exact ⟨rfl, congrArg bv (by unfold matchP; simp_all)⟩
  · refine rn ?_
    refine dv rfl rfl (by exact qv_call rfl rfl (FCall.qt (h2 := .box b4 91 (matR r) :: .box bp 105 [.v (.pointer (some ⟨bl, 0, none⟩))] :: G) (FCall.of_fun (rWriters h la bl r.o [])) (pt2 _ _ _ _))) ?_
    refine rn ?_
    refine qv rfl rfl (qv_call rfl rfl (pcall (rOnce r.ts (writersP h.evs r.o) (Nat.le_trans hr (by decide)) (Nat.le_trans (writers_le h.evs r.o) (Nat.le_trans la.evs (by decide)))) (Sbs.refl _))) ?_
    refine rn ?_
    refine rq 1 ?_
    exact ⟨rfl, congrArg bv (by unfold matchP; simp_all)⟩
theorem rWant1 (h : Hist) (la : Lim 3000 h) (i : Nat) (hi : i ≤ h.wants.length) (r : Wan) (bl bp : Nat) (G : List Res) : ACall Tryz.prog 267 [iv i, .agg (wanR r), .v (.pointer (some ⟨bp, 0, none⟩))] (.box bp 105 [.v (.pointer (some ⟨bl, 0, none⟩))] :: .box bl 111 (lookN h) :: G) (fun x h' => h' = (.box bp 105 [.v (.pointer (some ⟨bl, 0, none⟩))] :: .box bl 111 (lookN h) :: G) ∧ x = bv (wantW h i r)) := by
  refine acall_of_aw Tryz.func267 rfl rfl rfl ?_
  have bo := la.wants
  refine rn ?_
  refine aops_e rfl (oe_box rfl rfl rfl fun b4 => ?_)
  refine q1 ?_
  refine aops_nil (thn_n ?_)
  refine aw_seq (aw_region ?_)
  refine q1 ?_
  refine q1 ?_
  refine aops_nil (thn_n ?_)
  refine aw_seq (aw_region ?_)
  refine q1 ?_
  refine q1 ?_
  refine q1 ?_
  refine q1 ?_
  refine q1 ?_
  refine q1 ?_
  refine qq rfl rfl (qr_slice_h (k := i) rfl rfl (by rw [List.length_map]; omega)) ?_
  rw [← List.map_take]
  refine rn ?_
  refine qv rfl rfl (qv_call rfl rfl (FCall.of_fun (containsFuncWan (h.wants.take i) _ _ (.box b4 102 (wanR r) :: .box bp 105 [.v (.pointer (some ⟨bl, 0, none⟩))] :: .box bl 111 (lookN h) :: G) (fun p _ => FCall.of_acall (fs := []) (cs := [.v (.pointer (some ⟨b4, 0, none⟩))]) (rWant12 p r b4 (.box bp 105 [.v (.pointer (some ⟨bl, 0, none⟩))] :: .box bl 111 (lookN h) :: G))) (by rw [List.length_take]; have := la.wants; omega)))) ?_
  refine rn ?_
  refine asplit (fun hg2_9 => ?_) (fun hg2_9 => ?_)
  · refine rn ?_
    refine rq 1 ?_
    exact ⟨rfl, congrArg bv (by unfold wantW; simp_all)⟩
  · refine rn ?_
    refine qv rfl rfl (qv_call rfl rfl (FCall.of_fun (containsFuncEv h.evs _ _ (.box b4 102 (wanR r) :: .box bp 105 [.v (.pointer (some ⟨bl, 0, none⟩))] :: .box bl 111 (lookN h) :: G) (fun e _ => FCall.of_acall (fs := []) (cs := [.v (.pointer (some ⟨b4, 0, none⟩))]) (rWant11 e r b4 (.box bp 105 [.v (.pointer (some ⟨bl, 0, none⟩))] :: .box bl 111 (lookN h) :: G))) (Nat.le_trans la.evs (by decide))))) ?_
    refine rn ?_
    refine rq 1 ?_
    exact ⟨rfl, congrArg bv (by unfold wantW; simp_all)⟩
theorem rMissing1 (h : Hist) (la : Lim 3000 h) (x : Int) (s : ByteArray) (bl bp : Nat) (G : List Res) : ACall Tryz.prog 261 [iv x, sv s, .v (.pointer (some ⟨bp, 0, none⟩))] (.box bp 105 [.v (.pointer (some ⟨bl, 0, none⟩))] :: .box bl 111 (lookN h) :: G) (fun z h' => h' = (.box bp 105 [.v (.pointer (some ⟨bl, 0, none⟩))] :: .box bl 111 (lookN h) :: G) ∧ z = bv (missP h x)) := by
  refine acall_of_aw Tryz.func261 rfl rfl rfl ?_
  refine rn ?_
  refine aops_e rfl (oe_box rfl rfl rfl fun b3 => ?_)
  refine rn ?_
  refine qv rfl rfl (qv_call rfl rfl (FCall.qt (h2 := .box b3 3 [iv x] :: .box bp 105 [.v (.pointer (some ⟨bl, 0, none⟩))] :: G) (FCall.of_fun (rWriters h la bl x [])) (pt2 _ _ _ _))) ?_
  refine rn ?_
  refine asplit (fun hg1_5 => ?_) (fun hg1_5 => ?_)
  · refine rn ?_
    refine qv rfl rfl (qv_call rfl rfl (FCall.of_fun (containsFuncOrd h.ords _ _ (.box b3 3 [iv x] :: .box bp 105 [.v (.pointer (some ⟨bl, 0, none⟩))] :: .box bl 111 (lookN h) :: G) (fun r _ => FCall.of_acall (fs := []) (cs := [.v (.pointer (some ⟨b3, 0, none⟩))]) (rMissing11 r x b3 (.box bp 105 [.v (.pointer (some ⟨bl, 0, none⟩))] :: .box bl 111 (lookN h) :: G))) (Nat.le_trans la.ords (by decide))))) ?_
    refine rn ?_
    refine rq 1 ?_
    exact ⟨rfl, congrArg bv (by unfold missP; by_cases e : 1 < (writersP h.evs x).length <;> first | (simp_all; done) | (simp [e]; done) | (exfalso; simp at hg1_5; omega))⟩
  · refine rn ?_
    refine rq 1 ?_
    exact ⟨rfl, congrArg bv (by unfold missP; by_cases e : 1 < (writersP h.evs x).length <;> first | (simp_all; done) | (simp [e]; done) | (exfalso; simp at hg1_5; omega))⟩
theorem rOrder (h : Hist) (la : Lim 3000 h) (bl : Nat) (G : List Res) : ACall Tryz.prog 242 [.v (.pointer (some ⟨bl, 0, none⟩))] (.box bl 111 (lookN h) :: G) (fun r h' => h' = G ∧ r = placeV (placeP h 7)) := by
  refine acall_of_aw Tryz.func242 rfl rfl rfl ?_
  refine rn ?_
  refine aops_e rfl (oe_box rfl rfl rfl fun b1 => ?_)
  refine rn ?_
  refine qv rfl rfl (qv_call rfl rfl (FCall.of_fun (rRowOrd h.ords (.fn (.func 257) [] [.v (.pointer (some ⟨b1, 0, none⟩))]) (orderP h) (.box b1 105 [.v (.pointer (some ⟨bl, 0, none⟩))] :: .box bl 111 (lookN h) :: G) (fun k hk => FCall.of_acall (fs := []) (cs := [.v (.pointer (some ⟨b1, 0, none⟩))]) (rOrder1 h la k (Nat.le_of_lt hk) _ (la.ordts _ (List.getElem_mem hk)) bl b1 G)) (Nat.le_trans la.ords (by decide))))) ?_
  obtain ⟨pi, pb, hpv⟩ : ∃ i b, placeV (rowF (orderP h) 0 h.ords) = .tup [iv i, bv b] := place_ib _
  rw [hpv]
  refine rn ?_
  refine rq 2 ?_
  exact ⟨rfl, hpv.symm⟩
theorem rMissing (h : Hist) (la : Lim 3000 h) (bl : Nat) (G : List Res) : ACall Tryz.prog 243 [.v (.pointer (some ⟨bl, 0, none⟩))] (.box bl 111 (lookN h) :: G) (fun r h' => h' = G ∧ r = placeV (placeP h 8)) := by
  refine acall_of_aw Tryz.func243 rfl rfl rfl ?_
  refine rn ?_
  refine aops_e rfl (oe_box rfl rfl rfl fun b1 => ?_)
  refine rn ?_
  refine qv rfl rfl (qv_call rfl rfl (FCall.of_fun (rRowStr h.os (.fn (.func 261) [] [.v (.pointer (some ⟨b1, 0, none⟩))]) (fun x _ => missP h (x : Nat)) (.box b1 105 [.v (.pointer (some ⟨bl, 0, none⟩))] :: .box bl 111 (lookN h) :: G) (fun k hk => FCall.of_acall (fs := []) (cs := [.v (.pointer (some ⟨b1, 0, none⟩))]) (rMissing1 h la k _ bl b1 G)) (Nat.le_trans la.os (by decide))))) ?_
  obtain ⟨pi, pb, hpv⟩ : ∃ i b, placeV (rowF (fun x _ => missP h (x : Nat)) 0 h.os) = .tup [iv i, bv b] := place_ib _
  rw [hpv]
  refine rn ?_
  refine rq 2 ?_
  exact ⟨rfl, hpv.symm⟩
theorem rMatch (h : Hist) (la : Lim 3000 h) (bl : Nat) (G : List Res) : ACall Tryz.prog 244 [.v (.pointer (some ⟨bl, 0, none⟩))] (.box bl 111 (lookN h) :: G) (fun r h' => h' = G ∧ r = placeV (placeP h 9)) := by
  refine acall_of_aw Tryz.func244 rfl rfl rfl ?_
  refine rn ?_
  refine aops_e rfl (oe_box rfl rfl rfl fun b1 => ?_)
  refine rn ?_
  refine qv rfl rfl (qv_call rfl rfl (FCall.of_fun (rRowMat h.mats (.fn (.func 264) [] [.v (.pointer (some ⟨b1, 0, none⟩))]) (matchP h) (.box b1 105 [.v (.pointer (some ⟨bl, 0, none⟩))] :: .box bl 111 (lookN h) :: G) (fun k hk => FCall.of_acall (fs := []) (cs := [.v (.pointer (some ⟨b1, 0, none⟩))]) (rMatch1 h la k (Nat.le_of_lt hk) _ (la.matts _ (List.getElem_mem hk)) bl b1 G)) (Nat.le_trans la.mats (by decide))))) ?_
  obtain ⟨pi, pb, hpv⟩ : ∃ i b, placeV (rowF (matchP h) 0 h.mats) = .tup [iv i, bv b] := place_ib _
  rw [hpv]
  refine rn ?_
  refine rq 2 ?_
  exact ⟨rfl, hpv.symm⟩
theorem rWant (h : Hist) (la : Lim 3000 h) (bl : Nat) (G : List Res) : ACall Tryz.prog 245 [.v (.pointer (some ⟨bl, 0, none⟩))] (.box bl 111 (lookN h) :: G) (fun r h' => h' = G ∧ r = placeV (placeP h 10)) := by
  refine acall_of_aw Tryz.func245 rfl rfl rfl ?_
  refine rn ?_
  refine aops_e rfl (oe_box rfl rfl rfl fun b1 => ?_)
  refine rn ?_
  refine qv rfl rfl (qv_call rfl rfl (FCall.of_fun (rRowWan h.wants (.fn (.func 267) [] [.v (.pointer (some ⟨b1, 0, none⟩))]) (wantW h) (.box b1 105 [.v (.pointer (some ⟨bl, 0, none⟩))] :: .box bl 111 (lookN h) :: G) (fun k hk => FCall.of_acall (fs := []) (cs := [.v (.pointer (some ⟨b1, 0, none⟩))]) (rWant1 h la k (Nat.le_of_lt hk) _ bl b1 G)) (Nat.le_trans la.wants (by decide))))) ?_
  obtain ⟨pi, pb, hpv⟩ : ∃ i b, placeV (rowF (wantW h) 0 h.wants) = .tup [iv i, bv b] := place_ib _
  rw [hpv]
  refine rn ?_
  refine rq 2 ?_
  exact ⟨rfl, hpv.symm⟩
end Go.Proofs
/- The decoding of runes. Conditions: none. -/
set_option linter.unusedVariables false
set_option linter.unusedSimpArgs false
set_option maxRecDepth 10000
namespace Go.Proofs
open Go Go.Ab
attribute [local irreducible] QR QV OE aops aw dsoup dsoupM dalloc dallocM thn inBlk
open Go.H
theorem decodeSlow240 (s : ByteArray) (hx : firstV (bt s 0).toNat = 240) : ACall Tryz.prog 219 [.v (.string s)] [.glob 2 235 firstC, .glob 3 238 acceptC] (fun r h' => h' = [.glob 2 235 firstC, .glob 3 238 acceptC] ∧ r = .tup [.v (.int .i32 (decSlow s).1), iv (decSlow s).2]) := by
  refine acall_of_aw Tryz.func219 rfl rfl rfl ?_
  refine rn ?_
  refine aw_cond rfl (fun hc16 => ?_) (fun hc16 => ?_)
  · refine rn ?_
    have hd : decSlow s = (65533, 0) := by
      unfold decSlow
      rw [if_pos (by simp at hc16; omega)]
    exact retq (.cons _ _ _ _ (.tmp _ _ rfl) (.cons _ _ _ _ (.tmp _ _ rfl) .nil)) (.refl _ _) ⟨rfl, by rw [hd]; rfl⟩
  · have h1 : 0 < s.size := by simp at hc16; omega
    refine rn ?_
    refine qq rfl rfl (qr_index_bt 0 rfl rfl (by omega)) ?_
    refine rn ?_
    refine qq rfl rfl (qr_indexAddr_int rfl rfl (bt_ge _ _) (bt_lt _ _)) ?_
    refine qq rfl rfl (qr_load_one rfl (show _ = some (.v (.int .u8 240)) from by rw [firstC_get (bt_ge s 0) (bt_lt s 0), hx])) ?_
    refine rn ?_
    refine aw_cond rfl (fun hc23 => ?_) (fun hc23 => ?_)
    · refine rn ?_
      refine qq rfl rfl (qr_index_bt 0 rfl rfl (by omega)) ?_
      refine rn ?_
      have hd : decSlow s = (bI .or .i32 (bI .andNot .i32 (IntKind.i32.wrap (bt s 0)) (decMask 240)) (bI .and .i32 65533 (decMask 240)), 1) := by
        unfold decSlow
        rw [if_neg (by omega)]
        simp only [hx]
        rw [if_pos (by decide)]
      exact retq (.cons _ _ _ _ (.tmp _ _ rfl) (.cons _ _ _ _ (.tmp _ _ rfl) .nil)) (.refl _ _) ⟨rfl, by rw [hd]; rfl⟩
    · first | cases hc23 | exact absurd hc23 (by decide) | (exfalso; simp_all; done)
theorem decodeSlow241 (s : ByteArray) (hx : firstV (bt s 0).toNat = 241) : ACall Tryz.prog 219 [.v (.string s)] [.glob 2 235 firstC, .glob 3 238 acceptC] (fun r h' => h' = [.glob 2 235 firstC, .glob 3 238 acceptC] ∧ r = .tup [.v (.int .i32 (decSlow s).1), iv (decSlow s).2]) := by
  refine acall_of_aw Tryz.func219 rfl rfl rfl ?_
  refine rn ?_
  refine aw_cond rfl (fun hc16 => ?_) (fun hc16 => ?_)
  · refine rn ?_
    have hd : decSlow s = (65533, 0) := by
      unfold decSlow
      rw [if_pos (by simp at hc16; omega)]
    exact retq (.cons _ _ _ _ (.tmp _ _ rfl) (.cons _ _ _ _ (.tmp _ _ rfl) .nil)) (.refl _ _) ⟨rfl, by rw [hd]; rfl⟩
  · have h1 : 0 < s.size := by simp at hc16; omega
    refine rn ?_
    refine qq rfl rfl (qr_index_bt 0 rfl rfl (by omega)) ?_
    refine rn ?_
    refine qq rfl rfl (qr_indexAddr_int rfl rfl (bt_ge _ _) (bt_lt _ _)) ?_
    refine qq rfl rfl (qr_load_one rfl (show _ = some (.v (.int .u8 241)) from by rw [firstC_get (bt_ge s 0) (bt_lt s 0), hx])) ?_
    refine rn ?_
    refine aw_cond rfl (fun hc23 => ?_) (fun hc23 => ?_)
    · refine rn ?_
      refine qq rfl rfl (qr_index_bt 0 rfl rfl (by omega)) ?_
      refine rn ?_
      have hd : decSlow s = (bI .or .i32 (bI .andNot .i32 (IntKind.i32.wrap (bt s 0)) (decMask 241)) (bI .and .i32 65533 (decMask 241)), 1) := by
        unfold decSlow
        rw [if_neg (by omega)]
        simp only [hx]
        rw [if_pos (by decide)]
      exact retq (.cons _ _ _ _ (.tmp _ _ rfl) (.cons _ _ _ _ (.tmp _ _ rfl) .nil)) (.refl _ _) ⟨rfl, by rw [hd]; rfl⟩
    · first | cases hc23 | exact absurd hc23 (by decide) | (exfalso; simp_all; done)
theorem decodeSlow2 (s : ByteArray) (hx : firstV (bt s 0).toNat = 2) : ACall Tryz.prog 219 [.v (.string s)] [.glob 2 235 firstC, .glob 3 238 acceptC] (fun r h' => h' = [.glob 2 235 firstC, .glob 3 238 acceptC] ∧ r = .tup [.v (.int .i32 (decSlow s).1), iv (decSlow s).2]) := by
  refine acall_of_aw Tryz.func219 rfl rfl rfl ?_
  refine rn ?_
  refine aw_cond rfl (fun hc16 => ?_) (fun hc16 => ?_)
  · refine rn ?_
    have hd : decSlow s = (65533, 0) := by
      unfold decSlow
      rw [if_pos (by simp at hc16; omega)]
    exact retq (.cons _ _ _ _ (.tmp _ _ rfl) (.cons _ _ _ _ (.tmp _ _ rfl) .nil)) (.refl _ _) ⟨rfl, by rw [hd]; rfl⟩
  · have h1 : 0 < s.size := by simp at hc16; omega
    refine rn ?_
    refine qq rfl rfl (qr_index_bt 0 rfl rfl (by omega)) ?_
    refine rn ?_
    refine qq rfl rfl (qr_indexAddr_int rfl rfl (bt_ge _ _) (bt_lt _ _)) ?_
    refine qq rfl rfl (qr_load_one rfl (show _ = some (.v (.int .u8 2)) from by rw [firstC_get (bt_ge s 0) (bt_lt s 0), hx])) ?_
    refine rn ?_
    refine aw_cond rfl (fun hc23 => ?_) (fun hc23 => ?_)
    · first | cases hc23 | exact absurd hc23 (by decide) | (exfalso; simp_all; done)
    · refine rn ?_
      refine qq rfl rfl (qr_indexAddr_int rfl rfl (by decide) (by decide)) ?_
      refine rn ?_
      refine aops_e rfl (oe_alloc rfl fun b9 => ?_)
      refine rn ?_
      refine aw_cond rfl (fun hc45 => ?_) (fun hc45 => ?_)
      · refine rn ?_
        have hd : decSlow s = (65533, 1) := by
          unfold decSlow
          rw [if_neg (by omega)]
          simp only [hx]
          rw [if_neg (by decide), if_pos (show (s.size : Int) < (2 : Int) % 8 from of_decide_eq_true hc45)]
        exact retq (.cons _ _ _ _ (.tmp _ _ rfl) (.cons _ _ _ _ (.tmp _ _ rfl) .nil)) (.drop1 _ _ _) ⟨rfl, by rw [hd]; rfl⟩
      · have h2 : 2 ≤ s.size := by
          have : ¬ ((s.size : Int) < 2) := of_decide_eq_false hc45
          omega
        refine rn ?_
        refine qq rfl rfl (qr_index_bt 1 rfl rfl (by omega)) ?_
        refine rn ?_
        refine asplit (fun hg14_4 => ?_) (fun hg14_4 => ?_)
        · refine rn ?_
          refine aw_cond rfl (fun hc57 => ?_) (fun hc57 => ?_)
          · refine rn ?_
            have hd : decSlow s = (65533, 1) := by
              unfold decSlow
              rw [if_neg (by omega)]
              simp only [hx]
              rw [if_neg (by decide), if_neg (show ¬ (s.size : Int) < (2 : Int) % 8 from of_decide_eq_false hc45), if_pos (show bt s 1 < accLo ((2 : Int) / 16).toNat ∨ accHi ((2 : Int) / 16).toNat < bt s 1 from by first | exact .inl (of_decide_eq_true hg14_4) | exact .inr (of_decide_eq_true hc57))]
            exact retq (.cons _ _ _ _ (.tmp _ _ rfl) (.cons _ _ _ _ (.tmp _ _ rfl) .nil)) (.drop1 _ _ _) ⟨rfl, by rw [hd]; rfl⟩
          · first | cases hc57 | exact absurd hc57 (by decide) | (exfalso; simp_all; done)
        · refine rn ?_
          refine aw_cond rfl (fun hc57 => ?_) (fun hc57 => ?_)
          · refine rn ?_
            have hd : decSlow s = (65533, 1) := by
              unfold decSlow
              rw [if_neg (by omega)]
              simp only [hx]
              rw [if_neg (by decide), if_neg (show ¬ (s.size : Int) < (2 : Int) % 8 from of_decide_eq_false hc45), if_pos (show bt s 1 < accLo ((2 : Int) / 16).toNat ∨ accHi ((2 : Int) / 16).toNat < bt s 1 from by first | exact .inl (of_decide_eq_true hg14_4) | exact .inr (of_decide_eq_true hc57))]
            exact retq (.cons _ _ _ _ (.tmp _ _ rfl) (.cons _ _ _ _ (.tmp _ _ rfl) .nil)) (.drop1 _ _ _) ⟨rfl, by rw [hd]; rfl⟩
          · refine rn ?_
            refine aw_cond rfl (fun hc59 => ?_) (fun hc59 => ?_)
            · refine rn ?_
              have hd : decSlow s = (bI .or .i32 (rbits (bt s 0) 31 6) (rbits (bt s 1) 63 0), 2) := by
                unfold decSlow
                rw [if_neg (by omega)]
                simp only [hx]
                rw [if_neg (by decide), if_neg (show ¬ (s.size : Int) < (2 : Int) % 8 from of_decide_eq_false hc45), if_neg (show ¬ (bt s 1 < accLo ((2 : Int) / 16).toNat ∨ accHi ((2 : Int) / 16).toNat < bt s 1) from fun q => q.elim (of_decide_eq_false hg14_4) (of_decide_eq_false hc57)), if_pos (by decide)]
              exact retq (.cons _ _ _ _ (.tmp _ _ rfl) (.cons _ _ _ _ (.tmp _ _ rfl) .nil)) (.drop1 _ _ _) ⟨rfl, by rw [hd]; rfl⟩
            · first | cases hc59 | exact absurd hc59 (by decide) | (exfalso; simp_all; done)
theorem decodeSlow19 (s : ByteArray) (hx : firstV (bt s 0).toNat = 19) : ACall Tryz.prog 219 [.v (.string s)] [.glob 2 235 firstC, .glob 3 238 acceptC] (fun r h' => h' = [.glob 2 235 firstC, .glob 3 238 acceptC] ∧ r = .tup [.v (.int .i32 (decSlow s).1), iv (decSlow s).2]) := by
  refine acall_of_aw Tryz.func219 rfl rfl rfl ?_
  refine rn ?_
  refine aw_cond rfl (fun hc16 => ?_) (fun hc16 => ?_)
  · refine rn ?_
    have hd : decSlow s = (65533, 0) := by
      unfold decSlow
      rw [if_pos (by simp at hc16; omega)]
    exact retq (.cons _ _ _ _ (.tmp _ _ rfl) (.cons _ _ _ _ (.tmp _ _ rfl) .nil)) (.refl _ _) ⟨rfl, by rw [hd]; rfl⟩
  · have h1 : 0 < s.size := by simp at hc16; omega
    refine rn ?_
    refine qq rfl rfl (qr_index_bt 0 rfl rfl (by omega)) ?_
    refine rn ?_
    refine qq rfl rfl (qr_indexAddr_int rfl rfl (bt_ge _ _) (bt_lt _ _)) ?_
    refine qq rfl rfl (qr_load_one rfl (show _ = some (.v (.int .u8 19)) from by rw [firstC_get (bt_ge s 0) (bt_lt s 0), hx])) ?_
    refine rn ?_
    refine aw_cond rfl (fun hc23 => ?_) (fun hc23 => ?_)
    · first | cases hc23 | exact absurd hc23 (by decide) | (exfalso; simp_all; done)
    · refine rn ?_
      refine qq rfl rfl (qr_indexAddr_int rfl rfl (by decide) (by decide)) ?_
      refine rn ?_
      refine aops_e rfl (oe_alloc rfl fun b9 => ?_)
      refine rn ?_
      refine aw_cond rfl (fun hc45 => ?_) (fun hc45 => ?_)
      · refine rn ?_
        have hd : decSlow s = (65533, 1) := by
          unfold decSlow
          rw [if_neg (by omega)]
          simp only [hx]
          rw [if_neg (by decide), if_pos (show (s.size : Int) < (19 : Int) % 8 from of_decide_eq_true hc45)]
        exact retq (.cons _ _ _ _ (.tmp _ _ rfl) (.cons _ _ _ _ (.tmp _ _ rfl) .nil)) (.drop1 _ _ _) ⟨rfl, by rw [hd]; rfl⟩
      · have h2 : 3 ≤ s.size := by
          have : ¬ ((s.size : Int) < 3) := of_decide_eq_false hc45
          omega
        refine rn ?_
        refine qq rfl rfl (qr_index_bt 1 rfl rfl (by omega)) ?_
        refine rn ?_
        refine asplit (fun hg14_4 => ?_) (fun hg14_4 => ?_)
        · refine rn ?_
          refine aw_cond rfl (fun hc57 => ?_) (fun hc57 => ?_)
          · refine rn ?_
            have hd : decSlow s = (65533, 1) := by
              unfold decSlow
              rw [if_neg (by omega)]
              simp only [hx]
              rw [if_neg (by decide), if_neg (show ¬ (s.size : Int) < (19 : Int) % 8 from of_decide_eq_false hc45), if_pos (show bt s 1 < accLo ((19 : Int) / 16).toNat ∨ accHi ((19 : Int) / 16).toNat < bt s 1 from by first | exact .inl (of_decide_eq_true hg14_4) | exact .inr (of_decide_eq_true hc57))]
            exact retq (.cons _ _ _ _ (.tmp _ _ rfl) (.cons _ _ _ _ (.tmp _ _ rfl) .nil)) (.drop1 _ _ _) ⟨rfl, by rw [hd]; rfl⟩
          · first | cases hc57 | exact absurd hc57 (by decide) | (exfalso; simp_all; done)
        · refine rn ?_
          refine aw_cond rfl (fun hc57 => ?_) (fun hc57 => ?_)
          · refine rn ?_
            have hd : decSlow s = (65533, 1) := by
              unfold decSlow
              rw [if_neg (by omega)]
              simp only [hx]
              rw [if_neg (by decide), if_neg (show ¬ (s.size : Int) < (19 : Int) % 8 from of_decide_eq_false hc45), if_pos (show bt s 1 < accLo ((19 : Int) / 16).toNat ∨ accHi ((19 : Int) / 16).toNat < bt s 1 from by first | exact .inl (of_decide_eq_true hg14_4) | exact .inr (of_decide_eq_true hc57))]
            exact retq (.cons _ _ _ _ (.tmp _ _ rfl) (.cons _ _ _ _ (.tmp _ _ rfl) .nil)) (.drop1 _ _ _) ⟨rfl, by rw [hd]; rfl⟩
          · refine rn ?_
            refine aw_cond rfl (fun hc59 => ?_) (fun hc59 => ?_)
            · first | cases hc59 | exact absurd hc59 (by decide) | (exfalso; simp_all; done)
            · refine rn ?_
              refine qq rfl rfl (qr_index_bt 2 rfl rfl (by omega)) ?_
              refine rn ?_
              refine asplit (fun hg19_2 => ?_) (fun hg19_2 => ?_)
              · refine rn ?_
                refine aw_cond rfl (fun hc75 => ?_) (fun hc75 => ?_)
                · refine rn ?_
                  have hd : decSlow s = (65533, 1) := by
                    unfold decSlow
                    rw [if_neg (by omega)]
                    simp only [hx]
                    rw [if_neg (by decide), if_neg (show ¬ (s.size : Int) < (19 : Int) % 8 from of_decide_eq_false hc45), if_neg (show ¬ (bt s 1 < accLo ((19 : Int) / 16).toNat ∨ accHi ((19 : Int) / 16).toNat < bt s 1) from fun q => q.elim (of_decide_eq_false hg14_4) (of_decide_eq_false hc57)), if_neg (by decide), if_pos (show bt s 2 < 128 ∨ 191 < bt s 2 from by first | exact .inl (of_decide_eq_true hg19_2) | exact .inr (of_decide_eq_true hc75))]
                  exact retq (.cons _ _ _ _ (.tmp _ _ rfl) (.cons _ _ _ _ (.tmp _ _ rfl) .nil)) (.drop1 _ _ _) ⟨rfl, by rw [hd]; rfl⟩
                · first | cases hc75 | exact absurd hc75 (by decide) | (exfalso; simp_all; done)
              · refine rn ?_
                refine aw_cond rfl (fun hc75 => ?_) (fun hc75 => ?_)
                · refine rn ?_
                  have hd : decSlow s = (65533, 1) := by
                    unfold decSlow
                    rw [if_neg (by omega)]
                    simp only [hx]
                    rw [if_neg (by decide), if_neg (show ¬ (s.size : Int) < (19 : Int) % 8 from of_decide_eq_false hc45), if_neg (show ¬ (bt s 1 < accLo ((19 : Int) / 16).toNat ∨ accHi ((19 : Int) / 16).toNat < bt s 1) from fun q => q.elim (of_decide_eq_false hg14_4) (of_decide_eq_false hc57)), if_neg (by decide), if_pos (show bt s 2 < 128 ∨ 191 < bt s 2 from by first | exact .inl (of_decide_eq_true hg19_2) | exact .inr (of_decide_eq_true hc75))]
                  exact retq (.cons _ _ _ _ (.tmp _ _ rfl) (.cons _ _ _ _ (.tmp _ _ rfl) .nil)) (.drop1 _ _ _) ⟨rfl, by rw [hd]; rfl⟩
                · refine rn ?_
                  refine aw_cond rfl (fun hc77 => ?_) (fun hc77 => ?_)
                  · refine rn ?_
                    have hd : decSlow s = (bI .or .i32 (bI .or .i32 (rbits (bt s 0) 15 12) (rbits (bt s 1) 63 6)) (rbits (bt s 2) 63 0), 3) := by
                      unfold decSlow
                      rw [if_neg (by omega)]
                      simp only [hx]
                      rw [if_neg (by decide), if_neg (show ¬ (s.size : Int) < (19 : Int) % 8 from of_decide_eq_false hc45), if_neg (show ¬ (bt s 1 < accLo ((19 : Int) / 16).toNat ∨ accHi ((19 : Int) / 16).toNat < bt s 1) from fun q => q.elim (of_decide_eq_false hg14_4) (of_decide_eq_false hc57)), if_neg (by decide), if_neg (show ¬ (bt s 2 < 128 ∨ 191 < bt s 2) from fun q => q.elim (of_decide_eq_false hg19_2) (of_decide_eq_false hc75)), if_pos (by decide)]
                    exact retq (.cons _ _ _ _ (.tmp _ _ rfl) (.cons _ _ _ _ (.tmp _ _ rfl) .nil)) (.drop1 _ _ _) ⟨rfl, by rw [hd]; rfl⟩
                  · first | cases hc77 | exact absurd hc77 (by decide) | (exfalso; simp_all; done)
theorem decodeSlow3 (s : ByteArray) (hx : firstV (bt s 0).toNat = 3) : ACall Tryz.prog 219 [.v (.string s)] [.glob 2 235 firstC, .glob 3 238 acceptC] (fun r h' => h' = [.glob 2 235 firstC, .glob 3 238 acceptC] ∧ r = .tup [.v (.int .i32 (decSlow s).1), iv (decSlow s).2]) := by
  refine acall_of_aw Tryz.func219 rfl rfl rfl ?_
  refine rn ?_
  refine aw_cond rfl (fun hc16 => ?_) (fun hc16 => ?_)
  · refine rn ?_
    have hd : decSlow s = (65533, 0) := by
      unfold decSlow
      rw [if_pos (by simp at hc16; omega)]
    exact retq (.cons _ _ _ _ (.tmp _ _ rfl) (.cons _ _ _ _ (.tmp _ _ rfl) .nil)) (.refl _ _) ⟨rfl, by rw [hd]; rfl⟩
  · have h1 : 0 < s.size := by simp at hc16; omega
    refine rn ?_
    refine qq rfl rfl (qr_index_bt 0 rfl rfl (by omega)) ?_
    refine rn ?_
    refine qq rfl rfl (qr_indexAddr_int rfl rfl (bt_ge _ _) (bt_lt _ _)) ?_
    refine qq rfl rfl (qr_load_one rfl (show _ = some (.v (.int .u8 3)) from by rw [firstC_get (bt_ge s 0) (bt_lt s 0), hx])) ?_
    refine rn ?_
    refine aw_cond rfl (fun hc23 => ?_) (fun hc23 => ?_)
    · first | cases hc23 | exact absurd hc23 (by decide) | (exfalso; simp_all; done)
    · refine rn ?_
      refine qq rfl rfl (qr_indexAddr_int rfl rfl (by decide) (by decide)) ?_
      refine rn ?_
      refine aops_e rfl (oe_alloc rfl fun b9 => ?_)
      refine rn ?_
      refine aw_cond rfl (fun hc45 => ?_) (fun hc45 => ?_)
      · refine rn ?_
        have hd : decSlow s = (65533, 1) := by
          unfold decSlow
          rw [if_neg (by omega)]
          simp only [hx]
          rw [if_neg (by decide), if_pos (show (s.size : Int) < (3 : Int) % 8 from of_decide_eq_true hc45)]
        exact retq (.cons _ _ _ _ (.tmp _ _ rfl) (.cons _ _ _ _ (.tmp _ _ rfl) .nil)) (.drop1 _ _ _) ⟨rfl, by rw [hd]; rfl⟩
      · have h2 : 3 ≤ s.size := by
          have : ¬ ((s.size : Int) < 3) := of_decide_eq_false hc45
          omega
        refine rn ?_
        refine qq rfl rfl (qr_index_bt 1 rfl rfl (by omega)) ?_
        refine rn ?_
        refine asplit (fun hg14_4 => ?_) (fun hg14_4 => ?_)
        · refine rn ?_
          refine aw_cond rfl (fun hc57 => ?_) (fun hc57 => ?_)
          · refine rn ?_
            have hd : decSlow s = (65533, 1) := by
              unfold decSlow
              rw [if_neg (by omega)]
              simp only [hx]
              rw [if_neg (by decide), if_neg (show ¬ (s.size : Int) < (3 : Int) % 8 from of_decide_eq_false hc45), if_pos (show bt s 1 < accLo ((3 : Int) / 16).toNat ∨ accHi ((3 : Int) / 16).toNat < bt s 1 from by first | exact .inl (of_decide_eq_true hg14_4) | exact .inr (of_decide_eq_true hc57))]
            exact retq (.cons _ _ _ _ (.tmp _ _ rfl) (.cons _ _ _ _ (.tmp _ _ rfl) .nil)) (.drop1 _ _ _) ⟨rfl, by rw [hd]; rfl⟩
          · first | cases hc57 | exact absurd hc57 (by decide) | (exfalso; simp_all; done)
        · refine rn ?_
          refine aw_cond rfl (fun hc57 => ?_) (fun hc57 => ?_)
          · refine rn ?_
            have hd : decSlow s = (65533, 1) := by
              unfold decSlow
              rw [if_neg (by omega)]
              simp only [hx]
              rw [if_neg (by decide), if_neg (show ¬ (s.size : Int) < (3 : Int) % 8 from of_decide_eq_false hc45), if_pos (show bt s 1 < accLo ((3 : Int) / 16).toNat ∨ accHi ((3 : Int) / 16).toNat < bt s 1 from by first | exact .inl (of_decide_eq_true hg14_4) | exact .inr (of_decide_eq_true hc57))]
            exact retq (.cons _ _ _ _ (.tmp _ _ rfl) (.cons _ _ _ _ (.tmp _ _ rfl) .nil)) (.drop1 _ _ _) ⟨rfl, by rw [hd]; rfl⟩
          · refine rn ?_
            refine aw_cond rfl (fun hc59 => ?_) (fun hc59 => ?_)
            · first | cases hc59 | exact absurd hc59 (by decide) | (exfalso; simp_all; done)
            · refine rn ?_
              refine qq rfl rfl (qr_index_bt 2 rfl rfl (by omega)) ?_
              refine rn ?_
              refine asplit (fun hg19_2 => ?_) (fun hg19_2 => ?_)
              · refine rn ?_
                refine aw_cond rfl (fun hc75 => ?_) (fun hc75 => ?_)
                · refine rn ?_
                  have hd : decSlow s = (65533, 1) := by
                    unfold decSlow
                    rw [if_neg (by omega)]
                    simp only [hx]
                    rw [if_neg (by decide), if_neg (show ¬ (s.size : Int) < (3 : Int) % 8 from of_decide_eq_false hc45), if_neg (show ¬ (bt s 1 < accLo ((3 : Int) / 16).toNat ∨ accHi ((3 : Int) / 16).toNat < bt s 1) from fun q => q.elim (of_decide_eq_false hg14_4) (of_decide_eq_false hc57)), if_neg (by decide), if_pos (show bt s 2 < 128 ∨ 191 < bt s 2 from by first | exact .inl (of_decide_eq_true hg19_2) | exact .inr (of_decide_eq_true hc75))]
                  exact retq (.cons _ _ _ _ (.tmp _ _ rfl) (.cons _ _ _ _ (.tmp _ _ rfl) .nil)) (.drop1 _ _ _) ⟨rfl, by rw [hd]; rfl⟩
                · first | cases hc75 | exact absurd hc75 (by decide) | (exfalso; simp_all; done)
              · refine rn ?_
                refine aw_cond rfl (fun hc75 => ?_) (fun hc75 => ?_)
                · refine rn ?_
                  have hd : decSlow s = (65533, 1) := by
                    unfold decSlow
                    rw [if_neg (by omega)]
                    simp only [hx]
                    rw [if_neg (by decide), if_neg (show ¬ (s.size : Int) < (3 : Int) % 8 from of_decide_eq_false hc45), if_neg (show ¬ (bt s 1 < accLo ((3 : Int) / 16).toNat ∨ accHi ((3 : Int) / 16).toNat < bt s 1) from fun q => q.elim (of_decide_eq_false hg14_4) (of_decide_eq_false hc57)), if_neg (by decide), if_pos (show bt s 2 < 128 ∨ 191 < bt s 2 from by first | exact .inl (of_decide_eq_true hg19_2) | exact .inr (of_decide_eq_true hc75))]
                  exact retq (.cons _ _ _ _ (.tmp _ _ rfl) (.cons _ _ _ _ (.tmp _ _ rfl) .nil)) (.drop1 _ _ _) ⟨rfl, by rw [hd]; rfl⟩
                · refine rn ?_
                  refine aw_cond rfl (fun hc77 => ?_) (fun hc77 => ?_)
                  · refine rn ?_
                    have hd : decSlow s = (bI .or .i32 (bI .or .i32 (rbits (bt s 0) 15 12) (rbits (bt s 1) 63 6)) (rbits (bt s 2) 63 0), 3) := by
                      unfold decSlow
                      rw [if_neg (by omega)]
                      simp only [hx]
                      rw [if_neg (by decide), if_neg (show ¬ (s.size : Int) < (3 : Int) % 8 from of_decide_eq_false hc45), if_neg (show ¬ (bt s 1 < accLo ((3 : Int) / 16).toNat ∨ accHi ((3 : Int) / 16).toNat < bt s 1) from fun q => q.elim (of_decide_eq_false hg14_4) (of_decide_eq_false hc57)), if_neg (by decide), if_neg (show ¬ (bt s 2 < 128 ∨ 191 < bt s 2) from fun q => q.elim (of_decide_eq_false hg19_2) (of_decide_eq_false hc75)), if_pos (by decide)]
                    exact retq (.cons _ _ _ _ (.tmp _ _ rfl) (.cons _ _ _ _ (.tmp _ _ rfl) .nil)) (.drop1 _ _ _) ⟨rfl, by rw [hd]; rfl⟩
                  · first | cases hc77 | exact absurd hc77 (by decide) | (exfalso; simp_all; done)
theorem decodeSlow35 (s : ByteArray) (hx : firstV (bt s 0).toNat = 35) : ACall Tryz.prog 219 [.v (.string s)] [.glob 2 235 firstC, .glob 3 238 acceptC] (fun r h' => h' = [.glob 2 235 firstC, .glob 3 238 acceptC] ∧ r = .tup [.v (.int .i32 (decSlow s).1), iv (decSlow s).2]) := by
  refine acall_of_aw Tryz.func219 rfl rfl rfl ?_
  refine rn ?_
  refine aw_cond rfl (fun hc16 => ?_) (fun hc16 => ?_)
  · refine rn ?_
    have hd : decSlow s = (65533, 0) := by
      unfold decSlow
      rw [if_pos (by simp at hc16; omega)]
    exact retq (.cons _ _ _ _ (.tmp _ _ rfl) (.cons _ _ _ _ (.tmp _ _ rfl) .nil)) (.refl _ _) ⟨rfl, by rw [hd]; rfl⟩
  · have h1 : 0 < s.size := by simp at hc16; omega
    refine rn ?_
    refine qq rfl rfl (qr_index_bt 0 rfl rfl (by omega)) ?_
    refine rn ?_
    refine qq rfl rfl (qr_indexAddr_int rfl rfl (bt_ge _ _) (bt_lt _ _)) ?_
    refine qq rfl rfl (qr_load_one rfl (show _ = some (.v (.int .u8 35)) from by rw [firstC_get (bt_ge s 0) (bt_lt s 0), hx])) ?_
    refine rn ?_
    refine aw_cond rfl (fun hc23 => ?_) (fun hc23 => ?_)
    · first | cases hc23 | exact absurd hc23 (by decide) | (exfalso; simp_all; done)
    · refine rn ?_
      refine qq rfl rfl (qr_indexAddr_int rfl rfl (by decide) (by decide)) ?_
      refine rn ?_
      refine aops_e rfl (oe_alloc rfl fun b9 => ?_)
      refine rn ?_
      refine aw_cond rfl (fun hc45 => ?_) (fun hc45 => ?_)
      · refine rn ?_
        have hd : decSlow s = (65533, 1) := by
          unfold decSlow
          rw [if_neg (by omega)]
          simp only [hx]
          rw [if_neg (by decide), if_pos (show (s.size : Int) < (35 : Int) % 8 from of_decide_eq_true hc45)]
        exact retq (.cons _ _ _ _ (.tmp _ _ rfl) (.cons _ _ _ _ (.tmp _ _ rfl) .nil)) (.drop1 _ _ _) ⟨rfl, by rw [hd]; rfl⟩
      · have h2 : 3 ≤ s.size := by
          have : ¬ ((s.size : Int) < 3) := of_decide_eq_false hc45
          omega
        refine rn ?_
        refine qq rfl rfl (qr_index_bt 1 rfl rfl (by omega)) ?_
        refine rn ?_
        refine asplit (fun hg14_4 => ?_) (fun hg14_4 => ?_)
        · refine rn ?_
          refine aw_cond rfl (fun hc57 => ?_) (fun hc57 => ?_)
          · refine rn ?_
            have hd : decSlow s = (65533, 1) := by
              unfold decSlow
              rw [if_neg (by omega)]
              simp only [hx]
              rw [if_neg (by decide), if_neg (show ¬ (s.size : Int) < (35 : Int) % 8 from of_decide_eq_false hc45), if_pos (show bt s 1 < accLo ((35 : Int) / 16).toNat ∨ accHi ((35 : Int) / 16).toNat < bt s 1 from by first | exact .inl (of_decide_eq_true hg14_4) | exact .inr (of_decide_eq_true hc57))]
            exact retq (.cons _ _ _ _ (.tmp _ _ rfl) (.cons _ _ _ _ (.tmp _ _ rfl) .nil)) (.drop1 _ _ _) ⟨rfl, by rw [hd]; rfl⟩
          · first | cases hc57 | exact absurd hc57 (by decide) | (exfalso; simp_all; done)
        · refine rn ?_
          refine aw_cond rfl (fun hc57 => ?_) (fun hc57 => ?_)
          · refine rn ?_
            have hd : decSlow s = (65533, 1) := by
              unfold decSlow
              rw [if_neg (by omega)]
              simp only [hx]
              rw [if_neg (by decide), if_neg (show ¬ (s.size : Int) < (35 : Int) % 8 from of_decide_eq_false hc45), if_pos (show bt s 1 < accLo ((35 : Int) / 16).toNat ∨ accHi ((35 : Int) / 16).toNat < bt s 1 from by first | exact .inl (of_decide_eq_true hg14_4) | exact .inr (of_decide_eq_true hc57))]
            exact retq (.cons _ _ _ _ (.tmp _ _ rfl) (.cons _ _ _ _ (.tmp _ _ rfl) .nil)) (.drop1 _ _ _) ⟨rfl, by rw [hd]; rfl⟩
          · refine rn ?_
            refine aw_cond rfl (fun hc59 => ?_) (fun hc59 => ?_)
            · first | cases hc59 | exact absurd hc59 (by decide) | (exfalso; simp_all; done)
            · refine rn ?_
              refine qq rfl rfl (qr_index_bt 2 rfl rfl (by omega)) ?_
              refine rn ?_
              refine asplit (fun hg19_2 => ?_) (fun hg19_2 => ?_)
              · refine rn ?_
                refine aw_cond rfl (fun hc75 => ?_) (fun hc75 => ?_)
                · refine rn ?_
                  have hd : decSlow s = (65533, 1) := by
                    unfold decSlow
                    rw [if_neg (by omega)]
                    simp only [hx]
                    rw [if_neg (by decide), if_neg (show ¬ (s.size : Int) < (35 : Int) % 8 from of_decide_eq_false hc45), if_neg (show ¬ (bt s 1 < accLo ((35 : Int) / 16).toNat ∨ accHi ((35 : Int) / 16).toNat < bt s 1) from fun q => q.elim (of_decide_eq_false hg14_4) (of_decide_eq_false hc57)), if_neg (by decide), if_pos (show bt s 2 < 128 ∨ 191 < bt s 2 from by first | exact .inl (of_decide_eq_true hg19_2) | exact .inr (of_decide_eq_true hc75))]
                  exact retq (.cons _ _ _ _ (.tmp _ _ rfl) (.cons _ _ _ _ (.tmp _ _ rfl) .nil)) (.drop1 _ _ _) ⟨rfl, by rw [hd]; rfl⟩
                · first | cases hc75 | exact absurd hc75 (by decide) | (exfalso; simp_all; done)
              · refine rn ?_
                refine aw_cond rfl (fun hc75 => ?_) (fun hc75 => ?_)
                · refine rn ?_
                  have hd : decSlow s = (65533, 1) := by
                    unfold decSlow
                    rw [if_neg (by omega)]
                    simp only [hx]
                    rw [if_neg (by decide), if_neg (show ¬ (s.size : Int) < (35 : Int) % 8 from of_decide_eq_false hc45), if_neg (show ¬ (bt s 1 < accLo ((35 : Int) / 16).toNat ∨ accHi ((35 : Int) / 16).toNat < bt s 1) from fun q => q.elim (of_decide_eq_false hg14_4) (of_decide_eq_false hc57)), if_neg (by decide), if_pos (show bt s 2 < 128 ∨ 191 < bt s 2 from by first | exact .inl (of_decide_eq_true hg19_2) | exact .inr (of_decide_eq_true hc75))]
                  exact retq (.cons _ _ _ _ (.tmp _ _ rfl) (.cons _ _ _ _ (.tmp _ _ rfl) .nil)) (.drop1 _ _ _) ⟨rfl, by rw [hd]; rfl⟩
                · refine rn ?_
                  refine aw_cond rfl (fun hc77 => ?_) (fun hc77 => ?_)
                  · refine rn ?_
                    have hd : decSlow s = (bI .or .i32 (bI .or .i32 (rbits (bt s 0) 15 12) (rbits (bt s 1) 63 6)) (rbits (bt s 2) 63 0), 3) := by
                      unfold decSlow
                      rw [if_neg (by omega)]
                      simp only [hx]
                      rw [if_neg (by decide), if_neg (show ¬ (s.size : Int) < (35 : Int) % 8 from of_decide_eq_false hc45), if_neg (show ¬ (bt s 1 < accLo ((35 : Int) / 16).toNat ∨ accHi ((35 : Int) / 16).toNat < bt s 1) from fun q => q.elim (of_decide_eq_false hg14_4) (of_decide_eq_false hc57)), if_neg (by decide), if_neg (show ¬ (bt s 2 < 128 ∨ 191 < bt s 2) from fun q => q.elim (of_decide_eq_false hg19_2) (of_decide_eq_false hc75)), if_pos (by decide)]
                    exact retq (.cons _ _ _ _ (.tmp _ _ rfl) (.cons _ _ _ _ (.tmp _ _ rfl) .nil)) (.drop1 _ _ _) ⟨rfl, by rw [hd]; rfl⟩
                  · first | cases hc77 | exact absurd hc77 (by decide) | (exfalso; simp_all; done)
theorem decodeSlow52 (s : ByteArray) (hx : firstV (bt s 0).toNat = 52) : ACall Tryz.prog 219 [.v (.string s)] [.glob 2 235 firstC, .glob 3 238 acceptC] (fun r h' => h' = [.glob 2 235 firstC, .glob 3 238 acceptC] ∧ r = .tup [.v (.int .i32 (decSlow s).1), iv (decSlow s).2]) := by
  refine acall_of_aw Tryz.func219 rfl rfl rfl ?_
  refine rn ?_
  refine aw_cond rfl (fun hc16 => ?_) (fun hc16 => ?_)
  · refine rn ?_
    have hd : decSlow s = (65533, 0) := by
      unfold decSlow
      rw [if_pos (by simp at hc16; omega)]
    exact retq (.cons _ _ _ _ (.tmp _ _ rfl) (.cons _ _ _ _ (.tmp _ _ rfl) .nil)) (.refl _ _) ⟨rfl, by rw [hd]; rfl⟩
  · have h1 : 0 < s.size := by simp at hc16; omega
    refine rn ?_
    refine qq rfl rfl (qr_index_bt 0 rfl rfl (by omega)) ?_
    refine rn ?_
    refine qq rfl rfl (qr_indexAddr_int rfl rfl (bt_ge _ _) (bt_lt _ _)) ?_
    refine qq rfl rfl (qr_load_one rfl (show _ = some (.v (.int .u8 52)) from by rw [firstC_get (bt_ge s 0) (bt_lt s 0), hx])) ?_
    refine rn ?_
    refine aw_cond rfl (fun hc23 => ?_) (fun hc23 => ?_)
    · first | cases hc23 | exact absurd hc23 (by decide) | (exfalso; simp_all; done)
    · refine rn ?_
      refine qq rfl rfl (qr_indexAddr_int rfl rfl (by decide) (by decide)) ?_
      refine rn ?_
      refine aops_e rfl (oe_alloc rfl fun b9 => ?_)
      refine rn ?_
      refine aw_cond rfl (fun hc45 => ?_) (fun hc45 => ?_)
      · refine rn ?_
        have hd : decSlow s = (65533, 1) := by
          unfold decSlow
          rw [if_neg (by omega)]
          simp only [hx]
          rw [if_neg (by decide), if_pos (show (s.size : Int) < (52 : Int) % 8 from of_decide_eq_true hc45)]
        exact retq (.cons _ _ _ _ (.tmp _ _ rfl) (.cons _ _ _ _ (.tmp _ _ rfl) .nil)) (.drop1 _ _ _) ⟨rfl, by rw [hd]; rfl⟩
      · have h2 : 4 ≤ s.size := by
          have : ¬ ((s.size : Int) < 4) := of_decide_eq_false hc45
          omega
        refine rn ?_
        refine qq rfl rfl (qr_index_bt 1 rfl rfl (by omega)) ?_
        refine rn ?_
        refine asplit (fun hg14_4 => ?_) (fun hg14_4 => ?_)
        · refine rn ?_
          refine aw_cond rfl (fun hc57 => ?_) (fun hc57 => ?_)
          · refine rn ?_
            have hd : decSlow s = (65533, 1) := by
              unfold decSlow
              rw [if_neg (by omega)]
              simp only [hx]
              rw [if_neg (by decide), if_neg (show ¬ (s.size : Int) < (52 : Int) % 8 from of_decide_eq_false hc45), if_pos (show bt s 1 < accLo ((52 : Int) / 16).toNat ∨ accHi ((52 : Int) / 16).toNat < bt s 1 from by first | exact .inl (of_decide_eq_true hg14_4) | exact .inr (of_decide_eq_true hc57))]
            exact retq (.cons _ _ _ _ (.tmp _ _ rfl) (.cons _ _ _ _ (.tmp _ _ rfl) .nil)) (.drop1 _ _ _) ⟨rfl, by rw [hd]; rfl⟩
          · first | cases hc57 | exact absurd hc57 (by decide) | (exfalso; simp_all; done)
        · refine rn ?_
          refine aw_cond rfl (fun hc57 => ?_) (fun hc57 => ?_)
          · refine rn ?_
            have hd : decSlow s = (65533, 1) := by
              unfold decSlow
              rw [if_neg (by omega)]
              simp only [hx]
              rw [if_neg (by decide), if_neg (show ¬ (s.size : Int) < (52 : Int) % 8 from of_decide_eq_false hc45), if_pos (show bt s 1 < accLo ((52 : Int) / 16).toNat ∨ accHi ((52 : Int) / 16).toNat < bt s 1 from by first | exact .inl (of_decide_eq_true hg14_4) | exact .inr (of_decide_eq_true hc57))]
            exact retq (.cons _ _ _ _ (.tmp _ _ rfl) (.cons _ _ _ _ (.tmp _ _ rfl) .nil)) (.drop1 _ _ _) ⟨rfl, by rw [hd]; rfl⟩
          · refine rn ?_
            refine aw_cond rfl (fun hc59 => ?_) (fun hc59 => ?_)
            · first | cases hc59 | exact absurd hc59 (by decide) | (exfalso; simp_all; done)
            · refine rn ?_
              refine qq rfl rfl (qr_index_bt 2 rfl rfl (by omega)) ?_
              refine rn ?_
              refine asplit (fun hg19_2 => ?_) (fun hg19_2 => ?_)
              · refine rn ?_
                refine aw_cond rfl (fun hc75 => ?_) (fun hc75 => ?_)
                · refine rn ?_
                  have hd : decSlow s = (65533, 1) := by
                    unfold decSlow
                    rw [if_neg (by omega)]
                    simp only [hx]
                    rw [if_neg (by decide), if_neg (show ¬ (s.size : Int) < (52 : Int) % 8 from of_decide_eq_false hc45), if_neg (show ¬ (bt s 1 < accLo ((52 : Int) / 16).toNat ∨ accHi ((52 : Int) / 16).toNat < bt s 1) from fun q => q.elim (of_decide_eq_false hg14_4) (of_decide_eq_false hc57)), if_neg (by decide), if_pos (show bt s 2 < 128 ∨ 191 < bt s 2 from by first | exact .inl (of_decide_eq_true hg19_2) | exact .inr (of_decide_eq_true hc75))]
                  exact retq (.cons _ _ _ _ (.tmp _ _ rfl) (.cons _ _ _ _ (.tmp _ _ rfl) .nil)) (.drop1 _ _ _) ⟨rfl, by rw [hd]; rfl⟩
                · first | cases hc75 | exact absurd hc75 (by decide) | (exfalso; simp_all; done)
              · refine rn ?_
                refine aw_cond rfl (fun hc75 => ?_) (fun hc75 => ?_)
                · refine rn ?_
                  have hd : decSlow s = (65533, 1) := by
                    unfold decSlow
                    rw [if_neg (by omega)]
                    simp only [hx]
                    rw [if_neg (by decide), if_neg (show ¬ (s.size : Int) < (52 : Int) % 8 from of_decide_eq_false hc45), if_neg (show ¬ (bt s 1 < accLo ((52 : Int) / 16).toNat ∨ accHi ((52 : Int) / 16).toNat < bt s 1) from fun q => q.elim (of_decide_eq_false hg14_4) (of_decide_eq_false hc57)), if_neg (by decide), if_pos (show bt s 2 < 128 ∨ 191 < bt s 2 from by first | exact .inl (of_decide_eq_true hg19_2) | exact .inr (of_decide_eq_true hc75))]
                  exact retq (.cons _ _ _ _ (.tmp _ _ rfl) (.cons _ _ _ _ (.tmp _ _ rfl) .nil)) (.drop1 _ _ _) ⟨rfl, by rw [hd]; rfl⟩
                · refine rn ?_
                  refine aw_cond rfl (fun hc77 => ?_) (fun hc77 => ?_)
                  · first | cases hc77 | exact absurd hc77 (by decide) | (exfalso; simp_all; done)
                  · refine rn ?_
                    refine qq rfl rfl (qr_index_bt 3 rfl rfl (by omega)) ?_
                    refine rn ?_
                    refine asplit (fun hg24_2 => ?_) (fun hg24_2 => ?_)
                    · refine rn ?_
                      refine aw_cond rfl (fun hc98 => ?_) (fun hc98 => ?_)
                      · refine rn ?_
                        have hd : decSlow s = (65533, 1) := by
                          unfold decSlow
                          rw [if_neg (by omega)]
                          simp only [hx]
                          rw [if_neg (by decide), if_neg (show ¬ (s.size : Int) < (52 : Int) % 8 from of_decide_eq_false hc45), if_neg (show ¬ (bt s 1 < accLo ((52 : Int) / 16).toNat ∨ accHi ((52 : Int) / 16).toNat < bt s 1) from fun q => q.elim (of_decide_eq_false hg14_4) (of_decide_eq_false hc57)), if_neg (by decide), if_neg (show ¬ (bt s 2 < 128 ∨ 191 < bt s 2) from fun q => q.elim (of_decide_eq_false hg19_2) (of_decide_eq_false hc75)), if_neg (by decide), if_pos (show bt s 3 < 128 ∨ 191 < bt s 3 from by first | exact .inl (of_decide_eq_true hg24_2) | exact .inr (of_decide_eq_true hc98))]
                        exact retq (.cons _ _ _ _ (.tmp _ _ rfl) (.cons _ _ _ _ (.tmp _ _ rfl) .nil)) (.drop1 _ _ _) ⟨rfl, by rw [hd]; rfl⟩
                      · first | cases hc98 | exact absurd hc98 (by decide) | (exfalso; simp_all; done)
                    · refine rn ?_
                      refine aw_cond rfl (fun hc98 => ?_) (fun hc98 => ?_)
                      · refine rn ?_
                        have hd : decSlow s = (65533, 1) := by
                          unfold decSlow
                          rw [if_neg (by omega)]
                          simp only [hx]
                          rw [if_neg (by decide), if_neg (show ¬ (s.size : Int) < (52 : Int) % 8 from of_decide_eq_false hc45), if_neg (show ¬ (bt s 1 < accLo ((52 : Int) / 16).toNat ∨ accHi ((52 : Int) / 16).toNat < bt s 1) from fun q => q.elim (of_decide_eq_false hg14_4) (of_decide_eq_false hc57)), if_neg (by decide), if_neg (show ¬ (bt s 2 < 128 ∨ 191 < bt s 2) from fun q => q.elim (of_decide_eq_false hg19_2) (of_decide_eq_false hc75)), if_neg (by decide), if_pos (show bt s 3 < 128 ∨ 191 < bt s 3 from by first | exact .inl (of_decide_eq_true hg24_2) | exact .inr (of_decide_eq_true hc98))]
                        exact retq (.cons _ _ _ _ (.tmp _ _ rfl) (.cons _ _ _ _ (.tmp _ _ rfl) .nil)) (.drop1 _ _ _) ⟨rfl, by rw [hd]; rfl⟩
                      · refine rn ?_
                        have hd : decSlow s = (bI .or .i32 (bI .or .i32 (bI .or .i32 (rbits (bt s 0) 7 18) (rbits (bt s 1) 63 12)) (rbits (bt s 2) 63 6)) (rbits (bt s 3) 63 0), 4) := by
                          unfold decSlow
                          rw [if_neg (by omega)]
                          simp only [hx]
                          rw [if_neg (by decide), if_neg (show ¬ (s.size : Int) < (52 : Int) % 8 from of_decide_eq_false hc45), if_neg (show ¬ (bt s 1 < accLo ((52 : Int) / 16).toNat ∨ accHi ((52 : Int) / 16).toNat < bt s 1) from fun q => q.elim (of_decide_eq_false hg14_4) (of_decide_eq_false hc57)), if_neg (by decide), if_neg (show ¬ (bt s 2 < 128 ∨ 191 < bt s 2) from fun q => q.elim (of_decide_eq_false hg19_2) (of_decide_eq_false hc75)), if_neg (by decide), if_neg (show ¬ (bt s 3 < 128 ∨ 191 < bt s 3) from fun q => q.elim (of_decide_eq_false hg24_2) (of_decide_eq_false hc98))]
                        exact retq (.cons _ _ _ _ (.tmp _ _ rfl) (.cons _ _ _ _ (.tmp _ _ rfl) .nil)) (.drop1 _ _ _) ⟨rfl, by rw [hd]; rfl⟩
theorem decodeSlow4 (s : ByteArray) (hx : firstV (bt s 0).toNat = 4) : ACall Tryz.prog 219 [.v (.string s)] [.glob 2 235 firstC, .glob 3 238 acceptC] (fun r h' => h' = [.glob 2 235 firstC, .glob 3 238 acceptC] ∧ r = .tup [.v (.int .i32 (decSlow s).1), iv (decSlow s).2]) := by
  refine acall_of_aw Tryz.func219 rfl rfl rfl ?_
  refine rn ?_
  refine aw_cond rfl (fun hc16 => ?_) (fun hc16 => ?_)
  · refine rn ?_
    have hd : decSlow s = (65533, 0) := by
      unfold decSlow
      rw [if_pos (by simp at hc16; omega)]
    exact retq (.cons _ _ _ _ (.tmp _ _ rfl) (.cons _ _ _ _ (.tmp _ _ rfl) .nil)) (.refl _ _) ⟨rfl, by rw [hd]; rfl⟩
  · have h1 : 0 < s.size := by simp at hc16; omega
    refine rn ?_
    refine qq rfl rfl (qr_index_bt 0 rfl rfl (by omega)) ?_
    refine rn ?_
    refine qq rfl rfl (qr_indexAddr_int rfl rfl (bt_ge _ _) (bt_lt _ _)) ?_
    refine qq rfl rfl (qr_load_one rfl (show _ = some (.v (.int .u8 4)) from by rw [firstC_get (bt_ge s 0) (bt_lt s 0), hx])) ?_
    refine rn ?_
    refine aw_cond rfl (fun hc23 => ?_) (fun hc23 => ?_)
    · first | cases hc23 | exact absurd hc23 (by decide) | (exfalso; simp_all; done)
    · refine rn ?_
      refine qq rfl rfl (qr_indexAddr_int rfl rfl (by decide) (by decide)) ?_
      refine rn ?_
      refine aops_e rfl (oe_alloc rfl fun b9 => ?_)
      refine rn ?_
      refine aw_cond rfl (fun hc45 => ?_) (fun hc45 => ?_)
      · refine rn ?_
        have hd : decSlow s = (65533, 1) := by
          unfold decSlow
          rw [if_neg (by omega)]
          simp only [hx]
          rw [if_neg (by decide), if_pos (show (s.size : Int) < (4 : Int) % 8 from of_decide_eq_true hc45)]
        exact retq (.cons _ _ _ _ (.tmp _ _ rfl) (.cons _ _ _ _ (.tmp _ _ rfl) .nil)) (.drop1 _ _ _) ⟨rfl, by rw [hd]; rfl⟩
      · have h2 : 4 ≤ s.size := by
          have : ¬ ((s.size : Int) < 4) := of_decide_eq_false hc45
          omega
        refine rn ?_
        refine qq rfl rfl (qr_index_bt 1 rfl rfl (by omega)) ?_
        refine rn ?_
        refine asplit (fun hg14_4 => ?_) (fun hg14_4 => ?_)
        · refine rn ?_
          refine aw_cond rfl (fun hc57 => ?_) (fun hc57 => ?_)
          · refine rn ?_
            have hd : decSlow s = (65533, 1) := by
              unfold decSlow
              rw [if_neg (by omega)]
              simp only [hx]
              rw [if_neg (by decide), if_neg (show ¬ (s.size : Int) < (4 : Int) % 8 from of_decide_eq_false hc45), if_pos (show bt s 1 < accLo ((4 : Int) / 16).toNat ∨ accHi ((4 : Int) / 16).toNat < bt s 1 from by first | exact .inl (of_decide_eq_true hg14_4) | exact .inr (of_decide_eq_true hc57))]
            exact retq (.cons _ _ _ _ (.tmp _ _ rfl) (.cons _ _ _ _ (.tmp _ _ rfl) .nil)) (.drop1 _ _ _) ⟨rfl, by rw [hd]; rfl⟩
          · first | cases hc57 | exact absurd hc57 (by decide) | (exfalso; simp_all; done)
        · refine rn ?_
          refine aw_cond rfl (fun hc57 => ?_) (fun hc57 => ?_)
          · refine rn ?_
            have hd : decSlow s = (65533, 1) := by
              unfold decSlow
              rw [if_neg (by omega)]
              simp only [hx]
              rw [if_neg (by decide), if_neg (show ¬ (s.size : Int) < (4 : Int) % 8 from of_decide_eq_false hc45), if_pos (show bt s 1 < accLo ((4 : Int) / 16).toNat ∨ accHi ((4 : Int) / 16).toNat < bt s 1 from by first | exact .inl (of_decide_eq_true hg14_4) | exact .inr (of_decide_eq_true hc57))]
            exact retq (.cons _ _ _ _ (.tmp _ _ rfl) (.cons _ _ _ _ (.tmp _ _ rfl) .nil)) (.drop1 _ _ _) ⟨rfl, by rw [hd]; rfl⟩
          · refine rn ?_
            refine aw_cond rfl (fun hc59 => ?_) (fun hc59 => ?_)
            · first | cases hc59 | exact absurd hc59 (by decide) | (exfalso; simp_all; done)
            · refine rn ?_
              refine qq rfl rfl (qr_index_bt 2 rfl rfl (by omega)) ?_
              refine rn ?_
              refine asplit (fun hg19_2 => ?_) (fun hg19_2 => ?_)
              · refine rn ?_
                refine aw_cond rfl (fun hc75 => ?_) (fun hc75 => ?_)
                · refine rn ?_
                  have hd : decSlow s = (65533, 1) := by
                    unfold decSlow
                    rw [if_neg (by omega)]
                    simp only [hx]
                    rw [if_neg (by decide), if_neg (show ¬ (s.size : Int) < (4 : Int) % 8 from of_decide_eq_false hc45), if_neg (show ¬ (bt s 1 < accLo ((4 : Int) / 16).toNat ∨ accHi ((4 : Int) / 16).toNat < bt s 1) from fun q => q.elim (of_decide_eq_false hg14_4) (of_decide_eq_false hc57)), if_neg (by decide), if_pos (show bt s 2 < 128 ∨ 191 < bt s 2 from by first | exact .inl (of_decide_eq_true hg19_2) | exact .inr (of_decide_eq_true hc75))]
                  exact retq (.cons _ _ _ _ (.tmp _ _ rfl) (.cons _ _ _ _ (.tmp _ _ rfl) .nil)) (.drop1 _ _ _) ⟨rfl, by rw [hd]; rfl⟩
                · first | cases hc75 | exact absurd hc75 (by decide) | (exfalso; simp_all; done)
              · refine rn ?_
                refine aw_cond rfl (fun hc75 => ?_) (fun hc75 => ?_)
                · refine rn ?_
                  have hd : decSlow s = (65533, 1) := by
                    unfold decSlow
                    rw [if_neg (by omega)]
                    simp only [hx]
                    rw [if_neg (by decide), if_neg (show ¬ (s.size : Int) < (4 : Int) % 8 from of_decide_eq_false hc45), if_neg (show ¬ (bt s 1 < accLo ((4 : Int) / 16).toNat ∨ accHi ((4 : Int) / 16).toNat < bt s 1) from fun q => q.elim (of_decide_eq_false hg14_4) (of_decide_eq_false hc57)), if_neg (by decide), if_pos (show bt s 2 < 128 ∨ 191 < bt s 2 from by first | exact .inl (of_decide_eq_true hg19_2) | exact .inr (of_decide_eq_true hc75))]
                  exact retq (.cons _ _ _ _ (.tmp _ _ rfl) (.cons _ _ _ _ (.tmp _ _ rfl) .nil)) (.drop1 _ _ _) ⟨rfl, by rw [hd]; rfl⟩
                · refine rn ?_
                  refine aw_cond rfl (fun hc77 => ?_) (fun hc77 => ?_)
                  · first | cases hc77 | exact absurd hc77 (by decide) | (exfalso; simp_all; done)
                  · refine rn ?_
                    refine qq rfl rfl (qr_index_bt 3 rfl rfl (by omega)) ?_
                    refine rn ?_
                    refine asplit (fun hg24_2 => ?_) (fun hg24_2 => ?_)
                    · refine rn ?_
                      refine aw_cond rfl (fun hc98 => ?_) (fun hc98 => ?_)
                      · refine rn ?_
                        have hd : decSlow s = (65533, 1) := by
                          unfold decSlow
                          rw [if_neg (by omega)]
                          simp only [hx]
                          rw [if_neg (by decide), if_neg (show ¬ (s.size : Int) < (4 : Int) % 8 from of_decide_eq_false hc45), if_neg (show ¬ (bt s 1 < accLo ((4 : Int) / 16).toNat ∨ accHi ((4 : Int) / 16).toNat < bt s 1) from fun q => q.elim (of_decide_eq_false hg14_4) (of_decide_eq_false hc57)), if_neg (by decide), if_neg (show ¬ (bt s 2 < 128 ∨ 191 < bt s 2) from fun q => q.elim (of_decide_eq_false hg19_2) (of_decide_eq_false hc75)), if_neg (by decide), if_pos (show bt s 3 < 128 ∨ 191 < bt s 3 from by first | exact .inl (of_decide_eq_true hg24_2) | exact .inr (of_decide_eq_true hc98))]
                        exact retq (.cons _ _ _ _ (.tmp _ _ rfl) (.cons _ _ _ _ (.tmp _ _ rfl) .nil)) (.drop1 _ _ _) ⟨rfl, by rw [hd]; rfl⟩
                      · first | cases hc98 | exact absurd hc98 (by decide) | (exfalso; simp_all; done)
                    · refine rn ?_
                      refine aw_cond rfl (fun hc98 => ?_) (fun hc98 => ?_)
                      · refine rn ?_
                        have hd : decSlow s = (65533, 1) := by
                          unfold decSlow
                          rw [if_neg (by omega)]
                          simp only [hx]
                          rw [if_neg (by decide), if_neg (show ¬ (s.size : Int) < (4 : Int) % 8 from of_decide_eq_false hc45), if_neg (show ¬ (bt s 1 < accLo ((4 : Int) / 16).toNat ∨ accHi ((4 : Int) / 16).toNat < bt s 1) from fun q => q.elim (of_decide_eq_false hg14_4) (of_decide_eq_false hc57)), if_neg (by decide), if_neg (show ¬ (bt s 2 < 128 ∨ 191 < bt s 2) from fun q => q.elim (of_decide_eq_false hg19_2) (of_decide_eq_false hc75)), if_neg (by decide), if_pos (show bt s 3 < 128 ∨ 191 < bt s 3 from by first | exact .inl (of_decide_eq_true hg24_2) | exact .inr (of_decide_eq_true hc98))]
                        exact retq (.cons _ _ _ _ (.tmp _ _ rfl) (.cons _ _ _ _ (.tmp _ _ rfl) .nil)) (.drop1 _ _ _) ⟨rfl, by rw [hd]; rfl⟩
                      · refine rn ?_
                        have hd : decSlow s = (bI .or .i32 (bI .or .i32 (bI .or .i32 (rbits (bt s 0) 7 18) (rbits (bt s 1) 63 12)) (rbits (bt s 2) 63 6)) (rbits (bt s 3) 63 0), 4) := by
                          unfold decSlow
                          rw [if_neg (by omega)]
                          simp only [hx]
                          rw [if_neg (by decide), if_neg (show ¬ (s.size : Int) < (4 : Int) % 8 from of_decide_eq_false hc45), if_neg (show ¬ (bt s 1 < accLo ((4 : Int) / 16).toNat ∨ accHi ((4 : Int) / 16).toNat < bt s 1) from fun q => q.elim (of_decide_eq_false hg14_4) (of_decide_eq_false hc57)), if_neg (by decide), if_neg (show ¬ (bt s 2 < 128 ∨ 191 < bt s 2) from fun q => q.elim (of_decide_eq_false hg19_2) (of_decide_eq_false hc75)), if_neg (by decide), if_neg (show ¬ (bt s 3 < 128 ∨ 191 < bt s 3) from fun q => q.elim (of_decide_eq_false hg24_2) (of_decide_eq_false hc98))]
                        exact retq (.cons _ _ _ _ (.tmp _ _ rfl) (.cons _ _ _ _ (.tmp _ _ rfl) .nil)) (.drop1 _ _ _) ⟨rfl, by rw [hd]; rfl⟩
theorem decodeSlow68 (s : ByteArray) (hx : firstV (bt s 0).toNat = 68) : ACall Tryz.prog 219 [.v (.string s)] [.glob 2 235 firstC, .glob 3 238 acceptC] (fun r h' => h' = [.glob 2 235 firstC, .glob 3 238 acceptC] ∧ r = .tup [.v (.int .i32 (decSlow s).1), iv (decSlow s).2]) := by
  refine acall_of_aw Tryz.func219 rfl rfl rfl ?_
  refine rn ?_
  refine aw_cond rfl (fun hc16 => ?_) (fun hc16 => ?_)
  · refine rn ?_
    have hd : decSlow s = (65533, 0) := by
      unfold decSlow
      rw [if_pos (by simp at hc16; omega)]
    exact retq (.cons _ _ _ _ (.tmp _ _ rfl) (.cons _ _ _ _ (.tmp _ _ rfl) .nil)) (.refl _ _) ⟨rfl, by rw [hd]; rfl⟩
  · have h1 : 0 < s.size := by simp at hc16; omega
    refine rn ?_
    refine qq rfl rfl (qr_index_bt 0 rfl rfl (by omega)) ?_
    refine rn ?_
    refine qq rfl rfl (qr_indexAddr_int rfl rfl (bt_ge _ _) (bt_lt _ _)) ?_
    refine qq rfl rfl (qr_load_one rfl (show _ = some (.v (.int .u8 68)) from by rw [firstC_get (bt_ge s 0) (bt_lt s 0), hx])) ?_
    refine rn ?_
    refine aw_cond rfl (fun hc23 => ?_) (fun hc23 => ?_)
    · first | cases hc23 | exact absurd hc23 (by decide) | (exfalso; simp_all; done)
    · refine rn ?_
      refine qq rfl rfl (qr_indexAddr_int rfl rfl (by decide) (by decide)) ?_
      refine rn ?_
      refine aops_e rfl (oe_alloc rfl fun b9 => ?_)
      refine rn ?_
      refine aw_cond rfl (fun hc45 => ?_) (fun hc45 => ?_)
      · refine rn ?_
        have hd : decSlow s = (65533, 1) := by
          unfold decSlow
          rw [if_neg (by omega)]
          simp only [hx]
          rw [if_neg (by decide), if_pos (show (s.size : Int) < (68 : Int) % 8 from of_decide_eq_true hc45)]
        exact retq (.cons _ _ _ _ (.tmp _ _ rfl) (.cons _ _ _ _ (.tmp _ _ rfl) .nil)) (.drop1 _ _ _) ⟨rfl, by rw [hd]; rfl⟩
      · have h2 : 4 ≤ s.size := by
          have : ¬ ((s.size : Int) < 4) := of_decide_eq_false hc45
          omega
        refine rn ?_
        refine qq rfl rfl (qr_index_bt 1 rfl rfl (by omega)) ?_
        refine rn ?_
        refine asplit (fun hg14_4 => ?_) (fun hg14_4 => ?_)
        · refine rn ?_
          refine aw_cond rfl (fun hc57 => ?_) (fun hc57 => ?_)
          · refine rn ?_
            have hd : decSlow s = (65533, 1) := by
              unfold decSlow
              rw [if_neg (by omega)]
              simp only [hx]
              rw [if_neg (by decide), if_neg (show ¬ (s.size : Int) < (68 : Int) % 8 from of_decide_eq_false hc45), if_pos (show bt s 1 < accLo ((68 : Int) / 16).toNat ∨ accHi ((68 : Int) / 16).toNat < bt s 1 from by first | exact .inl (of_decide_eq_true hg14_4) | exact .inr (of_decide_eq_true hc57))]
            exact retq (.cons _ _ _ _ (.tmp _ _ rfl) (.cons _ _ _ _ (.tmp _ _ rfl) .nil)) (.drop1 _ _ _) ⟨rfl, by rw [hd]; rfl⟩
          · first | cases hc57 | exact absurd hc57 (by decide) | (exfalso; simp_all; done)
        · refine rn ?_
          refine aw_cond rfl (fun hc57 => ?_) (fun hc57 => ?_)
          · refine rn ?_
            have hd : decSlow s = (65533, 1) := by
              unfold decSlow
              rw [if_neg (by omega)]
              simp only [hx]
              rw [if_neg (by decide), if_neg (show ¬ (s.size : Int) < (68 : Int) % 8 from of_decide_eq_false hc45), if_pos (show bt s 1 < accLo ((68 : Int) / 16).toNat ∨ accHi ((68 : Int) / 16).toNat < bt s 1 from by first | exact .inl (of_decide_eq_true hg14_4) | exact .inr (of_decide_eq_true hc57))]
            exact retq (.cons _ _ _ _ (.tmp _ _ rfl) (.cons _ _ _ _ (.tmp _ _ rfl) .nil)) (.drop1 _ _ _) ⟨rfl, by rw [hd]; rfl⟩
          · refine rn ?_
            refine aw_cond rfl (fun hc59 => ?_) (fun hc59 => ?_)
            · first | cases hc59 | exact absurd hc59 (by decide) | (exfalso; simp_all; done)
            · refine rn ?_
              refine qq rfl rfl (qr_index_bt 2 rfl rfl (by omega)) ?_
              refine rn ?_
              refine asplit (fun hg19_2 => ?_) (fun hg19_2 => ?_)
              · refine rn ?_
                refine aw_cond rfl (fun hc75 => ?_) (fun hc75 => ?_)
                · refine rn ?_
                  have hd : decSlow s = (65533, 1) := by
                    unfold decSlow
                    rw [if_neg (by omega)]
                    simp only [hx]
                    rw [if_neg (by decide), if_neg (show ¬ (s.size : Int) < (68 : Int) % 8 from of_decide_eq_false hc45), if_neg (show ¬ (bt s 1 < accLo ((68 : Int) / 16).toNat ∨ accHi ((68 : Int) / 16).toNat < bt s 1) from fun q => q.elim (of_decide_eq_false hg14_4) (of_decide_eq_false hc57)), if_neg (by decide), if_pos (show bt s 2 < 128 ∨ 191 < bt s 2 from by first | exact .inl (of_decide_eq_true hg19_2) | exact .inr (of_decide_eq_true hc75))]
                  exact retq (.cons _ _ _ _ (.tmp _ _ rfl) (.cons _ _ _ _ (.tmp _ _ rfl) .nil)) (.drop1 _ _ _) ⟨rfl, by rw [hd]; rfl⟩
                · first | cases hc75 | exact absurd hc75 (by decide) | (exfalso; simp_all; done)
              · refine rn ?_
                refine aw_cond rfl (fun hc75 => ?_) (fun hc75 => ?_)
                · refine rn ?_
                  have hd : decSlow s = (65533, 1) := by
                    unfold decSlow
                    rw [if_neg (by omega)]
                    simp only [hx]
                    rw [if_neg (by decide), if_neg (show ¬ (s.size : Int) < (68 : Int) % 8 from of_decide_eq_false hc45), if_neg (show ¬ (bt s 1 < accLo ((68 : Int) / 16).toNat ∨ accHi ((68 : Int) / 16).toNat < bt s 1) from fun q => q.elim (of_decide_eq_false hg14_4) (of_decide_eq_false hc57)), if_neg (by decide), if_pos (show bt s 2 < 128 ∨ 191 < bt s 2 from by first | exact .inl (of_decide_eq_true hg19_2) | exact .inr (of_decide_eq_true hc75))]
                  exact retq (.cons _ _ _ _ (.tmp _ _ rfl) (.cons _ _ _ _ (.tmp _ _ rfl) .nil)) (.drop1 _ _ _) ⟨rfl, by rw [hd]; rfl⟩
                · refine rn ?_
                  refine aw_cond rfl (fun hc77 => ?_) (fun hc77 => ?_)
                  · first | cases hc77 | exact absurd hc77 (by decide) | (exfalso; simp_all; done)
                  · refine rn ?_
                    refine qq rfl rfl (qr_index_bt 3 rfl rfl (by omega)) ?_
                    refine rn ?_
                    refine asplit (fun hg24_2 => ?_) (fun hg24_2 => ?_)
                    · refine rn ?_
                      refine aw_cond rfl (fun hc98 => ?_) (fun hc98 => ?_)
                      · refine rn ?_
                        have hd : decSlow s = (65533, 1) := by
                          unfold decSlow
                          rw [if_neg (by omega)]
                          simp only [hx]
                          rw [if_neg (by decide), if_neg (show ¬ (s.size : Int) < (68 : Int) % 8 from of_decide_eq_false hc45), if_neg (show ¬ (bt s 1 < accLo ((68 : Int) / 16).toNat ∨ accHi ((68 : Int) / 16).toNat < bt s 1) from fun q => q.elim (of_decide_eq_false hg14_4) (of_decide_eq_false hc57)), if_neg (by decide), if_neg (show ¬ (bt s 2 < 128 ∨ 191 < bt s 2) from fun q => q.elim (of_decide_eq_false hg19_2) (of_decide_eq_false hc75)), if_neg (by decide), if_pos (show bt s 3 < 128 ∨ 191 < bt s 3 from by first | exact .inl (of_decide_eq_true hg24_2) | exact .inr (of_decide_eq_true hc98))]
                        exact retq (.cons _ _ _ _ (.tmp _ _ rfl) (.cons _ _ _ _ (.tmp _ _ rfl) .nil)) (.drop1 _ _ _) ⟨rfl, by rw [hd]; rfl⟩
                      · first | cases hc98 | exact absurd hc98 (by decide) | (exfalso; simp_all; done)
                    · refine rn ?_
                      refine aw_cond rfl (fun hc98 => ?_) (fun hc98 => ?_)
                      · refine rn ?_
                        have hd : decSlow s = (65533, 1) := by
                          unfold decSlow
                          rw [if_neg (by omega)]
                          simp only [hx]
                          rw [if_neg (by decide), if_neg (show ¬ (s.size : Int) < (68 : Int) % 8 from of_decide_eq_false hc45), if_neg (show ¬ (bt s 1 < accLo ((68 : Int) / 16).toNat ∨ accHi ((68 : Int) / 16).toNat < bt s 1) from fun q => q.elim (of_decide_eq_false hg14_4) (of_decide_eq_false hc57)), if_neg (by decide), if_neg (show ¬ (bt s 2 < 128 ∨ 191 < bt s 2) from fun q => q.elim (of_decide_eq_false hg19_2) (of_decide_eq_false hc75)), if_neg (by decide), if_pos (show bt s 3 < 128 ∨ 191 < bt s 3 from by first | exact .inl (of_decide_eq_true hg24_2) | exact .inr (of_decide_eq_true hc98))]
                        exact retq (.cons _ _ _ _ (.tmp _ _ rfl) (.cons _ _ _ _ (.tmp _ _ rfl) .nil)) (.drop1 _ _ _) ⟨rfl, by rw [hd]; rfl⟩
                      · refine rn ?_
                        have hd : decSlow s = (bI .or .i32 (bI .or .i32 (bI .or .i32 (rbits (bt s 0) 7 18) (rbits (bt s 1) 63 12)) (rbits (bt s 2) 63 6)) (rbits (bt s 3) 63 0), 4) := by
                          unfold decSlow
                          rw [if_neg (by omega)]
                          simp only [hx]
                          rw [if_neg (by decide), if_neg (show ¬ (s.size : Int) < (68 : Int) % 8 from of_decide_eq_false hc45), if_neg (show ¬ (bt s 1 < accLo ((68 : Int) / 16).toNat ∨ accHi ((68 : Int) / 16).toNat < bt s 1) from fun q => q.elim (of_decide_eq_false hg14_4) (of_decide_eq_false hc57)), if_neg (by decide), if_neg (show ¬ (bt s 2 < 128 ∨ 191 < bt s 2) from fun q => q.elim (of_decide_eq_false hg19_2) (of_decide_eq_false hc75)), if_neg (by decide), if_neg (show ¬ (bt s 3 < 128 ∨ 191 < bt s 3) from fun q => q.elim (of_decide_eq_false hg24_2) (of_decide_eq_false hc98))]
                        exact retq (.cons _ _ _ _ (.tmp _ _ rfl) (.cons _ _ _ _ (.tmp _ _ rfl) .nil)) (.drop1 _ _ _) ⟨rfl, by rw [hd]; rfl⟩
theorem decodeSlow (s : ByteArray) : ACall Tryz.prog 219 [.v (.string s)] [.glob 2 235 firstC, .glob 3 238 acceptC] (fun r h' => h' = [.glob 2 235 firstC, .glob 3 238 acceptC] ∧ r = .tup [.v (.int .i32 (decSlow s).1), iv (decSlow s).2]) := by
  rcases firstV_cases (bt s 0).toNat with hx | hx | hx | hx | hx | hx | hx | hx | hx
  · exact decodeSlow240 s hx
  · exact decodeSlow241 s hx
  · exact decodeSlow2 s hx
  · exact decodeSlow19 s hx
  · exact decodeSlow3 s hx
  · exact decodeSlow35 s hx
  · exact decodeSlow52 s hx
  · exact decodeSlow4 s hx
  · exact decodeSlow68 s hx
theorem decodeRune (s : ByteArray) : ACall Tryz.prog 217 [.v (.string s)] [.glob 2 235 firstC, .glob 3 238 acceptC] (fun r h' => h' = [.glob 2 235 firstC, .glob 3 238 acceptC] ∧ r = .tup [.v (.int .i32 (decStr s).1), iv (decStr s).2]) := by
  refine acall_of_aw Tryz.func217 rfl rfl rfl ?_
  refine rn ?_
  refine asplit (fun hg1_2 => ?_) (fun hg1_2 => ?_)
  · refine rn ?_
    have h1 : 0 < s.size := str_ne hg1_2
    refine qq rfl rfl (qr_index_bt 0 rfl rfl (by omega)) ?_
    refine rn ?_
    refine aw_cond rfl (fun hc10 => ?_) (fun hc10 => ?_)
    · refine rn ?_
      refine qq rfl rfl (qr_index_bt 0 rfl rfl (by omega)) ?_
      refine rn ?_
      have hd : decStr s = (bt s 0, 1) := by
        unfold decStr
        exact if_pos ⟨str_ne hg1_2, of_decide_eq_true hc10⟩
      exact retq (.cons _ _ _ _ (.tmp _ _ rfl) (.cons _ _ _ _ (.tmp _ _ rfl) .nil)) (.refl _ _) ⟨rfl, by rw [hd]; exact congrArg (fun c => AV.tup [.v (.int .i32 c), iv 1]) (bt_wrap s 0)⟩
    · refine rn ?_
      refine qv rfl rfl (qv_call rfl rfl (FCall.of_fun (decodeSlow s))) ?_
      refine rn ?_
      have hd : decStr s = decSlow s := by
        unfold decStr
        exact if_neg fun q => by first | exact str_eq hg1_2 q.1 | exact absurd q.2 (of_decide_eq_false hc10)
      exact retq (.cons _ _ _ _ (.tmp _ _ rfl) (.cons _ _ _ _ (.tmp _ _ rfl) .nil)) (.refl _ _) ⟨rfl, by rw [hd]; rfl⟩
  · refine rn ?_
    refine aw_cf rfl ?_
    refine rn ?_
    refine qv rfl rfl (qv_call rfl rfl (FCall.of_fun (decodeSlow s))) ?_
    refine rn ?_
    have hd : decStr s = decSlow s := by
      unfold decStr
      exact if_neg fun q => by first | exact str_eq hg1_2 q.1 | exact absurd q.2 (of_decide_eq_false hc10)
    exact retq (.cons _ _ _ _ (.tmp _ _ rfl) (.cons _ _ _ _ (.tmp _ _ rfl) .nil)) (.refl _ _) ⟨rfl, by rw [hd]; rfl⟩
end Go.Proofs
/- The walks of slices.Equal. Conditions: none. -/
set_option linter.unusedVariables false
set_option linter.unusedSimpArgs false
set_option maxRecDepth 10000
namespace Go.Proofs
open Go Go.Ab
attribute [local irreducible] QR QV OE aops aw dsoup dsoupM dalloc dallocM thn inBlk
open Go.H
theorem equalInt {f g : Bool} (l m : List Int) (hl : l.length ≤ 4611686018427387904) (hm : m.length ≤ 4611686018427387904) : ACall Tryz.prog 25 [.list f 1 (l.map intR), .list g 1 (m.map intR)] [] (fun r h' => h' = [] ∧ r = bv (eqF intEq l m)) := by
  refine acall_of_aw Tryz.func25 rfl rfl rfl ?_
  refine rn ?_
  refine aw_cond rfl (fun hc10 => ?_) (fun hc10 => ?_)
  · refine rn ?_
    have hne : (l.length == m.length) = false := beq_eq_false_iff_ne.2 fun q => by simp [q] at hc10
    exact retq (.cons _ _ _ _ (.tmp _ _ rfl) .nil) (.refl _ _) ⟨rfl, by rw [eqF, hne, Bool.false_and]; rfl⟩
  · have hlm : l.length = m.length := by simp at hc10; omega
    refine rn ?_
    refine aw_loop' (fun k : Nat => k ≤ l.length ∧ zall intEq l m = zall intEq (l.drop k) (m.drop k)) (fun k => ⟨[(13, iv k), (12, iv (l.map intR).length), (0, .list f 1 (l.map intR)), (1, .list g 1 (m.map intR))], [], []⟩) (fun k => l.length - k) 0 ⟨Nat.zero_le _, by simp⟩
      (ent_sub (.cons _ _ _ rfl (.cons _ _ _ rfl (.cons _ _ _ rfl (.cons _ _ _ rfl (.nil)))))) ?_
    rintro k ⟨hk, hz⟩
    refine rn ?_
    refine aw_cond rfl (fun hc14 => ?_) (fun hc14 => ?_)
    · have hk2 : k < l.length := by simpa using hc14
      have hk3 : k < m.length := by omega
      have hrow1 : (l.map intR)[k]? = some (intR l[k]) := by simp [hk2]
      have hrow2 : (m.map intR)[k]? = some (intR m[k]) := by simp [hk3]
      have hd1 := List.drop_eq_getElem_cons hk2
      have hd2 := List.drop_eq_getElem_cons hk3
      refine rn ?_
      refine aw_draw 8 rfl ?_
      refine rn ?_
      refine aw_cond rfl (fun hc24 => ?_) (fun hc24 => ?_)
      · refine rn ?_
        exact retq (.cons _ _ _ _ (.tmp _ _ rfl) .nil) (.refl _ _) ⟨rfl, by rw [eqF, hz, hd1, hd2, zall, show intEq l[k] m[k] = false from not_t hc24, Bool.false_and, Bool.and_false]; rfl⟩
      · refine rn ?_
        exact ⟨k + 1, ⟨by omega, by rw [hz, hd1, hd2, zall, show intEq l[k] m[k] = true from not_f hc24, Bool.true_and]⟩, (ent_sub (.cons _ _ _ rfl (.cons _ _ _ rfl (.cons _ _ _ rfl (.cons _ _ _ rfl (.nil)))))), by omega⟩
    · have hk3 : k = l.length := by
        have : l.length ≤ k := by simpa using hc14
        omega
      refine rn ?_
      exact retq (.cons _ _ _ _ (.tmp _ _ rfl) .nil) (.refl _ _) ⟨rfl, by rw [eqF, hz, hk3, List.drop_length, zall_nil, hlm, beq_self_eq_true]; rfl⟩
theorem equalSeen {f g : Bool} (l m : List Seen) (hl : l.length ≤ 4611686018427387904) (hm : m.length ≤ 4611686018427387904) : ACall Tryz.prog 50 [.list f 3 (l.map seenR), .list g 3 (m.map seenR)] [] (fun r h' => h' = [] ∧ r = bv (eqF seenEq l m)) := by
  refine acall_of_aw Tryz.func50 rfl rfl rfl ?_
  refine rn ?_
  refine aw_cond rfl (fun hc10 => ?_) (fun hc10 => ?_)
  · refine rn ?_
    have hne : (l.length == m.length) = false := beq_eq_false_iff_ne.2 fun q => by simp [q] at hc10
    exact retq (.cons _ _ _ _ (.tmp _ _ rfl) .nil) (.refl _ _) ⟨rfl, by rw [eqF, hne, Bool.false_and]; rfl⟩
  · have hlm : l.length = m.length := by simp at hc10; omega
    refine rn ?_
    refine aw_loop' (fun k : Nat => k ≤ l.length ∧ zall seenEq l m = zall seenEq (l.drop k) (m.drop k)) (fun k => ⟨[(13, iv k), (12, iv (l.map seenR).length), (0, .list f 3 (l.map seenR)), (1, .list g 3 (m.map seenR))], [], []⟩) (fun k => l.length - k) 0 ⟨Nat.zero_le _, by simp⟩
      (ent_sub (.cons _ _ _ rfl (.cons _ _ _ rfl (.cons _ _ _ rfl (.cons _ _ _ rfl (.nil)))))) ?_
    rintro k ⟨hk, hz⟩
    refine rn ?_
    refine aw_cond rfl (fun hc14 => ?_) (fun hc14 => ?_)
    · have hk2 : k < l.length := by simpa using hc14
      have hk3 : k < m.length := by omega
      have hrow1 : (l.map seenR)[k]? = some (seenR l[k]) := by simp [hk2]
      have hrow2 : (m.map seenR)[k]? = some (seenR m[k]) := by simp [hk3]
      have hd1 := List.drop_eq_getElem_cons hk2
      have hd2 := List.drop_eq_getElem_cons hk3
      refine rn ?_
      refine aw_draw 8 rfl ?_
      refine rn ?_
      refine aw_cond rfl (fun hc24 => ?_) (fun hc24 => ?_)
      · refine rn ?_
        exact retq (.cons _ _ _ _ (.tmp _ _ rfl) .nil) (.refl _ _) ⟨rfl, by rw [eqF, hz, hd1, hd2, zall, show seenEq l[k] m[k] = false from not_t hc24, Bool.false_and, Bool.and_false]; rfl⟩
      · refine rn ?_
        exact ⟨k + 1, ⟨by omega, by rw [hz, hd1, hd2, zall, show seenEq l[k] m[k] = true from not_f hc24, Bool.true_and]⟩, (ent_sub (.cons _ _ _ rfl (.cons _ _ _ rfl (.cons _ _ _ rfl (.cons _ _ _ rfl (.nil)))))), by omega⟩
    · have hk3 : k = l.length := by
        have : l.length ≤ k := by simpa using hc14
        omega
      refine rn ?_
      exact retq (.cons _ _ _ _ (.tmp _ _ rfl) .nil) (.refl _ _) ⟨rfl, by rw [eqF, hz, hk3, List.drop_length, zall_nil, hlm, beq_self_eq_true]; rfl⟩
end Go.Proofs
/- The walks of small functions. Conditions: none. -/
set_option linter.unusedVariables false
set_option linter.unusedSimpArgs false
set_option maxRecDepth 10000
namespace Go.Proofs
open Go Go.Ab
attribute [local irreducible] QR QV OE aops aw dsoup dsoupM dalloc dallocM thn inBlk
open Go.H
theorem levelCheck (l : Int) : ACall Tryz.prog 175 [iv l] [] (fun r h' => h' = [] ∧ r = iv (levB l)) := by
  refine acall_of_aw Tryz.func175 rfl rfl rfl ?_
  refine rn ?_
  refine asplit (fun hg1_2 => ?_) (fun hg1_2 => ?_)
  · refine rn ?_
    refine aw_ct rfl ?_
    refine rn ?_
    exact retq (.cons _ _ _ _ (.tmp _ _ rfl) .nil) (.refl _ _) ⟨rfl, congrArg iv (by simp_all [levB])⟩
  · refine rn ?_
    refine aw_cond rfl (fun hc8 => ?_) (fun hc8 => ?_)
    · refine rn ?_
      exact retq (.cons _ _ _ _ (.tmp _ _ rfl) .nil) (.refl _ _) ⟨rfl, congrArg iv (by simp_all [levB])⟩
    · refine rn ?_
      exact retq (.cons _ _ _ _ (.tmp _ _ rfl) .nil) (.refl _ _) ⟨rfl, congrArg iv (by simp_all [levB])⟩
theorem lexNumber (c : Int) : ACall Tryz.prog 167 [.v (.int .i32 c)] [] (fun r h' => h' = [] ∧ r = bv (numB c)) := by
  refine acall_of_aw Tryz.func167 rfl rfl rfl ?_
  refine rn ?_
  refine asplit (fun hg1_2 => ?_) (fun hg1_2 => ?_)
  · refine rn ?_
    exact retq (.cons _ _ _ _ (.tmp _ _ rfl) .nil) (.refl _ _) ⟨rfl, congrArg bv (by first | (simp only [numB, *, Bool.true_and, Bool.false_and, Bool.and_false, Bool.and_true, Bool.true_or, Bool.or_false, Bool.false_or, Bool.or_true, if_true, if_false, Bool.false_eq_true, Bool.not_true, Bool.not_false]; done) | (simp_all [numB]; done) | (simp_all [numB] <;> omega))⟩
  · refine rn ?_
    exact retq (.cons _ _ _ _ (.tmp _ _ rfl) .nil) (.refl _ _) ⟨rfl, congrArg bv (by first | (simp only [numB, *, Bool.true_and, Bool.false_and, Bool.and_false, Bool.and_true, Bool.true_or, Bool.or_false, Bool.false_or, Bool.or_true, if_true, if_false, Bool.false_eq_true, Bool.not_true, Bool.not_false]; done) | (simp_all [numB]; done) | (simp_all [numB] <;> omega))⟩
theorem lexLetter (c : Int) : ACall Tryz.prog 205 [.v (.int .i32 c)] [] (fun r h' => h' = [] ∧ r = bv (letB c)) := by
  refine acall_of_aw Tryz.func205 rfl rfl rfl ?_
  refine rn ?_
  refine asplit (fun hg1_2 => ?_) (fun hg1_2 => ?_)
  · refine rn ?_
    exact retq (.cons _ _ _ _ (.tmp _ _ rfl) .nil) (.refl _ _) ⟨rfl, congrArg bv (by first | (simp only [letB, *, Bool.true_and, Bool.false_and, Bool.and_false, Bool.and_true, Bool.true_or, Bool.or_false, Bool.false_or, Bool.or_true, if_true, if_false, Bool.false_eq_true, Bool.not_true, Bool.not_false]; done) | (simp_all [letB]; done) | (simp_all [letB] <;> omega))⟩
  · refine rn ?_
    refine asplit (fun hg1_5 => ?_) (fun hg1_5 => ?_)
    · refine rn ?_
      refine asplit (fun hg1_10 => ?_) (fun hg1_10 => ?_)
      · refine rn ?_
        exact retq (.cons _ _ _ _ (.tmp _ _ rfl) .nil) (.refl _ _) ⟨rfl, congrArg bv (by first | (simp only [letB, *, Bool.true_and, Bool.false_and, Bool.and_false, Bool.and_true, Bool.true_or, Bool.or_false, Bool.false_or, Bool.or_true, if_true, if_false, Bool.false_eq_true, Bool.not_true, Bool.not_false]; done) | (simp_all [letB]; done) | (simp_all [letB] <;> omega))⟩
      · refine rn ?_
        refine asplit (fun hg1_13 => ?_) (fun hg1_13 => ?_)
        · refine rn ?_
          refine asplit (fun hg1_18 => ?_) (fun hg1_18 => ?_)
          · refine rn ?_
            exact retq (.cons _ _ _ _ (.tmp _ _ rfl) .nil) (.refl _ _) ⟨rfl, congrArg bv (by first | (simp only [letB, *, Bool.true_and, Bool.false_and, Bool.and_false, Bool.and_true, Bool.true_or, Bool.or_false, Bool.false_or, Bool.or_true, if_true, if_false, Bool.false_eq_true, Bool.not_true, Bool.not_false]; done) | (simp_all [letB]; done) | (simp_all [letB] <;> omega))⟩
          · refine rn ?_
            exact retq (.cons _ _ _ _ (.tmp _ _ rfl) .nil) (.refl _ _) ⟨rfl, congrArg bv (by first | (simp only [letB, *, Bool.true_and, Bool.false_and, Bool.and_false, Bool.and_true, Bool.true_or, Bool.or_false, Bool.false_or, Bool.or_true, if_true, if_false, Bool.false_eq_true, Bool.not_true, Bool.not_false]; done) | (simp_all [letB]; done) | (simp_all [letB] <;> omega))⟩
        · refine rn ?_
          exact retq (.cons _ _ _ _ (.tmp _ _ rfl) .nil) (.refl _ _) ⟨rfl, congrArg bv (by first | (simp only [letB, *, Bool.true_and, Bool.false_and, Bool.and_false, Bool.and_true, Bool.true_or, Bool.or_false, Bool.false_or, Bool.or_true, if_true, if_false, Bool.false_eq_true, Bool.not_true, Bool.not_false]; done) | (simp_all [letB]; done) | (simp_all [letB] <;> omega))⟩
    · refine rn ?_
      refine asplit (fun hg1_13 => ?_) (fun hg1_13 => ?_)
      · refine rn ?_
        refine asplit (fun hg1_18 => ?_) (fun hg1_18 => ?_)
        · refine rn ?_
          exact retq (.cons _ _ _ _ (.tmp _ _ rfl) .nil) (.refl _ _) ⟨rfl, congrArg bv (by first | (simp only [letB, *, Bool.true_and, Bool.false_and, Bool.and_false, Bool.and_true, Bool.true_or, Bool.or_false, Bool.false_or, Bool.or_true, if_true, if_false, Bool.false_eq_true, Bool.not_true, Bool.not_false]; done) | (simp_all [letB]; done) | (simp_all [letB] <;> omega))⟩
        · refine rn ?_
          exact retq (.cons _ _ _ _ (.tmp _ _ rfl) .nil) (.refl _ _) ⟨rfl, congrArg bv (by first | (simp only [letB, *, Bool.true_and, Bool.false_and, Bool.and_false, Bool.and_true, Bool.true_or, Bool.or_false, Bool.false_or, Bool.or_true, if_true, if_false, Bool.false_eq_true, Bool.not_true, Bool.not_false]; done) | (simp_all [letB]; done) | (simp_all [letB] <;> omega))⟩
      · refine rn ?_
        exact retq (.cons _ _ _ _ (.tmp _ _ rfl) .nil) (.refl _ _) ⟨rfl, congrArg bv (by first | (simp only [letB, *, Bool.true_and, Bool.false_and, Bool.and_false, Bool.and_true, Bool.true_or, Bool.or_false, Bool.false_or, Bool.or_true, if_true, if_false, Bool.false_eq_true, Bool.not_true, Bool.not_false]; done) | (simp_all [letB]; done) | (simp_all [letB] <;> omega))⟩
theorem lexEither (c : Int) : ACall Tryz.prog 169 [.v (.int .i32 c)] [] (fun r h' => h' = [] ∧ r = bv (letB c || numB c)) := by
  refine acall_of_aw Tryz.func169 rfl rfl rfl ?_
  refine rn ?_
  refine qv rfl rfl (qv_call rfl rfl (pcall (lexLetter _) (Sbs.refl _))) ?_
  refine rn ?_
  refine asplit (fun hg1_2 => ?_) (fun hg1_2 => ?_)
  · refine rn ?_
    exact retq (.cons _ _ _ _ (.tmp _ _ rfl) .nil) (.refl _ _) ⟨rfl, congrArg bv (by first | (simp only [*, Bool.true_and, Bool.false_and, Bool.and_false, Bool.and_true, Bool.true_or, Bool.or_false, Bool.false_or, Bool.or_true, if_true, if_false, Bool.false_eq_true, Bool.not_true, Bool.not_false]; done) | (simp_all; done) | (simp_all <;> omega))⟩
  · refine rn ?_
    refine qv rfl rfl (qv_call rfl rfl (pcall (lexNumber _) (Sbs.refl _))) ?_
    refine rn ?_
    exact retq (.cons _ _ _ _ (.tmp _ _ rfl) .nil) (.refl _ _) ⟨rfl, congrArg bv (by first | (simp only [*, Bool.true_and, Bool.false_and, Bool.and_false, Bool.and_true, Bool.true_or, Bool.or_false, Bool.false_or, Bool.or_true, if_true, if_false, Bool.false_eq_true, Bool.not_true, Bool.not_false]; done) | (simp_all; done) | (simp_all <;> omega))⟩
theorem names (h : Hist) : ACall Tryz.prog 78 [.agg (histC h)] [] (fun r h' => h' = [] ∧ r = .agg (namesC h)) := by
  refine acall_of_aw Tryz.func78 rfl rfl rfl ?_
  refine rn ?_
  refine aops_e rfl (oe_box rfl rfl rfl fun b1 => ?_)
  refine aops_e rfl (oe_alloc rfl fun b2 => ?_)
  refine rn ?_
  exact retq (.cons _ _ _ _ (.agg _ _ _ _ _ _ _ rfl inferInstance inferInstance inferInstance rfl) .nil) (.drop [_, _] _ _) ⟨rfl, rfl⟩
theorem told (h : Hist) (sort : Nat) (n : Int) (l : List ByteArray) (hs : (namesC h)[sort]? = some (strsA l)) (hs4 : sort < 4) : ACall Tryz.prog 133 [.agg (histC h), iv sort, iv n] [] (fun r h' => h' = [] ∧ r = bv (toldB l n)) := by
  refine acall_of_aw Tryz.func133 rfl rfl rfl ?_
  refine rn ?_
  refine aops_e rfl (oe_box rfl rfl rfl fun b3 => ?_)
  refine rn ?_
  refine asplit (fun hg1_2 => ?_) (fun hg1_2 => ?_)
  · refine rn ?_
    refine qv rfl rfl (qv_call rfl rfl (pcall (names _) (Sbs.refl _))) ?_
    refine q1 ?_
    refine qq rfl rfl (qr_index_arr_one rfl rfl (by omega) (by simpa using hs)) ?_
    refine rn ?_
    exact retq (.cons _ _ _ _ (.tmp _ _ rfl) .nil) (.drop1 _ _ _) ⟨rfl, congrArg bv (by first | (simp only [toldB, *, Bool.true_and, Bool.false_and, Bool.and_false, Bool.and_true, Bool.true_or, Bool.or_false, Bool.false_or, Bool.or_true, if_true, if_false, Bool.false_eq_true, Bool.not_true, Bool.not_false]; done) | (simp_all [toldB]; done) | (simp_all [toldB] <;> omega))⟩
  · refine rn ?_
    exact retq (.cons _ _ _ _ (.tmp _ _ rfl) .nil) (.drop1 _ _ _) ⟨rfl, congrArg bv (by first | (simp only [toldB, *, Bool.true_and, Bool.false_and, Bool.and_false, Bool.and_true, Bool.true_or, Bool.or_false, Bool.false_or, Bool.or_true, if_true, if_false, Bool.false_eq_true, Bool.not_true, Bool.not_false]; done) | (simp_all [toldB]; done) | (simp_all [toldB] <;> omega))⟩
theorem version (h : Hist) (v : Ver) : ACall Tryz.prog 177 [.agg (histC h), .agg (verR v)] [] (fun r h' => h' = [] ∧ r = bv (verB h.ts v)) := by
  refine acall_of_aw Tryz.func177 rfl rfl rfl ?_
  refine rn ?_
  refine aops_e rfl (oe_box rfl rfl rfl fun b2 => ?_)
  refine aops_e rfl (oe_box rfl rfl rfl fun b3 => ?_)
  refine rn ?_
  refine aw_cond rfl (fun hc7 => ?_) (fun hc7 => ?_)
  · refine rn ?_
    exact retq (.cons _ _ _ _ (.tmp _ _ rfl) .nil) (.drop [_, _] _ _) ⟨rfl, congrArg bv (by first | (simp only [verB, *, Bool.true_and, Bool.false_and, Bool.and_false, Bool.and_true, Bool.true_or, Bool.or_false, Bool.false_or, Bool.or_true, if_true, if_false, Bool.false_eq_true, Bool.not_true, Bool.not_false]; done) | (simp_all [verB]; done) | (simp_all [verB] <;> omega))⟩
  · refine rn ?_
    refine qv rfl rfl (qv_call rfl rfl (pcall (told _ 0 _ _ rfl (by decide)) (Sbs.refl _))) ?_
    refine rn ?_
    refine asplit (fun hg3_4 => ?_) (fun hg3_4 => ?_)
    · refine rn ?_
      refine asplit (fun hg3_9 => ?_) (fun hg3_9 => ?_)
      · refine rn ?_
        exact retq (.cons _ _ _ _ (.tmp _ _ rfl) .nil) (.drop [_, _] _ _) ⟨rfl, congrArg bv (by first | (simp only [verB, *, Bool.true_and, Bool.false_and, Bool.and_false, Bool.and_true, Bool.true_or, Bool.or_false, Bool.false_or, Bool.or_true, if_true, if_false, Bool.false_eq_true, Bool.not_true, Bool.not_false]; done) | (simp_all [verB]; done) | (simp_all [verB] <;> omega))⟩
      · refine rn ?_
        exact retq (.cons _ _ _ _ (.tmp _ _ rfl) .nil) (.drop [_, _] _ _) ⟨rfl, congrArg bv (by first | (simp only [verB, *, Bool.true_and, Bool.false_and, Bool.and_false, Bool.and_true, Bool.true_or, Bool.or_false, Bool.false_or, Bool.or_true, if_true, if_false, Bool.false_eq_true, Bool.not_true, Bool.not_false]; done) | (simp_all [verB]; done) | (simp_all [verB] <;> omega))⟩
    · refine rn ?_
      exact retq (.cons _ _ _ _ (.tmp _ _ rfl) .nil) (.drop [_, _] _ _) ⟨rfl, congrArg bv (by first | (simp only [verB, *, Bool.true_and, Bool.false_and, Bool.and_false, Bool.and_true, Bool.true_or, Bool.or_false, Bool.false_or, Bool.or_true, if_true, if_false, Bool.false_eq_true, Bool.not_true, Bool.not_false]; done) | (simp_all [verB]; done) | (simp_all [verB] <;> omega))⟩
theorem sameEvent (a b : Ev) (ha : a.scan.length ≤ 4611686018427387904) (hb : b.scan.length ≤ 4611686018427387904) : ACall Tryz.prog 184 [.agg (evR a), .agg (evR b)] [] (fun r h' => h' = [] ∧ r = bv (evEq a b)) := by
  refine acall_of_aw Tryz.func184 rfl rfl rfl ?_
  refine rn ?_
  refine aops_e rfl (oe_box rfl rfl rfl fun b2 => ?_)
  refine aops_e rfl (oe_box rfl rfl rfl fun b3 => ?_)
  refine rn ?_
  refine asplit (fun hg1_5 => ?_) (fun hg1_5 => ?_)
  · refine rn ?_
    refine asplit (fun hg1_12 => ?_) (fun hg1_12 => ?_)
    · refine rn ?_
      refine asplit (fun hg1_19 => ?_) (fun hg1_19 => ?_)
      · refine rn ?_
        refine asplit (fun hg2_1 => ?_) (fun hg2_1 => ?_)
        · refine rn ?_
          refine asplit (fun hg2_8 => ?_) (fun hg2_8 => ?_)
          · refine rn ?_
            refine asplit (fun hg2_15 => ?_) (fun hg2_15 => ?_)
            · refine rn ?_
              refine asplit (fun hg2_22 => ?_) (fun hg2_22 => ?_)
              · refine rn ?_
                refine qv rfl rfl (qv_call rfl rfl (pcall (equalSeen _ _ ha hb) (Sbs.refl _))) ?_
                refine rn ?_
                exact retq (.cons _ _ _ _ (.tmp _ _ rfl) .nil) (.drop [_, _] _ _) ⟨rfl, congrArg bv (by first | (simp only [evEq, *, Bool.true_and, Bool.false_and, Bool.and_false, Bool.and_true, Bool.true_or, Bool.or_false, Bool.false_or, Bool.or_true, if_true, if_false, Bool.false_eq_true, Bool.not_true, Bool.not_false]; done) | (simp_all [evEq]; done) | (simp_all [evEq] <;> omega))⟩
              · refine rn ?_
                exact retq (.cons _ _ _ _ (.tmp _ _ rfl) .nil) (.drop [_, _] _ _) ⟨rfl, congrArg bv (by first | (simp only [evEq, *, Bool.true_and, Bool.false_and, Bool.and_false, Bool.and_true, Bool.true_or, Bool.or_false, Bool.false_or, Bool.or_true, if_true, if_false, Bool.false_eq_true, Bool.not_true, Bool.not_false]; done) | (simp_all [evEq]; done) | (simp_all [evEq] <;> omega))⟩
            · refine rn ?_
              exact retq (.cons _ _ _ _ (.tmp _ _ rfl) .nil) (.drop [_, _] _ _) ⟨rfl, congrArg bv (by first | (simp only [evEq, *, Bool.true_and, Bool.false_and, Bool.and_false, Bool.and_true, Bool.true_or, Bool.or_false, Bool.false_or, Bool.or_true, if_true, if_false, Bool.false_eq_true, Bool.not_true, Bool.not_false]; done) | (simp_all [evEq]; done) | (simp_all [evEq] <;> omega))⟩
          · refine rn ?_
            exact retq (.cons _ _ _ _ (.tmp _ _ rfl) .nil) (.drop [_, _] _ _) ⟨rfl, congrArg bv (by first | (simp only [evEq, *, Bool.true_and, Bool.false_and, Bool.and_false, Bool.and_true, Bool.true_or, Bool.or_false, Bool.false_or, Bool.or_true, if_true, if_false, Bool.false_eq_true, Bool.not_true, Bool.not_false]; done) | (simp_all [evEq]; done) | (simp_all [evEq] <;> omega))⟩
        · refine rn ?_
          exact retq (.cons _ _ _ _ (.tmp _ _ rfl) .nil) (.drop [_, _] _ _) ⟨rfl, congrArg bv (by first | (simp only [evEq, *, Bool.true_and, Bool.false_and, Bool.and_false, Bool.and_true, Bool.true_or, Bool.or_false, Bool.false_or, Bool.or_true, if_true, if_false, Bool.false_eq_true, Bool.not_true, Bool.not_false]; done) | (simp_all [evEq]; done) | (simp_all [evEq] <;> omega))⟩
      · refine rn ?_
        exact retq (.cons _ _ _ _ (.tmp _ _ rfl) .nil) (.drop [_, _] _ _) ⟨rfl, congrArg bv (by first | (simp only [evEq, *, Bool.true_and, Bool.false_and, Bool.and_false, Bool.and_true, Bool.true_or, Bool.or_false, Bool.false_or, Bool.or_true, if_true, if_false, Bool.false_eq_true, Bool.not_true, Bool.not_false]; done) | (simp_all [evEq]; done) | (simp_all [evEq] <;> omega))⟩
    · refine rn ?_
      exact retq (.cons _ _ _ _ (.tmp _ _ rfl) .nil) (.drop [_, _] _ _) ⟨rfl, congrArg bv (by first | (simp only [evEq, *, Bool.true_and, Bool.false_and, Bool.and_false, Bool.and_true, Bool.true_or, Bool.or_false, Bool.false_or, Bool.or_true, if_true, if_false, Bool.false_eq_true, Bool.not_true, Bool.not_false]; done) | (simp_all [evEq]; done) | (simp_all [evEq] <;> omega))⟩
  · refine rn ?_
    exact retq (.cons _ _ _ _ (.tmp _ _ rfl) .nil) (.drop [_, _] _ _) ⟨rfl, congrArg bv (by first | (simp only [evEq, *, Bool.true_and, Bool.false_and, Bool.and_false, Bool.and_true, Bool.true_or, Bool.or_false, Bool.false_or, Bool.or_true, if_true, if_false, Bool.false_eq_true, Bool.not_true, Bool.not_false]; done) | (simp_all [evEq]; done) | (simp_all [evEq] <;> omega))⟩
end Go.Proofs
/- The walks of package lex. Conditions: none. -/
set_option linter.unusedVariables false
set_option linter.unusedSimpArgs false
set_option maxRecDepth 10000
namespace Go.Proofs
open Go Go.Ab
attribute [local irreducible] QR QV OE aops aw dsoup dsoupM dalloc dallocM thn inBlk
open Go.H
theorem runeTold (s : ByteArray) (i : Nat) (c : Int) (bs bi bc : Nat) (hi : i ≤ s.size) : ACall Tryz.prog 216 [.v (.pointer (some ⟨bs, 0, none⟩)), .v (.pointer (some ⟨bi, 0, none⟩)), .v (.pointer (some ⟨bc, 0, none⟩))] [.box bs 9 [sv s], .box bi 3 [iv (i : Nat)], .box bc 21 [.v (.int .i32 c)], .glob 2 235 firstC, .glob 3 238 acceptC] (fun r h' => h' = [.box bs 9 [sv s], .box bi 3 [iv (i : Nat)], .box bc 21 [.v (.int .i32 c)], .glob 2 235 firstC, .glob 3 238 acceptC] ∧ r = .tup [.v (.int .i32 c), bv (toldF s i c)]) := by
  refine acall_of_aw Tryz.func216 rfl rfl rfl ?_
  refine aw_seq (aw_region ?_)
  refine q1 ?_
  refine q1 ?_
  refine aops_nil (thn_n ?_)
  refine aw_seq (aw_region ?_)
  refine q1 ?_
  refine q1 ?_
  refine qq rfl rfl (qr_slice_string_l rfl rfl hi) ?_
  refine qv rfl rfl (qv_call rfl rfl (FCall.quiet (R := fun x => x = _) (h2 := [_, _, _]) (List.perm_append_comm (l₁ := [_, _, _])) (FCall.of_fun (decodeRune (s.extract i s.size))))) ?_
  refine rn ?_
  refine asplit (fun hg2_3 => ?_) (fun hg2_3 => ?_)
  · refine rn ?_
    exact retq (.cons _ _ _ _ (.tmp _ _ rfl) (.cons _ _ _ _ (.tmp _ _ rfl) .nil)) (.refl _ _) ⟨rfl, congrArg (fun b => AV.tup [.v (.int .i32 c), bv b]) (by first | (simp only [toldF, *, Bool.true_and, Bool.false_and, Bool.and_false, Bool.and_true, Bool.true_or, Bool.or_false, Bool.false_or, Bool.or_true, if_true, if_false, Bool.false_eq_true, Bool.not_true, Bool.not_false]; done) | (simp_all [toldF]; done))⟩
  · refine rn ?_
    exact retq (.cons _ _ _ _ (.tmp _ _ rfl) (.cons _ _ _ _ (.tmp _ _ rfl) .nil)) (.refl _ _) ⟨rfl, congrArg (fun b => AV.tup [.v (.int .i32 c), bv b]) (by first | (simp only [toldF, *, Bool.true_and, Bool.false_and, Bool.and_false, Bool.and_true, Bool.true_or, Bool.or_false, Bool.false_or, Bool.or_true, if_true, if_false, Bool.false_eq_true, Bool.not_true, Bool.not_false]; done) | (simp_all [toldF]; done))⟩
theorem runesIter (s : ByteArray) (bs : Nat) (y : AV) (p : Nat → Int → Bool) (I : List Res → Prop) (J : Nat → List Res → Prop) (hy : ∀ (i bi bc it : Nat) (L : List Res), i < s.size → I L → FCall Tryz.prog y [iv i, .fn (.func 216) [] [.v (.pointer (some ⟨bs, 0, none⟩)), .v (.pointer (some ⟨bi, 0, none⟩)), .v (.pointer (some ⟨bc, 0, none⟩))]] (.box bc 21 [.v (.int .i32 (Utf8.decode s i).1)] :: .box bi 3 [iv (i : Nat)] :: .obj it (.stringIter s (i + (Utf8.decode s i).2)) :: .box bs 9 [sv s] :: L) (fun r h' => ∃ L', h' = .box bc 21 [.v (.int .i32 (Utf8.decode s i).1)] :: .box bi 3 [iv (i : Nat)] :: .obj it (.stringIter s (i + (Utf8.decode s i).2)) :: .box bs 9 [sv s] :: L' ∧ ((p i (Utf8.decode s i).1 = true ∧ r = bv true ∧ I L') ∨ (p i (Utf8.decode s i).1 = false ∧ r = bv false ∧ J i L')))) (L0 : List Res) (h0 : I L0) : ACall Tryz.prog 215 [y, .v (.pointer (some ⟨bs, 0, none⟩))] (.box bs 9 [sv s] :: L0) (fun r h' => ∃ L', h' = .box bs 9 [sv s] :: L' ∧ ((whileF s p 0 = s.size ∧ I L') ∨ (whileF s p 0 < s.size ∧ J (whileF s p 0) L'))) := by
  refine acall_of_aw Tryz.func215 rfl rfl rfl ?_
  refine rn ?_
  refine aops_e rfl (oe_range_str rfl rfl fun b7 => ?_)
  refine rn ?_
  refine aw_loop' (fun x : Nat × List Res => whileF s p 0 = whileF s p x.1 ∧ I x.2) (fun x => ⟨[(7, .v (.pointer (some ⟨b7, 0, none⟩))), (0, y), (1, .v (.pointer (some ⟨bs, 0, none⟩)))], .obj b7 (.stringIter s x.1) :: .box bs 9 [sv s] :: x.2, []⟩) (fun x => s.size - x.1) (0, L0) ⟨rfl, h0⟩
    (ent_sub (.cons _ _ _ rfl (.cons _ _ _ rfl (.cons _ _ _ rfl (.nil))))) ?_
  rintro ⟨k, L⟩ ⟨hw, hI⟩
  simp only at hw hI
  refine aw_seq (aw_region ?_)
  refine aops_e rfl (oe_next_str rfl rfl (fun hp => ?_) (fun hp => ?_))
  · refine rn ?_
    refine aw_cond rfl (fun hc9 => ?_) (fun hc9 => ?_)
    · first | cases hc9 | exact absurd hc9 (by decide) | (exfalso; simp_all; done)
    · refine rn ?_
      exact retq_n .nil (.drop1 _ _ _) ⟨_, rfl, .inl ⟨by rw [hw, whileF_end hp], hI⟩⟩
  · refine rn ?_
    refine aw_cond rfl (fun hc9 => ?_) (fun hc9 => ?_)
    · refine rn ?_
      refine aops_e rfl (oe_alloc rfl fun b3 => ?_)
      refine aops_e rfl (oe_alloc rfl fun b4 => ?_)
      first | refine aops_e rfl (oe_store_all rfl rfl rfl ?_) | refine aops_e rfl (oe_store rfl rfl rfl rfl (Nat.le_of_ble_eq_true rfl) ?_)
      first | refine aops_e rfl (oe_store_all rfl rfl rfl ?_) | refine aops_e rfl (oe_store rfl rfl rfl rfl (Nat.le_of_ble_eq_true rfl) ?_)
      refine aops_nil (thn_n ?_)
      refine aw_seq (aw_region ?_)
      refine q1 ?_
      refine q1 ?_
      refine aops_nil (thn_n ?_)
      refine aw_seq (aw_region ?_)
      refine q1 ?_
      refine q1 ?_
      refine q1 ?_
      refine aops_e rfl (oe_call rfl rfl (hy k b3 b4 b7 L hp hI) rfl ?_)
      rintro av h' ⟨L', rfl, ⟨hp1, rfl, hI2⟩ | ⟨hp1, rfl, hJ⟩⟩
      · refine rn ?_
        refine aw_cond rfl (fun hc17 => ?_) (fun hc17 => ?_)
        · first | cases hc17 | exact absurd hc17 (by decide) | (exfalso; simp_all; done)
        · refine rn ?_
          exact ⟨(k + (Utf8.decode s k).2, L'), ⟨hw.trans (whileF_go hp hp1), hI2⟩, (ent_trans (ent_drop (h1 := [_, _])) (ent_sub (.cons _ _ _ rfl (.cons _ _ _ rfl (.cons _ _ _ rfl (.nil)))))), by have := width_pos s k; simp only at hp ⊢; omega⟩
      · refine rn ?_
        refine aw_cond rfl (fun hc17 => ?_) (fun hc17 => ?_)
        · refine rn ?_
          exact retq .nil (.drop [_, _, _] _ _) ⟨_, rfl, .inr (by rw [hw, whileF_stop hp hp1]; exact ⟨hp, hJ⟩)⟩
        · first | cases hc17 | exact absurd hc17 (by decide) | (exfalso; simp_all; done)
    · first | cases hc9 | exact absurd hc9 (by decide) | (exfalso; simp_all; done)
end Go.Proofs
/- The walks of lex.while and lex.Word. Conditions: none. -/
set_option linter.unusedVariables false
set_option linter.unusedSimpArgs false
set_option maxRecDepth 10000
namespace Go.Proofs
open Go Go.Ab
attribute [local irreducible] QR QV OE aops aw dsoup dsoupM dalloc dallocM thn inBlk
open Go.H
theorem runes (s : ByteArray) (h : List Res) : ACall Tryz.prog 204 [sv s] h (fun r h' => ∃ bs, h' = .box bs 9 [sv s] :: h ∧ r = .fn (.func 215) [] [.v (.pointer (some ⟨bs, 0, none⟩))]) := by
  refine acall_of_aw Tryz.func204 rfl rfl rfl ?_
  refine rn ?_
  refine aops_e rfl (oe_box rfl rfl rfl fun b1 => ?_)
  refine rn ?_
  exact retq (.cons _ _ _ _ (.tmp _ _ rfl) .nil) (.refl _ _) ⟨_, rfl, rfl⟩
theorem lexWhile (s : ByteArray) (fv : AV) (g : Int → Bool) (hone : fv.cellsOf = some [fv]) (hgo : ∀ c h, FCall Tryz.prog fv [.v (.int .i32 c)] h (fun r h' => h' = h ∧ r = bv (g c))) : ACall Tryz.prog 168 [sv s, fv] [.glob 2 235 firstC, .glob 3 238 acceptC] (fun r h' => h' = [.glob 2 235 firstC, .glob 3 238 acceptC] ∧ r = iv (whileF s (okRune s g) 0 : Nat)) := by
  refine acall_of_aw Tryz.func168 rfl rfl rfl ?_
  refine rn ?_
  refine aops_e rfl (oe_box rfl hone rfl fun b3 => ?_)
  refine rn ?_
  refine aw_scope ?_
  refine rn ?_
  refine aops_e rfl (oe_alloc rfl fun b5 => ?_)
  refine rn ?_
  refine aops_e rfl (oe_call rfl rfl (FCall.of_fun (runes s _)) rfl ?_)
  rintro _ _ ⟨bs, rfl, rfl⟩
  refine rn ?_
  refine aw_rf (fun pend h'' => (pend = none ∨ pend = some (.exit 0)) ∧ h'' = .box bs 9 [sv s] :: .box b5 3 [iv (whileF s (okRune s g) 0 : Nat)] :: .box b3 199 [fv] :: [.glob 2 235 firstC, .glob 3 238 acceptC]) rfl (fun fn l q lp hlp => ?_) (fun q h'' hK => ?_) (fun q h'' c hK => ?_)
  · suffices hy : ∀ (i bi bc it : Nat) (L : List Res), i < s.size → L = lp .ready none :: .defs q :: .box b5 3 [iv s.size] :: .box b3 199 [fv] :: [.glob 2 235 firstC, .glob 3 238 acceptC] → FCall Tryz.prog (yv l) [iv i, .fn (.func 216) [] [.v (.pointer (some ⟨bs, 0, none⟩)), .v (.pointer (some ⟨bi, 0, none⟩)), .v (.pointer (some ⟨bc, 0, none⟩))]] (.box bc 21 [.v (.int .i32 (Utf8.decode s i).1)] :: .box bi 3 [iv (i : Nat)] :: .obj it (.stringIter s (i + (Utf8.decode s i).2)) :: .box bs 9 [sv s] :: L)
        (fun r h' => ∃ L', h' = .box bc 21 [.v (.int .i32 (Utf8.decode s i).1)] :: .box bi 3 [iv (i : Nat)] :: .obj it (.stringIter s (i + (Utf8.decode s i).2)) :: .box bs 9 [sv s] :: L' ∧ ((okRune s g i (Utf8.decode s i).1 = true ∧ r = bv true ∧ L' = lp .ready none :: .defs q :: .box b5 3 [iv s.size] :: .box b3 199 [fv] :: [.glob 2 235 firstC, .glob 3 238 acceptC]) ∨ (okRune s g i (Utf8.decode s i).1 = false ∧ r = bv false ∧ L' = lp .done (some (.exit 0)) :: .defs q :: .box b5 3 [iv (i : Nat)] :: .box b3 199 [fv] :: [.glob 2 235 firstC, .glob 3 238 acceptC]))) by
      refine ACall.mono (ACall.perm (pt2 _ _ _ _) (runesIter s bs (yv l) (okRune s g) _ (fun i L => L = lp .done (some (.exit 0)) :: .defs q :: .box b5 3 [iv (i : Nat)] :: .box b3 199 [fv] :: [.glob 2 235 firstC, .glob 3 238 acceptC]) hy _ rfl)) ?_
      rintro _ _ ⟨L', rfl, ⟨hw, rfl⟩ | ⟨hw, rfl⟩⟩
      · exact ⟨_, _, _, (pt2 _ _ _ _).symm, by simp, .inl rfl, by rw [hw]⟩
      · exact ⟨_, _, _, (pt2 _ _ _ _).symm, by simp, .inr rfl, rfl⟩
    rintro i bi bc it _ hi rfl
    refine FCall.perm (pt4 _ _ _ _ _ _) (FCall.permR (fcall_yl hlp rfl rfl ?_))
    refine rn ?_
    refine ⟨[(6, iv (i : Nat)), (7, .fn (.func 216) [] [.v (.pointer (some ⟨bs, 0, none⟩)), .v (.pointer (some ⟨bi, 0, none⟩)), .v (.pointer (some ⟨bc, 0, none⟩))]), (5, .v (.pointer (some ⟨b5, 0, none⟩))), (3, .v (.pointer (some ⟨b3, 0, none⟩)))], ent_sub (.cons _ _ _ rfl (.cons _ _ _ rfl (.cons _ _ _ rfl (.cons _ _ _ rfl .nil)))), ?_⟩
    refine rn ?_
    refine qv rfl rfl (qv_call rfl rfl (FCall.qt (FCall.of_acall (fs := []) (cs := [.v (.pointer (some ⟨bs, 0, none⟩)), .v (.pointer (some ⟨bi, 0, none⟩)), .v (.pointer (some ⟨bc, 0, none⟩))]) (runeTold s i (Utf8.decode s i).1 bs bi bc (by omega))) ((pt4 _ _ _ _ _ _).trans (.cons _ ((pt2 _ _ _ _).trans (.cons _ ((pt1 _ _ _).trans (.cons _ ((pt5 _ _ _ _ _ _ _).trans (.cons _ (pt5 _ _ _ _ _ _ _))))))))))) ?_
    refine rn ?_
    refine asplit (fun hg6_2 => ?_) (fun hg6_2 => ?_)
    · refine rn ?_
      refine aw_ct rfl ?_
      refine rn ?_
      exact round_e (.refl _) ⟨_, ((pt1 _ _ _).trans (.cons _ ((pt1 _ _ _).trans (.cons _ ((pt1 _ _ _).trans (.cons _ (pt1 _ _ _))))))), _, rfl, .inr ⟨by simp_all [okRune], rfl, rfl⟩⟩
    · refine rn ?_
      refine qv rfl rfl (qv_call rfl rfl (hgo _ _)) ?_
      refine rn ?_
      refine aw_cond rfl (fun hc28 => ?_) (fun hc28 => ?_)
      · refine rn ?_
        exact round_e (.refl _) ⟨_, ((pt1 _ _ _).trans (.cons _ ((pt1 _ _ _).trans (.cons _ ((pt1 _ _ _).trans (.cons _ (pt1 _ _ _))))))), _, rfl, .inr ⟨by simp_all [okRune], rfl, rfl⟩⟩
      · refine rn ?_
        exact round_n (.refl _) ⟨_, ((pt1 _ _ _).trans (.cons _ ((pt1 _ _ _).trans (.cons _ ((pt1 _ _ _).trans (.cons _ (pt1 _ _ _))))))), _, rfl, .inl ⟨by simp_all [okRune], rfl, rfl⟩⟩
  · obtain ⟨_, rfl⟩ := hK
    refine rn ?_
    refine ⟨fun l h => (by cases h), ?_⟩
    exact retqd (.refl _) (.cons _ _ _ _ (.tmp _ _ rfl) .nil) (.drop [_, _, _] _ _) ⟨rfl, rfl⟩
  · obtain ⟨hc, rfl⟩ := hK
    obtain rfl : c = .exit 0 := by simpa using hc
    refine rn ?_
    refine ⟨fun l h => (by cases h), ?_⟩
    exact retqd (.refl _) (.cons _ _ _ _ (.tmp _ _ rfl) .nil) (.drop [_, _, _] _ _) ⟨rfl, rfl⟩
theorem word (s : ByteArray) : ACall Tryz.prog 129 [sv s] [.glob 2 235 firstC, .glob 3 238 acceptC] (fun r h' => h' = [.glob 2 235 firstC, .glob 3 238 acceptC] ∧ r = bv (wordB s)) := by
  refine acall_of_aw Tryz.func129 rfl rfl rfl ?_
  refine rn ?_
  refine asplit (fun hg1_2 => ?_) (fun hg1_2 => ?_)
  · refine rn ?_
    refine asplit (fun hg1_7 => ?_) (fun hg1_7 => ?_)
    · refine rn ?_
      have h1 : 0 < s.size := str_ne hg1_2
      refine qq rfl rfl (qr_index_bt 0 rfl rfl (by omega)) ?_
      refine rn ?_
      refine qv rfl rfl (qv_call rfl rfl (pcall (lexNumber _) (Sbs.refl _))) ?_
      refine rn ?_
      refine asplit (fun hg1_14 => ?_) (fun hg1_14 => ?_)
      · refine rn ?_
        refine qv rfl rfl (qv_call rfl rfl (FCall.of_fun (lexWhile s (.fn (.func 169) [] []) eitherB rfl (fun c h => (pcall (lexEither c) (Sbs.refl _)))))) ?_
        refine rn ?_
        exact retq (.cons _ _ _ _ (.tmp _ _ rfl) .nil) (.refl _ _) ⟨rfl, congrArg bv (by first | (simp only [wordB, *, Bool.true_and, Bool.false_and, Bool.and_false, Bool.and_true, Bool.true_or, Bool.or_false, Bool.false_or, Bool.or_true, if_true, if_false, Bool.false_eq_true, Bool.not_true, Bool.not_false]; done) | (simp_all [wordB, bt_wrap]; done))⟩
      · refine rn ?_
        exact retq (.cons _ _ _ _ (.tmp _ _ rfl) .nil) (.refl _ _) ⟨rfl, congrArg bv (by first | (simp only [wordB, *, Bool.true_and, Bool.false_and, Bool.and_false, Bool.and_true, Bool.true_or, Bool.or_false, Bool.false_or, Bool.or_true, if_true, if_false, Bool.false_eq_true, Bool.not_true, Bool.not_false]; done) | (simp_all [wordB, bt_wrap]; done))⟩
    · refine rn ?_
      exact retq (.cons _ _ _ _ (.tmp _ _ rfl) .nil) (.refl _ _) ⟨rfl, congrArg bv (by first | (simp only [wordB, *, Bool.true_and, Bool.false_and, Bool.and_false, Bool.and_true, Bool.true_or, Bool.or_false, Bool.false_or, Bool.or_true, if_true, if_false, Bool.false_eq_true, Bool.not_true, Bool.not_false]; done) | (simp_all [wordB, bt_wrap]; done))⟩
  · refine rn ?_
    exact retq (.cons _ _ _ _ (.tmp _ _ rfl) .nil) (.refl _ _) ⟨rfl, congrArg bv (by first | (simp only [wordB, *, Bool.true_and, Bool.false_and, Bool.and_false, Bool.and_true, Bool.true_or, Bool.or_false, Bool.false_or, Bool.or_true, if_true, if_false, Bool.false_eq_true, Bool.not_true, Bool.not_false]; done) | (simp_all [wordB, bt_wrap]; done))⟩
end Go.Proofs
/- The walks of the closures of history.event. Conditions: none. -/
set_option linter.unusedVariables false
set_option linter.unusedSimpArgs false
set_option maxRecDepth 10000
namespace Go.Proofs
open Go Go.Ab
attribute [local irreducible] QR QV OE aops aw dsoup dsoupM dalloc dallocM thn inBlk
open Go.H
theorem event1 (e : Ev) (h : Hist) (be bh : Nat) : ACall Tryz.prog 174 [.v (.pointer (some ⟨be, 0, none⟩)), .v (.pointer (some ⟨bh, 0, none⟩))] [.box be 77 (evR e), .box bh 28 (histC h)] (fun r h' => h' = [.box be 77 (evR e), .box bh 28 (histC h)] ∧ r = .tup [.agg (evR ⟨0, 0, e.s, e.l, 0, ⟨0, 0⟩, 0, []⟩), bv (mayBegin h e)]) := by
  refine acall_of_aw Tryz.func174 rfl rfl rfl ?_
  refine rn ?_
  refine aops_e rfl (oe_alloc rfl fun b2 => ?_)
  refine rn ?_
  refine aw_drawS 16 [(b2, 77, _)] rfl (List.perm_append_comm (l₁ := [_])) ?_
  refine rn ?_
  refine dv rfl rfl (by exact qv_call rfl rfl (pcall (told _ 1 _ _ rfl (by decide)) (Sbs.refl _))) ?_
  refine rn ?_
  refine dsplit (fun hg1_9 => ?_) (fun hg1_9 => ?_)
  · refine rn ?_
    refine dv rfl rfl (by exact qv_call rfl rfl (pcall (levelCheck _) (Sbs.refl _))) ?_
    refine rn ?_
    refine dw 0 rfl rfl rfl rfl rfl (Nat.le_of_ble_eq_true rfl) ?_
    refine rn2 ?_
    show aops _ _ _ _ _ _ ⟨_, .box b2 77 _ :: _, _⟩
    refine rn ?_
    exact retq (.cons _ _ _ _ (.agg _ _ _ _ _ _ _ rfl inferInstance inferInstance inferInstance rfl) (.cons _ _ _ _ (.tmp _ _ rfl) .nil)) (.trans (.drop1 _ _ _) (vent_tup2 (by exact Sb.aggs (by exact ⟨.refl _, .refl _, .refl _, .refl _, .refl _, .refl _, .refl _, .refl _, .nil _ _, trivial⟩)) (by exact .refl _))) ⟨rfl, congrArg (fun b => AV.tup [.agg (evR ⟨0, 0, e.s, e.l, 0, ⟨0, 0⟩, 0, []⟩), bv b]) (by first | (simp only [mayBegin, *, Bool.true_and, Bool.false_and, Bool.and_false, Bool.and_true, Bool.true_or, Bool.or_false, Bool.false_or, Bool.or_true, if_true, if_false, Bool.false_eq_true, Bool.not_true, Bool.not_false]; done) | (simp_all [mayBegin]; done) | (simp_all [mayBegin] <;> omega))⟩
  · refine rn ?_
    refine dw 0 rfl rfl rfl rfl rfl (Nat.le_of_ble_eq_true rfl) ?_
    refine rn2 ?_
    show aops _ _ _ _ _ _ ⟨_, .box b2 77 _ :: _, _⟩
    refine rn ?_
    exact retq (.cons _ _ _ _ (.agg _ _ _ _ _ _ _ rfl inferInstance inferInstance inferInstance rfl) (.cons _ _ _ _ (.tmp _ _ rfl) .nil)) (.trans (.drop1 _ _ _) (vent_tup2 (by exact Sb.aggs (by exact ⟨.refl _, .refl _, .refl _, .refl _, .refl _, .refl _, .refl _, .refl _, .nil _ _, trivial⟩)) (by exact .refl _))) ⟨rfl, congrArg (fun b => AV.tup [.agg (evR ⟨0, 0, e.s, e.l, 0, ⟨0, 0⟩, 0, []⟩), bv b]) (by first | (simp only [mayBegin, *, Bool.true_and, Bool.false_and, Bool.and_false, Bool.and_true, Bool.true_or, Bool.or_false, Bool.false_or, Bool.or_true, if_true, if_false, Bool.false_eq_true, Bool.not_true, Bool.not_false]; done) | (simp_all [mayBegin]; done) | (simp_all [mayBegin] <;> omega))⟩
theorem event2 (e : Ev) (h : Hist) (be bh : Nat) : ACall Tryz.prog 176 [.v (.pointer (some ⟨be, 0, none⟩)), .v (.pointer (some ⟨bh, 0, none⟩))] [.box be 77 (evR e), .box bh 28 (histC h)] (fun r h' => h' = [.box be 77 (evR e), .box bh 28 (histC h)] ∧ r = .tup [.agg (evR ⟨0, 0, 0, 0, e.o, e.v, 0, []⟩), bv (mayWrite h e)]) := by
  refine acall_of_aw Tryz.func176 rfl rfl rfl ?_
  refine rn ?_
  refine aops_e rfl (oe_alloc rfl fun b2 => ?_)
  refine rn ?_
  refine aw_drawS 30 [(b2, 77, _)] rfl (List.perm_append_comm (l₁ := [_])) ?_
  refine rn ?_
  refine dv rfl rfl (by exact qv_call rfl rfl (pcall (told _ 2 _ _ rfl (by decide)) (Sbs.refl _))) ?_
  refine rn ?_
  refine dsplit (fun hg1_9 => ?_) (fun hg1_9 => ?_)
  · refine rn ?_
    refine dv rfl rfl (by exact qv_call rfl rfl (pcall (version h e.v) (Sbs.refl _))) ?_
    refine rn ?_
    refine dsplit (fun hg1_15 => ?_) (fun hg1_15 => ?_)
    · refine rn ?_
      refine dsplit (fun hg1_23 => ?_) (fun hg1_23 => ?_)
      · refine rn ?_
        refine dw 0 rfl rfl rfl rfl rfl (Nat.le_of_ble_eq_true rfl) ?_
        refine rn2 ?_
        show aops _ _ _ _ _ _ ⟨_, .box b2 77 _ :: _, _⟩
        refine rn ?_
        exact retq (.cons _ _ _ _ (.agg _ _ _ _ _ _ _ rfl inferInstance inferInstance inferInstance rfl) (.cons _ _ _ _ (.tmp _ _ rfl) .nil)) (.trans (.drop1 _ _ _) (vent_tup2 (by exact Sb.aggs (by exact ⟨.refl _, .refl _, .refl _, .refl _, .refl _, .refl _, .refl _, .refl _, .nil _ _, trivial⟩)) (by exact .refl _))) ⟨rfl, congrArg (fun b => AV.tup [.agg (evR ⟨0, 0, 0, 0, e.o, e.v, 0, []⟩), bv b]) (by first | (simp only [mayWrite, *, Bool.true_and, Bool.false_and, Bool.and_false, Bool.and_true, Bool.true_or, Bool.or_false, Bool.false_or, Bool.or_true, if_true, if_false, Bool.false_eq_true, Bool.not_true, Bool.not_false]; done) | (simp_all [mayWrite]; done) | (simp_all [mayWrite] <;> omega))⟩
      · refine rn ?_
        refine dw 0 rfl rfl rfl rfl rfl (Nat.le_of_ble_eq_true rfl) ?_
        refine rn2 ?_
        show aops _ _ _ _ _ _ ⟨_, .box b2 77 _ :: _, _⟩
        refine rn ?_
        exact retq (.cons _ _ _ _ (.agg _ _ _ _ _ _ _ rfl inferInstance inferInstance inferInstance rfl) (.cons _ _ _ _ (.tmp _ _ rfl) .nil)) (.trans (.drop1 _ _ _) (vent_tup2 (by exact Sb.aggs (by exact ⟨.refl _, .refl _, .refl _, .refl _, .refl _, .refl _, .refl _, .refl _, .nil _ _, trivial⟩)) (by exact .refl _))) ⟨rfl, congrArg (fun b => AV.tup [.agg (evR ⟨0, 0, 0, 0, e.o, e.v, 0, []⟩), bv b]) (by first | (simp only [mayWrite, *, Bool.true_and, Bool.false_and, Bool.and_false, Bool.and_true, Bool.true_or, Bool.or_false, Bool.false_or, Bool.or_true, if_true, if_false, Bool.false_eq_true, Bool.not_true, Bool.not_false]; done) | (simp_all [mayWrite]; done) | (simp_all [mayWrite] <;> omega))⟩
    · refine rn ?_
      refine dw 0 rfl rfl rfl rfl rfl (Nat.le_of_ble_eq_true rfl) ?_
      refine rn2 ?_
      show aops _ _ _ _ _ _ ⟨_, .box b2 77 _ :: _, _⟩
      refine rn ?_
      exact retq (.cons _ _ _ _ (.agg _ _ _ _ _ _ _ rfl inferInstance inferInstance inferInstance rfl) (.cons _ _ _ _ (.tmp _ _ rfl) .nil)) (.trans (.drop1 _ _ _) (vent_tup2 (by exact Sb.aggs (by exact ⟨.refl _, .refl _, .refl _, .refl _, .refl _, .refl _, .refl _, .refl _, .nil _ _, trivial⟩)) (by exact .refl _))) ⟨rfl, congrArg (fun b => AV.tup [.agg (evR ⟨0, 0, 0, 0, e.o, e.v, 0, []⟩), bv b]) (by first | (simp only [mayWrite, *, Bool.true_and, Bool.false_and, Bool.and_false, Bool.and_true, Bool.true_or, Bool.or_false, Bool.false_or, Bool.or_true, if_true, if_false, Bool.false_eq_true, Bool.not_true, Bool.not_false]; done) | (simp_all [mayWrite]; done) | (simp_all [mayWrite] <;> omega))⟩
  · refine rn ?_
    refine dw 0 rfl rfl rfl rfl rfl (Nat.le_of_ble_eq_true rfl) ?_
    refine rn2 ?_
    show aops _ _ _ _ _ _ ⟨_, .box b2 77 _ :: _, _⟩
    refine rn ?_
    exact retq (.cons _ _ _ _ (.agg _ _ _ _ _ _ _ rfl inferInstance inferInstance inferInstance rfl) (.cons _ _ _ _ (.tmp _ _ rfl) .nil)) (.trans (.drop1 _ _ _) (vent_tup2 (by exact Sb.aggs (by exact ⟨.refl _, .refl _, .refl _, .refl _, .refl _, .refl _, .refl _, .refl _, .nil _ _, trivial⟩)) (by exact .refl _))) ⟨rfl, congrArg (fun b => AV.tup [.agg (evR ⟨0, 0, 0, 0, e.o, e.v, 0, []⟩), bv b]) (by first | (simp only [mayWrite, *, Bool.true_and, Bool.false_and, Bool.and_false, Bool.and_true, Bool.true_or, Bool.or_false, Bool.false_or, Bool.or_true, if_true, if_false, Bool.false_eq_true, Bool.not_true, Bool.not_false]; done) | (simp_all [mayWrite]; done) | (simp_all [mayWrite] <;> omega))⟩
theorem event3 (e : Ev) (h : Hist) (be bh : Nat) : ACall Tryz.prog 178 [.v (.pointer (some ⟨be, 0, none⟩)), .v (.pointer (some ⟨bh, 0, none⟩))] [.box be 77 (evR e), .box bh 28 (histC h)] (fun r h' => h' = [.box be 77 (evR e), .box bh 28 (histC h)] ∧ r = .tup [.agg (evR ⟨0, 0, 0, 0, e.o, e.v, 0, []⟩), bv (mayRead h e)]) := by
  refine acall_of_aw Tryz.func178 rfl rfl rfl ?_
  refine rn ?_
  refine aops_e rfl (oe_alloc rfl fun b2 => ?_)
  refine rn ?_
  refine aw_drawS 16 [(b2, 77, _)] rfl (List.perm_append_comm (l₁ := [_])) ?_
  refine rn ?_
  refine dv rfl rfl (by exact qv_call rfl rfl (pcall (told _ 2 _ _ rfl (by decide)) (Sbs.refl _))) ?_
  refine rn ?_
  refine dsplit (fun hg1_9 => ?_) (fun hg1_9 => ?_)
  · refine rn ?_
    refine dv rfl rfl (by exact qv_call rfl rfl (pcall (version h e.v) (Sbs.refl _))) ?_
    refine rn ?_
    refine dw 0 rfl rfl rfl rfl rfl (Nat.le_of_ble_eq_true rfl) ?_
    refine rn2 ?_
    show aops _ _ _ _ _ _ ⟨_, .box b2 77 _ :: _, _⟩
    refine rn ?_
    exact retq (.cons _ _ _ _ (.agg _ _ _ _ _ _ _ rfl inferInstance inferInstance inferInstance rfl) (.cons _ _ _ _ (.tmp _ _ rfl) .nil)) (.trans (.drop1 _ _ _) (vent_tup2 (by exact Sb.aggs (by exact ⟨.refl _, .refl _, .refl _, .refl _, .refl _, .refl _, .refl _, .refl _, .nil _ _, trivial⟩)) (by exact .refl _))) ⟨rfl, congrArg (fun b => AV.tup [.agg (evR ⟨0, 0, 0, 0, e.o, e.v, 0, []⟩), bv b]) (by first | (simp only [mayRead, *, Bool.true_and, Bool.false_and, Bool.and_false, Bool.and_true, Bool.true_or, Bool.or_false, Bool.false_or, Bool.or_true, if_true, if_false, Bool.false_eq_true, Bool.not_true, Bool.not_false]; done) | (simp_all [mayRead]; done) | (simp_all [mayRead] <;> omega))⟩
  · refine rn ?_
    refine dw 0 rfl rfl rfl rfl rfl (Nat.le_of_ble_eq_true rfl) ?_
    refine rn2 ?_
    show aops _ _ _ _ _ _ ⟨_, .box b2 77 _ :: _, _⟩
    refine rn ?_
    exact retq (.cons _ _ _ _ (.agg _ _ _ _ _ _ _ rfl inferInstance inferInstance inferInstance rfl) (.cons _ _ _ _ (.tmp _ _ rfl) .nil)) (.trans (.drop1 _ _ _) (vent_tup2 (by exact Sb.aggs (by exact ⟨.refl _, .refl _, .refl _, .refl _, .refl _, .refl _, .refl _, .refl _, .nil _ _, trivial⟩)) (by exact .refl _))) ⟨rfl, congrArg (fun b => AV.tup [.agg (evR ⟨0, 0, 0, 0, e.o, e.v, 0, []⟩), bv b]) (by first | (simp only [mayRead, *, Bool.true_and, Bool.false_and, Bool.and_false, Bool.and_true, Bool.true_or, Bool.or_false, Bool.false_or, Bool.or_true, if_true, if_false, Bool.false_eq_true, Bool.not_true, Bool.not_false]; done) | (simp_all [mayRead]; done) | (simp_all [mayRead] <;> omega))⟩
theorem event41 (s : Seen) (h : Hist) (bh : Nat) : ACall Tryz.prog 180 [.agg (seenR s), .v (.pointer (some ⟨bh, 0, none⟩))] [.box bh 28 (histC h)] (fun r h' => h' = [.box bh 28 (histC h)] ∧ r = bv (seenB h s)) := by
  refine acall_of_aw Tryz.func180 rfl rfl rfl ?_
  refine rn ?_
  refine aops_e rfl (oe_box rfl rfl rfl fun b2 => ?_)
  refine rn ?_
  refine qv rfl rfl (qv_call rfl rfl (pcall (told _ 2 _ _ rfl (by decide)) (Sbs.refl _))) ?_
  refine rn ?_
  refine asplit (fun hg1_4 => ?_) (fun hg1_4 => ?_)
  · refine rn ?_
    refine qv rfl rfl (qv_call rfl rfl (pcall (version h s.v) (Sbs.refl _))) ?_
    refine rn ?_
    exact retq (.cons _ _ _ _ (.tmp _ _ rfl) .nil) (.drop1 _ _ _) ⟨rfl, congrArg bv (by first | (simp only [seenB, *, Bool.true_and, Bool.false_and, Bool.and_false, Bool.and_true, Bool.true_or, Bool.or_false, Bool.false_or, Bool.or_true, if_true, if_false, Bool.false_eq_true, Bool.not_true, Bool.not_false]; done) | (simp_all [seenB]; done) | (simp_all [seenB] <;> omega))⟩
  · refine rn ?_
    exact retq (.cons _ _ _ _ (.tmp _ _ rfl) .nil) (.drop1 _ _ _) ⟨rfl, congrArg bv (by first | (simp only [seenB, *, Bool.true_and, Bool.false_and, Bool.and_false, Bool.and_true, Bool.true_or, Bool.or_false, Bool.false_or, Bool.or_true, if_true, if_false, Bool.false_eq_true, Bool.not_true, Bool.not_false]; done) | (simp_all [seenB]; done) | (simp_all [seenB] <;> omega))⟩
theorem event4 (e : Ev) (h : Hist) (be bh : Nat) (hl : e.scan.length ≤ 4611686018427387904) : ACall Tryz.prog 179 [.v (.pointer (some ⟨bh, 0, none⟩)), .v (.pointer (some ⟨be, 0, none⟩))] [.box be 77 (evR e), .box bh 28 (histC h)] (fun r h' => h' = [.box be 77 (evR e), .box bh 28 (histC h)] ∧ r = .tup [.agg (evR ⟨0, 0, 0, 0, 0, ⟨0, 0⟩, e.p, e.scan⟩), bv (mayScan h e)]) := by
  refine acall_of_aw Tryz.func179 rfl rfl rfl ?_
  refine rn ?_
  refine aops_e rfl (oe_alloc rfl fun b2 => ?_)
  refine rn ?_
  refine aw_drawS 22 [(b2, 77, _)] rfl (List.perm_append_comm (l₁ := [_])) ?_
  refine rn ?_
  refine dv rfl rfl (by exact qv_call rfl rfl (pcall (told _ 3 _ _ rfl (by decide)) (Sbs.refl _))) ?_
  refine rn ?_
  refine dsplit (fun hg2_9 => ?_) (fun hg2_9 => ?_)
  · refine rn ?_
    refine dsplit (fun hg2_15 => ?_) (fun hg2_15 => ?_)
    · refine rn ?_
      refine dv rfl rfl (by exact qv_call rfl rfl (FCall.of_fun (allSeen e.scan (.fn (.func 180) [] [.v (.pointer (some ⟨bh, 0, none⟩))]) (seenB h) [.box be 77 (evR e), .box bh 28 (histC h)] rfl (fun s hs => FCall.quiet (R := fun x => x = bv (seenB h s)) (h2 := [_]) (List.perm_append_comm (l₁ := [_])) (FCall.of_acall (fs := []) (cs := [.v (.pointer (some ⟨bh, 0, none⟩))]) (event41 s h bh))) hl))) ?_
      refine rn ?_
      refine dw 0 rfl rfl rfl rfl rfl (Nat.le_of_ble_eq_true rfl) ?_
      refine rn2 ?_
      show aops _ _ _ _ _ _ ⟨_, .box b2 77 _ :: _, _⟩
      refine rn ?_
      exact retq (.cons _ _ _ _ (.agg _ _ _ _ _ _ _ rfl inferInstance inferInstance inferInstance rfl) (.cons _ _ _ _ (.tmp _ _ rfl) .nil)) (.trans (.drop1 _ _ _) (vent_tup2 (by exact Sb.aggs (by exact ⟨.refl _, .refl _, .refl _, .refl _, .refl _, .refl _, .refl _, .refl _, .refl _, trivial⟩)) (by exact .refl _))) ⟨rfl, congrArg (fun b => AV.tup [.agg (evR ⟨0, 0, 0, 0, 0, ⟨0, 0⟩, e.p, e.scan⟩), bv b]) (by first | (simp only [mayScan, *, Bool.true_and, Bool.false_and, Bool.and_false, Bool.and_true, Bool.true_or, Bool.or_false, Bool.false_or, Bool.or_true, if_true, if_false, Bool.false_eq_true, Bool.not_true, Bool.not_false]; done) | (simp_all [mayScan]; done) | (simp_all [mayScan] <;> omega))⟩
    · refine rn ?_
      refine dw 0 rfl rfl rfl rfl rfl (Nat.le_of_ble_eq_true rfl) ?_
      refine rn2 ?_
      show aops _ _ _ _ _ _ ⟨_, .box b2 77 _ :: _, _⟩
      refine rn ?_
      exact retq (.cons _ _ _ _ (.agg _ _ _ _ _ _ _ rfl inferInstance inferInstance inferInstance rfl) (.cons _ _ _ _ (.tmp _ _ rfl) .nil)) (.trans (.drop1 _ _ _) (vent_tup2 (by exact Sb.aggs (by exact ⟨.refl _, .refl _, .refl _, .refl _, .refl _, .refl _, .refl _, .refl _, .refl _, trivial⟩)) (by exact .refl _))) ⟨rfl, congrArg (fun b => AV.tup [.agg (evR ⟨0, 0, 0, 0, 0, ⟨0, 0⟩, e.p, e.scan⟩), bv b]) (by first | (simp only [mayScan, *, Bool.true_and, Bool.false_and, Bool.and_false, Bool.and_true, Bool.true_or, Bool.or_false, Bool.false_or, Bool.or_true, if_true, if_false, Bool.false_eq_true, Bool.not_true, Bool.not_false]; done) | (simp_all [mayScan]; done) | (simp_all [mayScan] <;> omega))⟩
  · refine rn ?_
    refine dw 0 rfl rfl rfl rfl rfl (Nat.le_of_ble_eq_true rfl) ?_
    refine rn2 ?_
    show aops _ _ _ _ _ _ ⟨_, .box b2 77 _ :: _, _⟩
    refine rn ?_
    exact retq (.cons _ _ _ _ (.agg _ _ _ _ _ _ _ rfl inferInstance inferInstance inferInstance rfl) (.cons _ _ _ _ (.tmp _ _ rfl) .nil)) (.trans (.drop1 _ _ _) (vent_tup2 (by exact Sb.aggs (by exact ⟨.refl _, .refl _, .refl _, .refl _, .refl _, .refl _, .refl _, .refl _, .refl _, trivial⟩)) (by exact .refl _))) ⟨rfl, congrArg (fun b => AV.tup [.agg (evR ⟨0, 0, 0, 0, 0, ⟨0, 0⟩, e.p, e.scan⟩), bv b]) (by first | (simp only [mayScan, *, Bool.true_and, Bool.false_and, Bool.and_false, Bool.and_true, Bool.true_or, Bool.or_false, Bool.false_or, Bool.or_true, if_true, if_false, Bool.false_eq_true, Bool.not_true, Bool.not_false]; done) | (simp_all [mayScan]; done) | (simp_all [mayScan] <;> omega))⟩
theorem event5  : ACall Tryz.prog 182 [] [] (fun r h' => h' = [] ∧ r = .tup [.agg (evR ⟨0, 0, 0, 0, 0, ⟨0, 0⟩, 0, []⟩), bv true]) := by
  refine acall_of_aw Tryz.func182 rfl rfl rfl ?_
  refine rn ?_
  refine aops_e rfl (oe_alloc rfl fun b0 => ?_)
  refine rn ?_
  exact retq (.cons _ _ _ _ (.agg _ _ _ _ _ _ _ rfl inferInstance inferInstance inferInstance rfl) (.cons _ _ _ _ (.tmp _ _ rfl) .nil)) (.trans (.drop1 _ _ _) (vent_tup2 (by exact Sb.aggs (by exact ⟨.refl _, .refl _, .refl _, .refl _, .refl _, .refl _, .refl _, .refl _, .nil _ _, trivial⟩)) (by exact .refl _))) ⟨rfl, congrArg (fun b => AV.tup [.agg (evR ⟨0, 0, 0, 0, 0, ⟨0, 0⟩, 0, []⟩), bv b]) (by rfl)⟩
theorem event6  : ACall Tryz.prog 183 [] [] (fun r h' => h' = [] ∧ r = .tup [.agg (evR ⟨0, 0, 0, 0, 0, ⟨0, 0⟩, 0, []⟩), bv true]) := by
  refine acall_of_aw Tryz.func183 rfl rfl rfl ?_
  refine rn ?_
  refine aops_e rfl (oe_alloc rfl fun b0 => ?_)
  refine rn ?_
  exact retq (.cons _ _ _ _ (.agg _ _ _ _ _ _ _ rfl inferInstance inferInstance inferInstance rfl) (.cons _ _ _ _ (.tmp _ _ rfl) .nil)) (.trans (.drop1 _ _ _) (vent_tup2 (by exact Sb.aggs (by exact ⟨.refl _, .refl _, .refl _, .refl _, .refl _, .refl _, .refl _, .refl _, .nil _ _, trivial⟩)) (by exact .refl _))) ⟨rfl, congrArg (fun b => AV.tup [.agg (evR ⟨0, 0, 0, 0, 0, ⟨0, 0⟩, 0, []⟩), bv b]) (by rfl)⟩
end Go.Proofs
/- The walk of history.event. Conditions: none. -/
set_option linter.unusedVariables false
set_option linter.unusedSimpArgs false
set_option maxRecDepth 10000
namespace Go.Proofs
open Go Go.Ab
attribute [local irreducible] QR QV OE aops aw dsoup dsoupM dalloc dallocM thn inBlk
open Go.H
theorem eventTab (h : Hist) (e : Ev) (b2 b3 k : Nat) (hl : e.scan.length ≤ 4611686018427387904) (hk : e.kind = k) (h1 : 1 ≤ k) (h7 : k < 7) :
    ∃ av, (([.v .nilFunc, .fn (.func 174) [] [.v (.pointer (some ⟨b3, 0, none⟩)), .v (.pointer (some ⟨b2, 0, none⟩))], .fn (.func 176) [] [.v (.pointer (some ⟨b3, 0, none⟩)), .v (.pointer (some ⟨b2, 0, none⟩))], .fn (.func 178) [] [.v (.pointer (some ⟨b3, 0, none⟩)), .v (.pointer (some ⟨b2, 0, none⟩))], .fn (.func 179) [] [.v (.pointer (some ⟨b2, 0, none⟩)), .v (.pointer (some ⟨b3, 0, none⟩))], .fn (.func 182) [] [], .fn (.func 183) [] []]) : List AV)[k * 1]? = some av ∧ FCall Tryz.prog av [] [.box b3 77 (evR e), .box b2 28 (histC h)] (fun r h' => h' = [.box b3 77 (evR e), .box b2 28 (histC h)] ∧ r = .tup [.agg (evR (cand h e).1), bv (cand h e).2]) := by
  rcases (by omega : k = 1 ∨ k = 2 ∨ k = 3 ∨ k = 4 ∨ k = 5 ∨ k = 6) with rfl | rfl | rfl | rfl | rfl | rfl
  · refine ⟨_, rfl, ?_⟩
    have hc : cand h e = (⟨0, 0, e.s, e.l, 0, ⟨0, 0⟩, 0, []⟩, mayBegin h e) := by unfold cand; rw [hk]; rfl
    rw [hc]
    exact FCall.of_acall (fs := []) (cs := [.v (.pointer (some ⟨b3, 0, none⟩)), .v (.pointer (some ⟨b2, 0, none⟩))]) (event1 e h b3 b2)
  · refine ⟨_, rfl, ?_⟩
    have hc : cand h e = (⟨0, 0, 0, 0, e.o, e.v, 0, []⟩, mayWrite h e) := by unfold cand; rw [hk]; rfl
    rw [hc]
    exact FCall.of_acall (fs := []) (cs := [.v (.pointer (some ⟨b3, 0, none⟩)), .v (.pointer (some ⟨b2, 0, none⟩))]) (event2 e h b3 b2)
  · refine ⟨_, rfl, ?_⟩
    have hc : cand h e = (⟨0, 0, 0, 0, e.o, e.v, 0, []⟩, mayRead h e) := by unfold cand; rw [hk]; rfl
    rw [hc]
    exact FCall.of_acall (fs := []) (cs := [.v (.pointer (some ⟨b3, 0, none⟩)), .v (.pointer (some ⟨b2, 0, none⟩))]) (event3 e h b3 b2)
  · refine ⟨_, rfl, ?_⟩
    have hc : cand h e = (⟨0, 0, 0, 0, 0, ⟨0, 0⟩, e.p, e.scan⟩, mayScan h e) := by unfold cand; rw [hk]; rfl
    rw [hc]
    exact FCall.of_acall (fs := []) (cs := [.v (.pointer (some ⟨b2, 0, none⟩)), .v (.pointer (some ⟨b3, 0, none⟩))]) (event4 e h b3 b2 hl)
  · refine ⟨_, rfl, ?_⟩
    have hc : cand h e = (⟨0, 0, 0, 0, 0, ⟨0, 0⟩, 0, []⟩, true) := by unfold cand; rw [hk]; rfl
    rw [hc]
    exact FCall.pure (R := fun x => x = _) (FCall.of_acall (fs := []) (cs := []) event5)
  · refine ⟨_, rfl, ?_⟩
    have hc : cand h e = (⟨0, 0, 0, 0, 0, ⟨0, 0⟩, 0, []⟩, true) := by unfold cand; rw [hk]; rfl
    rw [hc]
    exact FCall.pure (R := fun x => x = _) (FCall.of_acall (fs := []) (cs := []) event6)
theorem event (h : Hist) (e : Ev) (hl : e.scan.length ≤ 4611686018427387904) : ACall Tryz.prog 136 [.agg (histC h), .agg (evR e)] [] (fun r h' => h' = [] ∧ r = bv (eventB h e)) := by
  refine acall_of_aw Tryz.func136 rfl rfl rfl ?_
  refine rn ?_
  refine aops_e rfl (oe_box rfl rfl rfl fun b2 => ?_)
  refine aops_e rfl (oe_box rfl rfl rfl fun b3 => ?_)
  refine rn ?_
  refine aops_e rfl (oe_alloc rfl fun b5 => ?_)
  refine rn ?_
  refine asplit (fun hg2_3 => ?_) (fun hg2_3 => ?_)
  · refine rn ?_
    refine aw_ct rfl ?_
    refine rn ?_
    exact retq (.cons _ _ _ _ (.tmp _ _ rfl) .nil) (.drop [_, _, _] _ _) ⟨rfl, congrArg bv (by first | (simp only [eventB, *, Bool.true_and, Bool.false_and, Bool.and_false, Bool.and_true, Bool.true_or, Bool.or_false, Bool.false_or, Bool.or_true, if_true, if_false, Bool.false_eq_true, Bool.not_true, Bool.not_false]; done) | (simp_all [eventB]; done) | (simp_all [eventB] <;> omega))⟩
  · refine rn ?_
    refine asplit (fun hg2_8 => ?_) (fun hg2_8 => ?_)
    · refine rn ?_
      refine aw_ct rfl ?_
      refine rn ?_
      exact retq (.cons _ _ _ _ (.tmp _ _ rfl) .nil) (.drop [_, _, _] _ _) ⟨rfl, congrArg bv (by first | (simp only [eventB, *, Bool.true_and, Bool.false_and, Bool.and_false, Bool.and_true, Bool.true_or, Bool.or_false, Bool.false_or, Bool.or_true, if_true, if_false, Bool.false_eq_true, Bool.not_true, Bool.not_false]; done) | (simp_all [eventB]; done) | (simp_all [eventB] <;> omega))⟩
    · refine rn ?_
      refine qv rfl rfl (qv_call rfl rfl (pcall (told h 0 e.t _ rfl (by decide)) (Sbs.refl _))) ?_
      refine rn ?_
      refine aw_cond rfl (fun hc27 => ?_) (fun hc27 => ?_)
      · refine rn ?_
        exact retq (.cons _ _ _ _ (.tmp _ _ rfl) .nil) (.drop [_, _, _] _ _) ⟨rfl, congrArg bv (by first | (simp only [eventB, *, Bool.true_and, Bool.false_and, Bool.and_false, Bool.and_true, Bool.true_or, Bool.or_false, Bool.false_or, Bool.or_true, if_true, if_false, Bool.false_eq_true, Bool.not_true, Bool.not_false]; done) | (simp_all [eventB]; done) | (simp_all [eventB] <;> omega))⟩
      · have hlo : 1 ≤ e.kind := by simpa using hg2_3
        have hhi : e.kind < 7 := by simpa using hg2_8
        obtain ⟨k, hk⟩ := Int.eq_ofNat_of_zero_le (show 0 ≤ e.kind by omega)
        obtain ⟨av, hav, hfc⟩ := eventTab h e b2 b3 k hl hk (by omega) (by omega)
        refine aw_skip ?_
        refine thn_n ?_
        refine aw_seq (aw_region ?_)
        refine q1 ?_
        refine q1 ?_
        refine qq rfl rfl (qr_indexAddr_arr rfl (by rw [← hk]; rfl) (by omega)) ?_
        refine qq rfl rfl (qr_load_one rfl (by simpa using hav)) ?_
        refine qv rfl rfl (qv_call rfl rfl (FCall.quiet (R := fun x => x = _) (h2 := [_]) (List.perm_append_comm (l₁ := [_])) hfc)) ?_
        refine rn ?_
        refine aops_e rfl (oe_alloc rfl fun b6 => ?_)
        refine rn ?_
        refine aw_drawS 6 [(b6, 77, _)] rfl (List.perm_append_comm (l₁ := [_])) ?_
        refine rn ?_
        refine dw 0 rfl rfl rfl rfl rfl (Nat.le_of_ble_eq_true rfl) ?_
        refine rn2 ?_
        show aops _ _ _ _ _ _ ⟨_, [.box b6 77 _, .box b5 _ _, .box b3 77 (evR e), .box b2 28 (histC h)], _⟩
        refine rn ?_
        refine asplit (fun hg6_1 => ?_) (fun hg6_1 => ?_)
        · refine rn ?_
          refine qv rfl rfl (qv_call rfl rfl (pcall (sameEvent { (cand h e).1 with kind := e.kind, t := e.t } e (cand_scan h e hl) hl) (by exact Sbs.refl _))) ?_
          refine rn ?_
          exact retq (.cons _ _ _ _ (.tmp _ _ rfl) .nil) (.drop [_, _, _, _] _ _) ⟨rfl, congrArg bv (by first | (simp only [eventB, *, Bool.true_and, Bool.false_and, Bool.and_false, Bool.and_true, Bool.true_or, Bool.or_false, Bool.false_or, Bool.or_true, if_true, if_false, Bool.false_eq_true, Bool.not_true, Bool.not_false]; done) | (simp_all [eventB]; done) | (simp_all [eventB] <;> omega))⟩
        · refine rn ?_
          exact retq (.cons _ _ _ _ (.tmp _ _ rfl) .nil) (.drop [_, _, _, _] _ _) ⟨rfl, congrArg bv (by first | (simp only [eventB, *, Bool.true_and, Bool.false_and, Bool.and_false, Bool.and_true, Bool.true_or, Bool.or_false, Bool.false_or, Bool.or_true, if_true, if_false, Bool.false_eq_true, Bool.not_true, Bool.not_false]; done) | (simp_all [eventB]; done) | (simp_all [eventB] <;> omega))⟩
end Go.Proofs
/- The walks of the closures of history.shaped. Conditions: none. -/
set_option linter.unusedVariables false
set_option linter.unusedSimpArgs false
set_option maxRecDepth 10000
namespace Go.Proofs
open Go Go.Ab
attribute [local irreducible] QR QV OE aops aw dsoup dsoupM dalloc dallocM thn inBlk
open Go.H
theorem shaped11 (h : Hist) (b : Nat) (t : Int) : ACall Tryz.prog 132 [iv t, .v (.pointer (some ⟨b, 0, none⟩))] [.box b 28 (histC h)] (fun r h' => h' = [.box b 28 (histC h)] ∧ r = bv (toldB h.ts t)) := by
  refine acall_of_aw Tryz.func132 rfl rfl rfl ?_
  refine rn ?_
  refine qv rfl rfl (qv_call rfl rfl (pcall (told h 0 _ _ rfl (by decide)) (Sbs.refl _))) ?_
  refine rn ?_
  exact retq (.cons _ _ _ _ (.tmp _ _ rfl) .nil) (.refl _ _) ⟨rfl, congrArg bv (by rfl)⟩
theorem shaped1 {full : Bool} (h : Hist) (b : Nat) (ts : List Int) (hl : ts.length ≤ 4611686018427387904) : ACall Tryz.prog 130 [.list full 1 (ts.map intR), .v (.pointer (some ⟨b, 0, none⟩))] [.box b 28 (histC h)] (fun r h' => h' = [.box b 28 (histC h)] ∧ r = bv (tsB h ts)) := by
  refine acall_of_aw Tryz.func130 rfl rfl rfl ?_
  refine rn ?_
  refine asplit (fun hg1_3 => ?_) (fun hg1_3 => ?_)
  · refine rn ?_
    refine qv rfl rfl (qv_call rfl rfl (FCall.of_fun (allInt ts (.fn (.func 132) [] [.v (.pointer (some ⟨b, 0, none⟩))]) (toldB h.ts) [.box b 28 (histC h)] rfl (fun t _ => FCall.of_acall (fs := []) (cs := [.v (.pointer (some ⟨b, 0, none⟩))]) (shaped11 h b t)) hl))) ?_
    refine rn ?_
    exact retq (.cons _ _ _ _ (.tmp _ _ rfl) .nil) (.refl _ _) ⟨rfl, congrArg bv (by first | (simp only [tsB, *, Bool.true_and, Bool.false_and, Bool.and_false, Bool.and_true, Bool.true_or, Bool.or_false, Bool.false_or, Bool.or_true, if_true, if_false, Bool.false_eq_true, Bool.not_true, Bool.not_false]; done) | (simp_all [tsB]; done) | (simp_all [tsB] <;> omega))⟩
  · refine rn ?_
    exact retq (.cons _ _ _ _ (.tmp _ _ rfl) .nil) (.refl _ _) ⟨rfl, congrArg bv (by first | (simp only [tsB, *, Bool.true_and, Bool.false_and, Bool.and_false, Bool.and_true, Bool.true_or, Bool.or_false, Bool.false_or, Bool.or_true, if_true, if_false, Bool.false_eq_true, Bool.not_true, Bool.not_false]; done) | (simp_all [tsB]; done) | (simp_all [tsB] <;> omega))⟩
theorem shaped2 (h : Hist) (b : Nat) (e : Ev) (hl : e.scan.length ≤ 4611686018427387904) : ACall Tryz.prog 135 [.agg (evR e), .v (.pointer (some ⟨b, 0, none⟩))] [.box b 28 (histC h)] (fun r h' => h' = [.box b 28 (histC h)] ∧ r = bv (eventB h e)) := by
  refine acall_of_aw Tryz.func135 rfl rfl rfl ?_
  refine rn ?_
  refine aops_e rfl (oe_box rfl rfl rfl fun b2 => ?_)
  refine rn ?_
  refine qv rfl rfl (qv_call rfl rfl (pcall (event h e hl) (Sbs.refl _))) ?_
  refine rn ?_
  exact retq (.cons _ _ _ _ (.tmp _ _ rfl) .nil) (.drop1 _ _ _) ⟨rfl, congrArg bv (by rfl)⟩
theorem shaped3 (h : Hist) (b c : Nat) (m : H.Ord) (hl : m.ts.length ≤ 4611686018427387904) : ACall Tryz.prog 138 [.agg (ordR m), .v (.pointer (some ⟨b, 0, none⟩)), .v (.pointer (some ⟨c, 0, none⟩))] [.box b 28 (histC h), .box c 53 [.fn (.func 130) [] [.v (.pointer (some ⟨b, 0, none⟩))]]] (fun r h' => h' = [.box b 28 (histC h), .box c 53 [.fn (.func 130) [] [.v (.pointer (some ⟨b, 0, none⟩))]]] ∧ r = bv (ordB h m)) := by
  refine acall_of_aw Tryz.func138 rfl rfl rfl ?_
  refine rn ?_
  refine aops_e rfl (oe_box rfl rfl rfl fun b3 => ?_)
  refine rn ?_
  refine qv rfl rfl (qv_call rfl rfl (pcall (told h 2 _ _ rfl (by decide)) (Sbs.refl _))) ?_
  refine rn ?_
  refine asplit (fun hg1_4 => ?_) (fun hg1_4 => ?_)
  · refine rn ?_
    refine qv rfl rfl (qv_call rfl rfl (FCall.quiet (R := fun x => x = bv (tsB h m.ts)) (h2 := [_, _]) (List.Perm.swap _ _ _) (FCall.of_acall (fs := []) (cs := [.v (.pointer (some ⟨b, 0, none⟩))]) (shaped1 h b m.ts hl)))) ?_
    refine rn ?_
    exact retq (.cons _ _ _ _ (.tmp _ _ rfl) .nil) (.drop1 _ _ _) ⟨rfl, congrArg bv (by first | (simp only [ordB, *, Bool.true_and, Bool.false_and, Bool.and_false, Bool.and_true, Bool.true_or, Bool.or_false, Bool.false_or, Bool.or_true, if_true, if_false, Bool.false_eq_true, Bool.not_true, Bool.not_false]; done) | (simp_all [ordB]; done) | (simp_all [ordB] <;> omega))⟩
  · refine rn ?_
    exact retq (.cons _ _ _ _ (.tmp _ _ rfl) .nil) (.drop1 _ _ _) ⟨rfl, congrArg bv (by first | (simp only [ordB, *, Bool.true_and, Bool.false_and, Bool.and_false, Bool.and_true, Bool.true_or, Bool.or_false, Bool.false_or, Bool.or_true, if_true, if_false, Bool.false_eq_true, Bool.not_true, Bool.not_false]; done) | (simp_all [ordB]; done) | (simp_all [ordB] <;> omega))⟩
theorem shaped4 (h : Hist) (b c : Nat) (m : Mat) (hl : m.ts.length ≤ 4611686018427387904) : ACall Tryz.prog 140 [.agg (matR m), .v (.pointer (some ⟨b, 0, none⟩)), .v (.pointer (some ⟨c, 0, none⟩))] [.box b 28 (histC h), .box c 53 [.fn (.func 130) [] [.v (.pointer (some ⟨b, 0, none⟩))]]] (fun r h' => h' = [.box b 28 (histC h), .box c 53 [.fn (.func 130) [] [.v (.pointer (some ⟨b, 0, none⟩))]]] ∧ r = bv (matB h m)) := by
  refine acall_of_aw Tryz.func140 rfl rfl rfl ?_
  refine rn ?_
  refine aops_e rfl (oe_box rfl rfl rfl fun b3 => ?_)
  refine rn ?_
  refine qv rfl rfl (qv_call rfl rfl (pcall (told h 3 _ _ rfl (by decide)) (Sbs.refl _))) ?_
  refine rn ?_
  refine asplit (fun hg1_4 => ?_) (fun hg1_4 => ?_)
  · refine rn ?_
    refine qv rfl rfl (qv_call rfl rfl (pcall (told h 2 _ _ rfl (by decide)) (Sbs.refl _))) ?_
    refine rn ?_
    refine asplit (fun hg1_10 => ?_) (fun hg1_10 => ?_)
    · refine rn ?_
      refine qv rfl rfl (qv_call rfl rfl (FCall.quiet (R := fun x => x = bv (tsB h m.ts)) (h2 := [_, _]) (List.Perm.swap _ _ _) (FCall.of_acall (fs := []) (cs := [.v (.pointer (some ⟨b, 0, none⟩))]) (shaped1 h b m.ts hl)))) ?_
      refine rn ?_
      exact retq (.cons _ _ _ _ (.tmp _ _ rfl) .nil) (.drop1 _ _ _) ⟨rfl, congrArg bv (by first | (simp only [matB, *, Bool.true_and, Bool.false_and, Bool.and_false, Bool.and_true, Bool.true_or, Bool.or_false, Bool.false_or, Bool.or_true, if_true, if_false, Bool.false_eq_true, Bool.not_true, Bool.not_false]; done) | (simp_all [matB]; done) | (simp_all [matB] <;> omega))⟩
    · refine rn ?_
      exact retq (.cons _ _ _ _ (.tmp _ _ rfl) .nil) (.drop1 _ _ _) ⟨rfl, congrArg bv (by first | (simp only [matB, *, Bool.true_and, Bool.false_and, Bool.and_false, Bool.and_true, Bool.true_or, Bool.or_false, Bool.false_or, Bool.or_true, if_true, if_false, Bool.false_eq_true, Bool.not_true, Bool.not_false]; done) | (simp_all [matB]; done) | (simp_all [matB] <;> omega))⟩
  · refine rn ?_
    exact retq (.cons _ _ _ _ (.tmp _ _ rfl) .nil) (.drop1 _ _ _) ⟨rfl, congrArg bv (by first | (simp only [matB, *, Bool.true_and, Bool.false_and, Bool.and_false, Bool.and_true, Bool.true_or, Bool.or_false, Bool.false_or, Bool.or_true, if_true, if_false, Bool.false_eq_true, Bool.not_true, Bool.not_false]; done) | (simp_all [matB]; done) | (simp_all [matB] <;> omega))⟩
theorem shaped5 (h : Hist) (b : Nat) (w : Wan) : ACall Tryz.prog 142 [.agg (wanR w), .v (.pointer (some ⟨b, 0, none⟩))] [.box b 28 (histC h)] (fun r h' => h' = [.box b 28 (histC h)] ∧ r = bv (wanB h w)) := by
  refine acall_of_aw Tryz.func142 rfl rfl rfl ?_
  refine rn ?_
  refine aops_e rfl (oe_box rfl rfl rfl fun b2 => ?_)
  refine rn ?_
  refine qv rfl rfl (qv_call rfl rfl (pcall (told h 1 _ _ rfl (by decide)) (Sbs.refl _))) ?_
  refine rn ?_
  refine asplit (fun hg1_4 => ?_) (fun hg1_4 => ?_)
  · refine rn ?_
    refine asplit (fun hg1_9 => ?_) (fun hg1_9 => ?_)
    · refine rn ?_
      exact retq (.cons _ _ _ _ (.tmp _ _ rfl) .nil) (.drop1 _ _ _) ⟨rfl, congrArg bv (by first | (simp only [wanB, *, Bool.true_and, Bool.false_and, Bool.and_false, Bool.and_true, Bool.true_or, Bool.or_false, Bool.false_or, Bool.or_true, if_true, if_false, Bool.false_eq_true, Bool.not_true, Bool.not_false]; done) | (simp_all [wanB]; done) | (simp_all [wanB] <;> omega))⟩
    · refine rn ?_
      exact retq (.cons _ _ _ _ (.tmp _ _ rfl) .nil) (.drop1 _ _ _) ⟨rfl, congrArg bv (by first | (simp only [wanB, *, Bool.true_and, Bool.false_and, Bool.and_false, Bool.and_true, Bool.true_or, Bool.or_false, Bool.false_or, Bool.or_true, if_true, if_false, Bool.false_eq_true, Bool.not_true, Bool.not_false]; done) | (simp_all [wanB]; done) | (simp_all [wanB] <;> omega))⟩
  · refine rn ?_
    exact retq (.cons _ _ _ _ (.tmp _ _ rfl) .nil) (.drop1 _ _ _) ⟨rfl, congrArg bv (by first | (simp only [wanB, *, Bool.true_and, Bool.false_and, Bool.and_false, Bool.and_true, Bool.true_or, Bool.or_false, Bool.false_or, Bool.or_true, if_true, if_false, Bool.false_eq_true, Bool.not_true, Bool.not_false]; done) | (simp_all [wanB]; done) | (simp_all [wanB] <;> omega))⟩
end Go.Proofs
