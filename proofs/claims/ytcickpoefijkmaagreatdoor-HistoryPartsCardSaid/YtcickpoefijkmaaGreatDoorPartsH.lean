/- The abstract logic, part 28: slices.Sort and slices.Compact at []int, as contracts over a row of one's own (the kit's shelf has walked them). Conditions: none (lemmas over any program that has the functions). -/
import Derived.Test.YtcickpoefijkmaaGreatDoorPartsG
import Derived.Shelf.Sort.Plain
import Derived.Shelf.Slices.In.SortNone
import Derived.Shelf.Slices.CompactI
set_option linter.unusedVariables false
namespace Go.Ab
open Go Go.Shelf Go.Sort Go.Proofs
def numR (n : Int) : List AV := [.v (.int .i64 n)]
/-- A row of numbers written over, and blocks made beside it. -/
theorem row_over {X : Nat → Prop} {w : World} {a : Addr} {cap : Nat} {T : TypeId} {xs ys zs : List Int} (hh : HRel X w [.row (.slice (some a) xs.length cap) 1 T (xs.map numR)]) (hl : ys.length = xs.length) (hz : zs = ys.take zs.length) (n : Nat) (os : Array Obj) :
    HRel X (grow (putRow (Value.int .i64) (Sort.ahead w n) a.block a.off ys.toArray) os) [.row (.slice (some a) zs.length cap) 1 T (zs.map numR)] ∧
    Keep [a.block] w [a.block] (grow (putRow (Value.int .i64) (Sort.ahead w n) a.block a.off ys.toArray) os) := by
  obtain ⟨h1, h2, h3, h4, c, h5, h6, h7⟩ := hh.holds _ (List.mem_singleton.2 rfl)
  have hb : a.block < w.heap.size := (hh.lt a.block (by simp [owns, Res.own])).1
  have hX : ¬ X a.block := (hh.lt a.block (by simp [owns, Res.own])).2
  obtain ⟨w', hw'⟩ : ∃ w', w' = grow (putRow (Value.int .i64) (Sort.ahead w n) a.block a.off ys.toArray) os := ⟨_, rfl⟩
  rw [← hw']
  have hheap : w'.heap = (w.heap.modify a.block (onCells (putCells (Value.int .i64) a.off ys.toArray))) ++ os := by rw [hw']; rfl
  have hos : w'.os = w.os ∧ w'.output = w.output := by rw [hw']; exact ⟨rfl, rfl⟩
  have hsize : w.heap.size ≤ w'.heap.size := by rw [hheap]; simp
  have hold : ∀ b, b < w.heap.size → b ≠ a.block → w'.heap[b]? = w.heap[b]? := fun b hb hne => by
    rw [hheap, Array.getElem?_append_left (by simpa using hb), Array.getElem?_modify, if_neg (Ne.symm hne)]
  have hnew : w'.heap[a.block]? = some (.cells (putCells (Value.int .i64) a.off ys.toArray c) T (0, 0)) := by
    rw [hheap, Array.getElem?_append_left (by simpa using hb), Array.getElem?_modify, if_pos rfl, h5]; rfl
  have hlen : zs.length ≤ ys.length := by
    have := congrArg List.length hz
    rw [List.length_take] at this; omega
  refine ⟨⟨by simp [owns, Res.own], fun b hb2 => ?_, fun b hb2 => Nat.lt_of_lt_of_le (hh.xlt b hb2) hsize, fun r hr => ?_⟩, ⟨hsize, fun b hb2 hne => ?_, hos⟩⟩
  · have : b = a.block := by simpa [owns, Res.own] using hb2
    subst this; exact ⟨Nat.lt_of_lt_of_le hb hsize, hX⟩
  · rw [List.mem_singleton] at hr
    subst hr
    refine ⟨h1, by simp, by simp at h2 h3; omega, fun i hi => by simp [numR], _, hnew, by simpa [putCells] using h6, fun i hi j hj => ?_⟩
    have hi2 : i < zs.length := by simpa using hi
    have hj0 : j = 0 := by simp [numR] at hj; omega
    subst hj0
    have hc : a.off + i < c.size := by simp at h2 h3; omega
    refine ⟨.int .i64 (zs[i]), ?_, ?_⟩
    · have hz2 : zs[i] = ys[i]'(by omega) := by
        have : zs[i]? = (ys.take zs.length)[i]? := by rw [← hz]
        rw [List.getElem?_take_of_lt hi2, List.getElem?_eq_getElem hi2, List.getElem?_eq_getElem (by omega)] at this
        exact Option.some.inj this
      have e : a.off + i * 1 + 0 = a.off + i := by omega
      rw [e]
      simp only [putCells, Array.getElem?_mapIdx]
      rw [Array.getElem?_eq_getElem hc]
      simp only [Option.map_some]
      rw [if_pos ⟨by omega, by simp; omega⟩, hz2]
      have e2 : a.off + i - a.off = i := by omega
      rw [e2]
      congr 2
      exact getElem!_pos _ _ (by simp; omega)
    · simp only [List.getElem_map, numR]
      exact .v _
  · have hne2 : b ≠ a.block := by simpa using hne
    exact ⟨hold b hb2 hne2, hne⟩
theorem row_nums {X : Nat → Prop} {w : World} {a : Addr} {cap : Nat} {T : TypeId} {xs : List Int} (hh : HRel X w [.row (.slice (some a) xs.length cap) 1 T (xs.map numR)]) : Holds (Value.int .i64) w a.block a.off xs.toArray ∧ a.block < w.heap.size ∧ xs.length ≤ cap ∧ a.spot = none := by
  obtain ⟨h1, h2, h3, h4, c, h5, h6, h7⟩ := hh.holds _ (List.mem_singleton.2 rfl)
  refine ⟨fun j hj => ?_, (hh.lt a.block (by simp [owns, Res.own])).1, h3, h1⟩
  have hj2 : j < xs.length := by simpa using hj
  obtain ⟨v, e, r⟩ := h7 j (by simpa using hj2) 0 (by simp [numR])
  simp only [List.getElem_map, numR] at r
  have hv : v = .int .i64 xs[j] := r.v_eq
  subst hv
  have e0 : a.off + j * 1 + 0 = a.off + j := by omega
  rw [e0] at e
  refine ⟨?_, ?_⟩
  · have e2 : w.cell? ⟨a.block, a.off + j, none⟩ = some (.int .i64 xs[j]) := by simp [World.cell?, h5, e]
    have e3 : xs.toArray[j]! = xs[j] := getElem!_pos xs.toArray j hj
    rw [e2, e3]
  · simp [World.frozen?, h5]
theorem row_nil {X : Nat → Prop} {w : World} {n cap : Nat} {T : TypeId} {xs : List Int} (hh : HRel X w [.row (.slice none n cap) 1 T (xs.map numR)]) : xs = [] ∧ n = 0 ∧ cap = 0 := by
  obtain ⟨h1, h2, h3⟩ := hh.holds _ (List.mem_singleton.2 rfl)
  exact ⟨by simpa using h1, h2, h3⟩
section
variable {P : Program} {ρ : Ren}
theorem acall_sort (Ly : Lays.n189 P ρ) (s : SV) (T : TypeId) (xs : List Int) (hs : xs.length < 4611686018427387904) :
    ACall P (ρ.f 189) [.v s.v] [.row s.v 1 T (xs.map numR)] (fun r h' => h' = [.row s.v 1 T ((xs.mergeSort fun x y => decide (x ≤ y)).map numR)] ∧ r = .v (.tuple #[])) := by
  intro X w vs hh ha
  match vs, ha with
  | [v], ⟨hv, _⟩ =>
    obtain rfl := hv.v_eq
    obtain ⟨a, n, cap⟩ := s
    cases a with
    | none =>
      obtain ⟨rfl, rfl, rfl⟩ := row_nil hh
      refine callsIn_wide.2 ((Any.slices_Sort_int_none Ly none 0 w).mono ?_)
      rintro e w' ⟨rfl, rfl⟩
      exact ⟨_, _, _, rfl, ⟨rfl, rfl⟩, .v _, by simpa using hh, .refl _ _⟩
    | some a =>
      have hn : n = xs.length := by
        have := (hh.holds _ (List.mem_singleton.2 rfl)).2.1
        simpa using this
      subst hn
      obtain ⟨g1, g2, g3, g4⟩ := row_nums hh
      obtain ⟨b, off, sp⟩ := a
      simp only at g1 g2 g4
      subst g4
      refine callsIn_wide.2 ((Any.slices_Sort_int Ly b off cap xs w g1 g2 hs).mono ?_)
      rintro e w' ⟨rfl, n, os, rfl⟩
      have hlen : (xs.mergeSort fun x y => decide (x ≤ y)).length = xs.length := List.length_mergeSort _
      obtain ⟨k1, k2⟩ := row_over (zs := xs.mergeSort fun x y => decide (x ≤ y)) hh hlen (List.take_length).symm n os
      rw [hlen] at k1
      exact ⟨_, _, _, rfl, ⟨rfl, rfl⟩, .v _, k1, k2⟩
theorem acall_compact (Ly : Lays2.n20 P ρ) (s : SV) (T : TypeId) (xs : List Int) (hs : xs.length ≤ 4611686018427387904) :
    ACall P (ρ.f 20) [.v s.v] [.row s.v 1 T (xs.map numR)] (fun r h' => ∃ s' : SV, h' = [.row s'.v 1 T ((Lib.compact xs).map numR)] ∧ r = .v s'.v) := by
  intro X w vs hh ha
  match vs, ha with
  | [v], ⟨hv, _⟩ =>
    obtain rfl := hv.v_eq
    obtain ⟨a, n, cap⟩ := s
    cases a with
    | none =>
      obtain ⟨rfl, rfl, rfl⟩ := row_nil hh
      refine callsIn_wide.2 ((Any.slices_Compact_int_empty Ly none 0 w).mono ?_)
      rintro e w' ⟨rfl, rfl⟩
      exact ⟨_, _, _, rfl, ⟨⟨none, 0, 0⟩, rfl, rfl⟩, .v _, hh, .refl _ _⟩
    | some a =>
      have hn : n = xs.length := by
        have := (hh.holds _ (List.mem_singleton.2 rfl)).2.1
        simpa using this
      subst hn
      obtain ⟨g1, g2, g3, g4⟩ := row_nums hh
      obtain ⟨b, off, sp⟩ := a
      simp only at g1 g2 g4
      subst g4
      refine callsIn_wide.2 ((Any.slices_Compact_int Ly b off cap xs w g1 (by omega) g3).mono ?_)
      rintro e w' ⟨rfl, q, rfl⟩
      have hle : (Lib.compact xs).length ≤ xs.length := by
        unfold Lib.compact Lib.compactUpTo
        rw [List.length_map]
        exact Nat.le_trans (List.length_filter_le _ _) (by simp)
      obtain ⟨k1, k2⟩ := row_over (ys := Lib.compact xs ++ List.replicate (xs.length - (Lib.compact xs).length) 0) (zs := Lib.compact xs) hh (by simp; omega) (by rw [List.take_left']; rfl) q #[]
      rw [grow_empty] at k1 k2
      exact ⟨_, _, _, rfl, ⟨⟨some ⟨b, off, none⟩, (Lib.compact xs).length, cap⟩, rfl, rfl⟩, .v _, k1, k2⟩
end
end Go.Ab
/- The kit's contract of slices.Sort over this program. Conditions: none. -/
set_option linter.unusedVariables false
namespace Go.Proofs
open Go Go.Ab Go.Shelf
def sortRen : Go.Shelf.Ren := ⟨fun | 125 => 58 | 128 => 94 | 129 => 95 | 189 => 25 | 215 => 85 | 216 => 56 | 257 => 57 | 294 => 86 | 295 => 87 | 296 => 88 | 297 => 89 | 298 => 90 | 299 => 91 | 300 => 92 | 301 => 93 | 328 => 122 | 329 => 123 | 330 => 124 | 331 => 125 | 332 => 126 | 343 => 136 | n => n, fun | 0 => 0 | 3 => 3 | 4 => 4 | 5 => 5 | 9 => 9 | 28 => 45 | 46 => 100 | 51 => 134 | 53 => 136 | 131 => 88 | 182 => 127 | 183 => 128 | 218 => 148 | 222 => 73 | 228 => 163 | 229 => 164 | n => n, fun n => n⟩
theorem sortLays : Lays.n189 Tryz.prog sortRen := {
  mixed := by kernel_rfl
  f125 := Tryz.func58.trans (congrArg some (by kernel_rfl))
  f128 := Tryz.func94.trans (congrArg some (by kernel_rfl))
  f129 := Tryz.func95.trans (congrArg some (by kernel_rfl))
  f189 := Tryz.func25.trans (congrArg some (by kernel_rfl))
  f215 := Tryz.func85.trans (congrArg some (by kernel_rfl))
  f216 := Tryz.func56.trans (congrArg some (by kernel_rfl))
  f257 := Tryz.func57.trans (congrArg some (by kernel_rfl))
  f294 := Tryz.func86.trans (congrArg some (by kernel_rfl))
  f295 := Tryz.func87.trans (congrArg some (by kernel_rfl))
  f296 := Tryz.func88.trans (congrArg some (by kernel_rfl))
  f297 := Tryz.func89.trans (congrArg some (by kernel_rfl))
  f298 := Tryz.func90.trans (congrArg some (by kernel_rfl))
  f299 := Tryz.func91.trans (congrArg some (by kernel_rfl))
  f300 := Tryz.func92.trans (congrArg some (by kernel_rfl))
  f301 := Tryz.func93.trans (congrArg some (by kernel_rfl))
  f328 := Tryz.func122.trans (congrArg some (by kernel_rfl))
  f329 := Tryz.func123.trans (congrArg some (by kernel_rfl))
  f330 := Tryz.func124.trans (congrArg some (by kernel_rfl))
  f331 := Tryz.func125.trans (congrArg some (by kernel_rfl))
  f332 := Tryz.func126.trans (congrArg some (by kernel_rfl))
  f343 := Tryz.func136.trans (congrArg some (by kernel_rfl))
  t0 := Tryz.underlying0
  a0 := Tryz.isAgg0
  z0 := Tryz.sizeOf0
  v0 := Tryz.zeroValue0
  t3 := Tryz.underlying3
  a3 := Tryz.isAgg3
  z3 := Tryz.sizeOf3
  v3 := Tryz.zeroValue3
  t4 := Tryz.underlying4
  a4 := Tryz.isAgg4
  z4 := Tryz.sizeOf4
  v4 := Tryz.zeroValue4
  t5 := Tryz.underlying5
  a5 := Tryz.isAgg5
  z5 := Tryz.sizeOf5
  v5 := Tryz.zeroValue5
  t9 := Tryz.underlying9
  a9 := Tryz.isAgg9
  z9 := Tryz.sizeOf9
  v9 := Tryz.zeroValue9
  t28 := Tryz.underlying45
  a28 := Tryz.isAgg45
  z28 := Tryz.sizeOf45
  v28 := Tryz.zeroValue45
  t46 := Tryz.underlying100
  a46 := Tryz.isAgg100
  z46 := Tryz.sizeOf100
  v46 := Tryz.zeroValue100
  t51 := Tryz.underlying134
  a51 := Tryz.isAgg134
  z51 := Tryz.sizeOf134
  v51 := Tryz.zeroValue134
  t53 := Tryz.underlying136
  a53 := Tryz.isAgg136
  z53 := Tryz.sizeOf136
  v53 := Tryz.zeroValue136
  t131 := Tryz.underlying88
  a131 := Tryz.isAgg88
  z131 := Tryz.sizeOf88
  v131 := Tryz.zeroValue88
  t182 := Tryz.underlying127
  a182 := Tryz.isAgg127
  z182 := Tryz.sizeOf127
  v182 := Tryz.zeroValue127
  t183 := Tryz.underlying128
  a183 := Tryz.isAgg128
  z183 := Tryz.sizeOf128
  v183 := Tryz.zeroValue128
  t218 := Tryz.underlying148
  a218 := Tryz.isAgg148
  z218 := Tryz.sizeOf148
  v218 := Tryz.zeroValue148
  t222 := Tryz.underlying73
  a222 := Tryz.isAgg73
  z222 := Tryz.sizeOf73
  v222 := Tryz.zeroValue73
  t228 := Tryz.underlying163
  a228 := Tryz.isAgg163
  z228 := Tryz.sizeOf163
  v228 := Tryz.zeroValue163
  t229 := Tryz.underlying164
  a229 := Tryz.isAgg164
  z229 := Tryz.sizeOf164
  v229 := Tryz.zeroValue164 }
end Go.Proofs
/- The walk of HistoryParts. Conditions: none. -/
set_option linter.unusedVariables false
set_option linter.unusedSimpArgs false
set_option maxRecDepth 10000
namespace Go.Proofs
open Go Go.Ab
attribute [local irreducible] QR QV OE aops aw dsoup dsoupM dalloc dallocM thn inBlk
open Go.H
theorem ofT (h : Hist) (t : Int) (la : Lim 4611686018427387904 h) (hm : mayB h = true) : ACall Tryz.prog 21 [.agg (histC h), iv t] [.glob 0 68 limitsC, .glob 1 168 firstC, .glob 2 171 acceptC] (fun r h' => h' = [.glob 0 68 limitsC, .glob 1 168 firstC, .glob 2 171 acceptC] ∧ r = .tup [intsA (ofL t 0 h.evs), iv 0]) :=
  (ofW h t la).mono fun _ _ q => ⟨q.1, by rw [q.2, ofR, if_pos hm, checkE, if_pos hm]⟩
theorem ofEnd (h : Hist) (la : Lim 4611686018427387904 h) (hm : mayB h = true) : ACall Tryz.prog 21 [.agg (histC h), iv (h.ts.map strR).length] [.glob 0 68 limitsC, .glob 1 168 firstC, .glob 2 171 acceptC] (fun r h' => h' = [.glob 0 68 limitsC, .glob 1 168 firstC, .glob 2 171 acceptC] ∧ r = .tup [intsA [], iv 0]) :=
  (ofT h _ la hm).mono fun _ _ q => ⟨q.1, by rw [q.2, List.length_map, ofL_none hm]⟩
theorem ofBad (h : Hist) (t : Int) (la : Lim 4611686018427387904 h) (hc : checkE h ≠ 0) : ACall Tryz.prog 21 [.agg (histC h), iv t] [.glob 0 68 limitsC, .glob 1 168 firstC, .glob 2 171 acceptC] (fun r h' => h' = [.glob 0 68 limitsC, .glob 1 168 firstC, .glob 2 171 acceptC] ∧ r = .tup [intsA [], iv 210]) :=
  (ofW h t la).mono fun _ _ q => ⟨q.1, by
    have hm : ¬ mayB h = true := fun k => hc (by rw [checkE, if_pos k])
    rw [q.2, ofR, if_neg hm, checkE, if_neg hm]⟩
theorem sortParts (h : Hist) (la : Lim 1000 h) (hm : mayB h = true) (s : SV) (k : Nat) (hk : k = h.ts.length) : ACall Tryz.prog 25 [.v s.v] [.row s.v 1 3 ((partsL h.evs k).map intR)] (fun r h' => h' = [.row s.v 1 3 ((upR h.evs.length).map intR)] ∧ r = .v (.tuple #[])) := by
  subst hk
  have := acall_sort sortLays s 3 (partsL h.evs h.ts.length) (by rw [parts_len hm]; have := la.evs; omega)
  rw [parts_sort hm] at this
  exact this
set_option maxHeartbeats 4000000 in
theorem historyParts (x : Hist) (la : Lim 4611686018427387904 x) : ACall Tryz.prog 6 [.agg (histC x)] [.glob 0 68 limitsC, .glob 1 168 firstC, .glob 2 171 acceptC] (fun r h' => h' = [.glob 0 68 limitsC, .glob 1 168 firstC, .glob 2 171 acceptC] ∧ r = bv true) := by
  refine acall_of_aw Tryz.func6 rfl rfl rfl ?_
  refine rn ?_
  refine aops_e rfl (oe_box rfl rfl rfl fun b1 => ?_)
  refine rn ?_
  refine qv rfl rfl (qv_call rfl rfl (FCall.qt (FCall.of_fun wakes) ((pt1 _ _ _).trans (.cons _ ((pt1 _ _ _).trans (.cons _ (pt1 _ _ _))))))) ?_
  refine rn ?_
  refine aw_cond rfl (fun hc17 => ?_) (fun hc17 => ?_)
  · exact absurd hc17 (by decide)
  · refine rn ?_
    refine qv rfl rfl (qv_call rfl rfl (pcall (few x la) (Sbs.refl _))) ?_
    refine aops_e rfl (oe_alloc rfl fun b3 => ?_)
    refine rn ?_
    refine qv rfl rfl (qv_call rfl rfl (FCall.qt (FCall.of_fun (check (fewH x) ((few_lim x).mono (by decide)))) ((pt2 _ _ _ _).trans (.cons _ ((pt2 _ _ _ _).trans (.cons _ (pt2 _ _ _ _))))))) ?_
    refine rn ?_
    refine aw_cond rfl (fun hc22 => ?_) (fun hc22 => ?_)
    · have hc : checkE (fewH x) ≠ 0 := by simpa using hc22
      refine rn ?_
      refine qv rfl rfl (qv_call rfl rfl (FCall.qt (FCall.of_fun (ofBad (fewH x) 0 ((few_lim x).mono (by decide)) hc)) ((pt2 _ _ _ _).trans (.cons _ ((pt2 _ _ _ _).trans (.cons _ (pt2 _ _ _ _))))))) ?_
      refine rn ?_
      refine rq 2 ?_
      exact ⟨rfl, rfl⟩
    · have hc : checkE (fewH x) = 0 := by simpa using hc22
      have hm : mayB (fewH x) = true := check_0.1 hc
      refine rn ?_
      refine aw_rng1 (fewH x).ts.length (fun k s => ⟨[(38, iv k), (6, .v s.v), (3, .v (.pointer (some ⟨b3, 0, none⟩))), (37, iv ((fewH x).ts.map strR).length)], [.row s.v 1 3 ((partsL (fewH x).evs k).map intR), .box b3 28 (histC (fewH x)), .box b1 28 (histC x), .glob 0 68 limitsC, .glob 1 168 firstC, .glob 2 171 acceptC], []⟩) ⟨none, 0, 0⟩ (ent_trans (ent_nilrow 1 3) es) ?_
      intro k s lk
      refine rn ?_
      refine aw_cond rfl (fun hc39 => ?_) (fun hc39 => ?_)
      · have hk := ltMap hc39
        have rk := atRow (f := strR) hk
        have bk := (few_lim x).ts
        have bl : (ofL (k : Int) 0 (fewH x).evs).length ≤ 4611686018427387904 := Nat.le_trans (ofL_len _ _) (Nat.le_trans (few_lim x).evs (by decide))
        have bo : (ofL (k : Int) 0 (fewH x).evs).length ≤ 1000 := Nat.le_trans (ofL_len _ _) (few_lim x).evs
        refine rn ?_
        refine qv rfl rfl (qv_call rfl rfl (FCall.qt (FCall.of_fun (ofT (fewH x) (k : Nat) ((few_lim x).mono (by decide)) hm)) ((pt3 _ _ _ _ _).trans (.cons _ ((pt3 _ _ _ _ _).trans (.cons _ (pt3 _ _ _ _ _))))))) ?_
        refine rn ?_
        refine qv rfl rfl (qv_call rfl rfl (pcall (isSorted (ofL (k : Int) 0 (fewH x).evs) ((ofL_rise _ _).imp fun h => Int.le_of_lt h) bl) (Sbs.refl _))) ?_
        refine rn ?_
        refine aw_cond rfl (fun hc53 => ?_) (fun hc53 => ?_)
        · first | cases hc53 | exact absurd hc53 (by decide) | (exfalso; simp_all; done)
        · refine rn ?_
          refine aw_rng ((ofL (k : Int) 0 (fewH x).evs).length) (fun j : Nat => True) (fun j => [(56, iv j)]) [(3, _), (6, _), (7, _), (8, _), (37, _), (38, _), (54, _), (55, _)] trivial ?_
          intro j lj _
          refine rn ?_
          refine aw_cond rfl (fun hc57 => ?_) (fun hc57 => ?_)
          · have hj := ltMap hc57
            have rj := atRow (f := intR) hj
            obtain ⟨m, hm2, e1, e2⟩ := ofL_mem (List.getElem_mem hj)
            rw [Nat.zero_add] at e1
            have hr : ((fewH x).evs.map evR)[((ofL (k : Int) 0 (fewH x).evs)[j]).toNat]? = some (evR (fewH x).evs[m]) := by rw [e1, Int.toNat_natCast]; exact atRow hm2
            refine aw_skip ?_
            refine thn_n ?_
            refine aw_seq ?_
            refine aw_block ?_
            refine aw_seq (aw_region ?_)
            refine q1 ?_
            refine q1 ?_
            refine q1 ?_
            refine aops_nil (thn_n ?_)
            refine aw_seq (aw_region ?_)
            refine q1 ?_
            refine q1 ?_
            refine q1 ?_
            refine qq rfl rfl (qr_index_int rfl rfl (by rw [e1]; omega) hr) ?_
            refine rn ?_
            refine aw_cond rfl (fun hc67 => ?_) (fun hc67 => ?_)
            · refine rn ?_
              exact absurd hc67 (by simp [e2])
            · refine rn ?_
              exact ⟨hj, trivial, eA⟩
          · have qj := geMap hc57 lj
            refine rn ?_
            refine aops_e rfl (oe_append_row rfl rfl (by simp only [List.length_map]; have := parts_le (fewH x).evs k; have := Nat.mul_le_mul (show k ≤ 1000 by omega) (few_lim x).evs; omega) rfl (fun s71 => ?_) (fun r hr => by obtain ⟨n, _, rfl⟩ := List.mem_map.1 hr; rfl))
            refine aops_slice s71 fun sv hsv => ?_
            subst hsv
            refine rn ?_
            exact ⟨hk, sv, by rw [parts_succ, List.map_append]; exact eA⟩
      · have qk := geMap hc39 lk
        refine rn ?_
        refine aops_e rfl (oe_call rfl rfl (fcall_row0 (FCall.of_fun (sortParts (fewH x) (few_lim x) hm s k qk))) rfl ?_)
        rintro _ _ ⟨rfl, rfl⟩
        refine rn ?_
        refine qv rfl rfl (qv_call rfl rfl (FCall.qt (FCall.of_fun (ofEnd (fewH x) ((few_lim x).mono (by decide)) hm)) ((pt3 _ _ _ _ _).trans (.cons _ ((pt3 _ _ _ _ _).trans (.cons _ (pt3 _ _ _ _ _))))))) ?_
        refine rn ?_
        refine aw_rng ((upR (fewH x).evs.length).length) (fun m : Nat => True) (fun m => [(85, iv m)]) [(3, _), (6, _), (12, _), (13, _), (83, _), (84, _)] trivial ?_
        intro m lm _
        refine rn ?_
        refine aw_cond rfl (fun hc86 => ?_) (fun hc86 => ?_)
        · have hm := ltMap hc86
          have rm := atRow (f := intR) hm
          have hm2 : m < ((upR (fewH x).evs.length).map intR).length := by simpa using hm
          have bm : m < (fewH x).evs.length := by simpa [upR] using hm
          have be := (few_lim x).evs
          refine rn ?_
          refine aw_cond rfl (fun hc92 => ?_) (fun hc92 => ?_)
          · refine rn ?_
            exact absurd hc92 (by simp [upR])
          · refine rn ?_
            exact ⟨hm, trivial, eA⟩
        · have qm := geMap hc86 lm
          refine rn ?_
          refine rq 3 ?_
          exact ⟨rfl, congrArg bv (by simp [upR])⟩
end Go.Proofs
