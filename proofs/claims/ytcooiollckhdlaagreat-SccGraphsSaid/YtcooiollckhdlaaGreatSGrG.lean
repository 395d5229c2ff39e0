/- The abstract logic, part 28: slices.Sort and slices.Compact at []int, as contracts over a row of one's own (the kit's shelf has walked them). Conditions: none (lemmas over any program that has the functions). -/
import Derived.Test.YtcooiollckhdlaaGreatSGrF
import Derived.Shelf.Sort.Plain
import Derived.Shelf.Slices.In.SortNone
import Derived.Shelf.Slices.CompactI
set_option linter.unusedSectionVars false
set_option linter.unusedSimpArgs false
set_option linter.unusedVariables false
set_option linter.unusedVariables false
namespace Go.Ab
open Go Go.Shelf Go.Sort Go.Proofs
def numR (n : Int) : List AV := [.v (.int .i64 n)]
/-- A row of numbers written over, and blocks made beside it. -/
theorem row_over {X : Nat → Prop} {w : World} {a : Addr} {cap : Nat} {T : TypeId} {xs ys zs : List Int} (hh : HRel X w [.row (.slice (some a) xs.length cap) 1 T (xs.map numR)]) (hl : ys.length = xs.length) (hz : zs = ys.take zs.length) (n : Nat) (os : Array Obj) :
    HRel X (grow (putRow (Value.int .i64) (Sort.ahead w n) a.block a.off ys.toArray) os) [.row (.slice (some a) zs.length cap) 1 T (zs.map numR)] ∧
    Keep [a.block] w [a.block] (grow (putRow (Value.int .i64) (Sort.ahead w n) a.block a.off ys.toArray) os) := by
  obtain ⟨h1, h2, h3, h4, c, h5, h6, h7⟩ := hh.holds _ (List.mem_singleton.2 rfl)
  have hb : a.block < w.heap.size := (hh.lt a.block (by simp [owns, Res.own])).1
  have hX : ¬ X a.block := (hh.lt a.block (by simp [owns, Res.own])).2
  obtain ⟨w', hw'⟩ : ∃ w', w' = grow (putRow (Value.int .i64) (Sort.ahead w n) a.block a.off ys.toArray) os := ⟨_, rfl⟩
  rw [← hw']
  have hheap : w'.heap = (w.heap.modify a.block (onCells (putCells (Value.int .i64) a.off ys.toArray))) ++ os := by rw [hw']; rfl
  have hos : EnvS w w' := by rw [hw']; exact ⟨⟨rfl, rfl⟩, rfl, Nat.le_add_right _ _⟩
  have hsize : w.heap.size ≤ w'.heap.size := by rw [hheap]; simp
  have hold : ∀ b, b < w.heap.size → b ≠ a.block → w'.heap[b]? = w.heap[b]? := fun b hb hne => by
    rw [hheap, Array.getElem?_append_left (by simpa using hb), Array.getElem?_modify, if_neg (Ne.symm hne)]
  have hnew : w'.heap[a.block]? = some (.cells (putCells (Value.int .i64) a.off ys.toArray c) T (0, 0)) := by
    rw [hheap, Array.getElem?_append_left (by simpa using hb), Array.getElem?_modify, if_pos rfl, h5]; rfl
  have hlen : zs.length ≤ ys.length := by
    have := congrArg List.length hz
    rw [List.length_take] at this; omega
  refine ⟨⟨by simp [owns, Res.own], fun b hb2 => ?_, fun b hb2 => Nat.lt_of_lt_of_le (hh.xlt b hb2) hsize, fun r hr => ?_⟩, ⟨hsize, fun b hb2 hne => ?_, hos⟩⟩
  · have : b = a.block := by simpa [owns, Res.own] using hb2
    subst this; exact ⟨Nat.lt_of_lt_of_le hb hsize, hX⟩
  · rw [List.mem_singleton] at hr
    subst hr
    refine ⟨h1, by simp, by simp at h2 h3; omega, fun i hi => by simp [numR], _, hnew, by simpa [putCells] using h6, fun i hi j hj => ?_⟩
    have hi2 : i < zs.length := by simpa using hi
    have hj0 : j = 0 := by simp [numR] at hj; omega
    subst hj0
    have hc : a.off + i < c.size := by simp at h2 h3; omega
    refine ⟨.int .i64 (zs[i]), ?_, ?_⟩
    · have hz2 : zs[i] = ys[i]'(by omega) := by
        have : zs[i]? = (ys.take zs.length)[i]? := by rw [← hz]
        rw [List.getElem?_take_of_lt hi2, List.getElem?_eq_getElem hi2, List.getElem?_eq_getElem (by omega)] at this
        exact Option.some.inj this
      have e : a.off + i * 1 + 0 = a.off + i := by omega
      rw [e]
      simp only [putCells, Array.getElem?_mapIdx]
      rw [Array.getElem?_eq_getElem hc]
      simp only [Option.map_some]
      rw [if_pos ⟨by omega, by simp; omega⟩, hz2]
      have e2 : a.off + i - a.off = i := by omega
      rw [e2]
      congr 2
      exact getElem!_pos _ _ (by simp; omega)
    · simp only [List.getElem_map, numR]
      exact .v _
  · have hne2 : b ≠ a.block := by simpa using hne
    exact ⟨hold b hb2 hne2, hne⟩
theorem row_nums {X : Nat → Prop} {w : World} {a : Addr} {cap : Nat} {T : TypeId} {xs : List Int} (hh : HRel X w [.row (.slice (some a) xs.length cap) 1 T (xs.map numR)]) : Holds (Value.int .i64) w a.block a.off xs.toArray ∧ a.block < w.heap.size ∧ xs.length ≤ cap ∧ a.spot = none := by
  obtain ⟨h1, h2, h3, h4, c, h5, h6, h7⟩ := hh.holds _ (List.mem_singleton.2 rfl)
  refine ⟨fun j hj => ?_, (hh.lt a.block (by simp [owns, Res.own])).1, h3, h1⟩
  have hj2 : j < xs.length := by simpa using hj
  obtain ⟨v, e, r⟩ := h7 j (by simpa using hj2) 0 (by simp [numR])
  simp only [List.getElem_map, numR] at r
  have hv : v = .int .i64 xs[j] := r.v_eq
  subst hv
  have e0 : a.off + j * 1 + 0 = a.off + j := by omega
  rw [e0] at e
  refine ⟨?_, ?_⟩
  · have e2 : w.cell? ⟨a.block, a.off + j, none⟩ = some (.int .i64 xs[j]) := by simp [World.cell?, h5, e]
    have e3 : xs.toArray[j]! = xs[j] := getElem!_pos xs.toArray j hj
    rw [e2, e3]
  · simp [World.frozen?, h5]
theorem row_nil {X : Nat → Prop} {w : World} {n cap : Nat} {T : TypeId} {xs : List Int} (hh : HRel X w [.row (.slice none n cap) 1 T (xs.map numR)]) : xs = [] ∧ n = 0 ∧ cap = 0 := by
  obtain ⟨h1, h2, h3⟩ := hh.holds _ (List.mem_singleton.2 rfl)
  exact ⟨by simpa using h1, h2, h3⟩
section
variable {P : Program} {ρ : Ren}
theorem acall_sort (Ly : Lays.n189 P ρ) (s : SV) (T : TypeId) (xs : List Int) (hs : xs.length < 4611686018427387904) :
    ACall P (ρ.f 189) [.v s.v] [.row s.v 1 T (xs.map numR)] (fun r h' => h' = [.row s.v 1 T ((xs.mergeSort fun x y => decide (x ≤ y)).map numR)] ∧ r = .v (.tuple #[])) := by
  intro X w vs hh ha
  match vs, ha with
  | [v], ⟨hv, _⟩ =>
    obtain rfl := hv.v_eq
    obtain ⟨a, n, cap⟩ := s
    cases a with
    | none =>
      obtain ⟨rfl, rfl, rfl⟩ := row_nil hh
      refine callsIn_wide.2 ((Any.slices_Sort_int_none Ly none 0 w).mono ?_)
      rintro e w' ⟨rfl, rfl⟩
      exact ⟨_, _, _, rfl, ⟨rfl, rfl⟩, .v _, by simpa using hh, .refl _ _⟩
    | some a =>
      have hn : n = xs.length := by
        have := (hh.holds _ (List.mem_singleton.2 rfl)).2.1
        simpa using this
      subst hn
      obtain ⟨g1, g2, g3, g4⟩ := row_nums hh
      obtain ⟨b, off, sp⟩ := a
      simp only at g1 g2 g4
      subst g4
      refine callsIn_wide.2 ((Any.slices_Sort_int Ly b off cap xs w g1 g2 hs).mono ?_)
      rintro e w' ⟨rfl, n, os, rfl⟩
      have hlen : (xs.mergeSort fun x y => decide (x ≤ y)).length = xs.length := List.length_mergeSort _
      obtain ⟨k1, k2⟩ := row_over (zs := xs.mergeSort fun x y => decide (x ≤ y)) hh hlen (List.take_length).symm n os
      rw [hlen] at k1
      exact ⟨_, _, _, rfl, ⟨rfl, rfl⟩, .v _, k1, k2⟩
end
end Go.Ab
/- The kit's contract of slices.Sort over this program. Conditions: none. -/
set_option linter.unusedVariables false
namespace Go.Proofs
open Go Go.Ab Go.Shelf
def sortRen : Go.Shelf.Ren := ⟨fun | 125 => 55 | 128 => 86 | 129 => 87 | 189 => 29 | 215 => 96 | 216 => 83 | 257 => 54 | 294 => 77 | 295 => 78 | 296 => 79 | 297 => 80 | 298 => 81 | 299 => 82 | 300 => 84 | 301 => 85 | 328 => 105 | 329 => 106 | 330 => 107 | 331 => 108 | 332 => 109 | 343 => 115 | n => n, fun | 0 => 0 | 3 => 3 | 4 => 4 | 5 => 5 | 9 => 9 | 28 => 27 | 46 => 92 | 51 => 122 | 53 => 74 | 131 => 119 | 182 => 113 | 183 => 114 | 218 => 134 | 222 => 138 | 228 => 145 | 229 => 146 | n => n, fun n => n⟩
theorem sortLays : Lays.n189 Tryz.prog sortRen := {
  mixed := by kernel_rfl
  f125 := Tryz.func55.trans (congrArg some (by kernel_rfl))
  f128 := Tryz.func86.trans (congrArg some (by kernel_rfl))
  f129 := Tryz.func87.trans (congrArg some (by kernel_rfl))
  f189 := Tryz.func29.trans (congrArg some (by kernel_rfl))
  f215 := Tryz.func96.trans (congrArg some (by kernel_rfl))
  f216 := Tryz.func83.trans (congrArg some (by kernel_rfl))
  f257 := Tryz.func54.trans (congrArg some (by kernel_rfl))
  f294 := Tryz.func77.trans (congrArg some (by kernel_rfl))
  f295 := Tryz.func78.trans (congrArg some (by kernel_rfl))
  f296 := Tryz.func79.trans (congrArg some (by kernel_rfl))
  f297 := Tryz.func80.trans (congrArg some (by kernel_rfl))
  f298 := Tryz.func81.trans (congrArg some (by kernel_rfl))
  f299 := Tryz.func82.trans (congrArg some (by kernel_rfl))
  f300 := Tryz.func84.trans (congrArg some (by kernel_rfl))
  f301 := Tryz.func85.trans (congrArg some (by kernel_rfl))
  f328 := Tryz.func105.trans (congrArg some (by kernel_rfl))
  f329 := Tryz.func106.trans (congrArg some (by kernel_rfl))
  f330 := Tryz.func107.trans (congrArg some (by kernel_rfl))
  f331 := Tryz.func108.trans (congrArg some (by kernel_rfl))
  f332 := Tryz.func109.trans (congrArg some (by kernel_rfl))
  f343 := Tryz.func115.trans (congrArg some (by kernel_rfl))
  t0 := Tryz.underlying0
  a0 := Tryz.isAgg0
  z0 := Tryz.sizeOf0
  v0 := Tryz.zeroValue0
  t3 := Tryz.underlying3
  a3 := Tryz.isAgg3
  z3 := Tryz.sizeOf3
  v3 := Tryz.zeroValue3
  t4 := Tryz.underlying4
  a4 := Tryz.isAgg4
  z4 := Tryz.sizeOf4
  v4 := Tryz.zeroValue4
  t5 := Tryz.underlying5
  a5 := Tryz.isAgg5
  z5 := Tryz.sizeOf5
  v5 := Tryz.zeroValue5
  t9 := Tryz.underlying9
  a9 := Tryz.isAgg9
  z9 := Tryz.sizeOf9
  v9 := Tryz.zeroValue9
  t28 := Tryz.underlying27
  a28 := Tryz.isAgg27
  z28 := Tryz.sizeOf27
  v28 := Tryz.zeroValue27
  t46 := Tryz.underlying92
  a46 := Tryz.isAgg92
  z46 := Tryz.sizeOf92
  v46 := Tryz.zeroValue92
  t51 := Tryz.underlying122
  a51 := Tryz.isAgg122
  z51 := Tryz.sizeOf122
  v51 := Tryz.zeroValue122
  t53 := Tryz.underlying74
  a53 := Tryz.isAgg74
  z53 := Tryz.sizeOf74
  v53 := Tryz.zeroValue74
  t131 := Tryz.underlying119
  a131 := Tryz.isAgg119
  z131 := Tryz.sizeOf119
  v131 := Tryz.zeroValue119
  t182 := Tryz.underlying113
  a182 := Tryz.isAgg113
  z182 := Tryz.sizeOf113
  v182 := Tryz.zeroValue113
  t183 := Tryz.underlying114
  a183 := Tryz.isAgg114
  z183 := Tryz.sizeOf114
  v183 := Tryz.zeroValue114
  t218 := Tryz.underlying134
  a218 := Tryz.isAgg134
  z218 := Tryz.sizeOf134
  v218 := Tryz.zeroValue134
  t222 := Tryz.underlying138
  a222 := Tryz.isAgg138
  z222 := Tryz.sizeOf138
  v222 := Tryz.zeroValue138
  t228 := Tryz.underlying145
  a228 := Tryz.isAgg145
  z228 := Tryz.sizeOf145
  v228 := Tryz.zeroValue145
  t229 := Tryz.underlying146
  a229 := Tryz.isAgg146
  z229 := Tryz.sizeOf146
  v229 := Tryz.zeroValue146 }
end Go.Proofs
