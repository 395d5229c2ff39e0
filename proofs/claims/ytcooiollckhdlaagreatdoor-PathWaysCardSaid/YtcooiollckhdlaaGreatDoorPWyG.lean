/- The abstract logic, part 28: slices.Sort and slices.Compact at []int, as contracts over a row of one's own (the kit's shelf has walked them). Conditions: none (lemmas over any program that has the functions). -/
import Derived.Test.YtcooiollckhdlaaGreatDoorPWyF
import Derived.Shelf.Sort.Plain
import Derived.Shelf.Slices.In.SortNone
import Derived.Shelf.Slices.CompactI
import Derived.Shelf.Strconv.Itoa0
set_option linter.unusedSectionVars false
set_option linter.unusedSimpArgs false
set_option linter.unusedVariables false
set_option linter.unusedVariables false
namespace Go.Ab
open Go Go.Shelf Go.Sort Go.Proofs
def numR (n : Int) : List AV := [.v (.int .i64 n)]
/-- A row of numbers written over, and blocks made beside it. -/
theorem row_over {X : Nat → Prop} {w : World} {a : Addr} {cap : Nat} {T : TypeId} {xs ys zs : List Int} (hh : HRel X w [.row (.slice (some a) xs.length cap) 1 T (xs.map numR)]) (hl : ys.length = xs.length) (hz : zs = ys.take zs.length) (n : Nat) (os : Array Obj) :
    HRel X (grow (putRow (Value.int .i64) (Sort.ahead w n) a.block a.off ys.toArray) os) [.row (.slice (some a) zs.length cap) 1 T (zs.map numR)] ∧
    Keep [a.block] w [a.block] (grow (putRow (Value.int .i64) (Sort.ahead w n) a.block a.off ys.toArray) os) := by
  obtain ⟨h1, h2, h3, h4, c, h5, h6, h7⟩ := hh.holds _ (List.mem_singleton.2 rfl)
  have hb : a.block < w.heap.size := (hh.lt a.block (by simp [owns, Res.own])).1
  have hX : ¬ X a.block := (hh.lt a.block (by simp [owns, Res.own])).2
  obtain ⟨w', hw'⟩ : ∃ w', w' = grow (putRow (Value.int .i64) (Sort.ahead w n) a.block a.off ys.toArray) os := ⟨_, rfl⟩
  rw [← hw']
  have hheap : w'.heap = (w.heap.modify a.block (onCells (putCells (Value.int .i64) a.off ys.toArray))) ++ os := by rw [hw']; rfl
  have hos : EnvS w w' := by rw [hw']; exact ⟨⟨rfl, rfl⟩, rfl, Nat.le_add_right _ _⟩
  have hsize : w.heap.size ≤ w'.heap.size := by rw [hheap]; simp
  have hold : ∀ b, b < w.heap.size → b ≠ a.block → w'.heap[b]? = w.heap[b]? := fun b hb hne => by
    rw [hheap, Array.getElem?_append_left (by simpa using hb), Array.getElem?_modify, if_neg (Ne.symm hne)]
  have hnew : w'.heap[a.block]? = some (.cells (putCells (Value.int .i64) a.off ys.toArray c) T (0, 0)) := by
    rw [hheap, Array.getElem?_append_left (by simpa using hb), Array.getElem?_modify, if_pos rfl, h5]; rfl
  have hlen : zs.length ≤ ys.length := by
    have := congrArg List.length hz
    rw [List.length_take] at this; omega
  refine ⟨⟨by simp [owns, Res.own], fun b hb2 => ?_, fun b hb2 => Nat.lt_of_lt_of_le (hh.xlt b hb2) hsize, fun r hr => ?_⟩, ⟨hsize, fun b hb2 hne => ?_, hos⟩⟩
  · have : b = a.block := by simpa [owns, Res.own] using hb2
    subst this; exact ⟨Nat.lt_of_lt_of_le hb hsize, hX⟩
  · rw [List.mem_singleton] at hr
    subst hr
    refine ⟨h1, by simp, by simp at h2 h3; omega, fun i hi => by simp [numR], _, hnew, by simpa [putCells] using h6, fun i hi j hj => ?_⟩
    have hi2 : i < zs.length := by simpa using hi
    have hj0 : j = 0 := by simp [numR] at hj; omega
    subst hj0
    have hc : a.off + i < c.size := by simp at h2 h3; omega
    refine ⟨.int .i64 (zs[i]), ?_, ?_⟩
    · have hz2 : zs[i] = ys[i]'(by omega) := by
        have : zs[i]? = (ys.take zs.length)[i]? := by rw [← hz]
        rw [List.getElem?_take_of_lt hi2, List.getElem?_eq_getElem hi2, List.getElem?_eq_getElem (by omega)] at this
        exact Option.some.inj this
      have e : a.off + i * 1 + 0 = a.off + i := by omega
      rw [e]
      simp only [putCells, Array.getElem?_mapIdx]
      rw [Array.getElem?_eq_getElem hc]
      simp only [Option.map_some]
      rw [if_pos ⟨by omega, by simp; omega⟩, hz2]
      have e2 : a.off + i - a.off = i := by omega
      rw [e2]
      congr 2
      exact getElem!_pos _ _ (by simp; omega)
    · simp only [List.getElem_map, numR]
      exact .v _
  · have hne2 : b ≠ a.block := by simpa using hne
    exact ⟨hold b hb2 hne2, hne⟩
theorem row_nums {X : Nat → Prop} {w : World} {a : Addr} {cap : Nat} {T : TypeId} {xs : List Int} (hh : HRel X w [.row (.slice (some a) xs.length cap) 1 T (xs.map numR)]) : Holds (Value.int .i64) w a.block a.off xs.toArray ∧ a.block < w.heap.size ∧ xs.length ≤ cap ∧ a.spot = none := by
  obtain ⟨h1, h2, h3, h4, c, h5, h6, h7⟩ := hh.holds _ (List.mem_singleton.2 rfl)
  refine ⟨fun j hj => ?_, (hh.lt a.block (by simp [owns, Res.own])).1, h3, h1⟩
  have hj2 : j < xs.length := by simpa using hj
  obtain ⟨v, e, r⟩ := h7 j (by simpa using hj2) 0 (by simp [numR])
  simp only [List.getElem_map, numR] at r
  have hv : v = .int .i64 xs[j] := r.v_eq
  subst hv
  have e0 : a.off + j * 1 + 0 = a.off + j := by omega
  rw [e0] at e
  refine ⟨?_, ?_⟩
  · have e2 : w.cell? ⟨a.block, a.off + j, none⟩ = some (.int .i64 xs[j]) := by simp [World.cell?, h5, e]
    have e3 : xs.toArray[j]! = xs[j] := getElem!_pos xs.toArray j hj
    rw [e2, e3]
  · simp [World.frozen?, h5]
theorem row_nil {X : Nat → Prop} {w : World} {n cap : Nat} {T : TypeId} {xs : List Int} (hh : HRel X w [.row (.slice none n cap) 1 T (xs.map numR)]) : xs = [] ∧ n = 0 ∧ cap = 0 := by
  obtain ⟨h1, h2, h3⟩ := hh.holds _ (List.mem_singleton.2 rfl)
  exact ⟨by simpa using h1, h2, h3⟩
section
variable {P : Program} {ρ : Ren}
theorem acall_sort (Ly : Lays.n189 P ρ) (s : SV) (T : TypeId) (xs : List Int) (hs : xs.length < 4611686018427387904) :
    ACall P (ρ.f 189) [.v s.v] [.row s.v 1 T (xs.map numR)] (fun r h' => h' = [.row s.v 1 T ((xs.mergeSort fun x y => decide (x ≤ y)).map numR)] ∧ r = .v (.tuple #[])) := by
  intro X w vs hh ha
  match vs, ha with
  | [v], ⟨hv, _⟩ =>
    obtain rfl := hv.v_eq
    obtain ⟨a, n, cap⟩ := s
    cases a with
    | none =>
      obtain ⟨rfl, rfl, rfl⟩ := row_nil hh
      refine callsIn_wide.2 ((Any.slices_Sort_int_none Ly none 0 w).mono ?_)
      rintro e w' ⟨rfl, rfl⟩
      exact ⟨_, _, _, rfl, ⟨rfl, rfl⟩, .v _, by simpa using hh, .refl _ _⟩
    | some a =>
      have hn : n = xs.length := by
        have := (hh.holds _ (List.mem_singleton.2 rfl)).2.1
        simpa using this
      subst hn
      obtain ⟨g1, g2, g3, g4⟩ := row_nums hh
      obtain ⟨b, off, sp⟩ := a
      simp only at g1 g2 g4
      subst g4
      refine callsIn_wide.2 ((Any.slices_Sort_int Ly b off cap xs w g1 g2 hs).mono ?_)
      rintro e w' ⟨rfl, n, os, rfl⟩
      have hlen : (xs.mergeSort fun x y => decide (x ≤ y)).length = xs.length := List.length_mergeSort _
      obtain ⟨k1, k2⟩ := row_over (zs := xs.mergeSort fun x y => decide (x ≤ y)) hh hlen (List.take_length).symm n os
      rw [hlen] at k1
      exact ⟨_, _, _, rfl, ⟨rfl, rfl⟩, .v _, k1, k2⟩
end
end Go.Ab
/- The kit's contract of slices.Sort over this program. Conditions: none. -/
set_option linter.unusedVariables false
namespace Go.Proofs
open Go Go.Ab Go.Shelf
def sortRen : Go.Shelf.Ren := ⟨fun | 125 => 107 | 128 => 121 | 129 => 110 | 189 => 83 | 215 => 94 | 216 => 118 | 257 => 106 | 294 => 112 | 295 => 113 | 296 => 114 | 297 => 115 | 298 => 116 | 299 => 117 | 300 => 119 | 301 => 120 | 328 => 130 | 329 => 131 | 330 => 132 | 331 => 133 | 332 => 134 | 343 => 138 | n => n, fun | 0 => 0 | 3 => 3 | 4 => 4 | 5 => 5 | 9 => 9 | 28 => 30 | 46 => 108 | 51 => 126 | 53 => 105 | 131 => 81 | 182 => 152 | 183 => 153 | 218 => 165 | 222 => 169 | 228 => 173 | 229 => 174 | n => n, fun n => n⟩
theorem sortLays : Lays.n189 Tryz.prog sortRen := {
  mixed := by kernel_rfl
  f125 := Tryz.func107.trans (congrArg some (by kernel_rfl))
  f128 := Tryz.func121.trans (congrArg some (by kernel_rfl))
  f129 := Tryz.func110.trans (congrArg some (by kernel_rfl))
  f189 := Tryz.func83.trans (congrArg some (by kernel_rfl))
  f215 := Tryz.func94.trans (congrArg some (by kernel_rfl))
  f216 := Tryz.func118.trans (congrArg some (by kernel_rfl))
  f257 := Tryz.func106.trans (congrArg some (by kernel_rfl))
  f294 := Tryz.func112.trans (congrArg some (by kernel_rfl))
  f295 := Tryz.func113.trans (congrArg some (by kernel_rfl))
  f296 := Tryz.func114.trans (congrArg some (by kernel_rfl))
  f297 := Tryz.func115.trans (congrArg some (by kernel_rfl))
  f298 := Tryz.func116.trans (congrArg some (by kernel_rfl))
  f299 := Tryz.func117.trans (congrArg some (by kernel_rfl))
  f300 := Tryz.func119.trans (congrArg some (by kernel_rfl))
  f301 := Tryz.func120.trans (congrArg some (by kernel_rfl))
  f328 := Tryz.func130.trans (congrArg some (by kernel_rfl))
  f329 := Tryz.func131.trans (congrArg some (by kernel_rfl))
  f330 := Tryz.func132.trans (congrArg some (by kernel_rfl))
  f331 := Tryz.func133.trans (congrArg some (by kernel_rfl))
  f332 := Tryz.func134.trans (congrArg some (by kernel_rfl))
  f343 := Tryz.func138.trans (congrArg some (by kernel_rfl))
  t0 := Tryz.underlying0
  a0 := Tryz.isAgg0
  z0 := Tryz.sizeOf0
  v0 := Tryz.zeroValue0
  t3 := Tryz.underlying3
  a3 := Tryz.isAgg3
  z3 := Tryz.sizeOf3
  v3 := Tryz.zeroValue3
  t4 := Tryz.underlying4
  a4 := Tryz.isAgg4
  z4 := Tryz.sizeOf4
  v4 := Tryz.zeroValue4
  t5 := Tryz.underlying5
  a5 := Tryz.isAgg5
  z5 := Tryz.sizeOf5
  v5 := Tryz.zeroValue5
  t9 := Tryz.underlying9
  a9 := Tryz.isAgg9
  z9 := Tryz.sizeOf9
  v9 := Tryz.zeroValue9
  t28 := Tryz.underlying30
  a28 := Tryz.isAgg30
  z28 := Tryz.sizeOf30
  v28 := Tryz.zeroValue30
  t46 := Tryz.underlying108
  a46 := Tryz.isAgg108
  z46 := Tryz.sizeOf108
  v46 := Tryz.zeroValue108
  t51 := Tryz.underlying126
  a51 := Tryz.isAgg126
  z51 := Tryz.sizeOf126
  v51 := Tryz.zeroValue126
  t53 := Tryz.underlying105
  a53 := Tryz.isAgg105
  z53 := Tryz.sizeOf105
  v53 := Tryz.zeroValue105
  t131 := Tryz.underlying81
  a131 := Tryz.isAgg81
  z131 := Tryz.sizeOf81
  v131 := Tryz.zeroValue81
  t182 := Tryz.underlying152
  a182 := Tryz.isAgg152
  z182 := Tryz.sizeOf152
  v182 := Tryz.zeroValue152
  t183 := Tryz.underlying153
  a183 := Tryz.isAgg153
  z183 := Tryz.sizeOf153
  v183 := Tryz.zeroValue153
  t218 := Tryz.underlying165
  a218 := Tryz.isAgg165
  z218 := Tryz.sizeOf165
  v218 := Tryz.zeroValue165
  t222 := Tryz.underlying169
  a222 := Tryz.isAgg169
  z222 := Tryz.sizeOf169
  v222 := Tryz.zeroValue169
  t228 := Tryz.underlying173
  a228 := Tryz.isAgg173
  z228 := Tryz.sizeOf173
  v228 := Tryz.zeroValue173
  t229 := Tryz.underlying174
  a229 := Tryz.isAgg174
  z229 := Tryz.sizeOf174
  v229 := Tryz.zeroValue174 }
end Go.Proofs
/- The walks of bits' Check, of, Count, Of. Conditions: none. -/
set_option linter.unusedVariables false
set_option linter.unusedSimpArgs false
set_option maxRecDepth 10000
namespace Go.Proofs
open Go Go.Ab
attribute [local irreducible] QR QV OE aops aw dsoup dsoupM dalloc dallocM thn inBlk jsoup jch lsoup
open Go.H
theorem bl_le (x : Nat) (hx : x < 18446744073709551616) : Lib.bitLen x ≤ 64 := Lib.bitLen_le x 64 (by omega) (by omega)
theorem len64 (x : Nat) (hx : x < 18446744073709551616) : ACall Tryz.prog 110 [.v (.int .u64 (x : Int))] [] (fun r h' => h' = [] ∧ r = iv (Lib.bitLen x : Nat)) := by
  intro X w vs hh ha
  match vs, ha with
  | [v], ⟨hv, _⟩ =>
    obtain rfl := hv.v_eq
    refine callsIn_wide.2 ((Any.bits_Len64 (P := Tryz.prog) (ρ := sortRen) { sortLays with } x w (by omega) (by omega)).mono ?_)
    rintro e w' ⟨rfl, rfl⟩
    exact ⟨_, _, _, rfl, ⟨rfl, rfl⟩, .v _, hh, .refl _ _⟩
set_option maxHeartbeats 2000000 in
theorem bCheck (l : List Nat) (hm : ∀ x ∈ l, x < 640) : ACall Tryz.prog 93 [.agg [wordsA (wordsL l)]] [] (fun r h' => h' = [] ∧ r = iv 0) := by
  refine acall_of_aw Tryz.func93 rfl rfl rfl ?_
  have hl := len_640 hm
  refine rn ?_
  refine aops_e rfl (oe_box rfl rfl rfl fun b1 => ?_)
  refine q1 ?_
  refine aops_nil (thn_n ?_)
  refine aw_seq (aw_region ?_)
  refine q1 ?_
  refine q1 ?_
  refine qq rfl rfl (qr_as (qr_len_list rfl) (show iv _ = iv (lenW l : Nat) from congrArg iv (by rw [wrdsA_len, wordsL_len]))) ?_
  refine rn ?_
  refine aw_cond rfl (fun hc9 => ?_) (fun hc9 => ?_)
  · refine rn ?_
    refine rq 1 ?_
    exact ⟨rfl, rfl⟩
  · have h0 : 0 < lenW l := by have q := hc9; simp at q; omega
    have hw := words_last h0
    have hb := bl_le _ (wrd_lt l (lenW l - 1))
    refine aw_skip ?_
    refine thn_n ?_
    refine aw_seq (aw_region ?_)
    refine q1 ?_
    refine q1 ?_
    refine q1 ?_
    refine qq rfl rfl (qr_as (qr_ari rfl rfl rfl (by omega)) (show iv _ = iv ((lenW l - 1 : Nat) : Int) from congrArg iv (by omega))) ?_
    refine qq rfl rfl (qr_index_list (i := lenW l - 1) rfl rfl (wF_at (by omega))) ?_
    refine q1 ?_
    refine q1 ?_
    refine aops_nil (thn_n ?_)
    refine aw_seq ?_
    refine aw_seq (aw_region ?_)
    refine q1 ?_
    refine qq rfl rfl (qr_cmp (c := false) rfl rfl (congrArg some (by simp; omega))) ?_
    refine q1 ?_
    refine q1 ?_
    refine qq rfl rfl (qr_cmp (c := false) rfl rfl (congrArg some (by simp; omega))) ?_
    refine q1 ?_
    refine q1 ?_
    refine q1 ?_
    refine qq rfl rfl (qr_as (qr_ari rfl rfl rfl (by omega)) (show iv _ = iv ((lenW l - 1 : Nat) : Int) from congrArg iv (by omega))) ?_
    refine rn ?_
    refine qv rfl rfl (qv_call rfl rfl (pcall (len64 _ (wrd_lt l _)) (Sbs.refl _))) ?_
    refine q1 ?_
    refine qq rfl rfl (qr_cmp (c := false) rfl rfl (congrArg some (by simp; omega))) ?_
    refine rn ?_
    refine aw_cond rfl (fun hc30 => ?_) (fun hc30 => ?_)
    · first | cases hc30 | exact absurd hc30 (by decide) | (exfalso; simp_all; done)
    · refine rn ?_
      refine rq 1 ?_
      exact ⟨rfl, rfl⟩
theorem bOf0 (l : List Nat) (hm : ∀ x ∈ l, x < 640) : ACall Tryz.prog 71 [.agg [wordsA (wordsL l)]] [] (fun r h' => h' = [] ∧ r = wordsA (wordsL l)) := by
  refine acall_of_aw Tryz.func71 rfl rfl rfl ?_
  refine rn ?_
  refine aops_e rfl (oe_box rfl rfl rfl fun b1 => ?_)
  refine rn ?_
  refine qv rfl rfl (qv_call rfl rfl (pcall (bCheck l hm) (Sbs.refl _))) ?_
  refine rn ?_
  refine aw_cond rfl (fun hc5 => ?_) (fun hc5 => ?_)
  · exact absurd hc5 (by decide)
  · refine rn ?_
    refine rq 1 ?_
    exact ⟨rfl, rfl⟩
set_option maxHeartbeats 2000000 in
theorem bOf {f : Bool} (l : List Nat) (hm : ∀ x ∈ l, x < 640) (hl : l.length ≤ 4611686018427387904) : ACall Tryz.prog 67 [.list f 1 (l.map natR)] [] (fun r h' => h' = [] ∧ r = .tup [.agg [wordsA (wordsL l)], iv 0]) := by
  refine acall_of_aw Tryz.func67 rfl rfl rfl ?_
  refine rn ?_
  refine aops_e rfl (oe_alloc rfl fun b2 => ?_)
  refine rn ?_
  refine aw_range l.length (fun _ => True) (fun k => ⟨[(9, iv k), (4, wordsA (wordsL (l.take k))), (2, .v (.pointer (some ⟨b2, 0, none⟩))), (7, .list f 1 (l.map natR)), (8, iv (l.map natR).length)], [.box b2 78 [.v (.slice none 0 0)]], []⟩) trivial (ent_sb (by repeat (first | exact .nil | refine .cons _ _ _ _ rfl (.refl _) ?_ | refine .cons _ _ _ _ rfl (Sb.nil _ _) ?_))) ?_
  intro k lk _
  refine rn ?_
  refine aw_cond rfl (fun hc10 => ?_) (fun hc10 => ?_)
  · have hk := ltMap hc10
    have rk := atRow (f := natR) hk
    have hlk := hm l[k] (List.getElem_mem hk)
    have hln := len_640 (l := l.take k) (fun x hx => hm x (List.mem_of_mem_take hx))
    refine rn ?_
    refine qv rfl rfl (qv_call rfl rfl (pcall (bMay _) (Sbs.refl _))) ?_
    refine rn ?_
    refine aw_cond rfl (fun hc15 => ?_) (fun hc15 => ?_)
    · exfalso
      have q := hc15
      simp at q
      omega
    · refine rn ?_
      refine qv rfl rfl (qv_call rfl rfl (pcall (bTurned (f := false) (l.take k) l[k] (by omega) (by omega)) (Sbs.refl _))) ?_
      refine rn ?_
      exact ⟨hk, trivial, by rw [List.take_succ_eq_append_getElem hk]; exact eA⟩
  · have qk := geMap hc10 lk
    refine aw_exit ?_
    refine rn0 ?_
    refine aw_seq ?_
    rw [qk, List.take_length]
    refine rn ?_
    refine qv rfl rfl (qv_call rfl rfl (pcall (bMade (f := false) l (by have := len_640 hm; omega)) (Sbs.refl _))) ?_
    refine rn ?_
    exact retq (.cons _ _ _ _ (.agg _ _ _ _ _ _ _ rfl inferInstance inferInstance inferInstance rfl) (.cons _ _ _ _ (.tmp _ _ rfl) .nil)) (.drop [_] _ _) ⟨rfl, rfl⟩
end Go.Proofs
/- The walks of math/bits.TrailingZeros64, bits' numbers, Next. Conditions: none. -/
set_option linter.unusedVariables false
set_option linter.unusedSimpArgs false
set_option maxRecDepth 10000
namespace Go.Proofs
open Go Go.Ab
attribute [local irreducible] QR QV OE aops aw dsoup dsoupM dalloc dallocM thn inBlk jsoup jch lsoup
open Go.H
theorem wrd_at {l : List Nat} {i : Nat} (hi : i < lenW l) : (wrdsA (wordsL l))[i]? = some [AV.v (.int .u64 ((wrdL l i : Nat) : Int))] := by
  unfold wrdsA wordsL; rw [List.getElem?_map, wordsF_at hi]; rfl
theorem below_end {l : List Nat} {f : Nat} (h : BelW l f (64 * lenW l)) : ∀ d ∈ l, d < f := fun d hd => h d hd (by have := lenW_mem hd; omega)
def nxI : Option Nat → Int
  | none => 0
  | some d => (d : Int)
set_option maxHeartbeats 1000000 in
theorem tz64 (w : Nat) (h0 : w ≠ 0) (hw : w < 18446744073709551616) : ACall Tryz.prog 92 [.v (.int .u64 ((w : Nat) : Int))] (.glob 0 147 tabC :: []) (fun r h' => h' = .glob 0 147 tabC :: [] ∧ r = iv ((Lib.ctz 64 w : Nat) : Int)) := by
  refine acall_of_aw Tryz.func92 rfl rfl rfl ?_
  obtain ⟨hlow, hk⟩ := Lib.lowest_bit 64 w h0 hw
  refine rn ?_
  refine aw_cond rfl (fun hc4 => ?_) (fun hc4 => ?_)
  · exact absurd (beq_iff_eq.1 hc4) (by omega)
  · refine aw_skip ?_
    refine thn_n ?_
    refine aw_seq (aw_region ?_)
    refine q1 ?_
    refine q1 ?_
    refine qq rfl rfl (qr_negU (a := w) rfl (Nat.pos_of_ne_zero h0) hw) ?_
    refine qq rfl rfl (qr_as (qr_bits rfl rfl (u_and (b := 18446744073709551616 - w) hw (by omega))) (show AV.v (.int .u64 _) = .v (.int .u64 ((2 ^ Lib.ctz 64 w : Nat) : Int)) from by rw [show w &&& (18446744073709551616 - w) = 2 ^ Lib.ctz 64 w from hlow])) ?_
    refine qq rfl rfl (qr_bits rfl rfl (u_mul (2 ^ Lib.ctz 64 w) 285870213051353865)) ?_
    refine qq rfl rfl (qr_shift rfl rfl (u_shr _ (k := 58) (by decide)) (by decide)) ?_
    refine qq rfl rfl (qr_indexAddr_arr rfl rfl (tabC_at hk).1) ?_
    refine qq rfl rfl (qr_load_one rfl (tabC_at hk).2) ?_
    refine qq rfl rfl (qr_as (qr_convert rfl rfl) (show AV.v (.int .i64 (IntKind.i64.wrap ((Lib.ctz 64 w : Nat) : Int))) = iv ((Lib.ctz 64 w : Nat) : Int) from by rw [wrap_i (by omega) (by omega)])) ?_
    refine rn ?_
    refine rq 0 ?_
    exact ⟨rfl, rfl⟩
theorem bNumbers (l : List Nat) (W : List Res) : ACall Tryz.prog 70 [wordsA (wordsL l)] W (fun r h' => ∃ bw, h' = .box bw 76 [wordsA (wordsL l)] :: W ∧ r = .fn (.func 91) [] [.v (.pointer (some ⟨bw, 0, none⟩))]) := by
  refine acall_of_aw Tryz.func70 rfl rfl rfl ?_
  refine rn ?_
  refine aops_e rfl (oe_box rfl rfl rfl fun b1 => ?_)
  refine rn ?_
  exact retq (.cons _ _ _ _ (.tmp _ _ rfl) .nil) (.refl _ _) ⟨_, rfl, rfl⟩
set_option maxHeartbeats 2000000 in
theorem bNumbers1 (l : List Nat) (hm : ∀ x ∈ l, x < 640) (f : Nat) (y : AV) (bw : Nat) (I0 : List Res) (I1 : Nat → List Res) (hy : ∀ d : Nat, d ∈ l → FCall Tryz.prog y [iv (d : Int)] I0 (fun r h' => (d < f ∧ r = bv true ∧ h' = I0) ∨ (f ≤ d ∧ r = bv false ∧ h' = I1 d))) : ACall Tryz.prog 91 [y, .v (.pointer (some ⟨bw, 0, none⟩))] (.box bw 76 [wordsA (wordsL l)] :: .glob 0 147 tabC :: I0) (fun r h' => ((∀ d ∈ l, d < f) ∧ h' = .box bw 76 [wordsA (wordsL l)] :: .glob 0 147 tabC :: I0) ∨ (∃ d, d ∈ l ∧ f ≤ d ∧ BelW l f d ∧ h' = .box bw 76 [wordsA (wordsL l)] :: .glob 0 147 tabC :: I1 d)) := by
  refine acall_of_aw Tryz.func91 rfl rfl rfl ?_
  have hlw := len_640 hm
  refine aw_seq (aw_region ?_)
  refine q1 ?_
  refine qq rfl rfl (qr_as (qr_len_list rfl) (show iv _ = iv ((lenW l : Nat) : Int) from congrArg iv (by rw [wrdsA_len, wordsL_len]))) ?_
  refine rn ?_
  refine aw_range (lenW l) (fun i => BelW l f (64 * i)) (fun i => ⟨[(7, iv i), (0, y), (5, wordsA (wordsL l)), (6, iv (lenW l : Nat))], .box bw 76 [wordsA (wordsL l)] :: .glob 0 147 tabC :: I0, []⟩) (fun d _ q => absurd q (Nat.not_lt_zero _)) es ?_
  intro i li zi
  refine rn ?_
  refine aw_cond rfl (fun hc8 => ?_) (fun hc8 => ?_)
  · have hki : i < lenW l := by have q := of_decide_eq_true hc8; omega
    refine aw_skip ?_
    refine thn_n ?_
    refine aw_seq ?_
    refine aw_block ?_
    refine aw_seq (aw_region ?_)
    refine q1 ?_
    refine qq rfl rfl (qr_index_list (i := i) rfl rfl (wrd_at hki)) ?_
    refine rn ?_
    refine aw_while (fun z : Nat × Nat => RestW l i z.1 z.2 ∧ BelW l f (64 * i + z.1) ∧ z.1 ≤ 64) (fun z => ⟨[(4, .v (.int .u64 ((z.2 : Nat) : Int))), (0, y), (3, iv i), (5, wordsA (wordsL l)), (6, iv (lenW l : Nat)), (7, iv i)], .box bw 76 [wordsA (wordsL l)] :: .glob 0 147 tabC :: I0, []⟩) (fun z => z.2) (0, wrdL l i) ⟨.start l i, zi, Nat.zero_le _⟩ es ?_
    rintro ⟨b, w⟩ hz
    simp only at hz
    show aw _ _ _ _ _ ⟨[(4, .v (.int .u64 ((w : Nat) : Int))), (0, y), (3, iv i), (5, wordsA (wordsL l)), (6, iv (lenW l : Nat)), (7, iv i)], .box bw 76 [wordsA (wordsL l)] :: .glob 0 147 tabC :: I0, []⟩
    refine rn ?_
    refine aw_cond rfl (fun hc13 => ?_) (fun hc13 => ?_)
    · have hw0 : w ≠ 0 := by have q := hc13; intro e; rw [e] at q; cases q
      obtain ⟨hk64, hbk, hin, hno, hrest, hlt⟩ := hz.1.hit hw0
      have hwb := hz.1.1
      have hd := hm _ hin
      refine aw_skip ?_
      refine thn_n ?_
      refine aw_block ?_
      refine aw_seq ?_
      refine aw_seq (aw_region ?_)
      refine q1 ?_
      refine q1 ?_
      refine qq rfl rfl (qr_as (qr_ari rfl rfl rfl (by omega)) (show iv _ = iv ((64 * i : Nat) : Int) from congrArg iv (by omega))) ?_
      refine rn ?_
      refine qv rfl rfl (qv_call rfl rfl (FCall.qt (FCall.of_fun (tz64 w hw0 hwb)) (List.Perm.swap _ _ _))) ?_
      refine qq rfl rfl (qr_as (qr_ari rfl rfl rfl (by omega)) (show iv _ = iv ((64 * i + Lib.ctz 64 w : Nat) : Int) from congrArg iv (by omega))) ?_
      refine aops_e rfl (oe_call rfl rfl (FCall.fr2 (hy _ hin)) rfl ?_)
      rintro _ _ ⟨_, rfl, ⟨hlf, rfl, rfl⟩ | ⟨hgf, rfl, rfl⟩⟩
      rotate_left
      rotate_left
      · refine rn ?_
        refine aw_cond rfl (fun hc21 => ?_) (fun hc21 => ?_)
        · first | cases hc21 | exact absurd hc21 (by decide) | (exfalso; simp_all; done)
        · refine aw_skip ?_
          refine thn_n ?_
          refine aw_region ?_
          refine q1 ?_
          refine q1 ?_
          refine qq rfl rfl (qr_bits rfl rfl (u_sub1 (Nat.pos_of_ne_zero hw0) hwb)) ?_
          refine qq rfl rfl (qr_bits rfl rfl (u_and (b := w - 1) hwb (by omega))) ?_
          refine rn ?_
          exact ⟨(Lib.ctz 64 w + 1, w &&& (w - 1)), ⟨hrest, (fun d hdl h2 => by
            rcases Nat.lt_or_ge d (64 * i + b) with w1 | w1
            · exact hz.2.1 d hdl w1
            · obtain ⟨j, rfl⟩ : ∃ j, d = 64 * i + j := ⟨d - 64 * i, by omega⟩
              rcases Nat.lt_or_ge j (Lib.ctz 64 w) with w2 | w2
              · exact absurd hdl (hno j (by omega) w2)
              · obtain rfl : j = Lib.ctz 64 w := by simp only at h2; omega
                exact hlf), hk64⟩, eA, hlt⟩
      · refine rn ?_
        refine aw_cond rfl (fun hc21 => ?_) (fun hc21 => ?_)
        · refine rn ?_
          exact retq .nil (.refl _ _) (.inr ⟨_, hin, hgf, (fun e he h2 => by
            rcases Nat.lt_or_ge e (64 * i + b) with w1 | w1
            · exact hz.2.1 e he w1
            · obtain ⟨j, rfl⟩ : ∃ j, e = 64 * i + j := ⟨e - 64 * i, by omega⟩
              exact absurd he (hno j (by omega) (by omega))), rfl⟩)
        · first | cases hc21 | exact absurd hc21 (by decide) | (exfalso; simp_all; done)
    · have hw0 : w = 0 := by have q := hc13; simp at q; omega
      have hdn := hz.1.done hw0
      refine rn ?_
      exact ⟨hki, (show BelW l f (64 * (i + 1)) from hz.2.1.up fun d h1 h2 q => by obtain ⟨j, rfl⟩ : ∃ j, d = 64 * i + j := ⟨d - 64 * i, by omega⟩; exact hdn j (by omega) (by omega) q), eA⟩
  · have qi : i = lenW l := by have q := of_decide_eq_false hc8; omega
    refine rn ?_
    exact retq_n .nil (.refl _ _) (.inl ⟨below_end (qi ▸ zi), rfl⟩)
set_option maxHeartbeats 2000000 in
theorem bNext (l : List Nat) (hm : ∀ x ∈ l, x < 640) (f : Nat) : ACall Tryz.prog 47 [.agg [wordsA (wordsL l)], iv (f : Int)] (.glob 0 147 tabC :: []) (fun r h' => h' = .glob 0 147 tabC :: [] ∧ r = .tup [iv (nxI (nxO l f)), bv (nxO l f).isSome]) := by
  refine acall_of_aw Tryz.func47 rfl rfl rfl ?_
  refine rn ?_
  refine aops_e rfl (oe_box rfl rfl rfl fun b2 => ?_)
  refine aops_e rfl (oe_box rfl rfl rfl fun b3 => ?_)
  refine rn ?_
  refine aw_scope ?_
  refine rn ?_
  refine aops_e rfl (oe_alloc rfl fun b6 => ?_)
  refine aops_e rfl (oe_alloc rfl fun b7 => ?_)
  refine rn ?_
  refine qv rfl rfl (qv_call rfl rfl (pcall (bOf0 l hm) (Sbs.refl _))) ?_
  refine aops_e rfl (oe_call rfl rfl (FCall.of_fun (bNumbers l _)) rfl ?_)
  rintro _ _ ⟨bw, rfl, rfl⟩
  refine rn ?_
  refine aw_ent (s' := ⟨[(11, .fn (.func 91) [] [.v (.pointer (some ⟨bw, 0, none⟩))]), (6, .v (.pointer (some ⟨b6, 0, none⟩))), (7, .v (.pointer (some ⟨b7, 0, none⟩))), (3, .v (.pointer (some ⟨b3, 0, none⟩)))], .box bw 76 [wordsA (wordsL l)] :: .glob 0 147 tabC :: .box b7 4 [bv false] :: .box b6 3 [iv 0] :: .box b3 3 [iv (f : Nat)] :: .box b2 78 [wordsA (wordsL l)] :: [], []⟩) (ent_trans (ent_perm (.cons _ (pt4 _ _ _ _ _ _))) es) ?_
  refine aw_rf (fun pend h'' => (pend = none ∧ (∀ d ∈ l, d < f) ∧ h'' = .box bw 76 [wordsA (wordsL l)] :: .glob 0 147 tabC :: .box b7 4 [bv false] :: .box b6 3 [iv 0] :: .box b3 3 [iv (f : Nat)] :: .box b2 78 [wordsA (wordsL l)] :: []) ∨ (∃ d : Nat, pend = some (.exit 0) ∧ d ∈ l ∧ f ≤ d ∧ BelW l f d ∧ h'' = .box bw 76 [wordsA (wordsL l)] :: .glob 0 147 tabC :: .box b7 4 [bv true] :: .box b6 3 [iv ((d : Nat) : Int)] :: .box b3 3 [iv (f : Nat)] :: .box b2 78 [wordsA (wordsL l)] :: [])) rfl (fun fn lo q lp hlp => ?_) (fun q h'' hK => ?_) (fun q h'' cc hK => ?_)
  · suffices hy : ∀ d : Nat, d ∈ l → FCall Tryz.prog (yv lo) [iv (d : Int)] (lp .ready none :: .defs q :: .box b7 4 [bv false] :: .box b6 3 [iv 0] :: .box b3 3 [iv (f : Nat)] :: .box b2 78 [wordsA (wordsL l)] :: []) (fun r h' => (d < f ∧ r = bv true ∧ h' = lp .ready none :: .defs q :: .box b7 4 [bv false] :: .box b6 3 [iv 0] :: .box b3 3 [iv (f : Nat)] :: .box b2 78 [wordsA (wordsL l)] :: []) ∨ (f ≤ d ∧ r = bv false ∧ h' = lp .done (some (.exit 0)) :: .defs q :: .box b7 4 [bv true] :: .box b6 3 [iv ((d : Nat) : Int)] :: .box b3 3 [iv (f : Nat)] :: .box b2 78 [wordsA (wordsL l)] :: [])) by
      refine ACall.mono (ACall.perm ((pt2 _ _ _ _).trans (.cons _ (pt2 _ _ _ _))) (bNumbers1 l hm f (yv lo) bw (lp .ready none :: .defs q :: .box b7 4 [bv false] :: .box b6 3 [iv 0] :: .box b3 3 [iv (f : Nat)] :: .box b2 78 [wordsA (wordsL l)] :: []) (fun d => lp .done (some (.exit 0)) :: .defs q :: .box b7 4 [bv true] :: .box b6 3 [iv ((d : Nat) : Int)] :: .box b3 3 [iv (f : Nat)] :: .box b2 78 [wordsA (wordsL l)] :: []) hy)) ?_
      rintro _ _ (⟨hall, rfl⟩ | ⟨d, h1, h2, h3, rfl⟩)
      · exact ⟨none, .ready, _, ((pt2 _ _ _ _).trans (.cons _ (pt2 _ _ _ _))), by simp, .inl ⟨rfl, hall, rfl⟩⟩
      · exact ⟨some (.exit 0), .done, _, ((pt2 _ _ _ _).trans (.cons _ (pt2 _ _ _ _))), by simp, .inr ⟨d, rfl, h1, h2, h3, rfl⟩⟩
    intro d hd
    refine fcall_yl hlp rfl rfl ?_
    refine rn ?_
    refine ⟨[(8, iv (d : Int)), (6, .v (.pointer (some ⟨b6, 0, none⟩))), (7, .v (.pointer (some ⟨b7, 0, none⟩))), (3, .v (.pointer (some ⟨b3, 0, none⟩)))], es, ?_⟩
    refine rn ?_
    refine aw_cond rfl (fun hc15 => ?_) (fun hc15 => ?_)
    · refine rn ?_
      exact round_e (.refl _) (.inr ⟨by have q9 := of_decide_eq_true hc15; omega, rfl, rfl⟩)
    · refine rn ?_
      exact round_n (.refl _) (.inl ⟨by have q9 := of_decide_eq_false hc15; omega, rfl, rfl⟩)
  · obtain ⟨_, hall, rfl⟩ | ⟨d, hc, _⟩ := hK
    rotate_left
    exact absurd hc (by simp)
    have hnx := nxO_none hall
    refine rn ?_
    refine aw_draw 3 rfl ?_
    refine rn ?_
    refine ⟨fun l h => (by cases h), ?_⟩
    exact retqd (.refl _) (.cons _ _ _ _ (.tmp _ _ rfl) (.cons _ _ _ _ (.tmp _ _ rfl) .nil)) (.trans (.perm (.cons _ ((pt1 _ _ _).trans (.cons _ ((pt1 _ _ _).trans (.cons _ ((pt1 _ _ _).trans (.cons _ (pt1 _ _ _)))))))) _) (.drop [_, _, _, _, _] _ _)) ⟨rfl, by rw [hnx]; rfl⟩
  · obtain ⟨hc, _⟩ | ⟨d, hc, hdl, hfd, hbw, rfl⟩ := hK
    exact absurd hc (by simp)
    injection hc with hc
    subst hc
    have hnx := nxO_some hm hdl hfd hbw
    refine rn ?_
    refine aw_draw 3 rfl ?_
    refine rn ?_
    refine ⟨fun l h => (by cases h), ?_⟩
    exact retqd (.refl _) (.cons _ _ _ _ (.tmp _ _ rfl) (.cons _ _ _ _ (.tmp _ _ rfl) .nil)) (.trans (.perm (.cons _ ((pt1 _ _ _).trans (.cons _ ((pt1 _ _ _).trans (.cons _ ((pt1 _ _ _).trans (.cons _ (pt1 _ _ _)))))))) _) (.drop [_, _, _, _, _] _ _)) ⟨rfl, by rw [hnx]; rfl⟩
end Go.Proofs
