/- The abstract logic: slices.SortFunc over a row of one's own whose elements are k plain cells, as a contract (the kit's shelf has walked it). Conditions: none (lemmas over any program that has the functions). -/
import Derived.Test.YtcooiollckhdlaaGreatSSeG
import Derived.Shelf.SlSortCmp.NoneTotal
import Derived.Shelf.SlSortCmp.Whole1
import Derived.Laws.Append
import Derived.Laws.Bits64b
import Derived.Shelf.Strconv.Itoa0
set_option linter.unusedSectionVars false
set_option linter.unusedSimpArgs false
set_option linter.unusedVariables false
set_option linter.unusedVariables false
namespace Go.Ab
open Go Go.Shelf Go.Sort Go.Proofs
/-- What a quiet call leaves: draws, and blocks beside what was there. -/
theorem world_grow {w w' : World} (hk : Keep [] w [] w') : ∃ q os, w' = grow (w.drewN q) os := by
  obtain ⟨⟨h1, h2⟩, h3, h4⟩ := hk.env
  have hh : w'.heap = w.heap ++ w'.heap.extract w.heap.size w'.heap.size := by
    apply Array.ext_getElem?
    intro i
    by_cases hi : i < w.heap.size
    · rw [Array.getElem?_append_left hi]; exact (hk.same i hi (by simp)).1
    · rw [Array.getElem?_append_right (by omega)]
      rw [Array.getElem?_extract]
      split
      · congr 1; omega
      · rw [Array.getElem?_eq_none (by omega)]
  refine ⟨w'.drawn - w.drawn, w'.heap.extract w.heap.size w'.heap.size, ?_⟩
  have hd : w.drawn + (w'.drawn - w.drawn) = w'.drawn := by omega
  cases w; cases w'
  simp only [grow, World.drewN] at *
  simp only [World.mk.injEq]
  exact ⟨hh, h3, by omega, h1, h2⟩
section
variable {P : Program} {α : Type} [Inhabited α] {enc : α → List Value} {k : Nat} {cf : α → α → Int}
theorem hrel_nil (w : World) : HRel noX w [] := ⟨List.nodup_nil, fun b hb => by simp [owns] at hb, fun b hb => hb.elim, fun r hr => by simp at hr⟩
end
section
variable {P : Program} {ρ : Ren} {α : Type} [Inhabited α] {enc : α → List Value} {k : Nat} {X : Nat → Prop} {w : World} {a : Addr} {cap : Nat} {T : TypeId} {xs ys : List α}
end
end Go.Ab
/- The abstract logic: slices.SortFunc over a row of one's own whose elements are lists of numbers (one cell each, that names memory which stays), aS a contract. Conditions: none (lemmas over any program that has the functions). -/
set_option linter.unusedVariables false
namespace Go.Ab
open Go Go.Shelf Go.Sort Go.Proofs
section
variable {P : Program} {ρ : Ren} {M : Nat}
def rowlA (x : List Int) : AV := .list false 1 (x.map numR)
def rowlR (x : List Int) : List AV := [rowlA x]
/-- A list, and the value that stands for it. -/
structure LEl (w : World) (O : Nat → Prop) (M : Nat) where
  v : Value
  l : List Int
  rel : Rel w O (rowlA l) v
  len : l.length ≤ M
def lenc {w : World} {O : Nat → Prop} (x : LEl w O M) : Value := x.v
instance {w : World} {O : Nat → Prop} : Inhabited (LEl w O M) := ⟨⟨.slice none 0 0, [], .lnil _ _ _ _ (fun h => by cases h), Nat.zero_le _⟩⟩
theorem lenc_one {w : World} {O : Nat → Prop} (x : LEl w O M) : (lenc x).oneCell' = true := by
  obtain ⟨v, l, h, _⟩ := x
  show v.oneCell' = true
  have h : Rel w O (rowlA l) v := h
  unfold rowlA at h
  generalize l.map numR = q at h
  cases h <;> rfl
theorem sortWorld_old {α : Type} [Inhabited α] {enc : α → Value} {w : World} {blk off m : Nat} {dk : Array α} {os : Array Obj} : w.heap.size ≤ (sortWorld enc w blk off m dk os).heap.size ∧ ∀ b, b < w.heap.size → b ≠ blk → (sortWorld enc w blk off m dk os).heap[b]? = w.heap[b]? := by
  obtain ⟨w', hw'⟩ : ∃ w', w' = sortWorld enc w blk off m dk os := ⟨_, rfl⟩
  rw [← hw']
  have hheap : w'.heap = (w.heap.modify blk (onCells (putCells enc off dk))) ++ os := by rw [hw']; rfl
  refine ⟨by rw [hheap]; simp, fun b hb hne => ?_⟩
  rw [hheap, Array.getElem?_append_left (by simpa using hb), Array.getElem?_modify, if_neg (Ne.symm hne)]
theorem cmpL_lays {w : World} {O : Nat → Prop} {cf : List Int → List Int → Int} {blk off size : Nat} (hO : O blk) {g : FuncId} (hp : ∀ x y, x.length ≤ M → y.length ≤ M → ACall P g [rowlA x, rowlA y] [] (fun r h' => h' = [] ∧ r = .v (.int .i64 (cf x y)))) :
    CmpLays1 P g #[] (lenc (w := w) (O := O) (M := M)) (fun x y => cf x.l y.l) blk off size w := fun m os dk hs x y => by
  obtain ⟨h1, h2⟩ := sortWorld_old (enc := lenc (w := w) (O := O) (M := M)) (w := w) (blk := blk) (off := off) (m := m) (dk := dk) (os := os)
  have hk : ∀ b, ¬ O b → b < w.heap.size → (sortWorld lenc w blk off m dk os).heap[b]? = w.heap[b]? ∧ ¬ OO [] noX b := fun b hb hlt => ⟨h2 b hlt fun e => hb (e ▸ hO), fun q => q.elim (fun q => by simp [owns] at q) (fun q => q)⟩
  have h := ((hp x.l y.l x.len y.len) noX (sortWorld lenc w blk off m dk os) [x.v, y.v] (hrel_nil _) ⟨x.rel.keep h1 hk, y.rel.keep h1 hk, trivial⟩).calls (fun k => room_FW none k)
  refine h.mono ?_
  rintro e w' ⟨v, a, h', rfl, ⟨rfl, rfl⟩, hr, _, hkeep⟩
  obtain rfl := hr.v_eq
  exact ⟨rfl, world_grow hkeep⟩
variable {X : Nat → Prop} {w : World} {a : Addr} {cap : Nat} {T : TypeId} {xs : List (List Int)}
theorem rowL_vals (hh : HRel X w [.row (.slice (some a) xs.length cap) 1 T (xs.map rowlR)]) (hB : ∀ x ∈ xs, x.length ≤ M) :
    ∃ zs : List (LEl w (OO [.row (.slice (some a) xs.length cap) 1 T (xs.map rowlR)] X) M), zs.map (fun z => z.l) = xs ∧ Holds lenc w a.block a.off zs.toArray ∧ a.block < w.heap.size ∧ a.spot = none := by
  obtain ⟨h1, h2, h3, h4, c, h5, h6, h7⟩ := hh.holds _ (List.mem_singleton.2 rfl)
  have hv : ∀ i : Fin xs.length, ∃ v, w.cell? ⟨a.block, a.off + i.1, none⟩ = some v ∧ Rel w (OO [.row (.slice (some a) xs.length cap) 1 T (xs.map rowlR)] X) (rowlA xs[i.1]) v := fun i => by
    obtain ⟨v, e, r⟩ := h7 i.1 (by simp) 0 (by simp [rowlR])
    have e0 : a.off + i.1 * 1 + 0 = a.off + i.1 := by omega
    rw [e0] at e
    exact ⟨v, by simp [World.cell?, h5, e], by simpa [rowlR] using r⟩
  refine ⟨List.ofFn fun i : Fin xs.length => ⟨(hv i).choose, xs[i.1], (hv i).choose_spec.2, hB _ (List.getElem_mem i.2)⟩, ?_, fun j hj => ?_, (hh.lt a.block (by simp [owns, Res.own])).1, h1⟩
  · apply List.ext_getElem (by simp)
    intro i k1 k2; simp
  · have hj2 : j < xs.length := by
      have : (List.ofFn fun i : Fin xs.length => (⟨(hv i).choose, xs[i.1], (hv i).choose_spec.2, hB _ (List.getElem_mem i.2)⟩ : LEl w (OO [.row (.slice (some a) xs.length cap) 1 T (xs.map rowlR)] X) M)).toArray.size = xs.length := by rw [List.size_toArray, List.length_ofFn]
      omega
    have e := (hv ⟨j, hj2⟩).choose_spec.1
    refine ⟨?_, by simp [World.frozen?, h5]⟩
    rw [getElem!_pos (List.toArray _) j hj, List.getElem_toArray, List.getElem_ofFn]
    exact e
theorem rowL_over (hh : HRel X w [.row (.slice (some a) xs.length cap) 1 T (xs.map rowlR)]) {ys : List (LEl w (OO [.row (.slice (some a) xs.length cap) 1 T (xs.map rowlR)] X) M)} (hl : ys.length = xs.length) (n : Nat) (os : Array Obj) :
    HRel X (sortWorld lenc w a.block a.off n ys.toArray os) [.row (.slice (some a) xs.length cap) 1 T ((ys.map fun z => z.l).map rowlR)] ∧ Keep [a.block] w [a.block] (sortWorld lenc w a.block a.off n ys.toArray os) := by
  obtain ⟨h1, h2, h3, h4, c, h5, h6, h7⟩ := hh.holds _ (List.mem_singleton.2 rfl)
  have hb : a.block < w.heap.size := (hh.lt a.block (by simp [owns, Res.own])).1
  have hX : ¬ X a.block := (hh.lt a.block (by simp [owns, Res.own])).2
  obtain ⟨w', hw'⟩ : ∃ w', w' = sortWorld lenc w a.block a.off n ys.toArray os := ⟨_, rfl⟩
  rw [← hw']
  have hheap : w'.heap = (w.heap.modify a.block (onCells (putCells lenc a.off ys.toArray))) ++ os := by rw [hw']; rfl
  have hos : EnvS w w' := by rw [hw']; exact ⟨⟨rfl, rfl⟩, rfl, Nat.le_add_right _ _⟩
  have hsize : w.heap.size ≤ w'.heap.size := by rw [hheap]; simp
  have hold : ∀ b, b < w.heap.size → b ≠ a.block → w'.heap[b]? = w.heap[b]? := fun b hb hne => by
    rw [hheap, Array.getElem?_append_left (by simpa using hb), Array.getElem?_modify, if_neg (Ne.symm hne)]
  have hnew : w'.heap[a.block]? = some (.cells (putCells lenc a.off ys.toArray c) T (0, 0)) := by
    rw [hheap, Array.getElem?_append_left (by simpa using hb), Array.getElem?_modify, if_pos rfl, h5]; rfl
  have hoo : ∀ b, ¬ OO [.row (.slice (some a) xs.length cap) 1 T (xs.map rowlR)] X b → b < w.heap.size → w'.heap[b]? = w.heap[b]? ∧ ¬ OO [.row (.slice (some a) xs.length cap) 1 T ((ys.map fun z => z.l).map rowlR)] X b := fun b hbo hlt =>
    ⟨hold b hlt fun e => hbo (.inl (by simp [owns, Res.own, e])), fun q => hbo (q.imp (fun q => by simpa [owns, Res.own] using q) id)⟩
  refine ⟨⟨by simp [owns, Res.own], fun b hb2 => ?_, fun b hb2 => Nat.lt_of_lt_of_le (hh.xlt b hb2) hsize, fun r hr => ?_⟩, ⟨hsize, fun b hb2 hne => ?_, hos⟩⟩
  · have : b = a.block := by simpa [owns, Res.own] using hb2
    subst this; exact ⟨Nat.lt_of_lt_of_le hb hsize, hX⟩
  · rw [List.mem_singleton] at hr
    subst hr
    refine ⟨h1, by simp [hl], h3, fun i hi => by simp [rowlR], _, hnew, by simpa [putCells] using h6, fun i hi j hj => ?_⟩
    have hi2 : i < ys.length := by simpa using hi
    have hj0 : j = 0 := by simp [rowlR] at hj; omega
    subst hj0
    have h2' : xs.length = xs.length := rfl
    have hcl : a.off + i < c.size := by
      have : xs.length ≤ cap := by simpa using h3
      have : a.off + cap * 1 ≤ c.size := h6
      omega
    refine ⟨lenc ys[i], ?_, ?_⟩
    · have e : a.off + i * 1 + 0 = a.off + i := by omega
      rw [e]
      simp only [putCells, Array.getElem?_mapIdx]
      rw [Array.getElem?_eq_getElem hcl]
      simp only [Option.map_some]
      rw [if_pos ⟨by omega, by simp; omega⟩]
      have e2 : a.off + i - a.off = i := by omega
      rw [e2]
      congr 2
      exact getElem!_pos _ _ (by simpa using hi2)
    · simp only [List.getElem_map, rowlR, List.getElem_cons_zero]
      exact (ys[i].rel).keep hsize hoo
  · have hne2 : b ≠ a.block := by simpa using hne
    exact ⟨hold b hb2 hne2, hne⟩
theorem acall_sortFuncL (L : SlLaysF.n6 P ρ) (cf : List Int → List Int → Int) (hO : ∀ {w : World} {O : Nat → Prop}, SWO (ltOf fun (x y : LEl w O M) => cf x.l y.l)) (g : FuncId) [Enters P g]
    (hp : ∀ x y, x.length ≤ M → y.length ≤ M → ACall P g [rowlA x, rowlA y] [] (fun r h' => h' = [] ∧ r = .v (.int .i64 (cf x y)))) (s : SV) (T : TypeId) (xs : List (List Int)) (hs : xs.length < 4611686018427387904) (hB : ∀ x ∈ xs, x.length ≤ M) :
    ACall P (ρ.f 6) [.v s.v, .fn (.func g) [] []] [.row s.v 1 T (xs.map rowlR)] (fun r h' => ∃ ys : List (List Int), ys.Perm xs ∧ (∀ i j (hi : i < j) (hj : j < ys.length), ¬ cf ys[j] (ys[i]'(by omega)) < 0) ∧ h' = [.row s.v 1 T (ys.map rowlR)] ∧ r = .v (.tuple #[])) := by
  intro X w vs hh ha
  match vs, ha with
  | [v, u], ⟨hv, hu, _⟩ =>
    obtain rfl := hv.v_eq
    have hu' : u = .func (.func g) #[] #[] := by
      cases hu with
      | fn _ _ _ fa ca e1 e2 _ _ => rw [Array.eq_empty_of_size_eq_zero (xs := fa) e1.symm, Array.eq_empty_of_size_eq_zero (xs := ca) e2.symm]
    subst hu'
    obtain ⟨a, n, cap⟩ := s
    cases a with
    | none =>
      obtain ⟨g1, rfl, rfl⟩ := hh.holds _ (List.mem_singleton.2 rfl)
      obtain rfl : xs = [] := by simpa using g1
      refine callsIn_wide.2 ((AnyF.slices_SortFunc_none { L with } none 0 _ w).mono ?_)
      rintro e w' ⟨rfl, rfl⟩
      exact ⟨_, _, _, rfl, ⟨[], .refl _, fun i j hi hj => by simp at hj, rfl, rfl⟩, .v _, hh, .refl _ _⟩
    | some a =>
      have hn : n = xs.length := by
        have := (hh.holds _ (List.mem_singleton.2 rfl)).2.1
        simpa using this
      subst hn
      obtain ⟨zs, z1, z2, z3, z4⟩ := rowL_vals hh hB
      have hzl : zs.length = xs.length := by
        have q := congrArg List.length z1
        rw [List.length_map] at q; exact q
      obtain ⟨b, off, sp⟩ := a
      simp only at z2 z3 z4
      subst z4
      have hcmp := cmpL_lays (P := P) (M := M) (w := w) (O := OO [.row (.slice (some ⟨b, off, none⟩) xs.length cap) 1 T (xs.map rowlR)] X) (cf := cf) (blk := b) (off := off) (size := zs.toArray.size) (.inl (by simp [owns, Res.own])) (g := g) hp
      have hsort := Any.slices_SortFunc L lenc lenc_one (fun x y => cf x.l y.l) hO g #[] b off cap zs.toArray w (fun args w => run_callFunc args w) hcmp z2 z3 (by rw [List.size_toArray, hzl]; exact hs)
      have hsz : zs.toArray.size = xs.length := by rw [List.size_toArray]; exact hzl
      rw [hsz] at hsort
      refine callsIn_wide.2 (hsort.mono ?_)
      rintro e w' ⟨rfl, d', n, os, ⟨p1, _, p3⟩, p4, rfl⟩
      have p1 : d'.size = xs.length := by rw [p1]; exact hsz
      have hl : d'.toList.length = xs.length := by simpa using p1
      have hperm : d'.toList.Perm zs := by
        have q1 : (d'.extract 0 xs.length) = d' := by rw [← p1]; exact Array.extract_size
        have q2 : (zs.toArray.extract 0 xs.length) = zs.toArray := by rw [← hsz]; exact Array.extract_size
        rw [q1, q2] at p3; simpa using p3
      obtain ⟨k1, k2⟩ := rowL_over (ys := d'.toList) hh hl n os
      refine ⟨_, _, _, rfl, ⟨d'.toList.map fun z => z.l, ?_, fun i j hi hj => ?_, rfl, rfl⟩, .v _, ?_, ?_⟩
      · rw [← z1]; exact hperm.map _
      · have hj' : j < d'.size := by simpa using hj
        have := p4 i j (Nat.zero_le _) hi (by rw [← p1]; exact hj')
        rw [getElem!_pos d' j hj', getElem!_pos d' i (by omega)] at this
        simp only [List.getElem_map, Array.getElem_toList]
        simpa [ltOf] using this
      · rw [Array.toArray_toList] at k1; exact k1
      · rw [Array.toArray_toList] at k2; exact k2
end
end Go.Ab
/- The kit's contract of slices.SortFunc over this program. Conditions: none. -/
set_option linter.unusedVariables false
namespace Go.Proofs
open Go Go.Ab Go.Shelf
def sortLRen : Go.Shelf.Ren := ⟨fun | 6 => 30 | 14 => 56 | 15 => 55 | 20 => 88 | 21 => 89 | 22 => 90 | 23 => 91 | 24 => 92 | 25 => 93 | 26 => 94 | 27 => 95 | 28 => 86 | 29 => 87 | 46 => 110 | 47 => 106 | 48 => 107 | 49 => 111 | 50 => 112 | 57 => 116 | n => n, fun | 0 => 0 | 3 => 3 | 4 => 4 | 5 => 5 | 9 => 9 | 22 => 31 | 24 => 27 | 25 => 62 | 39 => 92 | 45 => 113 | 46 => 114 | 50 => 119 | 53 => 122 | 55 => 74 | 66 => 134 | 70 => 138 | 76 => 145 | 77 => 146 | n => n, fun n => n⟩
theorem sortLLays : SlLaysF.n6 Tryz.prog sortLRen := {
  mixed := by kernel_rfl
  f6 := ⟨ "slices.SortFunc[[][]int,[]int]", by decide, Tryz.func30.trans (congrArg some (by kernel_rfl))⟩
  f14 := ⟨ "slices.pdqsortCmpFunc[[]int]", by decide, Tryz.func56.trans (congrArg some (by kernel_rfl))⟩
  f15 := Tryz.func55.trans (congrArg some (by kernel_rfl))
  f20 := ⟨ "slices.insertionSortCmpFunc[[]int]", by decide, Tryz.func88.trans (congrArg some (by kernel_rfl))⟩
  f21 := ⟨ "slices.heapSortCmpFunc[[]int]", by decide, Tryz.func89.trans (congrArg some (by kernel_rfl))⟩
  f22 := ⟨ "slices.breakPatternsCmpFunc[[]int]", by decide, Tryz.func90.trans (congrArg some (by kernel_rfl))⟩
  f23 := ⟨ "slices.choosePivotCmpFunc[[]int]", by decide, Tryz.func91.trans (congrArg some (by kernel_rfl))⟩
  f24 := ⟨ "slices.reverseRangeCmpFunc[[]int]", by decide, Tryz.func92.trans (congrArg some (by kernel_rfl))⟩
  f25 := ⟨ "slices.partialInsertionSortCmpFunc[[]int]", by decide, Tryz.func93.trans (congrArg some (by kernel_rfl))⟩
  f26 := ⟨ "slices.partitionEqualCmpFunc[[]int]", by decide, Tryz.func94.trans (congrArg some (by kernel_rfl))⟩
  f27 := ⟨ "slices.partitionCmpFunc[[]int]", by decide, Tryz.func95.trans (congrArg some (by kernel_rfl))⟩
  f28 := Tryz.func86.trans (congrArg some (by kernel_rfl))
  f29 := Tryz.func87.trans (congrArg some (by kernel_rfl))
  f46 := ⟨ "slices.siftDownCmpFunc[[]int]", by decide, Tryz.func110.trans (congrArg some (by kernel_rfl))⟩
  f47 := Tryz.func106.trans (congrArg some (by kernel_rfl))
  f48 := Tryz.func107.trans (congrArg some (by kernel_rfl))
  f49 := ⟨ "slices.medianAdjacentCmpFunc[[]int]", by decide, Tryz.func111.trans (congrArg some (by kernel_rfl))⟩
  f50 := ⟨ "slices.medianCmpFunc[[]int]", by decide, Tryz.func112.trans (congrArg some (by kernel_rfl))⟩
  f57 := ⟨ "slices.order2CmpFunc[[]int]", by decide, Tryz.func116.trans (congrArg some (by kernel_rfl))⟩
  t0 := Tryz.underlying0
  a0 := Tryz.isAgg0
  z0 := Tryz.sizeOf0
  v0 := Tryz.zeroValue0
  t3 := Tryz.underlying3
  a3 := Tryz.isAgg3
  z3 := Tryz.sizeOf3
  v3 := Tryz.zeroValue3
  t4 := Tryz.underlying4
  a4 := Tryz.isAgg4
  z4 := Tryz.sizeOf4
  v4 := Tryz.zeroValue4
  t5 := Tryz.underlying5
  a5 := Tryz.isAgg5
  z5 := Tryz.sizeOf5
  v5 := Tryz.zeroValue5
  t9 := Tryz.underlying9
  a9 := Tryz.isAgg9
  z9 := Tryz.sizeOf9
  v9 := Tryz.zeroValue9
  t22 := Tryz.underlying31
  a22 := Tryz.isAgg31
  z22 := Tryz.sizeOf31
  v22 := Tryz.zeroValue31
  t25 := Tryz.underlying62
  a25 := Tryz.isAgg62
  z25 := Tryz.sizeOf62
  v25 := Tryz.zeroValue62
  t39 := Tryz.underlying92
  a39 := Tryz.isAgg92
  z39 := Tryz.sizeOf92
  v39 := Tryz.zeroValue92
  t45 := Tryz.underlying113
  a45 := Tryz.isAgg113
  z45 := Tryz.sizeOf113
  v45 := Tryz.zeroValue113
  t46 := Tryz.underlying114
  a46 := Tryz.isAgg114
  z46 := Tryz.sizeOf114
  v46 := Tryz.zeroValue114
  t50 := Tryz.underlying119
  a50 := Tryz.isAgg119
  z50 := Tryz.sizeOf119
  v50 := Tryz.zeroValue119
  t53 := Tryz.underlying122
  a53 := Tryz.isAgg122
  z53 := Tryz.sizeOf122
  v53 := Tryz.zeroValue122
  t55 := Tryz.underlying74
  a55 := Tryz.isAgg74
  z55 := Tryz.sizeOf74
  v55 := Tryz.zeroValue74
  t66 := Tryz.underlying134
  a66 := Tryz.isAgg134
  z66 := Tryz.sizeOf134
  v66 := Tryz.zeroValue134
  t70 := Tryz.underlying138
  a70 := Tryz.isAgg138
  z70 := Tryz.sizeOf138
  v70 := Tryz.zeroValue138
  t76 := Tryz.underlying145
  a76 := Tryz.isAgg145
  z76 := Tryz.sizeOf145
  v76 := Tryz.zeroValue145
  t77 := Tryz.underlying146
  a77 := Tryz.isAgg146
  z77 := Tryz.sizeOf146
  v77 := Tryz.zeroValue146
  a24 := Tryz.isAgg27
  z24 := Tryz.sizeOf27 }
end Go.Proofs
/- The walk of scc's Sets. Conditions: none. -/
set_option linter.unusedVariables false
set_option linter.unusedSimpArgs false
set_option maxRecDepth 10000
namespace Go.Proofs
open Go Go.Ab
attribute [local irreducible] QR QV OE aops aw dsoup dsoupM dalloc dallocM thn inBlk jsoup jch lsoup
open Go.H
theorem natR_I (C : List Nat) : C.map natR = (rowI C).map intR := by
  unfold rowI; rw [List.map_map]; rfl
theorem cmpL_le {a b c : List Int} (h : cmpL a b ≤ 0) (k : cmpL b c ≤ 0) : cmpL a c ≤ 0 := cmpL_ok.trans a b c h k
theorem cmpL_an (a b : List Int) : cmpL b a = - cmpL a b := cmpL_ok.anti a b
theorem cmpL_self' (a : List Int) : cmpL a a = 0 := by have := cmpL_an a a; omega
theorem swoL {w : World} {O : Nat → Prop} {M : Nat} : Go.Sort.SWO (ltOf fun (x y : LEl w O M) => cmpL x.l y.l) := ⟨fun x => decide_eq_false (by show ¬ cmpL x.l x.l < 0; rw [cmpL_self']; decide), fun x y z h k => decide_eq_true (by
    have h : cmpL x.l y.l < 0 := of_decide_eq_true h
    have k : cmpL y.l z.l < 0 := of_decide_eq_true k
    show cmpL x.l z.l < 0
    rcases Int.lt_or_eq_of_le (cmpL_le (Int.le_of_lt h) (Int.le_of_lt k)) with q | q
    · exact q
    · have h2 := cmpL_le (a := z.l) (b := x.l) (c := y.l) (by rw [cmpL_an]; omega) (Int.le_of_lt h)
      rw [cmpL_an] at h2; omega), fun x y z h k => decide_eq_false (by
    have h : ¬ cmpL x.l y.l < 0 := of_decide_eq_false h
    have k : ¬ cmpL y.l z.l < 0 := of_decide_eq_false k
    show ¬ cmpL x.l z.l < 0
    rw [cmpL_an] at h k
    have := cmpL_le (a := z.l) (b := y.l) (c := x.l) (by omega) (by omega)
    rw [cmpL_an] at this; omega)⟩
def outR (L : List (List Nat)) : List (List Int) := L.map fun C => srt (rowI C)
theorem out_len {g : Gr} {L : List (List Nat)} (h : OutsOk g L) : L.length ≤ nG g ∧ ∀ x ∈ outR L, x.length ≤ nG g := by
  have hf : L.flatten.length ≤ nG g := by
    have := h.2.2.length_le_of_subset (l₂ := List.range (nG g)) fun x hx => List.mem_range.2 ((h.1 x).1 hx)
    simpa using this
  refine ⟨Nat.le_trans (len_flat fun C hC => (h.2.1 C hC).1) hf, fun x hx => ?_⟩
  obtain ⟨C, hC, rfl⟩ := List.mem_map.1 hx
  rw [(srt_perm _).length_eq]
  have h1 : C.Nodup := (List.pairwise_flatten.1 h.2.2).1 C hC
  have h2 := h1.length_le_of_subset (l₂ := List.range (nG g)) fun x hx => List.mem_range.2 ((h.1 x).1 (List.mem_flatten.2 ⟨C, hC, hx⟩))
  rw [List.length_range] at h2
  unfold rowI; rw [List.length_map]; exact h2
/-- Rows of numbers that nobody writes. -/
abbrev lisR (x : List Int) : List AV := [intsA x]
noncomputable def setsO (g : Gr) : List (List Int) := if chkB g = true then (setsG g).map rowI else []
theorem setsO_y {g : Gr} (h : chkE g = 0) : setsO g = (setsG g).map rowI := by rw [setsO, if_pos (chkB_iff.2 (chkE_0.1 h))]
theorem setsO_n {g : Gr} (h : chkE g ≠ 0) : setsO g = [] := by rw [setsO, if_neg (fun q => h (chkE_0.2 (chkB_iff.1 q)))]
theorem sortI (s : SV) (xs : List Int) (hs : xs.length < 4611686018427387904) : ACall Tryz.prog 29 [.v s.v] [.row s.v 1 3 (xs.map intR)] (fun r h' => h' = [.row s.v 1 3 ((srt xs).map intR)] ∧ r = .v (.tuple #[])) :=
  acall_sort sortLays s 3 xs hs
theorem sortSets (g : Gr) (hok : GOk g) (s : SV) (L : List (List Nat)) (hL : OutsOk g L) : ACall Tryz.prog 30 [.v s.v, .fn (.func 31) [] []] [.row s.v 1 27 ((outR L).map lisR)] (fun r h' => h' = [.row s.v 1 27 (((setsG g).map rowI).map lisR)] ∧ r = .v (.tuple #[])) := by
  have hb := out_len hL
  have hn1 := hok.n1
  have hng : nG g ≤ 300 := by unfold nG; omega
  refine (acall_sortFuncL (M := 1000) sortLLays cmpL swoL 31 (fun x y hx hy => slicesCmp x y (by omega) (by omega)) s 27 (outR L) (by unfold outR; rw [List.length_map]; omega) (fun x hx => Nat.le_trans (hb.2 x hx) (by omega))).mono ?_
  rintro r h' ⟨ys, hp, hs, rfl, rfl⟩
  have e : ys = (setsG g).map rowI := sets_eq hL.1 hL.2.1 hL.2.2 hp (by
    rw [List.pairwise_iff_getElem]
    intro i j hi hj hij
    have := hs i j hij hj
    show cmpL _ _ ≤ 0
    rw [cmpL_an]; omega)
  exact ⟨by rw [e]; rfl, rfl⟩
set_option maxHeartbeats 4000000 in
theorem scSets (g : Gr) (hb : g.es.length ≤ 4611686018427387904) : ACall Tryz.prog 8 [.agg (grR g)] [] (fun r h' => ∃ s : SV, h' = .row s.v 1 27 ((setsO g).map lisR) :: [] ∧ r = .tup [.v s.v, iv (chkE g)]) := by
  refine acall_of_aw Tryz.func8 rfl rfl rfl ?_
  refine rn ?_
  refine aops_e rfl (oe_box rfl rfl rfl fun b1 => ?_)
  refine rn ?_
  refine qv rfl rfl (qv_call rfl rfl (pcall (grStarts g hb) (Sbs.refl _))) ?_
  refine rn ?_
  refine aw_cond rfl (fun hc14 => ?_) (fun hc14 => ?_)
  · have he : chkE g ≠ 0 := nzT hc14
    refine rn ?_
    exact retq (.cons _ _ _ _ (.tmp _ _ rfl) (.cons _ _ _ _ (.tmp _ _ rfl) .nil)) (.trans (.drop [_] _ _) (vent_nilrow 1 27 _)) ⟨nilV, by rw [setsO_n he]; rfl, rfl⟩
  · have he : chkE g = 0 := nzF hc14
    have hok := chkE_0.1 he
    have hn0 := hok.n0
    have hn1 := hok.n1
    have hng : nG g ≤ 300 := by unfold nG; omega
    rw [staO_y he]
    refine rn ?_
    refine aops_e rfl (oe_alloc rfl fun b6 => ?_)
    refine rn ?_
    refine aops_e rfl (oe_call rfl rfl (FCall.of_fun (scComp g _)) rfl ?_)
    rintro _ _ ⟨bs, bg, rfl, rfl⟩
    refine rn ?_
    refine aw_ent (s' := ⟨[(18, .fn (.func 50) [] [.v (.pointer (some ⟨bg, 0, none⟩)), .v (.pointer (some ⟨bs, 0, none⟩))]), (6, .v (.pointer (some ⟨b6, 0, none⟩))), (1, .v (.pointer (some ⟨b1, 0, none⟩)))], .box bs 27 [intsA (staL g)] :: .box bg 24 (grR g) :: .box b6 31 [.v nilV.v] :: .row nilV.v 1 27 ((outR ([])).map lisR) :: .box b1 24 (grR g) :: [], []⟩) (ent_trans (ent_nilrow 1 27) (ent_trans (ent_perm ((pt1 _ _ _).trans (.cons _ ((pt1 _ _ _).trans (.cons _ (pt1 _ _ _)))))) es)) ?_
    refine aw_rf (fun pend h'' => pend = none ∧ ∃ L, ∃ so : SV, OutsOk g L ∧ h'' = .box bs 27 [intsA (staL g)] :: .box bg 24 (grR g) :: .box b6 31 [.v so.v] :: .row so.v 1 27 ((outR (L)).map lisR) :: .box b1 24 (grR g) :: []) rfl (fun fn l q lp hlp => ?_) (fun q h'' hK => ?_) (fun q h'' c hK => ?_)
    · suffices hy : ∀ pre C (sv so : SV), C ≠ [] → C.length ≤ nG g → pre.length ≤ nG g → FCall Tryz.prog (yv l) [.v sv.v] (.row sv.v 1 3 (C.map natR) :: lp .ready none :: .defs q :: .box b6 31 [.v so.v] :: .row so.v 1 27 ((outR (pre)).map lisR) :: .box b1 24 (grR g) :: []) (fun r h' => ∃ s' : SV, r = bv true ∧ h' = lp .ready none :: .defs q :: .box b6 31 [.v s'.v] :: .row s'.v 1 27 ((outR (pre ++ [C])).map lisR) :: .box b1 24 (grR g) :: []) by
        refine ACall.mono (ACall.perm ((pt2 _ _ _ _).trans (.cons _ (pt2 _ _ _ _))) (scComp1 g hok (yv l) bg bs (fun pre (so : SV) => lp .ready none :: .defs q :: .box b6 31 [.v so.v] :: .row so.v 1 27 ((outR (pre)).map lisR) :: .box b1 24 (grR g) :: []) nilV hy)) ?_
        rintro _ _ ⟨L, so, hL, rfl⟩
        exact ⟨none, .ready, _, ((pt2 _ _ _ _).trans (.cons _ (pt2 _ _ _ _))), by simp, rfl, L, so, hL, rfl⟩
      intro pre C sv so hne hCl hpl
      refine FCall.perm (pt1 _ _ _) (FCall.ventE ?_)
      refine fcall_yl2 hlp rfl rfl ?_
      refine rn ?_
      refine ⟨[(7, .v sv.v), (6, .v (.pointer (some ⟨b6, 0, none⟩)))], .row sv.v 1 3 ((rowI C).map intR) :: .defs q :: .box b6 31 [.v so.v] :: .row so.v 1 27 ((outR (pre)).map lisR) :: .box b1 24 (grR g) :: [], by rw [← natR_I]; exact es, ?_⟩
      refine rn ?_
      refine aops_e rfl (oe_call rfl rfl (fcall_row0 (FCall.of_fun (sortI sv (rowI C) (by unfold rowI; rw [List.length_map]; omega)))) rfl ?_)
      rintro _ _ ⟨rfl, rfl⟩
      refine rn0 ?_
      refine aw_ent (s' := ⟨[(7, intsA (srt (rowI C))), (6, .v (.pointer (some ⟨b6, 0, none⟩)))], lp .busy none :: .defs q :: .box b6 31 [.v so.v] :: .row so.v 1 27 ((outR (pre)).map lisR) :: .box b1 24 (grR g) :: [], []⟩) (ent_trans (ent_perm (pt1 _ _ _)) (by exact ent_freeze (by repeat (first | exact .nil | refine .row _ _ rfl ?_ | refine .cons _ _ _ rfl ?_)))) ?_
      refine rn ?_
      refine qv rfl rfl (qv_buildSlice rfl rfl) ?_
      refine aops_e rfl (oe_append_row rfl rfl (by unfold outR; simp only [List.length_map, List.length_cons, List.length_nil]; omega) rfl (fun s27 => ?_) (fun r hr => by rw [List.mem_singleton.1 hr]; rfl))
      refine aops_slice s27 fun sv' hsv => ?_
      subst hsv
      refine rn ?_
      exact round_n (.refl _) ⟨_, _, .refl _ _, sv', rfl, by rw [show outR (pre ++ [C]) = outR pre ++ [srt (rowI C)] by simp [outR], List.map_append]; rfl⟩
    · obtain ⟨_, L, so, hL, rfl⟩ := hK
      refine rn ?_
      refine aops_e rfl (oe_call rfl rfl (fcall_row0 (FCall.of_fun (sortSets g hok so L hL))) rfl ?_)
      rintro _ _ ⟨rfl, rfl⟩
      refine rn ?_
      exact retqd (.refl _) (.cons _ _ _ _ (.tmp _ _ rfl) (.cons _ _ _ _ (.tmp _ _ rfl) .nil)) (.trans (.perm (.cons _ (.cons _ (.cons _ (pt1 _ _ _)))) _) (.drop [_, _, _, _] _ _)) ⟨so, by rw [setsO_y he], by rw [he]; rfl⟩
    · obtain ⟨hc, _⟩ := hK
      exact absurd hc (by simp)
end Go.Proofs
/- The walk of scc's Of. Conditions: none. -/
set_option linter.unusedVariables false
set_option linter.unusedSimpArgs false
set_option maxRecDepth 10000
namespace Go.Proofs
open Go Go.Ab
attribute [local irreducible] QR QV OE aops aw dsoup dsoupM dalloc dallocM thn inBlk jsoup jch lsoup
open Go.H
noncomputable def ofO (g : Gr) : List Int := if chkB g = true then rowI (ofGL g) else []
theorem ofO_y {g : Gr} (h : chkE g = 0) : ofO g = rowI (ofGL g) := by rw [ofO, if_pos (chkB_iff.2 (chkE_0.1 h))]
theorem ofO_n {g : Gr} (h : chkE g ≠ 0) : ofO g = [] := by rw [ofO, if_neg (fun q => h (chkE_0.2 (chkB_iff.1 q)))]
theorem sets_row {g : Gr} {k : Nat} (hk : k < (setsG g).length) : (((setsG g).map rowI).map lisR)[k]? = some [intsA (rowI (setsG g)[k])] := by
  rw [List.getElem?_map, List.getElem?_map, List.getElem?_eq_getElem hk]; rfl
theorem setsR_len (g : Gr) : (((setsG g).map rowI).map lisR).length = (setsG g).length := by rw [List.length_map, List.length_map]
theorem rowI_at {C : List Nat} {j : Nat} (hj : j < C.length) : ((rowI C).map intR)[j]? = some [iv (C[j] : Int)] := by
  unfold rowI; rw [List.getElem?_map, List.getElem?_map, List.getElem?_eq_getElem hj]; rfl
theorem rowI_len (C : List Nat) : ((rowI C).map intR).length = C.length := by unfold rowI; rw [List.length_map, List.length_map]
set_option maxHeartbeats 4000000 in
theorem scOf (g : Gr) (hb : g.es.length ≤ 4611686018427387904) : ACall Tryz.prog 7 [.agg (grR g)] [] (fun r h' => h' = [] ∧ r = .tup [intsA (ofO g), iv (chkE g)]) := by
  refine acall_of_aw Tryz.func7 rfl rfl rfl ?_
  refine rn ?_
  refine aops_e rfl (oe_box rfl rfl rfl fun b1 => ?_)
  refine rn ?_
  refine aops_e rfl (oe_call rfl rfl (FCall.fr (FCall.of_fun (scSets g hb)) (.refl _)) rfl ?_)
  rintro _ _ ⟨_, rfl, s, rfl, rfl⟩
  simp only [List.cons_append, List.nil_append]
  refine rn ?_
  refine aw_cond rfl (fun hc17 => ?_) (fun hc17 => ?_)
  · have he : chkE g ≠ 0 := nzT hc17
    refine rn ?_
    exact retq (.cons _ _ _ _ (.tmp _ _ rfl) (.cons _ _ _ _ (.tmp _ _ rfl) .nil)) (.trans (.drop [_, _] _ _) (.le (Sb.tups (aS := [.v (.slice none 0 0), _]) (bs := [intsA [], _]) ⟨.nil _ _, .refl _, trivial⟩).le)) ⟨rfl, by rw [ofO_n he]⟩
  · have he : chkE g = 0 := nzF hc17
    have hok := chkE_0.1 he
    have hn0 := hok.n0
    have hn1 := hok.n1
    have hng : nG g ≤ 300 := by unfold nG; omega
    have hnn : ((nG g : Nat) : Int) = g.n := by unfold nG; omega
    have hsl := sets_le g
    rw [setsO_y he]
    refine aw_skip ?_
    refine thn_n ?_
    refine aw_seq (aw_region ?_)
    refine q1 ?_
    refine qq rfl rfl (qr_as (qr_load_one rfl rfl) (show iv _ = iv ((nG g : Nat) : Int) from congrArg iv hnn.symm)) ?_
    refine aops_e rfl (oe_makeSlice rfl rfl rfl (by omega) (hk := fun bm => ?_))
    refine aops_slice (.slice (some ⟨bm, 0, none⟩) (nG g) (nG g)) fun so hso => ?_
    rw [hso]
    clear hso
    rw [rwI_zero, ← ofGK_0 g]
    refine rn ?_
    refine aw_range (setsG g).length (fun _ => True) (fun k => ⟨[(24, iv k), (6, .v so.v), (22, .v s.v), (23, iv (((setsG g).map rowI).map lisR).length)], .row so.v 1 3 (rwI (nG g) (ofGK g (((setsG g).take k).flatten))) :: .row s.v 1 27 (((setsG g).map rowI).map lisR) :: .box b1 24 (grR g) :: [], []⟩) trivial es ?_
    intro k lk _
    refine rn ?_
    refine aw_cond rfl (fun hc25 => ?_) (fun hc25 => ?_)
    · have hk : k < (setsG g).length := by have q := of_decide_eq_true hc25; rw [setsR_len] at q; omega
      have hCl := set_le (List.getElem_mem hk)
      refine aw_skip ?_
      refine thn_n ?_
      refine aw_seq ?_
      refine aw_block ?_
      refine aw_seq (aw_region ?_)
      refine q1 ?_
      refine qq rfl rfl (qr_index_row (k := k) rfl rfl (by rw [setsR_len]; exact hk)) ?_
      refine qq rfl rfl (qr_load_rp_one rfl (sets_row hk) rfl) ?_
      refine rn ?_
      rw [show ((setsG g).take k).flatten = ((setsG g).take k).flatten ++ (setsG g)[k].take 0 by rw [List.take_zero, List.append_nil]]
      refine aw_range (setsG g)[k].length (fun _ => True) (fun j => ⟨[(31, iv j), (6, .v so.v), (7, iv k), (22, .v s.v), (23, iv (((setsG g).map rowI).map lisR).length), (24, iv k), (29, intsA (rowI (setsG g)[k])), (30, iv ((rowI (setsG g)[k]).map intR).length)], .row so.v 1 3 (rwI (nG g) (ofGK g (((setsG g).take k).flatten ++ (setsG g)[k].take j))) :: .row s.v 1 27 (((setsG g).map rowI).map lisR) :: .box b1 24 (grR g) :: [], []⟩) trivial es ?_
      intro j lj _
      refine rn ?_
      refine aw_cond rfl (fun hc32 => ?_) (fun hc32 => ?_)
      · have hj : j < (setsG g)[k].length := by have q := of_decide_eq_true hc32; rw [rowI_len] at q; omega
        have hvn : (setsG g)[k][j] < nG g := set_in (List.getElem_mem hk) (List.getElem_mem hj)
        refine aw_skip ?_
        refine thn_n ?_
        refine aw_seq ?_
        refine aw_block ?_
        refine aw_seq (aw_region ?_)
        refine qq rfl rfl (qr_index_list (i := j) rfl rfl (rowI_at hj)) ?_
        refine q1 ?_
        refine q1 ?_
        refine aops_nil (thn_n ?_)
        refine aw_region ?_
        refine q1 ?_
        refine q1 ?_
        refine q1 ?_
        refine qq rfl rfl (qr_index_row (k := (setsG g)[k][j]) rfl rfl (by rw [rwI_len]; exact hvn)) ?_
        refine aops_e rfl (oe_store_rp (k := (setsG g)[k][j]) rfl rfl rfl (rwI_at _ hvn) rfl (Nat.le_of_ble_eq_true rfl) ?_)
        rw [st1, rwI_set, ofGK_s hk hj]
        refine rn ?_
        exact ⟨hj, trivial, by rw [List.take_succ_eq_append_getElem hj, ← List.append_assoc]; exact eA⟩
      · have qj : j = (setsG g)[k].length := by have q := of_decide_eq_false hc32; rw [rowI_len] at q; omega
        refine rn ?_
        exact ⟨hk, trivial, by rw [List.take_succ_eq_append_getElem hk, List.flatten_append, List.flatten_singleton]; rw [qj, List.take_length] at *; exact eA⟩
    · have qk : k = (setsG g).length := by have q := of_decide_eq_false hc25; rw [setsR_len] at q; omega
      refine rn ?_
      exact retq (.cons _ _ _ _ (.tmp _ _ rfl) (.cons _ _ _ _ (.tmp _ _ rfl) .nil)) (.trans (vent_freeze_tup [] [_]) (.drop [_, _] _ _)) ⟨rfl, by rw [ofO_y he, he, qk, List.take_length, ofGK_all]; rfl⟩
end Go.Proofs
/- copy into a whole row of one's own, aS much aS there is room for. Conditions: none (rules over any program). -/
set_option linter.unusedVariables false
set_option linter.unusedSimpArgs false
namespace Go.Ab
open Go
theorem part_all (a : Option Addr) (n c sz : Nat) : partV (.slice a n c) 0 n sz = .slice a n c := by
  cases a with
  | none => simp [partV, sliced]
  | some a => exact part_0 a n c n sz
section
variable {P : Program} {ro : Option Nat} {nt : Nat} {ty : TypeId} {pos : String} {after : Array Edge} {guard : Option (Nat × Bool)} {x y : Operand}
theorem oe_copy_ln {T T2 E sz i : Nat} (n : Nat) {full : Bool} {s : Value} {rows zs : List (List AV)} {t : Fr} {h h' : List Res} {ds : List Nat} {dt : Tmp} {next : St → Prop} (hx : ev t x = some (.v s)) (hy : ev t y = some (.list full sz zs)) [hrow : HasRow h s i sz E rows]
    [Und P T (.slice E)] [Siz P E sz] (hn : min zs.length rows.length = n)
    (hd : dok nt (some dt) = true) [hset : SetAt h i (.row s sz E (zs.take n ++ rows.drop n)) h'] (hk : next ⟨(dt, .v (.int .i64 n)) :: t, h', ds⟩) (hone : ∀ r ∈ zs, r.all AV.one = true) :
    OE P ro nt ⟨some dt, .call ⟨.builtin .copy, [x, y].toArray, [T, T2].toArray⟩, ty, pos, after, guard⟩ ⟨t, h, ds⟩ next := by
  intro X a w K Q hs hK
  obtain ⟨ax, cap, es, _⟩ := row_list hs.heap hrow.h
  have hp : partV s 0 rows.length sz = s := by rw [es]; exact part_all _ _ _ _
  have hl : (zs.take n).length = n := by simp; omega
  have hset' : SetAt h i (.row s sz E (rows.take 0 ++ (zs.take n ++ rows.drop (0 + (zs.take n).length)))) h' := by
    rw [hl, List.take_zero, List.nil_append, Nat.zero_add]; exact hset
  exact oe_copy_pl (P := P) (ro := ro) (nt := nt) (T := T) (T2 := T2) (E := E) (sz := sz) (i := i) (d := 0) (hi := rows.length) (n := n) (full := full) (s := s) (rows := rows) (zs := zs) (h' := h') (next := next) (by rw [hp]; exact hx) hy (Nat.zero_le _) (Nat.le_refl _) (by rw [Nat.sub_zero]; exact hn) hd (hset := hset') (by rw [hl]; exact hk) hone X a w K Q hs hK
end
end Go.Ab
/- Rows made with room to spare; append of zeros onto nil; slices with three bounds; clear. Conditions: none (rules over any program). -/
set_option linter.unusedVariables false
set_option linter.unusedSimpArgs false
namespace Go.Ab
open Go
theorem zero_at {zv : Array Value} {n i j sz : Nat} (hs : zv.size = sz) (hi : i < n) (hj : j < zv.size) : (Builtin.zeroCells zv n)[i * sz + j]? = some zv[j] := by
  subst hs
  have h1 : (i + 1) * zv.size ≤ n * zv.size := Nat.mul_le_mul_right _ hi
  rw [Nat.add_mul] at h1
  have hlt : i * zv.size + j < n * zv.size := by omega
  have hm : (i * zv.size + j) % zv.size = j := by rw [Nat.mul_comm, Nat.mul_add_mod, Nat.mod_eq_of_lt hj]
  simp [Builtin.zeroCells, hlt, hm, hj]
section
variable {P : Program} {ro : Option Nat} {nt : Nat} {h : List Res} {f : Operand → Option AV} {dst : Option Tmp} {ty : TypeId} {pos : String} {after : Array Edge} {guard : Option (Nat × Bool)} {x y z u : Operand} {t : Fr} {ds : List Nat} {next : St → Prop}
/-- A row made with room to spare. -/
theorem oe_makeG {d : Tmp} {T E bytes sz : Nat} {n c : Nat} {zv : Value} [hu : Und P T (.slice E)] [hz : ZerV P E zv] [Siz P E sz] [hby : Byt P E bytes] (hx : ev t x = some (.v (.int .i64 n))) (hy : ev t y = some (.v (.int .i64 c))) (hlt : dok nt (some d) = true)
    (hnc : n ≤ c) (hn : c ≤ 1099511627776) (hb : bytes ≤ 128 := by decide) (hzs : zv.cells.size = sz := by rfl) (hk : ∀ b, next ⟨(d, .v (.slice (some ⟨b, 0, none⟩) n c)) :: t, .row (.slice (some ⟨b, 0, none⟩) n c) sz E (List.replicate n (zv.cells.toList.map AV.v)) :: h, ds⟩) :
    OE P ro nt ⟨some d, .makeSlice T x y, ty, pos, after, guard⟩ ⟨t, h, ds⟩ next := by
  intro X a w K Q hs hK
  refine ⟨about_true, ?_⟩
  have hbi := hby.h
  cases hi : P.info? E with
  | none => simp [hi] at hbi
  | some inf =>
    simp [hi] at hbi
    have hwn : IntKind.i64.wrap (n : Int) = n := IntWalk.i64_in _ ⟨by omega, by omega⟩
    have hwc : IntKind.i64.wrap (c : Int) = c := IntWalk.i64_in _ ⟨by omega, by omega⟩
    let cells : Array Value := if c * sz = 0 then (#[] : Array Value) else Builtin.zeroCells zv.cells c
    have hmul : inf.bytes * c ≤ 128 * 1099511627776 := Nat.mul_le_mul (by omega) hn
    have hl2 : ¬ ((inf.bytes : Int) * (c : Int) > 2 ^ 48) := by
      rw [← Int.natCast_mul]
      generalize inf.bytes * c = m at hmul ⊢
      omega
    have hsize : cells.size = c * sz := by
      simp only [cells]; split
      · rename_i h0; rw [h0]; rfl
      · simp [Builtin.zeroCells, hzs]
    have e : (execOp a.eval (⟨some d, .makeSlice T x y, ty, pos, after, guard⟩ : Oper)).run P w = .ok (.value (.slice (some ⟨w.heap.size, 0, none⟩) n c)) { w with heap := w.heap.push (.cells cells E (0, 0)) } := by
      refine run_v _ ?_
      rw [(hs.env.rel x _ hx).v_eq, (hs.env.rel y _ hy).v_eq]
      have hai : ∀ (m : Nat) (w : World), (asInt (.int .i64 (m : Int))).run P w = .ok (m : Int) w := fun m w => rfl
      simp only [Instr.makeSlice, Sem.run_bind, run_underlying (h := hu), hai, Result.andThen_ok, run_typeInfo hi, hwn, hwc]
      rw [if_neg (by simp only [Bool.or_eq_true, decide_eq_true_eq, not_or]; exact ⟨⟨⟨by omega, hl2⟩, by omega⟩, by omega⟩)]
      simp only [Sem.run_bind, run_askRoom, Result.andThen_ok, run_sizeOf (n := sz), Int.toNat_natCast]
      by_cases h0 : c * sz = 0
      · have hr0 : Array.range 0 = #[] := by simp
        simp [h0, newRow, hr0, cells]
      · simp [h0, newRow, run_zeroValue hz.h, cells, Builtin.zeroCells, hzs]
    rw [semAt_nd rfl, e]
    have hx2 : Res.holds { w with heap := w.heap.push (.cells cells E (0, 0)) } (OO (.row (.slice (some ⟨w.heap.size, 0, none⟩) n c) sz E (List.replicate n (zv.cells.toList.map AV.v)) :: h) X) (.row (.slice (some ⟨w.heap.size, 0, none⟩) n c) sz E (List.replicate n (zv.cells.toList.map AV.v))) := by
      refine ⟨rfl, by simp, hnc, fun i hi => by simp [hzs], cells, by simp, by simp [hsize], fun i hi j hj => ?_⟩
      have hi' : i < n := by simpa using hi
      have hj' : j < sz := by simpa [hzs] using hj
      have h0 : ¬ c * sz = 0 := fun h0 => by rcases Nat.mul_eq_zero.1 h0 with h | h <;> omega
      have hz2 := zero_at (zv := zv.cells) (n := c) (i := i) (j := j) hzs (by omega) (by omega)
      refine ⟨zv.cells[j]'(by omega), ?_, ?_⟩
      · simp only [cells, h0, if_false, Nat.zero_add]; exact hz2
      · simp only [List.getElem_replicate, List.getElem_map, Array.getElem_toList]; exact .v _
    have hk2 : Keep (owns h) w (owns (.row (.slice (some ⟨w.heap.size, 0, none⟩) n c) sz E (List.replicate n (zv.cells.toList.map AV.v)) :: h)) { w with heap := w.heap.push (.cells cells E (0, 0)) } := Keep.alloc (h := h) (.cells cells E (0, 0)) (.row (.slice (some ⟨w.heap.size, 0, none⟩) n c) sz E (List.replicate n (zv.cells.toList.map AV.v))) rfl
    have hh2 := hs.heap.alloc (.cells cells E (0, 0)) (.row (.slice (some ⟨w.heap.size, 0, none⟩) n c) sz E (List.replicate n (zv.cells.toList.map AV.v))) rfl hx2
    exact hK _ _ _ (hk w.heap.size) (Sim.put (s := ⟨t, .row (.slice (some ⟨w.heap.size, 0, none⟩) n c) sz E (List.replicate n (zv.cells.toList.map AV.v)) :: h, ds⟩) ⟨hh2, hs.size, hs.fr.keep hk2.size (fun b hb hl => hk2.oo b hb hl), hs.defs⟩ hlt (.v _)) hk2
/-- The room of a nil slice. -/
theorem qr_cap_nil {T E : TypeId} (hx : f x = some (.v (.slice none 0 0))) [hu : Und P T (.slice E)] : QR P h f ⟨dst, .call ⟨.builtin .cap, [x].toArray, [T].toArray⟩, ty, pos, after, guard⟩ (.v (.int .i64 0)) := fun X ρ w he => by
  refine ⟨_, ?_, .v _⟩
  have hv := (he.rel x _ hx).v_eq
  simp only [execOp, resolve, List.map_toArray, List.map_cons, List.map_nil, Sem.run_bind, Sem.run_pure, Result.andThen_ok, invoke, builtin, Builtin.cap_, List.getElem?_toArray, List.getElem?_cons_zero, run_underlying (d := TypeDesc.slice E), hv]
  rfl
/-- A nil slice, none of it. -/
theorem qr_slice_nil {T E : TypeId} {sz : Nat} (hx : f x = some (.v (.slice none 0 0))) (hy : f y = some (.v (.int .i64 0))) [hu : Und P T (.slice E)] [Siz P E sz] : QR P h f ⟨dst, .slice T x none (some y) none, ty, pos, after, guard⟩ (.v (.slice none 0 0)) := fun X ρ w he => by
  obtain ⟨e1, e2⟩ := und_elem (P := P) (T := T) (E := E)
  refine ⟨.slice none 0 0, run_v _ ?_, .v _⟩
  simp only [Option.map_none, Option.map_some]
  rw [run_sliceAt_slice w T _ _ _ _ e2, (he.rel x _ hx).v_eq, (he.rel y _ hy).v_eq, run_slice_h w T none 0 0 e2 .i64 0 (by omega) (by omega), e1]
  simp only [run_sizeOf (n := sz), Result.andThen_ok, Int.toNat_natCast]
  rfl
/-- So many zeros behind a nil slice that is a row of ours. -/
theorem oe_append_zeros {T T2 E bytes sz i n : Nat} {zv : Value} {h' : Value → List Res} {d : Tmp} (hx : ev t x = some (.v (.slice none 0 0))) (hy : ev t y = some (.v (.int .i64 n))) [hrow : HasRow h (.slice none 0 0) i sz E []]
    [Und P T (.slice E)] [Und P T2 (.int .i64)] [Siz P E sz] [hby : Byt P E bytes] [hz : ZerV P E zv] (hn0 : 0 < n) (hn : n ≤ 549755813888) (hd : dok nt (some d) = true) [hset : ∀ s', SetAt h i (.row s' sz E (List.replicate n (zv.cells.toList.map AV.v))) (h' s')]
    (hk : ∀ s', next ⟨(d, .v s') :: t, h' s', ds⟩) (hb : bytes ≤ 128 := by decide) (hzs : zv.cells.size = sz := by rfl) :
    OE P ro nt ⟨some d, .call ⟨.builtin .append, [x, y].toArray, [T, T2].toArray⟩, ty, pos, after, guard⟩ ⟨t, h, ds⟩ next := by
  intro X a w K Q hs hK
  have ex := (hs.env.rel x _ hx).v_eq
  have ey := (hs.env.rel y _ hy).v_eq
  have hbi := hby.h
  cases hi : P.info? E with
  | none => simp [hi] at hbi
  | some inf =>
    simp [hi] at hbi
    have hwn : IntKind.i64.wrap (n : Int) = n := IntWalk.i64_in _ ⟨by omega, by omega⟩
    have hmul : n * inf.bytes ≤ 549755813888 * 128 := Nat.mul_le_mul hn (by omega)
    have hl2 : ¬ ((n : Int) * (inf.bytes : Int) > 2 ^ 48) := by
      rw [← Int.natCast_mul]
      generalize n * inf.bytes = m at hmul ⊢
      omega
    have hnext : ¬ (Builtin.nextslicecap (0 + n) 0 * inf.bytes > 2 ^ 48) := by
      have h1 := nextslicecap_le (need := 0 + n) (old := 0) (by omega)
      have h2 : Builtin.nextslicecap (0 + n) 0 * inf.bytes ≤ (2 * (0 + n)) * inf.bytes := Nat.mul_le_mul_right _ h1
      simp only [Nat.zero_add] at h2 ⊢
      rw [Nat.mul_assoc] at h2
      generalize n * inf.bytes = m at hmul h2
      omega
    obtain ⟨q, hq⟩ : ∃ q, q = Question.cut (.appendCap (0 + n) 0 E) (w.tape w.drawn (.appendCap (0 + n) 0 E)) := ⟨_, rfl⟩
    have hcut : n ≤ q := by rw [hq]; simp only [Question.cut]; omega
    let c2 : Array Value := if n * sz = 0 then #[] else Builtin.zeroCells zv.cells n
    have s2 : c2.size = n * sz := by
      simp only [c2]; split
      · rename_i h0; rw [h0]; rfl
      · simp [Builtin.zeroCells, hzs]
    let rest : Array Value := Builtin.zeroCells zv.cells (q - n)
    have hsub : (Builtin.append_ [T, T2].toArray ty [.slice none 0 0, .int .i64 (n : Int)].toArray).run P w = .ok (.slice (some ⟨w.heap.size, 0, none⟩) n q) { w with heap := w.heap.push (.cells (c2 ++ rest) E (0, 0)), drawn := w.drawn + 1 } := by
      have hai : ∀ (w : World), (asInt (.int .i64 (n : Int))).run P w = .ok (n : Int) w := fun w => rfl
      simp only [Builtin.append_, List.getElem?_toArray, List.getElem?_cons_zero, List.getElem?_cons_succ, Sem.run_bind, run_underlying (d := TypeDesc.slice E), run_underlying (d := TypeDesc.int .i64), run_sizeOf (n := sz), Result.andThen_ok, Sem.run_pure, if_true, hai, hwn]
      rw [if_neg (by omega)]
      simp only [Sem.run_bind, run_typeInfo hi, Result.andThen_ok]
      rw [if_neg hl2]
      simp only [Sem.run_bind, Sem.run_pure, Result.andThen_ok, Int.toNat_natCast]
      rw [if_neg (by omega)]
      simp only [Sem.run_bind, run_typeInfo hi, Result.andThen_ok]
      rw [if_neg (by simp [IntKind.max_i64]; omega)]
      simp only [Sem.run_bind, run_typeInfo hi, Result.andThen_ok]
      rw [if_neg hnext]
      simp only [Sem.run_bind, run_choose, Question.forced, Bool.false_eq_true, if_false, Result.andThen_ok, run_askRoom, run_typeInfo hi, ← hq]
      simp only [Builtin.firstCells, Sem.run_pure, Result.andThen_ok, Bool.not_true, Bool.false_eq_true, if_false]
      by_cases h0 : n * sz = 0
      · simp [h0, newRow, run_newObj, run_zeroValue hz.h, c2, rest]; rfl
      · simp [h0, newRow, run_newObj, run_zeroValue hz.h, c2, rest]; rfl
    have hrun : (execOp a.eval ⟨some d, .call ⟨.builtin .append, [x, y].toArray, [T, T2].toArray⟩, ty, pos, after, guard⟩).run P w = ((Builtin.append_ [T, T2].toArray ty [.slice none 0 0, .int .i64 (n : Int)].toArray).run P w).andThen fun v w => .ok (.value v) w := by
      simp only [execOp, resolve, List.map_toArray, List.map_cons, List.map_nil, Sem.run_bind, Sem.run_pure, Result.andThen_ok, invoke, builtin, ex, ey]
    refine ⟨about_true, ?_⟩
    rw [semAt_nd rfl, hrun, hsub]
    simp only [Result.andThen_ok, Oper.uponIn]
    have hy' := HRel.renew (o := .cells (c2 ++ rest) E (0, 0)) (dr := w.drawn + 1) (y := .row (.slice (some ⟨w.heap.size, 0, none⟩) n q) sz E (List.replicate n (zv.cells.toList.map AV.v))) hs.heap hrow.h rfl (fun hkk => by
      refine ⟨rfl, by simp, hcut, fun i hi => by simp [hzs], c2 ++ rest, by simp, ?_, fun i hi j hj => ?_⟩
      · simp only [Array.size_append, s2, rest, Builtin.zeroCells, Array.size_map, Array.size_range, hzs, Nat.zero_add]
        rw [← Nat.add_mul]; exact Nat.mul_le_mul_right _ (by omega)
      · have hi' : i < n := by simpa using hi
        have hj' : j < sz := by simpa [hzs] using hj
        have h0 : ¬ n * sz = 0 := fun h0 => by rcases Nat.mul_eq_zero.1 h0 with h | h <;> omega
        have hz2 := zero_at (zv := zv.cells) (n := n) (i := i) (j := j) hzs hi' (by omega)
        have hlt : i * sz + j < c2.size := by
          rw [s2]
          have : (i + 1) * sz ≤ n * sz := Nat.mul_le_mul_right _ hi'
          rw [Nat.add_mul] at this; omega
        refine ⟨zv.cells[j]'(by omega), ?_, ?_⟩
        · rw [Nat.zero_add, Array.getElem?_append_left hlt]
          simp only [c2, h0, if_false]; exact hz2
        · simp only [List.getElem_replicate, List.getElem_map, Array.getElem_toList]; exact .v _)
    obtain ⟨q1, q2, q3⟩ := hy'
    have hh' := (hset (.slice (some ⟨w.heap.size, 0, none⟩) n q)).h
    refine hK _ _ _ (hk (.slice (some ⟨w.heap.size, 0, none⟩) n q)) ?_ (by rw [← hh']; exact q2)
    have hsim : Sim X nt ⟨t, h' (.slice (some ⟨w.heap.size, 0, none⟩) n q), ds⟩ a _ := ⟨by rw [← hh']; exact q1, hs.size, by rw [← hh']; exact hs.fr.keep (by simp) q3, hs.defs⟩
    exact hsim.put (av := .v _) hd (.v _)
theorem qr_slice_lhm {T E : TypeId} {full : Bool} {sz l k : Nat} {rows : List (List AV)} (hx : f x = some (.list full sz rows)) (hy : f y = some (.v (.int .i64 l))) (hz : f z = some (.v (.int .i64 k))) (hu : f u = some (.v (.int .i64 k)))
    (hl : l ≤ k) (hk : k ≤ rows.length) [Und P T (.slice E)] [Siz P E sz] : QR P h f ⟨dst, .slice T x (some y) (some z) (some u), ty, pos, after, guard⟩ (.list true sz ((rows.take k).drop l)) := fun X ρ w he => by
  have hr := he.rel x _ hx
  obtain ⟨a, cap, e, hc⟩ := list_slice hr
  obtain ⟨e1, e2⟩ := und_elem (P := P) (T := T) (E := E)
  refine ⟨sliced a l k k sz, run_v _ ?_, ?_⟩
  · simp only [Option.map_some]
    rw [run_sliceAt_slice w T _ _ _ _ e2, e, (he.rel y _ hy).v_eq, (he.rel z _ hz).v_eq, (he.rel u _ hu).v_eq, run_slice_lhm w T a _ cap e2 .i64 .i64 .i64 l k k (by omega) (by omega) (by omega) (by omega), e1]
    simp only [run_sizeOf (n := sz), Result.andThen_ok, Int.toNat_natCast]
  · rw [e] at hr
    exact rel_sliced hr hl hk (Nat.le_refl _) (by omega) (fun _ => rfl)
/-- clear, of the end of a row of ours. -/
theorem oe_clear_part {T E bytes sz i d : Nat} {zv : Value} {s : Value} {rows : List (List AV)} {t : Fr} {h h' : List Res} {ds : List Nat} {next : St → Prop} (hx : ev t x = some (.v (partV s d rows.length sz))) [hrow : HasRow h s i sz E rows]
    [Und P T (.slice E)] [Siz P E sz] [hz : ZerV P E zv] (hdh : d ≤ rows.length) [hset : SetAt h i (.row s sz E (rows.take d ++ List.replicate (rows.length - d) (zv.cells.toList.map AV.v))) h'] (hk : next ⟨t, h', ds⟩) (hzs : zv.cells.size = sz := by rfl) (hzo : (zv.cells.toList.map AV.v).all AV.one = true := by rfl) :
    OE P ro nt ⟨none, .call ⟨.builtin .clear, [x].toArray, [T].toArray⟩, ty, pos, after, guard⟩ ⟨t, h, ds⟩ next := by
  obtain ⟨ys, hys⟩ : ∃ ys : List (List AV), ys = List.replicate (rows.length - d) (zv.cells.toList.map AV.v) := ⟨_, rfl⟩
  obtain ⟨hi, hhi0⟩ : ∃ hi, hi = rows.length := ⟨_, rfl⟩
  have hyl : ys.length = hi - d := by rw [hys, List.length_replicate, hhi0]
  have hset : SetAt h i (.row s sz E (rows.take d ++ (ys ++ rows.drop (d + ys.length)))) h' := by
    rw [hyl, List.drop_eq_nil_of_le (by omega), List.append_nil, hys]; exact hset
  rw [← hhi0] at hx
  have hhi : hi ≤ rows.length := by omega
  have hone : ∀ r ∈ ys, r.all AV.one = true := by rw [hys]; intro r hr; rw [(List.mem_replicate.1 hr).2]; exact hzo
  intro X a w K Q hs hK
  have ex := (hs.env.rel x _ hx).v_eq
  have hx0 := hs.heap.holds _ (List.mem_of_getElem? hrow.h)
  obtain ⟨ax, cap, es, hcap, hsz, _⟩ := row_list hs.heap hrow.h
  obtain ⟨c2, hc2⟩ : ∃ c2, c2 = Builtin.zeroCells zv.cells (hi - d) := ⟨_, rfl⟩
  have s2 : c2.size = ys.length * sz := by rw [hc2, hyl]; simp [Builtin.zeroCells, hzs]
  have hlx2 : ∀ i (hi : i < ys.length), ys[i].length = sz := fun i hi => by
    have hm := List.getElem_mem hi
    have : ∀ r ∈ ys, r.length = sz := by rw [hys]; intro r hr; rw [(List.mem_replicate.1 hr).2]; simpa using hzs
    exact this _ hm
  have g2 : ∀ i (hi : i < ys.length) j (hj : j < ys[i].length), ∃ u, c2[i * sz + j]? = some u ∧ Rel w (OO h X) ys[i][j] u := fun i hi j hj => by
    have hj' : j < sz := by rw [← hlx2 i hi]; exact hj
    have e1 : ys[i] = zv.cells.toList.map AV.v := by
      have hm := List.getElem_mem hi
      have : ∀ r ∈ ys, r = zv.cells.toList.map AV.v := by rw [hys]; intro r hr; exact (List.mem_replicate.1 hr).2
      exact this _ hm
    refine ⟨zv.cells[j]'(by omega), by rw [hc2]; exact zero_at hzs (by omega) (by omega), ?_⟩
    simp only [e1, List.getElem_map, Array.getElem_toList]; exact .v _
  have hcnt : d + ys.length ≤ hi := by omega
  have hrun : (execOp a.eval ⟨none, .call ⟨.builtin .clear, [x].toArray, [T].toArray⟩, ty, pos, after, guard⟩).run P w = ((Builtin.clear_ [T].toArray ty [partV s d hi sz].toArray).run P w).andThen fun v w => .ok (.value v) w := by
    simp only [execOp, resolve, List.map_toArray, List.map_cons, List.map_nil, Sem.run_bind, Sem.run_pure, Result.andThen_ok, invoke, builtin, ex]
  refine ⟨about_true, ?_⟩
  rw [semAt_nd rfl, hrun]
  have hsub0 : ∀ q c, (Builtin.clear_ [T].toArray ty [.slice q 0 c].toArray).run P w = .ok (.tuple #[]) w := by
    intro q c
    cases q <;> simp only [Builtin.clear_, List.getElem?_toArray, List.getElem?_cons_zero, Sem.run_bind, run_underlying (d := TypeDesc.slice E), Result.andThen_ok, Sem.run_pure]
  have hsub : ∀ (q : Addr) c, 0 < hi - d → (Builtin.clear_ [T].toArray ty [.slice (some q) (hi - d) c].toArray).run P w = ((storeCells q c2.toList).run P w).andThen fun _ w => .ok (.tuple #[]) w := by
    intro q c hpos
    obtain ⟨m, hm⟩ : ∃ m, hi - d = m + 1 := ⟨hi - d - 1, by omega⟩
    rw [hc2, hm]
    simp only [Builtin.clear_, List.getElem?_toArray, List.getElem?_cons_zero, Sem.run_bind, run_underlying (d := TypeDesc.slice E), Result.andThen_ok, Sem.run_pure, run_zeroValue hz.h]
  by_cases h0 : ys.length = 0
  · obtain rfl : ys = [] := List.eq_nil_of_length_eq_zero h0
    have he : h' = h := by
      rw [← hset.h]
      obtain ⟨hlt, e⟩ := List.getElem?_eq_some_iff.1 hrow.h
      rw [List.nil_append, List.length_nil, Nat.add_zero, List.take_append_drop, ← e, List.set_getElem_self]
    rw [es]
    simp only [partV, sliced]
    rw [show hi - d = 0 by omega, hsub0]
    simp only [Result.andThen_ok, Oper.uponIn]
    refine hK _ _ _ hk ?_ (by rw [he]; exact .refl _ _)
    have hsim : Sim X nt ⟨t, h', ds⟩ a w := by rw [he]; exact hs
    exact hsim
  · cases ax with
    | none =>
      rw [es] at hx0
      obtain ⟨q0, _⟩ := hx0
      rw [q0] at hhi
      simp only [List.length_nil] at hhi
      omega
    | some addr =>
    rw [es] at hx0
    obtain ⟨m1, _, m3, m4, c0, m5, m6, m7⟩ := hx0
    obtain ⟨b, off, spot⟩ := addr
    simp only at m1 m5 m6 m7
    subst m1
    have ep : partV s d hi sz = .slice (some ⟨b, off + d * sz, none⟩) (hi - d) (cap - d) := by
      rw [es]; simp only [partV, sliced]; rw [if_neg (by omega)]; simp only [Option.map_some, add_none]
    have hcs : ∀ v ∈ c2.toList, v.oneCell' = true := by
      intro v hv
      obtain ⟨k, hk1, hk2⟩ := List.mem_iff_getElem.1 hv
      have hk3 : k < ys.length * sz := by rw [← s2]; simpa using hk1
      have hsz0 : 0 < sz := by
        rcases Nat.eq_zero_or_pos sz with h | h
        · subst h; simp at hk3
        · exact h
      have hi : k / sz < ys.length := (Nat.div_lt_iff_lt_mul hsz0).2 hk3
      have hj : k % sz < ys[k / sz].length := by rw [hlx2 _ hi]; exact Nat.mod_lt _ hsz0
      obtain ⟨u, e, r⟩ := g2 _ hi _ hj
      have ek : k / sz * sz + k % sz = k := by have := Nat.div_add_mod k sz; rw [Nat.mul_comm] at this; exact this
      rw [ek] at e
      have : u = v := by
        have h2 : c2[k]? = some v := by rw [← hk2]; simp [show k < c2.size by rw [s2]; exact hk3]
        exact Option.some.inj (e.symm.trans h2)
      subst this
      exact r.one (List.all_eq_true.1 (hone _ (List.getElem_mem hi)) _ (List.getElem_mem hj))
    have hmul : (d + ys.length) * sz ≤ cap * sz := Nat.mul_le_mul_right _ (by omega)
    rw [Nat.add_mul] at hmul
    obtain ⟨w', f1, f2, f3, c', f4, f5, f6, ev⟩ := run_storeCells (P := P) c2.toList (off + d * sz) 0 w c0 hcs m5 (by simp [s2]; omega)
    rw [ep, hsub _ _ (by omega)]
    rw [f1]
    simp only [Result.andThen_ok, Oper.uponIn]
    have hbown : b ∈ (Res.row s sz E rows).own := by rw [es]; simp [Res.own]
    have hkk : ∀ b', ¬ OO h X b' → b' < w.heap.size → w'.heap[b']? = w.heap[b']? ∧ ¬ OO h X b' := fun b' hb' _ => ⟨f3 b' (fun he => hb' (.inl (mem_owns.2 ⟨_, List.mem_of_getElem? hrow.h, he ▸ hbown⟩))), hb'⟩
    have hoth : ∀ b', b' < w.heap.size → b' ∉ (Res.row s sz E rows).own → w'.heap[b']? = w.heap[b']? := fun b' _ hne => f3 b' fun he => hne (he ▸ hbown)
    have hown : (Res.row s sz E (rows.take d ++ (ys ++ rows.drop (d + ys.length)))).own = (Res.row s sz E rows).own := by rw [es]; rfl
    have hlen : (rows.take d ++ (ys ++ rows.drop (d + ys.length))).length = rows.length := by simp; omega
    have hlow : ∀ k (hk : k < (rows.take d ++ (ys ++ rows.drop (d + ys.length))).length) (h : k < d ∨ d + ys.length ≤ k), (rows.take d ++ (ys ++ rows.drop (d + ys.length)))[k] = rows[k]'(by omega) := fun k hk h => by
      rcases h with h | h
      · rw [List.getElem_append_left (by simp; omega)]; simp
      · rw [List.getElem_append_right (by simp; omega), List.getElem_append_right (by simp; omega), List.getElem_drop]; congr 1; simp; omega
    have hmid : ∀ k (hk : k < (rows.take d ++ (ys ++ rows.drop (d + ys.length))).length) (h1 : d ≤ k) (h2 : k < d + ys.length), (rows.take d ++ (ys ++ rows.drop (d + ys.length)))[k] = ys[k - d]'(by omega) := fun k hk h1 h2 => by
      rw [List.getElem_append_right (by simp; omega), List.getElem_append_left (by simp; omega)]; congr 1; simp; omega
    have hholds : (Res.row s sz E (rows.take d ++ (ys ++ rows.drop (d + ys.length)))).holds w' (OO h X) := by
      rw [es]
      refine ⟨rfl, hlen.symm, hcap, fun k hk => ?_, c', f4, by rw [f5]; exact m6, fun k hk j hj => ?_⟩
      · by_cases h : d ≤ k ∧ k < d + ys.length
        · rw [hmid k hk h.1 h.2]; exact hlx2 _ (by omega)
        · rw [hlow k hk (by omega)]; exact hsz _ (by omega)
      · have hk' : k < rows.length := by rw [← hlen]; exact hk
        by_cases h : d ≤ k ∧ k < d + ys.length
        · simp only [hmid k hk h.1 h.2] at hj ⊢
          obtain ⟨u, e, r⟩ := g2 (k - d) (by omega) j hj
          have hj' : j < sz := by rw [← hlx2 (k - d) (by omega)]; exact hj
          have q1 : (k - d + 1) * sz ≤ ys.length * sz := Nat.mul_le_mul_right _ (by omega)
          rw [Nat.add_mul] at q1
          have q2 : k * sz = d * sz + (k - d) * sz := by rw [← Nat.add_mul]; congr 1; omega
          refine ⟨u, ?_, r.keep (by omega) hkk⟩
          show c'[off + k * sz + j]? = some u
          rw [f6, if_pos (by simp; omega), show off + k * sz + j - (off + d * sz + 0) = (k - d) * sz + j by omega]
          simpa using e
        · simp only [hlow k hk (by omega)] at hj ⊢
          obtain ⟨u, e, r⟩ := m7 k hk' j hj
          have hj' : j < sz := by rw [← hsz k hk']; exact hj
          refine ⟨u, ?_, r.keep (by omega) hkk⟩
          show c'[off + k * sz + j]? = some u
          rw [f6, if_neg ?_]
          · exact e
          · simp only [Array.length_toList, s2]
            rcases Nat.lt_or_ge k d with q | q
            · have : (k + 1) * sz ≤ d * sz := Nat.mul_le_mul_right _ q
              rw [Nat.add_mul] at this; omega
            · have : (d + ys.length) * sz ≤ k * sz := Nat.mul_le_mul_right _ (by omega)
              rw [Nat.add_mul] at this; omega
    refine hK _ _ _ hk ?_ (by rw [← hset.h]; exact Keep.set hrow.h hown (by omega) hoth ev)
    have hO : OO h' X = OO h X := by funext b'; rw [← hset.h]; simp only [OO, owns_set hrow.h hown]
    have hsim : Sim X nt ⟨t, h', ds⟩ a w' := ⟨by rw [← hset.h]; exact hs.heap.set hrow.h hown (by omega) hoth hholds, hs.size, by rw [hO]; exact hs.fr.keep (by omega) hkk, hs.defs⟩
    exact hsim
theorem qr_quo {T T' : TypeId} {a b c : Int} (hx : f x = some (.v (.int .i64 a))) (hy : f y = some (.v (.int .i64 b))) (hb : b ≠ 0) (hc : a.tdiv b = c) (hr : -9223372036854775808 ≤ c ∧ c ≤ 9223372036854775807) :
    QR P h f ⟨dst, .binOp .quo T x y T', ty, pos, after, guard⟩ (.v (.int .i64 c)) := fun X ρ w he => by
  refine ⟨_, run_v _ ?_, .v _⟩
  rw [(he.rel x _ hx).v_eq, (he.rel y _ hy).v_eq, run_binop_int]
  simp [binOp, Op.intDiv, hb, hc, IntWalk.i64_in _ hr]
end
end Go.Ab
/- Rows merged and sorted, step by step. Conditions: aS each lemma states. -/
set_option linter.unusedVariables false
set_option linter.unusedSimpArgs false
namespace Go.H
open Go Go.Ab
variable {α : Type} (cmp : α → α → Int)
theorem mrg_y {a b : List α} {i j : Nat} (hi : i < a.length) (hj : j < b.length) (h : cmp b[j] a[i] < 0) : mrg cmp (a.drop i) (b.drop j) = b[j] :: mrg cmp (a.drop i) (b.drop (j + 1)) := by
  rw [List.drop_eq_getElem_cons hi, List.drop_eq_getElem_cons hj, mrg, if_pos h]
theorem mrg_n {a b : List α} {i j : Nat} (hi : i < a.length) (hj : j < b.length) (h : ¬ cmp b[j] a[i] < 0) : mrg cmp (a.drop i) (b.drop j) = a[i] :: mrg cmp (a.drop (i + 1)) (b.drop j) := by
  rw [List.drop_eq_getElem_cons hi, List.drop_eq_getElem_cons hj, mrg, if_neg h]
theorem mrg_over {a b : List α} (h : a = [] ∨ b = []) : mrg cmp a b = a ++ b := by
  rcases h with rfl | rfl
  · simp [mrg]
  · rw [mrg_nil, List.append_nil]
theorem flat_mem {L : List (List α)} {r : List α} (h : r ∈ L) : r.length ≤ L.flatten.length := by
  induction L with
  | nil => cases h
  | cons a L ih =>
    rw [List.flatten_cons, List.length_append]
    rcases List.mem_cons.1 h with rfl | h
    · omega
    · have := ih h; omega
theorem pair_odd {L : List (List α)} {i : Nat} (h : 2 * i + 1 = L.length) : bothR cmp L (2 * i) = L[2 * i]'(by omega) := by
  rw [bothR, if_pos h, List.getElem?_eq_getElem (by omega)]; rfl
theorem pair_two {L : List (List α)} {i : Nat} (h : 2 * i + 1 < L.length) : bothR cmp L (2 * i) = mrg cmp (L[2 * i]'(by omega)) L[2 * i + 1] := by
  rw [bothR, if_neg (by omega), List.getElem?_eq_getElem (by omega), List.getElem?_eq_getElem h]; rfl
theorem pair_take {L : List (List α)} {i : Nat} (h : i < (L.length + 1) / 2) : (pairUp cmp L).take (i + 1) = (pairUp cmp L).take i ++ [bothR cmp L (2 * i)] := by
  have hl : i < (pairUp cmp L).length := by rw [pairUp_len]; exact h
  rw [List.take_succ_eq_append_getElem hl]
  congr 2
  have := pairUp_get cmp L i hl
  rw [List.getElem?_eq_getElem hl] at this
  exact Option.some.inj this
theorem pair_all {L : List (List α)} {i : Nat} (h : i = (L.length + 1) / 2) : (pairUp cmp L).take i = pairUp cmp L := by
  rw [List.take_of_length_le]; rw [pairUp_len]; omega
theorem sort_nil {L : List (List α)} {l : List α} (h : srtR cmp L = srtR cmp (l.map fun a => [a])) (h0 : L.length = 0) : sortL cmp l = [] := by
  rw [sortL, ← h, srtR_end cmp (by omega), List.length_eq_zero_iff.1 h0]; rfl
theorem sort_one {r l : List α} (h : srtR cmp [r] = srtR cmp (l.map fun a => [a])) : sortL cmp l = r := by
  rw [sortL, ← h, srtR_end cmp (by simp)]; rfl
theorem one_flat (l : List α) : (l.map fun a => [a]).flatten = l := by induction l <;> simp_all
end Go.H
/- append onto a row of one's own, of very many. Conditions: none (rules over any program). -/
set_option linter.unusedVariables false
set_option linter.unusedSimpArgs false
namespace Go.Ab
open Go
section
variable {P : Program} {ro : Option Nat} {nt : Nat} {h : List Res} {f : Operand → Option AV} {dst : Option Tmp} {ty : TypeId} {pos : String} {after : Array Edge} {guard : Option (Nat × Bool)} {x y z : Operand}
end
end Go.Ab
/- The walk of order.Merge. Conditions: none. -/
set_option linter.unusedVariables false
set_option linter.unusedSimpArgs false
set_option maxRecDepth 10000
namespace Go.Proofs
open Go Go.Ab
attribute [local irreducible] QR QV OE aops aw dsoup dsoupM dalloc dallocM thn inBlk jsoup jch lsoup
open Go.H
def runsR (sz : Nat) (T : TypeId) {α : Type} (R : α → List AV) (x : List (SV × List α)) : List Res := x.map fun p => .row p.1.v sz T (p.2.map R)
abbrev cellsS {α : Type} (x : List (SV × List α)) : List (List AV) := x.map fun p => [.v p.1.v]
theorem runsR_snoc {sz : Nat} {T : TypeId} {α : Type} {R : α → List AV} (x : List (SV × List α)) (p : SV × List α) : runsR sz T R (x ++ [p]) = runsR sz T R x ++ [.row p.1.v sz T (p.2.map R)] := by simp [runsR]
theorem cellsS_snoc {α : Type} (x : List (SV × List α)) (p : SV × List α) : cellsS (x ++ [p]) = cellsS x ++ [[.v p.1.v]] := by simp [cellsS]
theorem cellsS_len {α : Type} (x : List (SV × List α)) : (cellsS x).length = x.length := List.length_map _
theorem runsR_nil (sz : Nat) (T : TypeId) {α : Type} (R : α → List AV) : runsR sz T R [] = [] := rfl
theorem runsR_cons {sz : Nat} {T : TypeId} {α : Type} {R : α → List AV} {x : List (SV × List α)} {k : Nat} (hk : k < x.length) : runsR sz T R (x.drop k) = .row (x[k]).1.v sz T ((x[k]).2.map R) :: runsR sz T R (x.drop (k + 1)) := by
  rw [List.drop_eq_getElem_cons hk]; rfl
theorem cellsS_at {α : Type} {x : List (SV × List α)} {k : Nat} (hk : k < x.length) : (cellsS x)[k]? = some [.v (x[k]).1.v] := by simp [cellsS, hk]
theorem perm_last {β : Type} (m : β) (A B : List β) : (m :: (A ++ B)).Perm (A ++ (B ++ [m])) := by
  rw [← List.append_assoc]; exact List.perm_append_comm (l₁ := [m])
theorem tail_start {sz : Nat} {T : TypeId} {α : Type} {R : α → List AV} (x : List (SV × List α)) : runsR sz T R x = runsR sz T R (x.drop (2 * 0)) ++ runsR sz T R [] := by rw [Nat.mul_zero, List.drop_zero, runsR_nil, List.append_nil]
theorem tail_end {sz : Nat} {T : TypeId} {α : Type} {R : α → List AV} {x y : List (SV × List α)} {n : Nat} (h : x.length ≤ 2 * n) : runsR sz T R (x.drop (2 * n)) ++ runsR sz T R y = runsR sz T R y := by rw [List.drop_eq_nil_of_le h, runsR_nil, List.nil_append]
theorem tail_odd {sz : Nat} {T : TypeId} {α : Type} {R : α → List AV} {x y : List (SV × List α)} {i : Nat} (h : 2 * i + 1 = x.length) : (runsR sz T R (x.drop (2 * i)) ++ runsR sz T R y).Perm (runsR sz T R (x.drop (2 * (i + 1))) ++ runsR sz T R (y ++ [x[2 * i]'(by omega)])) := by
  rw [List.drop_eq_nil_of_le (show x.length ≤ 2 * (i + 1) by omega), runsR_cons (by omega), List.drop_eq_nil_of_le (by omega), runsR_nil, List.nil_append, runsR_snoc]
  exact List.perm_append_comm
theorem tail_two {sz : Nat} {T : TypeId} {α : Type} {R : α → List AV} {x y : List (SV × List α)} {i : Nat} {m : SV} {l : List α} : (.row m.v sz T (l.map R) :: (runsR sz T R (x.drop (2 * i + 1 + 1)) ++ runsR sz T R y)).Perm (runsR sz T R (x.drop (2 * (i + 1))) ++ runsR sz T R (y ++ [(m, l)])) := by
  rw [runsR_snoc, show 2 * (i + 1) = 2 * i + 1 + 1 by omega]
  exact perm_last _ _ _
theorem one_cellS (s : SV) : ∀ r ∈ ([[.v s.v]] : List (List AV)), r.all AV.one = true := by
  intro r hr; rw [List.mem_singleton.1 hr]; rfl
theorem take_one {β : Type} {l : List β} {k : Nat} (hk : k < l.length) : (l.take (k + 1)).drop k = [l[k]] := by
  rw [List.take_succ_eq_append_getElem hk, List.drop_left' (by simp; omega)]
set_option maxHeartbeats 4000000 in
theorem mergeEd (a b : List Ed) (fv : AV) (cmp : Ed → Ed → Int) (hp : ∀ x y, FCall Tryz.prog fv [.agg (edR x), .agg (edR y)] [] (fun r h' => h' = [] ∧ r = iv (cmp x y))) (ha : a.length ≤ 1000000000) (hb : b.length ≤ 1000000000) : ACall Tryz.prog 114 [.list false 3 (a.map edR), .list false 3 (b.map edR), fv] [] (fun r h' => ∃ s : SV, h' = [.row s.v 3 53 ((mrg cmp a b).map edR)] ∧ r = .v s.v) := by
  refine acall_of_aw Tryz.func114 rfl rfl rfl ?_
  refine rn ?_
  refine aw_scope ?_
  refine aw_seq (aw_region ?_)
  refine q1 ?_
  refine q1 ?_
  refine q1 ?_
  refine q1 ?_
  refine qq rfl rfl (qr_ari rfl rfl rfl (by simp only [List.length_map]; omega)) ?_
  refine aops_e rfl (oe_makeG (n := 0) (c := ((a.map edR).length + (b.map edR).length)) rfl rfl rfl (Nat.zero_le _) (by simp only [List.length_map]; omega) (hk := fun b7 => ?_))
  refine aops_slice (.slice (some ⟨b7, 0, none⟩) 0 ((a.map edR).length + (b.map edR).length)) fun s0 hs0 => ?_
  rw [hs0]
  clear hs0
  refine rn ?_
  refine aw_while (fun x : Nat × Nat × List Ed × SV => x.1 ≤ a.length ∧ x.2.1 ≤ b.length ∧ x.2.2.1.length = x.1 + x.2.1 ∧ x.2.2.1 ++ mrg cmp (a.drop x.1) (b.drop x.2.1) = mrg cmp a b) (fun x => ⟨[(0, .list false 3 ((a.drop x.1).map edR)), (1, .list false 3 ((b.drop x.2.1).map edR)), (2, fv), (7, .v x.2.2.2.v)], .row x.2.2.2.v 3 53 (x.2.2.1.map edR) :: [], []⟩) (fun x => (a.length - x.1) + (b.length - x.2.1)) (0, 0, [], s0) ⟨Nat.zero_le _, Nat.zero_le _, rfl, rfl⟩ es ?_
  rintro ⟨i, j, p, s⟩ ⟨hi0, hj0, hpl, hm⟩
  simp only at hi0 hj0 hpl hm
  show aw _ _ _ _ _ ⟨[(0, .list false 3 ((a.drop i).map edR)), (1, .list false 3 ((b.drop j).map edR)), (2, fv), (7, .v s.v)], .row s.v 3 53 (p.map edR) :: [], []⟩
  refine rn ?_
  refine asplit (fun hg3_3 => ?_) (fun hg3_3 => ?_)
  · refine rn ?_
    refine aw_ct rfl ?_
    have hov : a.drop i = [] ∨ b.drop j = [] := by first | (have q := hg3_3; simp at q; exact .inl (List.drop_eq_nil_of_le (by omega))) | (have q := hc22; simp at q; exact .inr (List.drop_eq_nil_of_le (by omega)))
    refine rn ?_
    refine aops_e rfl (oe_append_row rfl rfl (by simp only [List.length_map, List.length_drop]; omega) rfl (fun s51 => ?_) (one_ed _))
    refine aops_slice s51 fun sv1 hsv1 => ?_
    subst hsv1
    refine rn ?_
    refine aops_e rfl (oe_append_row rfl rfl (by simp only [List.length_map, List.length_append, List.length_drop]; omega) rfl (fun s53 => ?_) (one_ed _))
    refine aops_slice s53 fun sv2 hsv2 => ?_
    subst hsv2
    refine rn ?_
    refine ⟨fun l h => (by cases h), ?_⟩
    exact retq (.cons _ _ _ _ (.tmp _ _ rfl) .nil) (.refl _ _) ⟨sv2, by rw [← hm, mrg_over cmp hov, List.map_append, List.map_append, List.append_assoc], rfl⟩
  · refine rn ?_
    refine aw_cond rfl (fun hc22 => ?_) (fun hc22 => ?_)
    · have hov : a.drop i = [] ∨ b.drop j = [] := by first | (have q := hg3_3; simp at q; exact .inl (List.drop_eq_nil_of_le (by omega))) | (have q := hc22; simp at q; exact .inr (List.drop_eq_nil_of_le (by omega)))
      refine rn ?_
      refine aops_e rfl (oe_append_row rfl rfl (by simp only [List.length_map, List.length_drop]; omega) rfl (fun s51 => ?_) (one_ed _))
      refine aops_slice s51 fun sv1 hsv1 => ?_
      subst hsv1
      refine rn ?_
      refine aops_e rfl (oe_append_row rfl rfl (by simp only [List.length_map, List.length_append, List.length_drop]; omega) rfl (fun s53 => ?_) (one_ed _))
      refine aops_slice s53 fun sv2 hsv2 => ?_
      subst hsv2
      refine rn ?_
      refine ⟨fun l h => (by cases h), ?_⟩
      exact retq (.cons _ _ _ _ (.tmp _ _ rfl) .nil) (.refl _ _) ⟨sv2, by rw [← hm, mrg_over cmp hov, List.map_append, List.map_append, List.append_assoc], rfl⟩
    · have hi : i < a.length := by have q := hg3_3; simp at q; omega
      have hj : j < b.length := by have q := hc22; simp at q; omega
      have ia : ((a.drop i).map edR)[0]? = some (edR a[i]) := by rw [List.getElem?_map, List.getElem?_drop, Nat.add_zero, List.getElem?_eq_getElem hi]; rfl
      have ib : ((b.drop j).map edR)[0]? = some (edR b[j]) := by rw [List.getElem?_map, List.getElem?_drop, Nat.add_zero, List.getElem?_eq_getElem hj]; rfl
      refine rn ?_
      refine aw_draw 7 rfl ?_
      refine dq rfl rfl qrA ?_
      refine dq rfl rfl qrA ?_
      refine dq rfl rfl (qr_index_int rfl rfl (by decide) ib) ?_
      refine dq rfl rfl qrA ?_
      refine dq rfl rfl qrA ?_
      refine dq rfl rfl (qr_index_int rfl rfl (by decide) ia) ?_
      refine rn ?_
      refine qv rfl rfl (qv_call rfl rfl (FCall.pure (R := fun r => r = iv (cmp b[j] a[i])) (hp b[j] a[i]))) ?_
      refine rn ?_
      refine aw_cond rfl (fun hc31 => ?_) (fun hc31 => ?_)
      · have hlt : cmp b[j] a[i] < 0 := of_decide_eq_true hc31
        refine aw_drawU 9 [5] [8] (fun he => ∃ s' rows, he = [.row s' 3 53 rows]) rfl rfl ⟨_, _, rfl⟩ ?_
        refine jq rfl (fun he hC => by obtain ⟨s2, rows, rfl⟩ := hC <;> exact qrA) ?_
        refine jq rfl (fun he hC => by obtain ⟨s2, rows, rfl⟩ := hC <;> exact qrA) ?_
        refine jq rfl (fun he hC => by obtain ⟨s2, rows, rfl⟩ := hC <;> exact (by exact qr_index_int rfl rfl (by decide) ib)) ?_
        refine jq rfl (fun he hC => by obtain ⟨s2, rows, rfl⟩ := hC <;> exact qrA) ?_
        refine jv rfl (fun he hC => by obtain ⟨s2, rows, rfl⟩ := hC <;> exact (by exact qv_buildSlice rfl rfl)) ?_
        refine je rfl ?_
        refine jq rfl (fun he hC => by obtain ⟨s2, rows, rfl⟩ := hC <;> exact qrA) ?_
        refine jq rfl (fun he hC => by obtain ⟨s2, rows, rfl⟩ := hC <;> exact (by exact qr_as (qr_slice_l (l := 1) rfl rfl (by simp; omega)) (show AV.list false 3 _ = .list false 3 ((b.drop (j + 1)).map edR) by rw [← List.map_drop, List.drop_drop]))) ?_
        refine je rfl ?_
        refine jnil ?_
        refine jce rfl fun u => ?_
        refine oe_append_row rfl rfl (by simp only [List.length_map, List.length_cons, List.length_nil]; omega) rfl (fun s46 => ⟨_, _, rfl, ⟨_, _, rfl⟩, ?_⟩) (one_ed [b[j]])
        refine jcn ?_
        refine lq rfl rfl (by exact qrA) ?_
        refine ln ?_
        refine aops_slice s46 fun sv hsv => ?_
        subst hsv
        refine rn ?_
        exact ⟨(i, j + 1, p ++ [b[j]], sv), ⟨hi0, hj, by simp; omega, by rw [← hm, mrg_y cmp hi hj hlt, List.append_assoc]; rfl⟩, by rw [List.map_append]; exact eA, by simp only; omega⟩
      · have hlt : ¬ cmp b[j] a[i] < 0 := of_decide_eq_false hc31
        refine aw_drawU 9 [5] [8] (fun he => ∃ s' rows, he = [.row s' 3 53 rows]) rfl rfl ⟨_, _, rfl⟩ ?_
        refine jq rfl (fun he hC => by obtain ⟨s2, rows, rfl⟩ := hC <;> exact qrA) ?_
        refine jq rfl (fun he hC => by obtain ⟨s2, rows, rfl⟩ := hC <;> exact qrA) ?_
        refine jq rfl (fun he hC => by obtain ⟨s2, rows, rfl⟩ := hC <;> exact (by exact qr_index_int rfl rfl (by decide) ia)) ?_
        refine jq rfl (fun he hC => by obtain ⟨s2, rows, rfl⟩ := hC <;> exact qrA) ?_
        refine jv rfl (fun he hC => by obtain ⟨s2, rows, rfl⟩ := hC <;> exact (by exact qv_buildSlice rfl rfl)) ?_
        refine je rfl ?_
        refine jq rfl (fun he hC => by obtain ⟨s2, rows, rfl⟩ := hC <;> exact qrA) ?_
        refine jq rfl (fun he hC => by obtain ⟨s2, rows, rfl⟩ := hC <;> exact (by exact qr_as (qr_slice_l (l := 1) rfl rfl (by simp; omega)) (show AV.list false 3 _ = .list false 3 ((a.drop (i + 1)).map edR) by rw [← List.map_drop, List.drop_drop]))) ?_
        refine je rfl ?_
        refine jnil ?_
        refine jce rfl fun u => ?_
        refine oe_append_row rfl rfl (by simp only [List.length_map, List.length_cons, List.length_nil]; omega) rfl (fun s46 => ⟨_, _, rfl, ⟨_, _, rfl⟩, ?_⟩) (one_ed [a[i]])
        refine jcn ?_
        refine lq rfl rfl (by exact qrA) ?_
        refine ln ?_
        refine aops_slice s46 fun sv hsv => ?_
        subst hsv
        refine rn ?_
        exact ⟨(i + 1, j, p ++ [a[i]], sv), ⟨hi, hj0, by simp; omega, by rw [← hm, mrg_n cmp hi hj hlt, List.append_assoc]; rfl⟩, by rw [List.map_append]; exact eA, by simp only; omega⟩
end Go.Proofs
/- A call that is lent what it reads, and makes something new. Conditions: none (a rule over any program). -/
set_option linter.unusedVariables false
namespace Go.Ab
open Go
theorem FCall.lendG {P : Program} {fv fv' : AV} {args args' : List AV} {h : List Res} {R : AV → List Res → Prop} (hc : FCall P fv' args' [] R) (hR : ∀ r h', R r h' → Scal r ∧ ∀ x ∈ h', ScalR x)
    (hf : BLe h fv fv') (hle : BLes h args args') : FCall P fv args h (fun r h' => ∃ h'', h' = h'' ++ h ∧ R r h'') := by
  intro X w v vs hh hv ha
  refine (hc noX w v vs (hrel_none w) (by rw [OO_none]; exact hf X w v hh hv) (by rw [OO_none]; exact hle.rels hh ha)).mono ?_
  rintro e w' ⟨u, av, h', e1, hRr, hrel, hh', hk⟩
  obtain ⟨hs1, hs2⟩ := hR _ _ hRr
  have hold : ∀ b, b < w.heap.size → w'.heap[b]? = w.heap[b]? ∧ b ∉ owns h' := fun b hb => hk.same b hb (by simp [owns])
  have happ : owns (h' ++ h) = owns h' ++ owns h := by simp [owns, List.flatMap_append]
  have hkk : ∀ b, ¬ OO h X b → b < w.heap.size → w'.heap[b]? = w.heap[b]? ∧ ¬ OO (h' ++ h) X b := fun b hb hl => by
    refine ⟨(hold b hl).1, fun q => ?_⟩
    rcases q with q | q
    · rw [happ, List.mem_append] at q
      rcases q with q | q
      · exact (hold b hl).2 q
      · exact hb (.inl q)
    · exact hb (.inr q)
  have hh2 : HRel X w' (h' ++ h) := by
    refine ⟨?_, fun b hb => ?_, fun b hb => Nat.lt_of_lt_of_le (hh.xlt b hb) hk.size, fun r hr => ?_⟩
    · rw [happ, List.nodup_append]
      exact ⟨hh'.nodup, hh.nodup, fun x hx y hy q => (hold y (hh.lt y hy).1).2 (q ▸ hx)⟩
    · rw [happ, List.mem_append] at hb
      rcases hb with hb | hb
      · exact ⟨(hh'.lt b hb).1, fun hx => (hold b (hh.xlt b hx)).2 hb⟩
      · exact ⟨Nat.lt_of_lt_of_le (hh.lt b hb).1 hk.size, (hh.lt b hb).2⟩
    · rcases List.mem_append.1 hr with hr | hr
      · exact hs2 r hr (hh'.holds r hr)
      · exact Res.holds_keep hk.size hkk (fun b hb => (hold b (hh.lt b (mem_owns.2 ⟨r, hr, hb⟩)).1).1) (hh.holds r hr)
  refine ⟨u, av, _, e1, ⟨_, rfl, hRr⟩, hs1.rel hrel, hh2, ⟨hk.size, fun b hb ho => ⟨(hold b hb).1, fun q => ?_⟩, hk.env⟩⟩
  rw [happ, List.mem_append] at q
  exact q.elim (hold b hb).2 ho
end Go.Ab
/- The walk of order.Sort. Conditions: none. -/
set_option linter.unusedVariables false
set_option linter.unusedSimpArgs false
set_option maxRecDepth 10000
namespace Go.Proofs
open Go Go.Ab
attribute [local irreducible] QR QV OE aops aw dsoup dsoupM dalloc dallocM thn inBlk jsoup jch lsoup
open Go.H
theorem both1Ed (x : List (SV × List Ed)) (sr : SV) (b5 b3 k : Nat) (hk : k + 1 = x.length) (hx : x.length ≤ 1000000000) : ACall Tryz.prog 113 [iv k, .v (.pointer (some ⟨b5, 0, none⟩)), .v (.pointer (some ⟨b3, 0, none⟩))] (.row sr.v 1 22 (cellsS x) :: .box b5 142 [.v sr.v] :: []) (fun r h' => h' = .row sr.v 1 22 (cellsS x) :: .box b5 142 [.v sr.v] :: [] ∧ r = .v (x[k]'(by omega)).1.v) := by
  refine acall_of_aw Tryz.func113 rfl rfl rfl ?_
  refine aw_seq (aw_region ?_)
  refine q1 ?_
  refine aops_nil (thn_n ?_)
  refine aw_seq ?_
  refine aw_seq (aw_region ?_)
  refine q1 ?_
  refine qq rfl rfl (qr_ari rfl rfl rfl (by omega)) ?_
  refine q1 ?_
  refine q1 ?_
  refine qq rfl rfl (qr_cmp (c := true) rfl rfl (congrArg some (by rw [List.length_map]; simp; omega))) ?_
  refine rn ?_
  refine aw_cond rfl (fun hc9 => ?_) (fun hc9 => ?_)
  · refine aw_seq (aw_region ?_)
    refine q1 ?_
    refine q1 ?_
    refine qq rfl rfl (qr_index_row (k := k) rfl rfl (by rw [List.length_map]; omega)) ?_
    refine qq rfl rfl (qr_load_rp_one rfl (cellsS_at (by omega)) rfl) ?_
    refine rn ?_
    refine rq 0 ?_
    exact ⟨rfl, rfl⟩
  · first | cases hc9 | exact absurd hc9 (by decide) | (exfalso; simp_all; done)
theorem scalEd (l : List Ed) : ∀ r ∈ l.map edR, ∀ a ∈ r, Scal a := by
  intro r hr a ha
  obtain ⟨c, _, rfl⟩ := List.mem_map.1 hr
  simp only [edR, List.mem_cons, List.not_mem_nil, or_false] at ha
  rcases ha with rfl | rfl | rfl <;> exact .v _
set_option maxHeartbeats 4000000 in
theorem both2Ed (x : List (SV × List Ed)) (sr : SV) (b5 b3 k : Nat) (hk : k + 1 < x.length) (hx : x.length ≤ 1000000000) (ha : ∀ p ∈ x, p.2.length ≤ 1000000000) (fv : AV) (cmp : Ed → Ed → Int) (hp : ∀ x y, FCall Tryz.prog fv [.agg (edR x), .agg (edR y)] [] (fun r h' => h' = [] ∧ r = iv (cmp x y))) : ACall Tryz.prog 113 [iv k, .v (.pointer (some ⟨b5, 0, none⟩)), .v (.pointer (some ⟨b3, 0, none⟩))] (.row sr.v 1 22 (cellsS x) :: .box b5 142 [.v sr.v] :: .box b3 107 [fv] :: .row (x[k]'(by omega)).1.v 3 53 ((x[k]'(by omega)).2.map edR) :: .row (x[k + 1]).1.v 3 53 ((x[k + 1]).2.map edR) :: []) (fun r h' => ∃ s : SV, h' = .row s.v 3 53 ((mrg cmp (x[k]'(by omega)).2 (x[k + 1]).2).map edR) :: .row sr.v 1 22 (cellsS x) :: .box b5 142 [.v sr.v] :: .box b3 107 [fv] :: .row (x[k]'(by omega)).1.v 3 53 ((x[k]'(by omega)).2.map edR) :: .row (x[k + 1]).1.v 3 53 ((x[k + 1]).2.map edR) :: [] ∧ r = .v s.v) := by
  refine acall_of_aw Tryz.func113 rfl rfl rfl ?_
  refine aw_seq (aw_region ?_)
  refine q1 ?_
  refine aops_nil (thn_n ?_)
  refine aw_seq ?_
  refine aw_seq (aw_region ?_)
  refine q1 ?_
  refine qq rfl rfl (qr_ari rfl rfl rfl (by omega)) ?_
  refine q1 ?_
  refine q1 ?_
  refine qq rfl rfl (qr_cmp (c := false) rfl rfl (congrArg some (by rw [List.length_map]; simp; omega))) ?_
  refine rn ?_
  refine aw_cond rfl (fun hc9 => ?_) (fun hc9 => ?_)
  · first | cases hc9 | exact absurd hc9 (by decide) | (exfalso; simp_all; done)
  · refine rn ?_
    refine aw_draw 10 rfl ?_
    refine dq rfl rfl qrA ?_
    refine dq rfl rfl qrA ?_
    refine dq rfl rfl (qr_index_row (k := k) rfl rfl (by rw [List.length_map]; omega)) ?_
    refine dq rfl rfl (qr_load_rp_one rfl (cellsS_at (by omega)) rfl) ?_
    refine dq rfl rfl qrA ?_
    refine dq rfl rfl qrA ?_
    refine dq rfl rfl (qr_ari rfl rfl rfl (by omega)) ?_
    refine dq rfl rfl (qr_index_row (k := k + 1) rfl rfl (by rw [List.length_map]; omega)) ?_
    refine dq rfl rfl (qr_load_rp_one rfl (cellsS_at hk) rfl) ?_
    refine rn ?_
    refine aops_e rfl (oe_call rfl rfl (FCall.lendG (FCall.of_fun (mergeEd (x[k]'(by omega)).2 (x[k + 1]).2 fv cmp hp (ha _ (List.getElem_mem _)) (ha _ (List.getElem_mem _)))) (by rintro _ _ ⟨s, rfl, rfl⟩; exact ⟨.v _, fun x hx => by rw [List.mem_singleton.1 hx]; exact scal_row (scalEd _)⟩) (BLe.refl _ _) (by exact ⟨ble_row, ble_row, BLe.refl _ _, trivial⟩)) rfl ?_)
    rintro _ _ ⟨_, rfl, s, rfl, rfl⟩
    refine rn ?_
    exact retq (.cons _ _ _ _ (.tmp _ _ rfl) .nil) (.refl _ _) ⟨s, rfl, rfl⟩
set_option maxHeartbeats 4000000 in
theorem sortEd (l : List Ed) (fv : AV) (hone : fv.cellsOf = some [fv]) (cmp : Ed → Ed → Int) (hp : ∀ x y, FCall Tryz.prog fv [.agg (edR x), .agg (edR y)] [] (fun r h' => h' = [] ∧ r = iv (cmp x y))) (hl : l.length ≤ 1000000000) : ACall Tryz.prog 103 [.list false 3 (l.map edR), fv] [] (fun r h' => ∃ s : SV, h' = [.row s.v 3 53 ((sortL cmp l).map edR)] ∧ r = .v s.v) := by
  refine acall_of_aw Tryz.func103 rfl rfl rfl ?_
  refine rn ?_
  refine aops_e rfl (oe_box rfl hone rfl fun b3 => ?_)
  refine rn ?_
  refine aops_e rfl (oe_alloc rfl fun b5 => ?_)
  refine rn ?_
  refine aw_rngX l.length (fun k (z : SV × List (SV × List Ed)) => z.2.map (·.2) = (l.take k).map fun a => [a]) (fun k z => ⟨[(13, iv k), (0, .list false 3 (l.map edR)), (3, .v (.pointer (some ⟨b3, 0, none⟩))), (5, .v (.pointer (some ⟨b5, 0, none⟩))), (12, iv (l.map edR).length)], .row z.1.v 1 22 (cellsS z.2) :: .box b5 142 [.v z.1.v] :: .box b3 107 [fv] :: runsR 3 53 edR z.2, []⟩) (⟨none, 0, 0⟩, []) rfl (ent_trans (ent_nilrow 1 22) es) ?_
  rintro k ⟨s, x⟩ lk zk
  simp only at zk
  have hxl : x.length = k := by have q := congrArg List.length zk; rw [List.length_map, List.length_map, List.length_take] at q; omega
  show aw _ _ _ _ _ ⟨[(13, iv k), (0, .list false 3 (l.map edR)), (3, .v (.pointer (some ⟨b3, 0, none⟩))), (5, .v (.pointer (some ⟨b5, 0, none⟩))), (12, iv (l.map edR).length)], .row s.v 1 22 (cellsS x) :: .box b5 142 [.v s.v] :: .box b3 107 [fv] :: runsR 3 53 edR x, []⟩
  refine rn ?_
  refine aw_cond rfl (fun hc14 => ?_) (fun hc14 => ?_)
  · have hk : k < l.length := by have q := of_decide_eq_true hc14; rw [List.length_map] at q; omega
    refine rn ?_
    refine aops_e rfl (oe_makeG (n := 1) (c := 1) rfl rfl rfl (Nat.le_refl _) (by decide) (hk := fun b16 => ?_))
    refine aops_slice (.slice (some ⟨b16, 0, none⟩) 1 1) fun s1 hs1 => ?_
    rw [hs1]
    clear hs1
    refine q1 ?_
    refine aops_nil (thn_n ?_)
    refine aw_seq (aw_region ?_)
    refine q1 ?_
    refine q1 ?_
    refine q1 ?_
    refine q1 ?_
    refine qq rfl rfl (qr_ari rfl rfl rfl (by omega)) ?_
    refine q1 ?_
    refine qq rfl rfl (qr_ari rfl rfl rfl (by omega)) ?_
    refine qq rfl rfl (qr_as (qr_slice_lhm (l := k) (k := k + 1) rfl rfl rfl rfl (by omega) (by rw [List.length_map]; exact hk)) (show AV.list true 3 _ = .list true 3 [edR l[k]] by rw [take_one (by rw [List.length_map]; exact hk), List.getElem_map])) ?_
    refine aops_e rfl (oe_copy_ln 1 rfl rfl rfl rfl (hk := ?_) (one_ed [l[k]]))
    refine rn ?_
    refine qv rfl rfl (qv_buildSlice rfl rfl) ?_
    refine aops_e rfl (oe_append_row rfl rfl (by simp only [List.length_map, List.length_cons, List.length_nil]; omega) rfl (fun s29 => ?_) (one_cellS s1))
    refine aops_slice s29 fun sv hsv => ?_
    subst hsv
    refine rn ?_
    exact ⟨hk, (sv, x ++ [(s1, [l[k]])]), by simp only; rw [List.map_append, zk, List.take_succ_eq_append_getElem hk, List.map_append]; rfl, ent_trans (ent_perm (perm_swap [_] _)) (by simp only; rw [cellsS_snoc, runsR_snoc]; exact es)⟩
  · have qk : k = l.length := by have q := of_decide_eq_false hc14; rw [List.length_map] at q; omega
    refine rn ?_
    refine aw_while (fun z : SV × List (SV × List Ed) => srtR cmp (z.2.map (·.2)) = srtR cmp (l.map fun a => [a]) ∧ (z.2.map (·.2)).flatten.length = l.length ∧ z.2.length ≤ l.length) (fun z => ⟨[(5, .v (.pointer (some ⟨b5, 0, none⟩))), (8, .fn (.func 113) [] [.v (.pointer (some ⟨b5, 0, none⟩)), .v (.pointer (some ⟨b3, 0, none⟩))])], .row z.1.v 1 22 (cellsS z.2) :: .box b5 142 [.v z.1.v] :: .box b3 107 [fv] :: runsR 3 53 edR z.2, []⟩) (fun z => z.2.length) (s, x) ⟨by simp only; rw [zk, qk, List.take_length], by simp only; rw [zk, qk, List.take_length, one_flat], by simp only; omega⟩ es ?_
    rintro ⟨sr, x⟩ ⟨zk, hfl, hxl⟩
    simp only at zk hfl hxl
    show aw _ _ _ _ _ ⟨[(5, .v (.pointer (some ⟨b5, 0, none⟩))), (8, .fn (.func 113) [] [.v (.pointer (some ⟨b5, 0, none⟩)), .v (.pointer (some ⟨b3, 0, none⟩))])], .row sr.v 1 22 (cellsS x) :: .box b5 142 [.v sr.v] :: .box b3 107 [fv] :: runsR 3 53 edR x, []⟩
    refine rn ?_
    refine aw_cond rfl (fun hc34 => ?_) (fun hc34 => ?_)
    · have h1 : 1 < x.length := by have q := of_decide_eq_true hc34; rw [cellsS_len] at q; omega
      have hcl := cellsS_len x
      have hxa : ∀ p ∈ x, p.2.length ≤ 1000000000 := fun p hm => Nat.le_trans (flat_mem (show p.2 ∈ x.map (·.2) from List.mem_map_of_mem hm)) (by rw [hfl]; exact hl)
      refine aw_skip ?_
      refine thn_n ?_
      refine aw_block ?_
      refine aw_seq (aw_region ?_)
      refine q1 ?_
      refine aops_nil (thn_n ?_)
      refine aw_seq ?_
      refine aw_seq (aw_region ?_)
      refine q1 ?_
      refine q1 ?_
      refine qq rfl rfl (qr_ari rfl rfl rfl (by omega)) ?_
      refine qq rfl rfl (qr_quo (c := (((((cellsS x).length + 1) / 2) : Nat) : Int)) rfl rfl (by decide) rfl (by omega)) ?_
      refine rn ?_
      rw [tail_start x]
      refine aw_rngX (((cellsS x).length + 1) / 2) (fun i (z : SV × List (SV × List Ed)) => z.2.map (·.2) = (pairUp cmp (x.map (·.2))).take i) (fun i z => ⟨[(39, iv i), (9, .v z.1.v), (5, .v (.pointer (some ⟨b5, 0, none⟩))), (8, .fn (.func 113) [] [.v (.pointer (some ⟨b5, 0, none⟩)), .v (.pointer (some ⟨b3, 0, none⟩))]), (38, iv ((((cellsS x).length + 1) / 2) : Nat))], .row z.1.v 1 22 (cellsS z.2) :: .row sr.v 1 22 (cellsS x) :: .box b5 142 [.v sr.v] :: .box b3 107 [fv] :: (runsR 3 53 edR (x.drop (2 * i)) ++ runsR 3 53 edR z.2), []⟩) (⟨none, 0, 0⟩, []) rfl (ent_trans (ent_nilrow 1 22) es) ?_
      rintro i ⟨sn, y⟩ li zi
      simp only at zi
      show aw _ _ _ _ _ ⟨[(39, iv i), (9, .v sn.v), (5, .v (.pointer (some ⟨b5, 0, none⟩))), (8, .fn (.func 113) [] [.v (.pointer (some ⟨b5, 0, none⟩)), .v (.pointer (some ⟨b3, 0, none⟩))]), (38, iv ((((cellsS x).length + 1) / 2) : Nat))], .row sn.v 1 22 (cellsS y) :: .row sr.v 1 22 (cellsS x) :: .box b5 142 [.v sr.v] :: .box b3 107 [fv] :: (runsR 3 53 edR (x.drop (2 * i)) ++ runsR 3 53 edR y), []⟩
      refine rn ?_
      refine aw_cond rfl (fun hc40 => ?_) (fun hc40 => ?_)
      · have hi : i < (((cellsS x).length + 1) / 2) := by have q := of_decide_eq_true hc40; omega
        have hyl : y.length = i := by have q := congrArg List.length zi; rw [List.length_map, List.length_take, pairUp_len, List.length_map] at q; omega
        refine aw_skip ?_
        refine thn_n ?_
        refine aw_seq ?_
        refine aw_block ?_
        refine aw_seq (aw_region ?_)
        refine q1 ?_
        refine q1 ?_
        refine aops_nil (thn_n ?_)
        refine aw_region ?_
        refine q1 ?_
        refine q1 ?_
        refine q1 ?_
        refine qq rfl rfl (qr_ari rfl rfl rfl (by omega)) ?_
        by_cases ho : 2 * i + 1 = x.length
        refine aops_e rfl (oe_call rfl rfl (FCall.qt (FCall.of_acall (fs := []) (cs := [.v (.pointer (some ⟨b5, 0, none⟩)), .v (.pointer (some ⟨b3, 0, none⟩))]) (both1Ed x sr b5 b3 (2 * i) ho (by omega))) ((pt1 _ _ _).trans (.cons _ (pt1 _ _ _)))) rfl ?_)
        rintro _ _ ⟨rfl, rfl⟩
        rotate_left
        rw [runsR_cons (x := x) (k := 2 * i) (by omega), runsR_cons (x := x) (k := 2 * i + 1) (by omega), List.cons_append, List.cons_append]
        refine aops_e rfl (oe_call rfl rfl (FCall.fr (FCall.of_acall (fs := []) (cs := [.v (.pointer (some ⟨b5, 0, none⟩)), .v (.pointer (some ⟨b3, 0, none⟩))]) (both2Ed x sr b5 b3 (2 * i) (by omega) (by omega) hxa fv cmp hp)) ((pt1 _ _ _).trans (.cons _ ((pt1 _ _ _).trans (.cons _ ((pt1 _ _ _).trans (.cons _ ((pt1 _ _ _).trans (.cons _ (pt1 _ _ _)))))))))) rfl ?_)
        rintro _ _ ⟨_, rfl, m, rfl, rfl⟩
        refine aops_ent (ent_perm (pt6 _ _ _ _ _ _ _ _)) ?_
        rotate_right
        · refine qv rfl rfl (qv_buildSlice rfl rfl) ?_
          refine aops_e rfl (oe_append_row rfl rfl (by simp only [List.length_map, List.length_cons, List.length_nil]; omega) rfl (fun s48 => ?_) (one_cellS _))
          refine aops_slice s48 fun sv hsv => ?_
          subst hsv
          refine rn ?_
          exact ⟨hi, (sv, y ++ [x[2 * i]'(by omega)]), by simp only; rw [List.map_append, zi, pair_take cmp (by rw [List.length_map]; omega), pair_odd cmp (by rw [List.length_map]; exact ho), List.getElem_map]; rfl, ent_trans (ent_perm (.cons _ (.cons _ (.cons _ (.cons _ (tail_odd ho)))))) (by simp only; rw [cellsS_snoc]; exact es)⟩
        · refine qv rfl rfl (qv_buildSlice rfl rfl) ?_
          refine aops_e rfl (oe_append_row rfl rfl (by simp only [List.length_map, List.length_cons, List.length_nil]; omega) rfl (fun s48 => ?_) (one_cellS _))
          refine aops_slice s48 fun sv hsv => ?_
          subst hsv
          refine rn ?_
          exact ⟨hi, (sv, y ++ [(m, mrg cmp (x[2 * i]'(by omega)).2 (x[2 * i + 1]'(by omega)).2)]), by simp only; rw [List.map_append, zi, pair_take cmp (by rw [List.length_map]; omega), pair_two cmp (by rw [List.length_map]; omega), List.getElem_map, List.getElem_map]; rfl, ent_trans (ent_perm ((pt5 _ _ _ _ _ _ _).trans (.cons _ ((pt5 _ _ _ _ _ _ _).trans (.cons _ (.cons _ ((pt1 _ _ _).trans (.cons _ ((pt1 _ _ _).trans (.cons _ (pt1 _ _ _))))))))))) (ent_trans (ent_drop (h1 := [_, _])) (ent_trans (ent_perm (.cons _ (.cons _ (.cons _ (.cons _ tail_two))))) (by simp only; rw [cellsS_snoc]; exact es)))⟩
      · have qi : i = (((cellsS x).length + 1) / 2) := by have q := of_decide_eq_false hc40; omega
        refine rn ?_
        exact ⟨(sn, y), ⟨by simp only; rw [zi, pair_all cmp (by rw [List.length_map]; omega), ← srtR_go cmp (by rw [List.length_map]; exact h1)]; exact zk, by simp only; rw [zi, pair_all cmp (by rw [List.length_map]; omega), (pairUp_perm cmp _).length_eq]; exact hfl, by simp only; have q := congrArg List.length zi; rw [List.length_map, pair_all cmp (by rw [List.length_map]; omega), pairUp_len, List.length_map] at q; omega⟩, ent_trans (ent_perm (pt1 _ _ _)) (ent_trans (ent_drop (h1 := [_])) (by rw [tail_end (by omega)]; exact es)), by simp only; have q := congrArg List.length zi; rw [List.length_map, pair_all cmp (by rw [List.length_map]; omega), pairUp_len, List.length_map] at q; omega⟩
    · have h1 : ¬ 1 < x.length := by have q := of_decide_eq_false hc34; rw [cellsS_len] at q; omega
      refine rn ?_
      refine aw_cond rfl (fun hc53 => ?_) (fun hc53 => ?_)
      · have h0 : x.length = 0 := by have q := of_decide_eq_true (show decide (((cellsS x).length : Int) = 0) = true from hc53); rw [cellsS_len] at q; omega
        obtain rfl := List.length_eq_zero_iff.1 h0
        refine rn ?_
        exact retq (.cons _ _ _ _ (.tmp _ _ rfl) .nil) (.trans (.drop [_, _, _] _ _) (vent_nilrow 3 53 _)) ⟨⟨none, 0, 0⟩, by rw [sort_nil cmp zk rfl]; rfl, rfl⟩
      · have h0 : ¬ x.length = 0 := by intro q; have e : (((cellsS x).length : Int) == 0) = false := hc53; rw [cellsS_len, q] at e; cases e
        obtain ⟨p, rfl⟩ := List.length_eq_one_iff.1 (show x.length = 1 by omega)
        refine aw_skip ?_
        refine thn_n ?_
        refine aw_seq (aw_region ?_)
        refine q1 ?_
        refine qq rfl rfl (qr_index_row (k := 0) rfl rfl (show 0 < (cellsS [p]).length from Nat.zero_lt_one)) ?_
        refine qq rfl rfl (qr_load_rp_one rfl rfl rfl) ?_
        refine rn ?_
        exact retq (.cons _ _ _ _ (.tmp _ _ rfl) .nil) (.drop [_, _, _] _ _) ⟨p.1, by rw [sort_one cmp zk]; rfl, rfl⟩
end Go.Proofs
/- The walks of order.Unique, of graph's of, Of. Conditions: none. -/
set_option linter.unusedVariables false
set_option linter.unusedSimpArgs false
set_option maxRecDepth 10000
namespace Go.Proofs
open Go Go.Ab
attribute [local irreducible] QR QV OE aops aw dsoup dsoupM dalloc dallocM thn inBlk jsoup jch lsoup
open Go.H
/-- What is kept of those behind the k-th. -/
def ctl {α : Type} (q : α → α → Bool) (l : List α) (k : Nat) : List α := (compF q (l.drop k)).tail
theorem ctl_y {α : Type} {q : α → α → Bool} {l : List α} {k : Nat} (hk : k + 1 < l.length) (h : q l[k + 1] l[k] = true) : ctl q l k = ctl q l (k + 1) := by
  rw [ctl, ctl, List.drop_eq_getElem_cons (show k < l.length by omega), List.drop_eq_getElem_cons hk, compF, compF, compG, if_pos h]; rfl
theorem ctl_n {α : Type} {q : α → α → Bool} {l : List α} {k : Nat} (hk : k + 1 < l.length) (h : q l[k + 1] l[k] = false) : ctl q l k = l[k + 1] :: ctl q l (k + 1) := by
  rw [ctl, ctl, List.drop_eq_getElem_cons (show k < l.length by omega), List.drop_eq_getElem_cons hk, compF, compF, compG, if_neg (by rw [h]; decide)]; rfl
theorem ctl_end {α : Type} {q : α → α → Bool} {l : List α} {k : Nat} (hk : k < l.length) (h : l.length ≤ k + 1) : ctl q l k = [] := by
  rw [ctl, List.drop_eq_getElem_cons hk, List.drop_eq_nil_of_le h]; rfl
theorem ctl_0 {α : Type} {q : α → α → Bool} {l : List α} (h : 0 < l.length) : compF q l = l.take (0 + 1) ++ ctl q l 0 := by
  cases l with
  | nil => cases h
  | cons x r => rfl
theorem un_0 {l : List Ed} (h : 0 < l.length) : [l[0]] ++ ctl (fun a b => a == b) l 0 = compF (fun a b => a == b) l := by
  rw [ctl_0 h]
  cases l with
  | nil => cases h
  | cons a r => rfl
theorem un_y {l out : List Ed} {k : Nat} (hk : k < l.length) (h1 : 1 ≤ k) (hz : out ++ ctl (fun a b => a == b) l (k - 1) = compF (fun a b => a == b) l) (hne : edEq (l[k - 1]'(by omega)) l[k] = false) : (out ++ [l[k]]) ++ ctl (fun a b => a == b) l k = compF (fun a b => a == b) l := by
  obtain ⟨j, rfl⟩ : ∃ j, k = j + 1 := ⟨k - 1, by omega⟩
  rw [edEq_eq] at hne
  have h2 := of_decide_eq_false hne
  simp only [Nat.add_sub_cancel] at hz h2
  rw [← hz, ctl_n hk (beq_eq_false_iff_ne.2 fun e => h2 e.symm), List.append_assoc]; rfl
theorem un_n {l out : List Ed} {k : Nat} (hk : k < l.length) (h1 : 1 ≤ k) (hz : out ++ ctl (fun a b => a == b) l (k - 1) = compF (fun a b => a == b) l) (he : edEq (l[k - 1]'(by omega)) l[k] = true) : out ++ ctl (fun a b => a == b) l k = compF (fun a b => a == b) l := by
  obtain ⟨j, rfl⟩ : ∃ j, k = j + 1 := ⟨k - 1, by omega⟩
  rw [edEq_eq] at he
  have h2 := of_decide_eq_true he
  simp only [Nat.add_sub_cancel] at hz h2
  rw [← hz, ctl_y hk (beq_iff_eq.2 h2.symm)]
theorem un_end {l out : List Ed} {k : Nat} (hk : k = l.length) (h0 : k = 0 → out = []) (hz : 1 ≤ k → out ++ ctl (fun a b => a == b) l (k - 1) = compF (fun a b => a == b) l) : out = compF (fun a b => a == b) l := by
  by_cases e : k = 0
  · rw [h0 e]
    have : l = [] := List.length_eq_zero_iff.1 (by omega)
    rw [this]; rfl
  · rw [← hz (by omega), ctl_end (by omega) (by omega), List.append_nil]
def ofC (n : Int) (l : List Ed) : Int := if n < 0 ∨ n > 300 ∨ l.all (edgeB n) = false then 2 else if (ofE l).length > 40000 then 6 else 0
def ofGr (n : Int) (l : List Ed) : Gr := if ofC n l = 0 then ⟨n, ofE l⟩ else ⟨0, []⟩
def ofP (n : Int) (l : List Ed) (i : Nat) : Bool := ((l[i]?).map (edgeB n)).getD true
theorem ofP_at {n : Int} {l : List Ed} {i : Nat} (h : i < l.length) : ofP n l i = edgeB n l[i] := by rw [ofP, List.getElem?_eq_getElem h]; rfl
theorem ofP_all (n : Int) (l : List Ed) : (List.range l.length).all (ofP n l) = l.all (edgeB n) := by
  rw [Bool.eq_iff_iff, List.all_eq_true, List.all_eq_true]
  constructor
  · intro h e he
    obtain ⟨i, hi, rfl⟩ := List.mem_iff_getElem.1 he
    have := h i (List.mem_range.2 hi)
    rwa [ofP_at hi] at this
  · intro h i hi
    rw [ofP_at (List.mem_range.1 hi)]; exact h _ (List.getElem_mem _)
theorem ofC_2 {n : Int} {l : List Ed} (h : n < 0 ∨ n > 300 ∨ l.all (edgeB n) = false) : ofC n l = 2 := by rw [ofC, if_pos h]
theorem ofC_6 {n : Int} {l : List Ed} (h : ¬ (n < 0 ∨ n > 300 ∨ l.all (edgeB n) = false)) (h6 : (ofE l).length > 40000) : ofC n l = 6 := by rw [ofC, if_neg h, if_pos h6]
theorem ofC_0 {n : Int} {l : List Ed} (h : ¬ (n < 0 ∨ n > 300 ∨ l.all (edgeB n) = false)) (h6 : ¬ (ofE l).length > 40000) : ofC n l = 0 := by rw [ofC, if_neg h, if_neg h6]
theorem ofGr_n {n : Int} {l : List Ed} (h : ofC n l ≠ 0) : ofGr n l = ⟨0, []⟩ := by rw [ofGr, if_neg h]
theorem ofGr_y {n : Int} {l : List Ed} (h : ofC n l = 0) : ofGr n l = ⟨n, ofE l⟩ := by rw [ofGr, if_pos h]
set_option maxHeartbeats 4000000 in
theorem uniqEd (l : List Ed) (hl : l.length ≤ 1000000000) : ACall Tryz.prog 102 [.list false 3 (l.map edR)] [] (fun r h' => ∃ s : SV, h' = [.row s.v 3 53 ((compF (fun a b => a == b) l).map edR)] ∧ r = .v s.v) := by
  refine acall_of_aw Tryz.func102 rfl rfl rfl ?_
  refine rn ?_
  refine aw_rngX l.length (fun k (x : SV × List Ed) => x.2.length ≤ k ∧ (k = 0 → x.2 = []) ∧ (1 ≤ k → x.2 ++ ctl (fun a b => a == b) l (k - 1) = compF (fun a b => a == b) l)) (fun k x => ⟨[(8, iv k), (3, .v x.1.v), (0, .list false 3 (l.map edR)), (6, .list false 3 (l.map edR)), (7, iv (l.map edR).length)], .row x.1.v 3 53 ((x.2).map edR) :: [], []⟩) (nilV, []) ⟨Nat.le_refl _, fun _ => rfl, fun q => absurd q (by decide)⟩ (ent_trans (ent_nilrow 3 53) es) ?_
  rintro k ⟨s, x⟩ lk ⟨z1, z2, z3⟩
  simp only at z1 z2 z3
  show aw _ _ _ _ _ ⟨[(8, iv k), (3, .v s.v), (0, .list false 3 (l.map edR)), (6, .list false 3 (l.map edR)), (7, iv (l.map edR).length)], .row s.v 3 53 ((x).map edR) :: [], []⟩
  refine rn ?_
  refine aw_cond rfl (fun hc9 => ?_) (fun hc9 => ?_)
  · have hk := ltMap hc9
    have rk := atRow (f := edR) hk
    refine rn ?_
    refine aops_e rfl (oe_alloc rfl fun b5 => ?_)
    refine rn ?_
    refine aw_draw 9 rfl ?_
    refine rn ?_
    refine dsplit (fun hg5_2 => ?_) (fun hg5_2 => ?_)
    · refine rn ?_
      refine aw_ct rfl ?_
      refine rn ?_
      refine qv rfl rfl (qv_buildSlice rfl rfl) ?_
      refine aops_e rfl (oe_append_row rfl rfl (by simp only [List.length_map, List.length_cons, List.length_nil]; omega) rfl (fun s27 => ?_) (one_ed [l[k]]))
      refine aops_slice s27 fun sv hsv => ?_
      subst hsv
      refine rn ?_
      have k0 : k = 0 := by have q := hg5_2; simp at q; omega
      subst k0
      exact ⟨hk, (sv, x ++ [l[0]]), ⟨by simp only [List.length_append, List.length_cons, List.length_nil]; omega, fun q => by omega, fun _ => by rw [z2 rfl]; exact un_0 hk⟩, by rw [List.map_append]; exact eA⟩
    · refine dq rfl rfl qrA ?_
      refine dq rfl rfl qrA ?_
      refine dq rfl rfl (qr_as (qr_ari rfl rfl rfl (by omega)) (show iv _ = iv ((k - 1 : Nat) : Int) from congrArg iv (by have q := hg5_2; simp at q; omega))) ?_
      refine dq rfl rfl (qr_index_list (i := k - 1) rfl rfl (atRow (f := edR) (show k - 1 < l.length by omega))) ?_
      refine rn ?_
      refine aw_cond rfl (fun hc23 => ?_) (fun hc23 => ?_)
      · refine rn ?_
        refine qv rfl rfl (qv_buildSlice rfl rfl) ?_
        refine aops_e rfl (oe_append_row rfl rfl (by simp only [List.length_map, List.length_cons, List.length_nil]; omega) rfl (fun s27 => ?_) (one_ed [l[k]]))
        refine aops_slice s27 fun sv hsv => ?_
        subst hsv
        refine rn ?_
        exact ⟨hk, (sv, x ++ [l[k]]), ⟨by simp only [List.length_append, List.length_cons, List.length_nil]; omega, fun q => by omega, fun _ => un_y hk (by have q := hg5_2; simp at q; omega) (z3 (by have q := hg5_2; simp at q; omega)) (show edEq (l[k - 1]'(by omega)) l[k] = false from not_t hc23)⟩, by rw [List.map_append]; exact eA⟩
      · refine rn ?_
        exact ⟨hk, (s, x), ⟨by simp only; omega, fun q => by omega, fun _ => un_n hk (by have q := hg5_2; simp at q; omega) (z3 (by have q := hg5_2; simp at q; omega)) (show edEq (l[k - 1]'(by omega)) l[k] = true from not_f hc23)⟩, eA⟩
  · have qk := geMap hc9 lk
    refine rn ?_
    exact retq (.cons _ _ _ _ (.tmp _ _ rfl) .nil) (.refl _ _) ⟨s, by rw [← un_end qk z2 z3], rfl⟩
set_option maxHeartbeats 4000000 in
theorem grOf0 (n : Int) (l : List Ed) (hl : l.length ≤ 1000000000) : ACall Tryz.prog 71 [iv n, edsA l] [] (fun r h' => ∃ s : SV, h' = [.row s.v 3 53 ((ofE l).map edR)] ∧ r = .agg [iv n, .v s.v]) := by
  refine acall_of_aw Tryz.func71 rfl rfl rfl ?_
  refine rn ?_
  refine aops_e rfl (oe_alloc rfl fun b4 => ?_)
  refine rn ?_
  refine aops_e rfl (oe_call rfl rfl (FCall.fr (FCall.of_fun (sortEd l (.fn (.func 74) [] []) rfl cmpE (fun x y => FCall.of_fun (gCompare x y)) hl)) (.refl _)) rfl ?_)
  rintro _ _ ⟨_, rfl, s1, rfl, rfl⟩
  simp only [List.cons_append, List.nil_append]
  refine aops_e rfl (oe_call rfl rfl (FCall.lendG (FCall.of_fun (uniqEd (sortL cmpE l) (by rw [(sortL_perm cmpE l).length_eq]; exact hl))) (by rintro _ _ ⟨s, rfl, rfl⟩; exact ⟨.v _, fun x hx => by rw [List.mem_singleton.1 hx]; exact scal_row (scalEd _)⟩) (BLe.refl _ _) (by exact ⟨ble_row, trivial⟩)) rfl ?_)
  rintro _ _ ⟨_, rfl, s2, rfl, rfl⟩
  simp only [List.cons_append, List.nil_append]
  refine rn ?_
  exact retq (.cons _ _ _ _ (.agg _ _ _ _ _ _ _ rfl inferInstance inferInstance inferInstance rfl) .nil) (.trans (.perm ((pt1 _ _ _).trans (.cons _ (pt1 _ _ _))) _) (.drop [_, _] _ _)) ⟨s2, rfl, rfl⟩
theorem grOf1 (i n : Int) (e : Ed) (b : Nat) : ACall Tryz.prog 69 [iv i, .agg (edR e), .v (.pointer (some ⟨b, 0, none⟩))] (.box b 3 [iv n] :: []) (fun r h' => h' = .box b 3 [iv n] :: [] ∧ r = bv (edgeB n e)) := by
  refine acall_of_aw Tryz.func69 rfl rfl rfl ?_
  refine rn ?_
  refine aops_e rfl (oe_box rfl rfl rfl fun b4 => ?_)
  refine rn ?_
  refine qv rfl rfl (qv_call rfl rfl (pcall (grEdge n e) (Sbs.refl _))) ?_
  refine rn ?_
  refine rq 1 ?_
  exact ⟨rfl, rfl⟩
set_option maxHeartbeats 4000000 in
theorem grOf (n : Int) (l : List Ed) (hl : l.length ≤ 1000000000) : ACall Tryz.prog 45 [iv n, edsA l] [] (fun r h' => ∃ s : SV, h' = [.row s.v 3 53 (((ofGr n l).es).map edR)] ∧ r = .tup [.agg [iv (ofGr n l).n, .v s.v], iv (ofC n l)]) := by
  refine acall_of_aw Tryz.func45 rfl rfl rfl ?_
  refine rn ?_
  refine aops_e rfl (oe_box rfl rfl rfl fun b2 => ?_)
  refine aops_e rfl (oe_alloc rfl fun b4 => ?_)
  refine rn ?_
  refine asplit (fun hg1_2 => ?_) (fun hg1_2 => ?_)
  · refine rn ?_
    refine aw_ct rfl ?_
    have hbad : n < 0 ∨ n > 300 ∨ l.all (edgeB n) = false := by
      first
      | exact .inl (by simpa using hg1_2)
      | exact .inr (.inl (by simpa using hg1_6))
      | exact .inr (.inr (by rw [← ofP_all]; simpa using hc18))
    refine rn ?_
    have hne : ofC n l ≠ 0 := by rw [ofC_2 hbad]; decide
    exact retq (.cons _ _ _ _ (.agg _ _ _ _ _ _ _ rfl inferInstance inferInstance inferInstance rfl) (.cons _ _ _ _ (.tmp _ _ rfl) .nil)) (.trans (.drop [_, _] _ _) (vent_nilrow 3 53 _)) ⟨nilV, by rw [ofGr_n hne]; rfl, by rw [ofGr_n hne, ofC_2 hbad]; rfl⟩
  · refine rn ?_
    refine asplit (fun hg1_6 => ?_) (fun hg1_6 => ?_)
    · refine rn ?_
      refine aw_ct rfl ?_
      have hbad : n < 0 ∨ n > 300 ∨ l.all (edgeB n) = false := by
        first
        | exact .inl (by simpa using hg1_2)
        | exact .inr (.inl (by simpa using hg1_6))
        | exact .inr (.inr (by rw [← ofP_all]; simpa using hc18))
      refine rn ?_
      have hne : ofC n l ≠ 0 := by rw [ofC_2 hbad]; decide
      exact retq (.cons _ _ _ _ (.agg _ _ _ _ _ _ _ rfl inferInstance inferInstance inferInstance rfl) (.cons _ _ _ _ (.tmp _ _ rfl) .nil)) (.trans (.drop [_, _] _ _) (vent_nilrow 3 53 _)) ⟨nilV, by rw [ofGr_n hne]; rfl, by rw [ofGr_n hne, ofC_2 hbad]; rfl⟩
    · refine rn ?_
      refine qv rfl rfl (qv_call rfl rfl (FCall.qt (FCall.of_fun (grAll l (.fn (.func 69) [] [.v (.pointer (some ⟨b2, 0, none⟩))]) (ofP n l) (.box b2 3 [iv n] :: []) (by omega) (fun i hi => by rw [ofP_at hi]; exact FCall.of_acall (fs := []) (cs := [.v (.pointer (some ⟨b2, 0, none⟩))]) (grOf1 i n l[i] b2)))) (pt1 _ _ _))) ?_
      refine rn ?_
      refine aw_cond rfl (fun hc18 => ?_) (fun hc18 => ?_)
      · have hbad : n < 0 ∨ n > 300 ∨ l.all (edgeB n) = false := by
          first
          | exact .inl (by simpa using hg1_2)
          | exact .inr (.inl (by simpa using hg1_6))
          | exact .inr (.inr (by rw [← ofP_all]; simpa using hc18))
        refine rn ?_
        have hne : ofC n l ≠ 0 := by rw [ofC_2 hbad]; decide
        exact retq (.cons _ _ _ _ (.agg _ _ _ _ _ _ _ rfl inferInstance inferInstance inferInstance rfl) (.cons _ _ _ _ (.tmp _ _ rfl) .nil)) (.trans (.drop [_, _] _ _) (vent_nilrow 3 53 _)) ⟨nilV, by rw [ofGr_n hne]; rfl, by rw [ofGr_n hne, ofC_2 hbad]; rfl⟩
      · have hgood : ¬ (n < 0 ∨ n > 300 ∨ l.all (edgeB n) = false) := by
          have q1 := hg1_2
          have q2 := hg1_6
          have q3 := hc18
          rw [ofP_all] at q3
          simp at q1 q2
          rintro (q | q | q)
          · omega
          · omega
          · rw [q] at q3; simp at q3
        refine rn ?_
        refine aops_e rfl (oe_call rfl rfl (FCall.fr (FCall.of_fun (grOf0 n l (by omega))) (.refl _)) rfl ?_)
        rintro _ _ ⟨_, rfl, s, rfl, rfl⟩
        simp only [List.cons_append, List.nil_append]
        refine aops_e rfl (oe_alloc rfl fun b6 => ?_)
        refine rn ?_
        refine aw_cond rfl (fun hc26 => ?_) (fun hc26 => ?_)
        · have h6 : (ofE l).length > 40000 := by have q := of_decide_eq_true hc26; rw [List.length_map] at q; omega
          refine rn ?_
          have hne : ofC n l ≠ 0 := by rw [ofC_6 hgood h6]; decide
          exact retq (.cons _ _ _ _ (.agg _ _ _ _ _ _ _ rfl inferInstance inferInstance inferInstance rfl) (.cons _ _ _ _ (.tmp _ _ rfl) .nil)) (.trans (.drop [_, _, _, _] _ _) (vent_nilrow 3 53 _)) ⟨nilV, by rw [ofGr_n hne]; rfl, by rw [ofGr_n hne, ofC_6 hgood h6]; rfl⟩
        · have h6 : ¬ (ofE l).length > 40000 := by have q := of_decide_eq_false hc26; rw [List.length_map] at q; omega
          refine rn ?_
          exact retq (.cons _ _ _ _ (.agg _ _ _ _ _ _ _ rfl inferInstance inferInstance inferInstance rfl) (.cons _ _ _ _ (.tmp _ _ rfl) .nil)) (.trans (.perm (.cons _ ((pt1 _ _ _).trans (.cons _ (pt1 _ _ _)))) _) (.drop [_, _, _] _ _)) ⟨s, by rw [ofGr_y (ofC_0 hgood h6)], by rw [ofGr_y (ofC_0 hgood h6), ofC_0 hgood h6]; rfl⟩
end Go.Proofs
/- A row of one's own within a struct within a tuple becomes a list that nobody writes. Conditions: none (rules over any program). -/
set_option linter.unusedVariables false
namespace Go.Ab
open Go
theorem vent_freeze_ag {h : List Res} {s : Value} {sz : Nat} {T : TypeId} {rows : List (List AV)} (A C B : List AV) : VEnt (.row s sz T rows :: h) (.tup (.agg (A ++ .v s :: C) :: B)) h (.tup (.agg (A ++ .list false sz rows :: C) :: B)) := by
  refine ⟨fun x hx => by rw [owns_cons]; exact List.mem_append_right _ hx, fun X w v hh hr => ⟨HRel.drop (h := [_]) hh, ?_⟩⟩
  cases hr with
  | tup _ cs hl hc =>
    refine .tup _ cs (by simpa using hl) fun j h1 h2 => ?_
    have hj : j < (.agg (A ++ .v s :: C) :: B : List AV).length := by simpa using h1
    have hcj := hc j hj h2
    cases j with
    | zero => exact ((vent_freeze_cell (h := h) (s := s) (sz := sz) (T := T) (rows := rows) A C).2 X w _ hh hcj).2
    | succ k =>
      simp only [List.getElem_cons_succ] at hcj ⊢
      exact hcj.keep (Nat.le_refl _) fun b hb _ => ⟨rfl, fun q => hb (by
        rcases q with q | q
        · exact .inl (by rw [owns_cons]; exact List.mem_append_right _ q)
        · exact .inr q)⟩
theorem vent_freeze_gr {h : List Res} {s : Value} {sz : Nat} {T : TypeId} {rows : List (List AV)} (a : AV) (B : List AV) : VEnt (.row s sz T rows :: h) (.tup (.agg [a, .v s] :: B)) h (.tup (.agg [a, .list false sz rows] :: B)) := vent_freeze_ag [a] [] B
end Go.Ab
/- The walks of scc's Inner, Fold. Conditions: none. -/
set_option linter.unusedVariables false
set_option linter.unusedSimpArgs false
set_option maxRecDepth 10000
namespace Go.Proofs
open Go Go.Ab
attribute [local irreducible] QR QV OE aops aw dsoup dsoupM dalloc dallocM thn inBlk jsoup jch lsoup
open Go.H
theorem ofGL_at {g : Gr} {v : Nat} (hv : v < nG g) : ((rowI (ofGL g)).map intR)[v]? = some [iv (ofG g v : Int)] := by
  have h : v < (ofGL g).length := by unfold ofGL; simpa using hv
  have e : ∀ h, (ofGL g)[v]'h = ofG g v := by unfold ofGL; intro h; simp
  rw [rowI_at h, e]
noncomputable def foldO (g : Gr) : Gr := if chkB g = true then foldG g else ⟨0, []⟩
theorem foldO_y {g : Gr} (h : chkE g = 0) : foldO g = foldG g := by rw [foldO, if_pos (chkB_iff.2 (chkE_0.1 h))]
theorem foldO_n {g : Gr} (h : chkE g ≠ 0) : foldO g = ⟨0, []⟩ := by rw [foldO, if_neg (fun q => h (chkE_0.2 (chkB_iff.1 q)))]
theorem foldK_y {g : Gr} {k : Nat} (hk : k < g.es.length) (h : ofG g g.es[k].f.toNat ≠ ofG g g.es[k].t.toNat) : (g.es.take (k + 1)).filterMap (foldQ g) = (g.es.take k).filterMap (foldQ g) ++ [⟨ofG g g.es[k].f.toNat, ofG g g.es[k].t.toNat, g.es[k].k⟩] := by
  rw [List.take_succ_eq_append_getElem hk, List.filterMap_append]
  congr 1
  simp only [List.filterMap_cons, List.filterMap_nil]
  rw [foldQ_some.2 ⟨h, rfl⟩]
theorem foldK_n {g : Gr} {k : Nat} (hk : k < g.es.length) (h : ofG g g.es[k].f.toNat = ofG g g.es[k].t.toNat) : (g.es.take (k + 1)).filterMap (foldQ g) = (g.es.take k).filterMap (foldQ g) := by
  rw [List.take_succ_eq_append_getElem hk, List.filterMap_append]
  have : [g.es[k]].filterMap (foldQ g) = [] := by
    simp only [List.filterMap_cons, List.filterMap_nil]
    unfold foldQ; rw [if_pos h]
  rw [this, List.append_nil]
theorem fold_good {g : Gr} (h : GOk g) : ofC ((setsG g).length : Nat) (foldEs g) = 0 ∧ ofGr ((setsG g).length : Nat) (foldEs g) = foldG g := by
  have h1 := fold_ok h
  have h2 : ofC ((setsG g).length : Nat) (foldEs g) = 0 := ofC_0 (by
    rintro (q | q | q)
    · exact absurd h1.n0 (by show ¬ (0 : Int) ≤ ((setsG g).length : Nat); omega)
    · exact absurd h1.n1 (by show ¬ (((setsG g).length : Nat) : Int) ≤ 300; omega)
    · rw [List.all_eq_true.2 (fun e he => fold_each h he)] at q; cases q) (by have := h1.many; show ¬ (ofE (foldEs g)).length > 40000; exact Nat.not_lt.2 this)
  exact ⟨h2, ofGr_y h2⟩
set_option maxHeartbeats 4000000 in
theorem scFold (g : Gr) (hb : g.es.length ≤ 4611686018427387904) : ACall Tryz.prog 21 [.agg (grR g)] [] (fun r h' => ∃ s : SV, h' = .row s.v 3 53 ((foldO g).es.map edR) :: [] ∧ r = .tup [.agg [iv (foldO g).n, .v s.v], iv (chkE g)]) := by
  refine acall_of_aw Tryz.func21 rfl rfl rfl ?_
  refine rn ?_
  refine aops_e rfl (oe_box rfl rfl rfl fun b1 => ?_)
  refine aops_e rfl (oe_alloc rfl fun b2 => ?_)
  refine rn ?_
  refine qv rfl rfl (qv_call rfl rfl (pcall (scOf g hb) (Sbs.refl _))) ?_
  refine rn ?_
  refine aw_cond rfl (fun hc18 => ?_) (fun hc18 => ?_)
  · have he : chkE g ≠ 0 := nzT hc18
    refine rn ?_
    exact retq (.cons _ _ _ _ (.agg _ _ _ _ _ _ _ rfl inferInstance inferInstance inferInstance rfl) (.cons _ _ _ _ (.tmp _ _ rfl) .nil)) (.trans (.drop [_, _] _ _) (vent_nilrow 3 53 _)) ⟨nilV, by rw [foldO_n he]; rfl, by rw [foldO_n he]; rfl⟩
  · have he : chkE g = 0 := nzF hc18
    have hok := chkE_0.1 he
    have hmany := hok.many
    rw [ofO_y he]
    refine rn ?_
    refine aw_rng1 g.es.length (fun k s => ⟨[(24, iv k), (6, .v s.v), (1, .v (.pointer (some ⟨b1, 0, none⟩))), (2, .v (.pointer (some ⟨b2, 0, none⟩))), (4, intsA (rowI (ofGL g))), (22, edsA g.es), (23, iv (g.es.map edR).length)], .row s.v 3 53 (((g.es.take k).filterMap (foldQ g)).map edR) :: .box b2 24 [iv 0, .v (.slice none 0 0)] :: .box b1 24 (grR g) :: [], []⟩) ⟨none, 0, 0⟩ (ent_trans (ent_nilrow 3 53) es) ?_
    intro k s lk
    refine rn ?_
    refine aw_cond rfl (fun hc25 => ?_) (fun hc25 => ?_)
    · have hk : k < g.es.length := by have q := of_decide_eq_true hc25; rw [List.length_map] at q; omega
      obtain ⟨hfn, htn, hf, ht, _⟩ := ed_nat hok (List.getElem_mem hk)
      have hkl : ((g.es.take k).filterMap (foldQ g)).length ≤ k := Nat.le_trans (List.length_filterMap_le _ _) (by rw [List.length_take]; exact Nat.min_le_left _ _)
      refine aw_skip ?_
      refine thn_n ?_
      refine aw_seq ?_
      refine aw_block ?_
      refine aw_seq (aw_region ?_)
      refine qq rfl rfl (qr_index_list (i := k) rfl rfl (edR_at hk)) ?_
      refine rn ?_
      refine aops_e rfl (oe_alloc rfl fun b8 => ?_)
      refine rn ?_
      refine aw_draw 11 rfl ?_
      refine dq rfl rfl qrA ?_
      refine dq rfl rfl qrA ?_
      refine dq rfl rfl (qr_as (qr_load_one rfl rfl) (show iv _ = iv ((g.es[k].f.toNat : Nat) : Int) from congrArg iv hf.symm)) ?_
      refine dq rfl rfl (qr_index_list (i := g.es[k].f.toNat) rfl rfl (ofGL_at hfn)) ?_
      refine dq rfl rfl qrA ?_
      refine dq rfl rfl qrA ?_
      refine dq rfl rfl qrA ?_
      refine dq rfl rfl (qr_as (qr_load_one rfl rfl) (show iv _ = iv ((g.es[k].t.toNat : Nat) : Int) from congrArg iv ht.symm)) ?_
      refine dq rfl rfl (qr_index_list (i := g.es[k].t.toNat) rfl rfl (ofGL_at htn)) ?_
      refine rn ?_
      refine aw_cond rfl (fun hc40 => ?_) (fun hc40 => ?_)
      · have hne : ofG g g.es[k].f.toNat ≠ ofG g g.es[k].t.toNat := by have q := hc40; simp at q; omega
        refine rn ?_
        refine qv rfl rfl (qv_buildSlice rfl rfl) ?_
        refine aops_e rfl (oe_append_row rfl rfl (by simp only [List.length_map, List.length_cons, List.length_nil]; omega) rfl (fun s27 => ?_) (fun r hr => by rw [List.mem_singleton.1 hr]; rfl))
        refine aops_slice s27 fun sv hsv => ?_
        subst hsv
        refine rn ?_
        first | exact ⟨hk, sv, by rw [foldK_y hk hne, List.map_append]; exact eA⟩ | exact ⟨hk, s, by rw [foldK_n hk hne]; exact eA⟩
      · have hne : ofG g g.es[k].f.toNat = ofG g g.es[k].t.toNat := by have q := hc40; simp at q; omega
        refine rn ?_
        first | exact ⟨hk, sv, by rw [foldK_y hk hne, List.map_append]; exact eA⟩ | exact ⟨hk, s, by rw [foldK_n hk hne]; exact eA⟩
    · have qk : k = g.es.length := by have q := of_decide_eq_false hc25; rw [List.length_map] at q; omega
      refine rn ?_
      refine aops_e rfl (oe_call rfl rfl (FCall.fr (FCall.of_fun (scSets g hb)) (.refl _)) rfl ?_)
      rintro _ _ ⟨_, rfl, s2, rfl, rfl⟩
      simp only [List.cons_append, List.nil_append]
      refine rn ?_
      refine aw_cond rfl (fun hc56 => ?_) (fun hc56 => ?_)
      · exact absurd (nzT hc56) (by rw [he]; decide)
      · refine aw_skip ?_
        refine rn0 ?_
        refine aw_seq ?_
        rw [qk, List.take_length, setsO_y he]
        have hl0 := foldEs_len g
        refine aw_ent (s' := ⟨[(6, edsA (foldEs g)), (11, .v s2.v), (2, .v (.pointer (some ⟨b2, 0, none⟩)))], .row s2.v 1 27 (((setsG g).map rowI).map lisR) :: .box b2 24 [iv 0, .v (.slice none 0 0)] :: .box b1 24 (grR g) :: [], []⟩) (ent_trans (ent_perm (pt1 _ _ _)) (by exact ent_freeze (by repeat (first | exact .nil | refine .row _ _ rfl ?_ | refine .cons _ _ _ rfl ?_)))) ?_
        refine aw_region ?_
        refine q1 ?_
        refine qq rfl rfl (qr_as (qr_len_row rfl) (show iv _ = iv (((setsG g).length : Nat) : Int) from congrArg iv (by rw [setsR_len]))) ?_
        refine rn ?_
        refine aops_e rfl (oe_call rfl rfl (FCall.fr (FCall.of_fun (grOf ((setsG g).length : Nat) (foldEs g) (by omega))) (.refl _)) rfl ?_)
        rintro _ _ ⟨_, rfl, s3, rfl, rfl⟩
        simp only [List.cons_append, List.nil_append]
        refine rn ?_
        exact retq (.cons _ _ _ _ (.agg _ _ _ _ _ _ _ rfl inferInstance inferInstance inferInstance rfl) (.cons _ _ _ _ (.tmp _ _ rfl) .nil)) (.trans (.perm ((pt1 _ _ _).trans (.cons _ ((pt1 _ _ _).trans (.cons _ (pt1 _ _ _))))) _) (.drop [_, _, _] _ _)) ⟨s3, by rw [(fold_good hok).2, foldO_y he], by rw [(fold_good hok).1, (fold_good hok).2, foldO_y he, he]; rfl⟩
theorem scFoldF (g : Gr) (hb : g.es.length ≤ 4611686018427387904) : ACall Tryz.prog 21 [.agg (grR g)] [] (fun r h' => h' = [] ∧ r = .tup [.agg (grR (foldO g)), iv (chkE g)]) :=
  ACall.ventE ((scFold g hb).mono fun r h' q => by
    obtain ⟨s, rfl, rfl⟩ := q
    exact ⟨_, _, vent_freeze_gr _ [_], rfl, rfl⟩)
end Go.Proofs
/- A remainder; numbers turned into and out of an unsigned kind. Conditions: aS each lemma states. -/
set_option linter.unusedVariables false
namespace Go.Ab
open Go
section
variable {P : Program} {h : List Res} {f : Operand → Option AV} {dst : Option Tmp} {ty : TypeId} {pos : String} {after : Array Edge} {guard : Option (Nat × Bool)} {x : Operand}
theorem qr_rem {T T' : TypeId} {k : IntKind} {a b c : Int} {y : Operand} (hx : f x = some (.v (.int k a))) (hy : f y = some (.v (.int k b))) (hb : b ≠ 0) (hc : a.tmod b = c) :
    QR P h f ⟨dst, .binOp .rem T x y T', ty, pos, after, guard⟩ (.v (.int k c)) := fun X ρ w he => by
  refine ⟨_, run_v _ ?_, .v _⟩
  rw [(he.rel x _ hx).v_eq, (he.rel y _ hy).v_eq, run_binop_int]
  simp [binOp, Op.intDiv, hb, hc]
end
end Go.Ab
/- The walks of slices.IndexFunc, DeleteFunc over rows, of Grow, Concat of ints. Conditions: none. -/
set_option linter.unusedVariables false
set_option linter.unusedSimpArgs false
set_option maxRecDepth 10000
namespace Go.Proofs
open Go Go.Ab
attribute [local irreducible] QR QV OE aops aw dsoup dsoupM dalloc dallocM thn inBlk jsoup jch lsoup
open Go.H
theorem fidx_or {α : Type} (p : α → Bool) : ∀ (l : List α) (i : Nat), (fidx p i l = -1 ∧ ∀ x ∈ l, p x = false) ∨ ∃ k, ∃ hk : k < l.length, fidx p i l = ((i + k : Nat) : Int) ∧ p l[k] = true ∧ ∀ x ∈ l.take k, p x = false
  | [], i => .inl ⟨rfl, fun _ h => absurd h (by simp)⟩
  | a :: l, i => by
    by_cases h : p a = true
    · exact .inr ⟨0, Nat.succ_pos _, by rw [fidx, if_pos h]; rfl, h, fun _ h => absurd h (by simp)⟩
    · have h' : p a = false := by simpa using h
      rw [fidx, if_neg h]
      rcases fidx_or p l (i + 1) with ⟨e, q⟩ | ⟨k, hk, e, q1, q2⟩
      · exact .inl ⟨e, fun x hx => (List.mem_cons.1 hx).elim (fun q => q ▸ h') (q x)⟩
      · exact .inr ⟨k + 1, Nat.succ_lt_succ hk, by rw [e]; congr 1; omega, q1, fun x hx => by
          rw [List.take_succ_cons] at hx
          exact (List.mem_cons.1 hx).elim (fun q => q ▸ h') (q2 x)⟩
def notP {α : Type} (q : α → Bool) : α → Bool := fun x => !q x
theorem del_y {α : Type} {q : α → Bool} {l : List α} {k : Nat} (hk : k < l.length) (h : q l[k] = false) : (l.take (k + 1)).filter (notP q) = (l.take k).filter (notP q) ++ [l[k]] := by
  rw [List.take_succ_eq_append_getElem hk, List.filter_append, List.filter_cons_of_pos (by rw [notP, h]; rfl)]; rfl
theorem del_n {α : Type} {q : α → Bool} {l : List α} {k : Nat} (hk : k < l.length) (h : q l[k] = true) : (l.take (k + 1)).filter (notP q) = (l.take k).filter (notP q) := by
  rw [List.take_succ_eq_append_getElem hk, List.filter_append, List.filter_cons_of_neg (by rw [notP, h]; decide)]; simp
theorem del_0 {α : Type} {q : α → Bool} {l : List α} (h : ∀ x ∈ l, q x = false) : l.filter (notP q) = l := List.filter_eq_self.2 fun x hx => by rw [notP, h x hx]; rfl
theorem drop_at {α : Type} {m l : List α} {a : Nat} (h : m.drop a = l.drop a) : m[a]? = l[a]? := by
  have := congrArg (fun x : List α => x[0]?) h
  simpa using this
theorem map_at {α β : Type} {f : α → β} {m l : List α} {a : Nat} (h : m[a]? = l[a]?) (hk : a < l.length) : (m.map f)[a]? = some (f l[a]) := by
  rw [List.getElem?_map, h, List.getElem?_eq_getElem hk]; rfl
theorem drop_set {α : Type} {m l : List α} {a k : Nat} {x : α} (h : m.drop a = l.drop a) (hk : k ≤ a) : (m.set k x).drop (a + 1) = l.drop (a + 1) := by
  rw [List.drop_set_of_lt (by omega), ← List.drop_drop, h, List.drop_drop]
theorem drop_one {α : Type} {m l : List α} {a : Nat} (h : m.drop a = l.drop a) : m.drop (a + 1) = l.drop (a + 1) := by
  rw [← List.drop_drop, h, List.drop_drop]
theorem take_set {α : Type} {m : List α} {k : Nat} {x : α} (hk : k < m.length) : (m.set k x).take (k + 1) = m.take k ++ [x] := by
  rw [List.take_succ_eq_append_getElem (by simpa using hk), List.getElem_set_self, List.take_set, List.set_eq_of_length_le (by simp; omega)]
theorem row_len {α : Type} (R : α → List AV) (l : List α) : (l.map R).length = l.length := List.length_map ..
theorem indexFuncLis {full : Bool} (l : List (List Int)) (fv : AV) (p : (List Int) → Bool) (G : List Res) (hp : ∀ a ∈ l, FCall Tryz.prog fv [intsA a] G (fun r h' => h' = G ∧ r = bv (p a))) (hlen : l.length ≤ 4611686018427387904) : ACall Tryz.prog 65 [.list full 1 (l.map lisR), fv] G (fun r h' => h' = G ∧ r = iv (fidx p 0 l)) := by
  refine acall_of_aw Tryz.func65 rfl rfl rfl ?_
  refine rn ?_
  refine aw_loop' (fun k : Nat => k ≤ l.length ∧ fidx p 0 l = fidx p k (l.drop k)) (fun k => ⟨[(8, iv k), (7, iv (l.map lisR).length), (0, .list full 1 (l.map lisR)), (1, fv)], G, []⟩) (fun k => l.length - k) 0 ⟨Nat.zero_le _, by simp⟩
    (ent_sub (.cons _ _ _ rfl (.cons _ _ _ rfl (.cons _ _ _ rfl (.cons _ _ _ rfl (.nil)))))) ?_
  rintro k ⟨hk, hnot⟩
  refine rn ?_
  refine aw_cond rfl (fun hc9 => ?_) (fun hc9 => ?_)
  · have hk2 : k < l.length := by simpa using hc9
    have hrow : (l.map lisR)[k]? = some (lisR l[k]) := by simp [hk2]
    have hd := List.drop_eq_getElem_cons hk2
    refine rn ?_
    refine qv rfl rfl (qv_call rfl rfl (hp l[k] (by simp))) ?_
    refine rn ?_
    refine aw_cond rfl (fun hc16 => ?_) (fun hc16 => ?_)
    · refine rn ?_
      exact retq (.cons _ _ _ _ (.tmp _ _ rfl) .nil) (.refl _ _) ⟨rfl, by rw [hnot, hd, fidx, if_pos hc16]; rfl⟩
    · refine rn ?_
      exact ⟨k + 1, ⟨by omega, by rw [hnot, hd, fidx, if_neg (by simp [hc16])]⟩, (ent_sub (.cons _ _ _ rfl (.cons _ _ _ rfl (.cons _ _ _ rfl (.cons _ _ _ rfl (.nil)))))), by omega⟩
  · have hk3 : k = l.length := by
      have : l.length ≤ k := by simpa using hc9
      omega
    refine rn ?_
    exact retq (.cons _ _ _ _ (.tmp _ _ rfl) .nil) (.refl _ _) ⟨rfl, by rw [hnot, hk3, List.drop_length, fidx]; rfl⟩
set_option maxHeartbeats 4000000 in
theorem deleteLis (l : List ((List Int))) (sv : SV) (fv : AV) (q : (List Int) → Bool) (hp : ∀ x, FCall Tryz.prog fv [intsA x] [] (fun r h' => h' = [] ∧ r = bv (q x))) (hl0 : l.length ≤ 1000000000) : ACall Tryz.prog 35 [.v sv.v, fv] (.row sv.v 1 27 (l.map lisR) :: []) (fun r h' => ∃ s : SV, h' = [.row s.v 1 27 ((l.filter (notP q)).map lisR)] ∧ r = .v s.v) := by
  refine acall_of_aw Tryz.func35 rfl rfl rfl ?_
  have hl : l.length ≤ 4611686018427387904 := Nat.le_trans hl0 (by decide)
  refine rn ?_
  refine qv rfl rfl (qv_call rfl rfl (FCall.lend (R := fun x => x = iv (fidx q 0 l)) (FCall.of_fun (indexFuncLis (full := false) l fv q [] (fun a _ => hp a) hl)) (fun r hr => by rw [hr]; rfl) (.refl _ _) ⟨ble_row, .refl _ _, trivial⟩)) ?_
  refine rn ?_
  refine aw_cond rfl (fun hc12 => ?_) (fun hc12 => ?_)
  · have hno : ∀ x ∈ l, q x = false := by rcases fidx_or q l 0 with ⟨_, h⟩ | ⟨i, hi, hie, _⟩; exact h; (exfalso; have z := of_decide_eq_true hc12; rw [hie] at z; omega)
    refine rn ?_
    exact retq (.cons _ _ _ _ (.tmp _ _ rfl) .nil) (.refl _ _) ⟨sv, by rw [del_0 hno], rfl⟩
  · obtain ⟨i, hi, hie, hiq, hib⟩ : ∃ i, ∃ hi : i < l.length, fidx q 0 l = ((i : Nat) : Int) ∧ q l[i] = true ∧ ∀ x ∈ l.take i, q x = false := by rcases fidx_or q l 0 with ⟨h, _⟩ | ⟨i, hi, hie, h1, h2⟩; exact absurd hc12 (by rw [h]; decide); exact ⟨i, hi, by rw [hie, Nat.zero_add], h1, h2⟩
    rw [hie]
    refine aw_skip ?_
    refine thn_n ?_
    refine aw_seq ?_
    refine aw_seq (aw_region ?_)
    refine q1 ?_
    refine qq rfl rfl (qr_as (qr_ari rfl rfl rfl (by omega)) (show iv _ = iv ((i + 1 : Nat) : Int) from congrArg iv (by omega))) ?_
    refine rn ?_
    refine aw_while (fun z : Nat × Nat × List ((List Int)) => z.2.1 < z.1 ∧ z.1 ≤ l.length ∧ z.2.2.length = l.length ∧ z.2.2.drop z.1 = l.drop z.1 ∧ z.2.1 = ((l.take z.1).filter (notP q)).length ∧ z.2.2.take z.2.1 = (l.take z.1).filter (notP q)) (fun z => ⟨[(5, iv z.2.1), (6, iv z.1), (0, .v sv.v), (1, fv)], .row sv.v 1 27 (z.2.2.map lisR) :: [], []⟩) (fun z => l.length - z.1) (i + 1, i, l) ⟨Nat.lt_succ_self _, hi, rfl, rfl, by simp only; rw [del_n hi hiq, del_0 hib, List.length_take]; omega, by simp only; rw [del_n hi hiq, del_0 hib]⟩ es ?_
    rintro ⟨j, kk, m⟩ ⟨hkj, hjl, hml, hd, hkk, zm⟩
    simp only at hkj hjl hml hd hkk zm
    show aw _ _ _ _ _ ⟨[(5, iv kk), (6, iv j), (0, .v sv.v), (1, fv)], .row sv.v 1 27 (m.map lisR) :: [], []⟩
    refine rn ?_
    refine aw_cond rfl (fun hc19 => ?_) (fun hc19 => ?_)
    · have hj : j < l.length := by have z := of_decide_eq_true hc19; rw [row_len] at z; omega
      have hrj : (m.map lisR)[j]? = some (lisR l[j]) := map_at (drop_at hd) hj
      have hkl : ((l.take j).filter (notP q)).length ≤ j := Nat.le_trans (List.length_filter_le _ _) (by rw [List.length_take]; exact Nat.min_le_left _ _)
      refine aw_skip ?_
      refine thn_n ?_
      refine aw_seq ?_
      refine aw_block ?_
      refine aw_seq (aw_region ?_)
      refine q1 ?_
      refine q1 ?_
      refine qq rfl rfl (qr_index_row (k := j) rfl rfl (by rw [row_len]; omega)) ?_
      refine qq rfl rfl (qr_load_rp_one rfl hrj rfl) ?_
      refine rn ?_
      refine qv rfl rfl (qv_call rfl rfl (FCall.pure (R := fun r => r = bv (q l[j])) (hp l[j]))) ?_
      refine rn ?_
      refine aw_cond rfl (fun hc29 => ?_) (fun hc29 => ?_)
      · have hq : q l[j] = false := by simpa using hc29
        refine aw_seq (aw_region ?_)
        refine q1 ?_
        refine q1 ?_
        refine q1 ?_
        refine qq rfl rfl (qr_index_row (k := kk) rfl rfl (by rw [row_len]; omega)) ?_
        refine aops_e rfl (oe_store_rp (k := kk) rfl rfl rfl (row := lisR (m[kk]'(by omega))) (by rw [List.getElem?_map, List.getElem?_eq_getElem (by omega)]; rfl) rfl (Nat.le_of_ble_eq_true rfl) ?_)
        rw [st1]
        rw [show (m.map lisR).set kk [intsA l[j]] = (m.set kk l[j]).map lisR by rw [List.map_set]]
        refine aops_nil (thn_n ?_)
        refine aw_region ?_
        refine q1 ?_
        refine qq rfl rfl (qr_as (qr_ari rfl rfl rfl (by omega)) (show iv _ = iv ((kk + 1 : Nat) : Int) from congrArg iv (by omega))) ?_
        refine q1 ?_
        refine aops_nil ?_
        refine inBlk_n ?_
        refine thn_n ?_
        refine aw_region ?_
        refine q1 ?_
        refine qq rfl rfl (qr_as (qr_ari rfl rfl rfl (by omega)) (show iv _ = iv ((j + 1 : Nat) : Int) from congrArg iv (by omega))) ?_
        refine rn ?_
        first | exact ⟨(j + 1, kk + 1, m.set kk l[j]), ⟨by simp only; omega, hj, by simp only [List.length_set]; exact hml, drop_set hd (by omega), by simp only; rw [del_y hj hq, List.length_append, ← hkk]; rfl, by simp only; rw [del_y hj hq, take_set (by omega), zm]⟩, eA, by simp only; omega⟩ | exact ⟨(j + 1, kk, m), ⟨by simp only; omega, hj, hml, drop_one hd, by simp only; rw [del_n hj hq]; exact hkk, by simp only; rw [del_n hj hq]; exact zm⟩, eA, by simp only; omega⟩
      · have hq : q l[j] = true := by simpa using hc29
        refine aw_skip ?_
        refine inBlk_n ?_
        refine thn_n ?_
        refine aw_region ?_
        refine q1 ?_
        refine qq rfl rfl (qr_as (qr_ari rfl rfl rfl (by omega)) (show iv _ = iv ((j + 1 : Nat) : Int) from congrArg iv (by omega))) ?_
        refine rn ?_
        first | exact ⟨(j + 1, kk + 1, m.set kk l[j]), ⟨by simp only; omega, hj, by simp only [List.length_set]; exact hml, drop_set hd (by omega), by simp only; rw [del_y hj hq, List.length_append, ← hkk]; rfl, by simp only; rw [del_y hj hq, take_set (by omega), zm]⟩, eA, by simp only; omega⟩ | exact ⟨(j + 1, kk, m), ⟨by simp only; omega, hj, hml, drop_one hd, by simp only; rw [del_n hj hq]; exact hkk, by simp only; rw [del_n hj hq]; exact zm⟩, eA, by simp only; omega⟩
    · have qj : j = l.length := by have z := of_decide_eq_false hc19; rw [row_len] at z; omega
      refine aw_exit ?_
      refine thn_e ?_
      refine thn_e ?_
      refine inBlk_hit ?_
      refine thn_n ?_
      refine aw_seq (aw_region ?_)
      refine q1 ?_
      refine q1 ?_
      refine qq rfl rfl (qr_part_l (l := kk) rfl rfl (by rw [row_len]; omega)) ?_
      refine aops_e rfl (oe_clear_part (d := kk) (bytes := 0) rfl (by rw [row_len]; omega) (hk := ?_))
      refine aops_nil (thn_n ?_)
      refine aw_seq (aw_region ?_)
      refine q1 ?_
      refine q1 ?_
      refine qq rfl rfl (qr_part_h (k := kk) rfl rfl (by simp; omega)) ?_
      refine aops_short sv.v kk (by simp; omega) ?_
      refine aops_slice (partV sv.v 0 kk 1) fun s1 hs1 => ?_
      rw [hs1]
      refine rn ?_
      exact retq (.cons _ _ _ _ (.tmp _ _ rfl) .nil) (.refl _ _) ⟨s1, by rw [List.take_left' (by simp; omega), ← List.map_take, zm, qj, List.take_length], rfl⟩
set_option maxHeartbeats 4000000 in
theorem growInt (n : Nat) (hn : n ≤ 1000000000) : ACall Tryz.prog 64 [.v (.slice none 0 0), iv n] [] (fun r h' => ∃ s : SV, h' = [.row s.v 1 3 []] ∧ r = .v s.v) := by
  refine acall_of_aw Tryz.func64 rfl rfl rfl ?_
  refine rn ?_
  refine aw_cond rfl (fun hc6 => ?_) (fun hc6 => ?_)
  · exact absurd hc6 (by simp)
  · refine aw_skip ?_
    refine thn_n ?_
    refine aw_seq ?_
    refine aw_seq (aw_region ?_)
    refine aops_ent (ent_nilrow 1 3) ?_
    refine q1 ?_
    refine q1 ?_
    refine qq rfl rfl (qr_cap_nil rfl) ?_
    refine q1 ?_
    refine q1 ?_
    refine qq rfl rfl (qr_ari rfl rfl rfl (by have e : ([] : List (List AV)).length = 0 := rfl; omega)) ?_
    refine qq rfl rfl (qr_as (qr_ari rfl rfl rfl (by have e : ([] : List (List AV)).length = 0 := rfl; omega)) (show AV.v (.int .i64 ((n : Int) - (0 - (([] : List (List AV)).length : Int)))) = iv n by simp)) ?_
    refine rn ?_
    refine aw_cond rfl (fun hc16 => ?_) (fun hc16 => ?_)
    · refine aw_region ?_
      refine aops_ent (ent_nilrow 1 3) ?_
      refine q1 ?_
      refine q1 ?_
      refine qq rfl rfl (qr_cap_nil rfl) ?_
      refine qq rfl rfl (qr_slice_nil rfl rfl) ?_
      refine rn ?_
      refine aops_e rfl (oe_append_zeros (n := n) rfl rfl (by simp at hc16; omega) (by omega) rfl (hk := fun s22 => ?_))
      refine aops_slice s22 fun sv hsv => ?_
      subst hsv
      refine q1 ?_
      refine q1 ?_
      refine qq rfl rfl (qr_part_h (k := 0) rfl rfl (Nat.zero_le _)) ?_
      refine aops_short sv.v 0 (Nat.zero_le _) ?_
      refine aops_slice (partV sv.v 0 0 1) fun s1 hs1 => ?_
      rw [hs1]
      refine rn ?_
      first | exact retq (.cons _ _ _ _ (.tmp _ _ rfl) .nil) (.trans (.perm (pt1 _ _ _) _) (.drop [_] _ _)) ⟨s1, rfl, rfl⟩ | exact retq (.cons _ _ _ _ (.tmp _ _ rfl) .nil) (.refl _ _) ⟨⟨none, 0, 0⟩, rfl, rfl⟩
    · refine rn ?_
      first | exact retq (.cons _ _ _ _ (.tmp _ _ rfl) .nil) (.trans (.perm (pt1 _ _ _) _) (.drop [_] _ _)) ⟨s1, rfl, rfl⟩ | exact retq (.cons _ _ _ _ (.tmp _ _ rfl) .nil) (.refl _ _) ⟨⟨none, 0, 0⟩, rfl, rfl⟩
theorem fl_take {α : Type} (ll : List (List α)) (k : Nat) : (ll.take k).flatten.length ≤ ll.flatten.length := by
  conv => rhs; rw [← List.take_append_drop k ll, List.flatten_append, List.length_append]
  omega
theorem fl_s {α : Type} {ll : List (List α)} {k : Nat} (hk : k < ll.length) : (ll.take (k + 1)).flatten = (ll.take k).flatten ++ ll[k] := by
  rw [List.take_succ_eq_append_getElem hk, List.flatten_append]; simp
theorem fl_sl {α : Type} {ll : List (List α)} {k : Nat} (hk : k < ll.length) : (ll.take k).flatten.length + ll[k].length = (ll.take (k + 1)).flatten.length := by rw [fl_s hk, List.length_append]
theorem one_ints (l : List Int) : ∀ r ∈ l.map intR, r.all AV.one = true := fun r hr => by
  obtain ⟨n, _, rfl⟩ := List.mem_map.1 hr; rfl
set_option maxHeartbeats 4000000 in
theorem concatInt {f : Bool} (ll : List (List Int)) (hl : ll.flatten.length ≤ 1000000000) (hn : ll.length ≤ 1000000000) : ACall Tryz.prog 34 [.list f 1 (ll.map lisR)] [] (fun r h' => ∃ s : SV, h' = [.row s.v 1 3 (ll.flatten.map intR)] ∧ r = .v s.v) := by
  refine acall_of_aw Tryz.func34 rfl rfl rfl ?_
  refine rn ?_
  refine aw_range ll.length (fun k => True) (fun k => ⟨[(11, iv k), (3, iv ((ll.take (k)).flatten.length : Nat)), (0, .list f 1 (ll.map lisR)), (9, .list f 1 (ll.map lisR)), (10, iv (ll.map lisR).length)], [], []⟩) trivial es ?_
  intro k lk _
  refine rn ?_
  refine aw_cond rfl (fun hc12 => ?_) (fun hc12 => ?_)
  · have hk : k < ll.length := by have q := of_decide_eq_true hc12; simp at q; omega
    have rk : (ll.map lisR)[k]? = some [.list false 1 (ll[k].map intR)] := by rw [List.getElem?_map, List.getElem?_eq_getElem hk]; rfl
    have hb := fl_take ll k
    have hb1 := fl_take ll (k + 1)
    have hs := fl_sl hk
    refine aw_skip ?_
    refine thn_n ?_
    refine aw_seq ?_
    refine aw_block ?_
    refine aw_seq (aw_region ?_)
    refine qq rfl rfl (qr_index_list rfl rfl rk) ?_
    refine q1 ?_
    refine q1 ?_
    refine aops_nil (thn_n ?_)
    refine aw_seq (aw_region ?_)
    refine q1 ?_
    refine q1 ?_
    refine q1 ?_
    refine qq rfl rfl (qr_as (qr_ari rfl rfl rfl (by simp only [List.length_map]; omega)) (show AV.v (.int .i64 (((ll.take k).flatten.length : Nat) + ((ll[k].map intR).length : Nat))) = iv ((ll.take (k + 1)).flatten.length : Nat) by rw [List.length_map, ← hs]; rfl)) ?_
    refine rn ?_
    refine aw_cond rfl (fun hc20 => ?_) (fun hc20 => ?_)
    · exfalso
      have q := of_decide_eq_true hc20
      omega
    · refine rn ?_
      exact ⟨hk, trivial, eA⟩
  · have qk : k = ll.length := by have q := of_decide_eq_false hc12; simp at q; omega
    refine rn ?_
    refine aops_e rfl (oe_call rfl rfl (FCall.of_fun (growInt _ (by rw [qk, List.take_length]; exact hl))) rfl ?_)
    rintro _ _ ⟨s, rfl, rfl⟩
    refine rn ?_
    refine aw_rng1 ll.length (fun k s => ⟨[(27, iv k), (6, .v s.v), (25, .list f 1 (ll.map lisR)), (26, iv (ll.map lisR).length)], .row s.v 1 3 ((ll.take k).flatten.map intR) :: [], []⟩) s es ?_
    intro k s lk
    refine rn ?_
    refine aw_cond rfl (fun hc28 => ?_) (fun hc28 => ?_)
    · have hk : k < ll.length := by have q := of_decide_eq_true hc28; simp at q; omega
      have rk : (ll.map lisR)[k]? = some [.list false 1 (ll[k].map intR)] := by rw [List.getElem?_map, List.getElem?_eq_getElem hk]; rfl
      have hb := fl_take ll k
      have hb1 := fl_take ll (k + 1)
      have hs := fl_sl hk
      refine aw_skip ?_
      refine thn_n ?_
      refine aw_seq ?_
      refine aw_block ?_
      refine aw_seq (aw_region ?_)
      refine qq rfl rfl (qr_index_list rfl rfl rk) ?_
      refine rn ?_
      refine aops_e rfl (oe_append_row rfl rfl (by simp only [List.length_map]; omega) rfl (fun s33 => ?_) (one_ints _))
      refine aops_slice s33 fun sv hsv => ?_
      subst hsv
      refine rn ?_
      exact ⟨hk, sv, by rw [fl_s hk, List.map_append]; exact eA⟩
    · have qk : k = ll.length := by have q := of_decide_eq_false hc28; simp at q; omega
      refine rn ?_
      exact retq (.cons _ _ _ _ (.tmp _ _ rfl) .nil) (.refl _ _) ⟨s, by rw [qk, List.take_length], rfl⟩
end Go.Proofs
/- How many bits of a word are 1, reckoned by fields side by side: nothing just where the word is 0. Conditions: aS each lemma states. -/
set_option linter.unusedVariables false
namespace Go.H
theorem and256 (a b x y : Nat) (ha : a < 256) (hb : b < 256) : (a + 256 * x) &&& (b + 256 * y) = (a &&& b) + 256 * (x &&& y) := by
  have h1 : ((a + 256 * x) &&& (b + 256 * y)) % 2 ^ 8 = a &&& b := by
    rw [Nat.and_mod_two_pow]
    congr 1 <;> omega
  have h2 : ((a + 256 * x) &&& (b + 256 * y)) / 2 ^ 8 = x &&& y := by
    rw [Nat.and_div_two_pow]
    congr 1 <;> omega
  have h3 := Nat.div_add_mod ((a + 256 * x) &&& (b + 256 * y)) (2 ^ 8)
  rw [h1, h2] at h3
  omega
def mskB (c : Nat) : Nat → Nat
  | 0 => 0
  | k + 1 => c + 256 * mskB c k
def popA (k x : Nat) : Nat := (x / 2 &&& mskB 0x55 k) + (x &&& mskB 0x55 k)
def popB (k x : Nat) : Nat := (x / 4 &&& mskB 0x33 k) + (x &&& mskB 0x33 k)
def popC (k x : Nat) : Nat := (x / 16 + x) &&& mskB 0x0f k
def pA (a : Nat) : Nat := (a / 2 &&& 0x55) + (a &&& 0x55)
def pB (a : Nat) : Nat := (a / 4 &&& 0x33) + (a &&& 0x33)
def pC (a : Nat) : Nat := (a / 16 + a) &&& 0x0f
def pop8 (a : Nat) : Nat := pC (pB (pA a))
theorem pA_hi : ∀ a, a < 256 → ∀ b, b < 2 → (a / 2 + 128 * b) &&& 0x55 = a / 2 &&& 0x55 := by decide +kernel
theorem pB_hi : ∀ a, a < 256 → ∀ b, b < 4 → (a / 4 + 64 * b) &&& 0x33 = a / 4 &&& 0x33 := by decide +kernel
theorem pA_lt : ∀ a, a < 256 → pA a < 256 := by decide +kernel
theorem pB_le : ∀ a, a < 256 → pB (pA a) ≤ 68 ∧ pB (pA a) % 16 ≤ 4 := by decide +kernel
theorem pC_hi : ∀ a, a < 256 → ∀ b, b < 5 → (pB (pA a) / 16 + pB (pA a) + 16 * b) &&& 0x0f = pop8 a := by decide +kernel
theorem pop8_le : ∀ a, a < 256 → pop8 a ≤ 8 := by decide +kernel
theorem pop8_0 : ∀ a, a < 256 → pop8 a = 0 → a = 0 := by decide +kernel
theorem popA_s (k a y : Nat) (ha : a < 256) : popA (k + 1) (a + 256 * y) = pA a + 256 * popA k y := by
  have e : (a + 256 * y) / 2 = (a / 2 + 128 * (y % 2)) + 256 * (y / 2) := by omega
  unfold popA
  rw [show mskB 0x55 (k + 1) = 0x55 + 256 * mskB 0x55 k from rfl]
  rw [e, and256 _ _ _ _ (by omega) (by decide), and256 _ _ _ _ ha (by decide), pA_hi a ha _ (by omega)]
  unfold pA; omega
theorem popB_s (k a y : Nat) (ha : a < 256) : popB (k + 1) (a + 256 * y) = pB a + 256 * popB k y := by
  have e : (a + 256 * y) / 4 = (a / 4 + 64 * (y % 4)) + 256 * (y / 4) := by omega
  unfold popB
  rw [show mskB 0x33 (k + 1) = 0x33 + 256 * mskB 0x33 k from rfl]
  rw [e, and256 _ _ _ _ (by omega) (by decide), and256 _ _ _ _ ha (by decide), pB_hi a ha _ (by omega)]
  unfold pB; omega
theorem popAB_s (k a y : Nat) (ha : a < 256) : popB (k + 1) (popA (k + 1) (a + 256 * y)) = pB (pA a) + 256 * popB k (popA k y) := by
  rw [popA_s k a y ha, popB_s k _ _ (pA_lt a ha)]
theorem popAB_low (k y : Nat) : popB k (popA k y) % 16 ≤ 4 := by
  cases k with
  | zero => simp [popB, mskB]
  | succ k =>
    have e : y = y % 256 + 256 * (y / 256) := by omega
    have ha : y % 256 < 256 := by omega
    rw [e, popAB_s k _ _ (by omega)]
    have := (pB_le (y % 256) ha).2
    omega
def popF (k x : Nat) : Nat := popC k (popB k (popA k x))
theorem popF_s (k a y : Nat) (ha : a < 256) : popF (k + 1) (a + 256 * y) = pop8 a + 256 * popF k y := by
  unfold popF
  rw [popAB_s k a y ha]
  have h1 := (pB_le a ha).1
  have h2 := popAB_low k y
  generalize hz : popB k (popA k y) = z at *
  unfold popC
  rw [show mskB 0x0f (k + 1) = 0x0f + 256 * mskB 0x0f k from rfl]
  have e : (pB (pA a) + 256 * z) / 16 + (pB (pA a) + 256 * z) = (pB (pA a) / 16 + pB (pA a) + 16 * (z % 16)) + 256 * (z / 16 + z) := by omega
  rw [e, and256 _ _ _ _ (by omega) (by decide), pC_hi a ha _ (by omega)]
def popN : Nat → Nat → Nat
  | 0, _ => 0
  | k + 1, x => pop8 (x % 256) + popN k (x / 256)
/-- All in one, for a word. -/
def popX (e : Nat) : Nat := (e + e / 256) % 18446744073709551616
def popY (a : Nat) : Nat := (a + a / 65536) % 18446744073709551616
def popZ (b : Nat) : Nat := (b + b / 4294967296) % 18446744073709551616
def popV (x : Nat) : Nat := popZ (popY (popX (popF 8 x)))
def popW (x : Nat) : Nat := popV x &&& 127
theorem divl (r q m : Nat) (hr : r < m) : (r + m * q) / m = q := by
  rw [Nat.add_mul_div_left _ _ (by omega), Nat.div_eq_of_lt hr, Nat.zero_add]
/-- The last three steps: the sum of eight bytes. -/
theorem pop_sum {b0 b1 b2 b3 b4 b5 b6 b7 e : Nat} (h0 : b0 ≤ 8) (h1 : b1 ≤ 8) (h2 : b2 ≤ 8) (h3 : b3 ≤ 8) (h4 : b4 ≤ 8) (h5 : b5 ≤ 8) (h6 : b6 ≤ 8) (h7 : b7 ≤ 8)
    (he : e = b0 + 256 * (b1 + 256 * (b2 + 256 * (b3 + 256 * (b4 + 256 * (b5 + 256 * (b6 + 256 * b7))))))) : popZ (popY (popX e)) < 4611686018427387904 ∧ popZ (popY (popX e)) % 128 = b0 + b1 + b2 + b3 + b4 + b5 + b6 + b7 := by
  have q1 : e / 256 = b1 + 256 * (b2 + 256 * (b3 + 256 * (b4 + 256 * (b5 + 256 * (b6 + 256 * b7))))) := by rw [he]; exact divl _ _ _ (by omega)
  have k1 : popX e = (b0 + b1) + 256 * ((b1 + b2) + 256 * ((b2 + b3) + 256 * ((b3 + b4) + 256 * ((b4 + b5) + 256 * ((b5 + b6) + 256 * ((b6 + b7) + 256 * b7)))))) := by
    unfold popX
    rw [q1, Nat.mod_eq_of_lt (by omega)]; omega
  obtain ⟨a, ha⟩ : ∃ a, a = popX e := ⟨_, rfl⟩
  rw [← ha] at k1 ⊢
  clear ha q1 he
  have q2 : a / 65536 = (b2 + b3) + 256 * ((b3 + b4) + 256 * ((b4 + b5) + 256 * ((b5 + b6) + 256 * ((b6 + b7) + 256 * b7)))) := by
    have : a = ((b0 + b1) + 256 * (b1 + b2)) + 65536 * ((b2 + b3) + 256 * ((b3 + b4) + 256 * ((b4 + b5) + 256 * ((b5 + b6) + 256 * ((b6 + b7) + 256 * b7))))) := by omega
    rw [this]; exact divl _ _ _ (by omega)
  have k2 : popY a = (b0 + b1 + (b2 + b3)) + 256 * ((b1 + b2 + (b3 + b4)) + 256 * ((b2 + b3 + (b4 + b5)) + 256 * ((b3 + b4 + (b5 + b6)) + 256 * ((b4 + b5 + (b6 + b7)) + 256 * ((b5 + b6 + b7) + 256 * ((b6 + b7) + 256 * b7)))))) := by
    unfold popY
    rw [q2, Nat.mod_eq_of_lt (by omega)]; omega
  obtain ⟨b, hb⟩ : ∃ b, b = popY a := ⟨_, rfl⟩
  rw [← hb] at k2 ⊢
  clear hb q2 k1
  have q3 : b / 4294967296 = (b4 + b5 + (b6 + b7)) + 256 * ((b5 + b6 + b7) + 256 * ((b6 + b7) + 256 * b7)) := by
    have : b = ((b0 + b1 + (b2 + b3)) + 256 * ((b1 + b2 + (b3 + b4)) + 256 * ((b2 + b3 + (b4 + b5)) + 256 * (b3 + b4 + (b5 + b6))))) + 4294967296 * ((b4 + b5 + (b6 + b7)) + 256 * ((b5 + b6 + b7) + 256 * ((b6 + b7) + 256 * b7))) := by omega
    rw [this]; exact divl _ _ _ (by omega)
  have k3 : popZ b = (b0 + b1 + b2 + b3 + b4 + b5 + b6 + b7) + 128 * (2 * ((b1 + b2 + (b3 + b4) + (b5 + b6 + b7)) + 256 * ((b2 + b3 + (b4 + b5) + (b6 + b7)) + 256 * ((b3 + b4 + (b5 + b6) + b7) + 256 * ((b4 + b5 + (b6 + b7)) + 256 * ((b5 + b6 + b7) + 256 * ((b6 + b7) + 256 * b7))))))) := by
    unfold popZ
    rw [q3, Nat.mod_eq_of_lt (by omega)]; omega
  refine ⟨by omega, ?_⟩
  rw [k3, Nat.add_mul_mod_self_left, Nat.mod_eq_of_lt (by omega)]
theorem popF_two (k x : Nat) : popF (k + 1) x = pop8 (x % 256) + 256 * popF k (x / 256) := by
  have e : x = x % 256 + 256 * (x / 256) := by omega
  conv => lhs; rw [e]
  exact popF_s k _ _ (by omega)
theorem pop8_m (x : Nat) : pop8 (x % 256) ≤ 8 ∧ (pop8 (x % 256) = 0 → x % 256 = 0) := ⟨pop8_le _ (by omega), pop8_0 _ (by omega)⟩
theorem popF_n (k x : Nat) : popF k x = 0 → x < 256 ^ k → x = 0 := by
  induction k generalizing x with
  | zero => intro _ h; simpa using h
  | succ k ih =>
    intro h hx
    rw [popF_two] at h
    have h1 := (pop8_m x).2 (by omega)
    have h2 := ih (x / 256) (by omega) (by rw [Nat.pow_succ] at hx; omega)
    omega
theorem popF_z : ∀ k, popF k 0 = 0
  | 0 => by simp [popF, popC, mskB]
  | k + 1 => by
    rw [popF_two, show 0 / 256 = 0 from rfl, popF_z k]; decide
theorem popW_0 (x : Nat) (h : x < 18446744073709551616) : popV x < 4611686018427387904 ∧ popW x ≤ 64 ∧ (popW x = 0 ↔ x = 0) := by
  obtain ⟨e, he⟩ : ∃ e, e = popF 8 x := ⟨_, rfl⟩
  have hz := popF_n 8 x
  have e8 := he
  rw [popF_two, popF_two, popF_two, popF_two, popF_two, popF_two, popF_two, popF_two, show ∀ y, popF 0 y = 0 from fun y => by simp [popF, popC, mskB]] at e8
  rw [Nat.mul_zero, Nat.add_zero] at e8
  have l0 := pop8_m x
  have l1 := pop8_m (x / 256)
  have l2 := pop8_m (x / 256 / 256)
  have l3 := pop8_m (x / 256 / 256 / 256)
  have l4 := pop8_m (x / 256 / 256 / 256 / 256)
  have l5 := pop8_m (x / 256 / 256 / 256 / 256 / 256)
  have l6 := pop8_m (x / 256 / 256 / 256 / 256 / 256 / 256)
  have l7 := pop8_m (x / 256 / 256 / 256 / 256 / 256 / 256 / 256)
  have hs := pop_sum l0.1 l1.1 l2.1 l3.1 l4.1 l5.1 l6.1 l7.1 e8
  rw [he] at hs
  have hm : popW x = popV x % 128 := Nat.and_two_pow_sub_one_eq_mod _ 7
  refine ⟨hs.1, ?_, ?_⟩
  · rw [hm]; unfold popV; rw [hs.2]
    have := l0.1; have := l1.1; have := l2.1; have := l3.1; have := l4.1; have := l5.1; have := l6.1; have := l7.1
    omega
  · constructor
    · intro q
      rw [hm] at q; unfold popV at q; rw [hs.2] at q
      refine hz ?_ h
      rw [← he, e8]
      generalize pop8 (x % 256) = c0 at *
      generalize pop8 (x / 256 % 256) = c1 at *
      generalize pop8 (x / 256 / 256 % 256) = c2 at *
      generalize pop8 (x / 256 / 256 / 256 % 256) = c3 at *
      generalize pop8 (x / 256 / 256 / 256 / 256 % 256) = c4 at *
      generalize pop8 (x / 256 / 256 / 256 / 256 / 256 % 256) = c5 at *
      generalize pop8 (x / 256 / 256 / 256 / 256 / 256 / 256 % 256) = c6 at *
      generalize pop8 (x / 256 / 256 / 256 / 256 / 256 / 256 / 256 % 256) = c7 at *
      clear l0 l1 l2 l3 l4 l5 l6 l7 hs hz e8 he hm
      omega
    · rintro rfl
      unfold popW popV; rw [popF_z]; decide
end Go.H
/- Operations on words of 64 bits, by natural numbers. Conditions: aS each lemma states. -/
set_option linter.unusedVariables false
namespace Go.Ab
open Go Go.H
theorem u_and {a b : Nat} (ha : a < 18446744073709551616) (hb : b < 18446744073709551616) : bitsI .and .u64 (a : Int) (b : Int) = some ((a &&& b : Nat) : Int) := congrArg some (bits_and_u64_nat a b ha hb)
theorem u_or {a b : Nat} (ha : a < 18446744073709551616) (hb : b < 18446744073709551616) : bitsI .or .u64 (a : Int) (b : Int) = some ((a ||| b : Nat) : Int) := congrArg some (bits_or_u64_nat a b ha hb)
theorem u_add (a b : Nat) : bitsI .add .u64 (a : Int) (b : Int) = some (((a + b) % 18446744073709551616 : Nat) : Int) := by
  show some (((a : Int) + b) % 18446744073709551616) = _
  congr 1
theorem u_shr (a : Nat) {k : Nat} (hk : k < 64) : shiftI .shr .u64 (a : Int) (k : Int) = some ((a / 2 ^ k : Nat) : Int) := by
  show some (Int.fdiv (a : Int) (2 ^ (min k 64))) = _
  rw [Nat.min_eq_left (by omega)]
  have h2 : ((2 : Int) ^ k) = ((2 ^ k : Nat) : Int) := by rw [Int.natCast_pow]; rfl
  rw [h2, Int.fdiv_eq_ediv_of_nonneg _ (Int.natCast_nonneg _)]
  rfl
theorem u_shl1 {k : Nat} (hk : k < 64) : shiftI .shl .u64 1 (k : Int) = some ((2 ^ k : Nat) : Int) := by
  have : 2 ^ k < 18446744073709551616 := Nat.lt_of_lt_of_le (Nat.pow_lt_pow_right (by decide) hk) (by decide)
  show some ((1 * 2 ^ (min k 64) : Int) % 18446744073709551616) = _
  rw [Nat.min_eq_left (by omega), Int.one_mul]
  have h2 : ((2 : Int) ^ k) = ((2 ^ k : Nat) : Int) := by rw [Int.natCast_pow]; rfl
  rw [h2]
  generalize 2 ^ k = p at *
  congr 1
  omega
theorem i_and127 {c : Nat} (hc : c < 4611686018427387904) : bitsI .and .i64 (c : Int) 127 = some ((c &&& 127 : Nat) : Int) := by
  have hx : c &&& 127 ≤ 127 := Nat.and_le_right
  have h1 : (BitVec.ofInt 64 (c : Int)).toNat = c := by simp; omega
  have h2 : (BitVec.ofInt 64 (127 : Int)).toNat = 127 := by decide
  show some (IntKind.i64.wrap (((BitVec.ofInt 64 (c : Int) &&& BitVec.ofInt 64 (127 : Int)).toNat : Nat) : Int)) = _
  rw [BitVec.toNat_and, h1, h2]
  congr 1
  exact IntWalk.i64_in _ ⟨by omega, by omega⟩
section
variable {P : Program} {h : List Res} {f : Operand → Option AV} {dst : Option Tmp} {ty : TypeId} {pos : String} {after : Array Edge} {guard : Option (Nat × Bool)} {x y : Operand}
theorem qr_quoU {T T' : TypeId} {a b : Nat} (hx : f x = some (.v (.int .u64 (a : Int)))) (hy : f y = some (.v (.int .u64 (b : Int)))) (hb : b ≠ 0) (ha : a < 18446744073709551616) :
    QR P h f ⟨dst, .binOp .quo T x y T', ty, pos, after, guard⟩ (.v (.int .u64 ((a / b : Nat) : Int))) := fun X ρ w he => by
  refine ⟨_, run_v _ ?_, .v _⟩
  rw [(he.rel x _ hx).v_eq, (he.rel y _ hy).v_eq, run_binop_int]
  have hb' : (b : Int) ≠ 0 := by omega
  have h1 : (a : Int).tdiv (b : Int) = ((a / b : Nat) : Int) := by rw [Int.tdiv_eq_ediv_of_nonneg (Int.natCast_nonneg _)]; rfl
  have h2 : a / b ≤ a := Nat.div_le_self _ _
  have h3 : IntKind.u64.wrap ((a / b : Nat) : Int) = ((a / b : Nat) : Int) := by
    show (((a / b : Nat) : Int)) % 18446744073709551616 = _
    generalize a / b = c at h2 ⊢
    omega
  revert h1 h3
  generalize ((a / b : Nat) : Int) = c
  intro h1 h3
  simp only [binOp, Op.intDiv, h1]
  rw [if_neg hb']
  simp [h3]
end
end Go.Ab
/- The walks of bits' may, or, of OnesCount64. Conditions: none. -/
set_option linter.unusedVariables false
set_option linter.unusedSimpArgs false
set_option maxRecDepth 10000
namespace Go.Proofs
open Go Go.Ab
attribute [local irreducible] QR QV OE aops aw dsoup dsoupM dalloc dallocM thn inBlk jsoup jch lsoup
open Go.H
abbrev w64R (n : Nat) : List AV := [.v (.int .u64 (n : Int))]
theorem wrdsA_len (l : List Nat) : (wrdsA l).length = l.length := by simp [wrdsA]
theorem wrdsA_at {l : List Nat} {k : Nat} (hk : k < l.length) : (wrdsA l)[k]? = some (w64R l[k]) := by simp [wrdsA, hk]
theorem wrdsA_app (l : List Nat) (x : Nat) : wrdsA l ++ [w64R x] = wrdsA (l ++ [x]) := by simp [wrdsA]
theorem wrdsA_set (l : List Nat) (k x : Nat) : (wrdsA l).set k (w64R x) = wrdsA (l.set k x) := by simp [wrdsA, List.map_set]
theorem wF_at {l : List Nat} {n i : Nat} (hi : i < n) : (wrdsA (wordsF l n))[i]? = some (w64R (wrdL l i)) := by
  rw [wrdsA, List.getElem?_map, wordsF_at hi]; rfl
theorem wF_set {l : List Nat} {m a : Nat} : (wrdsA (wordsF l m)).set (a / 64) (w64R (wrdL l (a / 64) ||| 2 ^ (a % 64))) = wrdsA (wordsF (l ++ [a]) m) := by rw [wrdsA_set, wordsF_set]
theorem msk_5 : mskB 0x55 8 = 6148914691236517205 := by decide
theorem msk_3 : mskB 0x33 8 = 3689348814741910323 := by decide
theorem msk_f : mskB 0x0f 8 = 1085102592571150095 := by decide
def cntW (l : List Nat) : Nat := (l.map popW).sum
theorem cntW_s {l : List Nat} {k : Nat} (hk : k < l.length) : cntW (l.take (k + 1)) = cntW (l.take k) + popW l[k] := by
  rw [cntW, List.take_succ_eq_append_getElem hk, List.map_append, List.sum_append]; simp [cntW]
theorem cntW_le (l : List Nat) (h : ∀ x ∈ l, x < 18446744073709551616) : cntW l ≤ 64 * l.length := by
  induction l with
  | nil => exact Nat.le_refl _
  | cons a r ih =>
    have h1 := (popW_0 a (h a (by simp))).2.1
    have h2 := ih fun x hx => h x (by simp [hx])
    show popW a + cntW r ≤ _
    simp only [List.length_cons]; omega
theorem words_lt {l : List Nat} {x : Nat} (h : x ∈ wordsL l) : x < 18446744073709551616 := by
  obtain ⟨i, _, rfl⟩ := List.mem_map.1 h
  exact wrdL_lt l i
theorem cntW_pos (l : List Nat) : 0 < cntW (wordsL l) ↔ l ≠ [] := by
  constructor
  · rintro h rfl; exact absurd h (by decide)
  · intro h
    have hl : 0 < lenW l := Nat.pos_of_ne_zero fun e => h (lenW_zero.1 e)
    have h1 := words_last hl
    have hm : wrdL l (lenW l - 1) ∈ wordsL l := List.mem_map.2 ⟨_, List.mem_range.2 (by omega), rfl⟩
    have h2 := (popW_0 _ (wrdL_lt l (lenW l - 1))).2.2
    have h3 : ∀ (m : List Nat) (x : Nat), x ∈ m → popW x ≤ cntW m := by
      intro m
      induction m with
      | nil => intro x hx; cases hx
      | cons a r ih =>
        intro x hx
        show popW x ≤ popW a + cntW r
        rcases List.mem_cons.1 hx with rfl | hx
        · omega
        · have := ih x hx; omega
    have := h3 _ _ hm
    omega
theorem len_640 {l : List Nat} (h : ∀ x ∈ l, x < 640) : lenW l ≤ 10 := lenW_le.2 fun n hn => by have := h n hn; omega
theorem bMay (n : Int) : ACall Tryz.prog 60 [iv n] [] (fun r h' => h' = [] ∧ r = bv (decide (0 ≤ n) && decide (n < 10000))) := by
  refine acall_of_aw Tryz.func60 rfl rfl rfl ?_
  refine rn ?_
  refine asplit (fun hg1_2 => ?_) (fun hg1_2 => ?_)
  · refine rn ?_
    refine rq 0 ?_
    exact ⟨rfl, congrArg bv (by first | (simp_all; done) | (simp_all <;> omega))⟩
  · refine rn ?_
    refine rq 0 ?_
    exact ⟨rfl, congrArg bv (by first | (simp_all; done) | (simp_all <;> omega))⟩
theorem bOr (a b : Nat) (ha : a < 18446744073709551616) (hb : b < 18446744073709551616) : ACall Tryz.prog 62 [.v (.int .u64 ((a : Nat) : Int)), .v (.int .u64 ((b : Nat) : Int))] [] (fun r h' => h' = [] ∧ r = .v (.int .u64 ((a ||| b : Nat) : Int))) := by
  refine acall_of_aw Tryz.func62 rfl rfl rfl ?_
  refine aw_seq (aw_region ?_)
  refine q1 ?_
  refine aops_nil (thn_n ?_)
  refine aw_seq (aw_region ?_)
  refine q1 ?_
  refine q1 ?_
  refine qq rfl rfl (qr_bits rfl rfl (u_or ha hb)) ?_
  refine rn ?_
  refine rq 0 ?_
  exact ⟨rfl, rfl⟩
theorem popA_v (x : Nat) : AV.v (.int .u64 (((x / 2 &&& 6148914691236517205) + (x &&& 6148914691236517205) : Nat) : Int)) = .v (.int .u64 ((popA 8 x : Nat) : Int)) := by unfold popA; rw [msk_5]
theorem popB_v (x : Nat) : AV.v (.int .u64 (((x / 4 &&& 3689348814741910323) + (x &&& 3689348814741910323) : Nat) : Int)) = .v (.int .u64 ((popB 8 x : Nat) : Int)) := by unfold popB; rw [msk_3]
theorem popF_v (x : Nat) : AV.v (.int .u64 (((popB 8 (popA 8 x) / 16 + popB 8 (popA 8 x)) &&& 1085102592571150095 : Nat) : Int)) = .v (.int .u64 ((popF 8 x : Nat) : Int)) := by unfold popF popC; rw [msk_f]
theorem i64_small {n : Nat} (h : n < 4611686018427387904) : IntKind.i64.wrap (n : Int) = (n : Int) := IntWalk.i64_in _ ⟨by omega, by omega⟩
theorem popA_le (x : Nat) : popA 8 x ≤ 12297829382473034410 := by
  have h1 : x / 2 &&& mskB 0x55 8 ≤ mskB 0x55 8 := Nat.and_le_right
  have h2 : x &&& mskB 0x55 8 ≤ mskB 0x55 8 := Nat.and_le_right
  rw [msk_5] at h1 h2
  unfold popA; rw [msk_5]; omega
theorem popB_le (x : Nat) : popB 8 x ≤ 7378697629483820646 := by
  have h1 : x / 4 &&& mskB 0x33 8 ≤ mskB 0x33 8 := Nat.and_le_right
  have h2 : x &&& mskB 0x33 8 ≤ mskB 0x33 8 := Nat.and_le_right
  rw [msk_3] at h1 h2
  unfold popB; rw [msk_3]; omega
set_option maxHeartbeats 4000000 in
theorem onesCount (x : Nat) (hx : x < 18446744073709551616) : ACall Tryz.prog 59 [.v (.int .u64 ((x : Nat) : Int))] [] (fun r h' => h' = [] ∧ r = iv (popW x : Nat)) := by
  refine acall_of_aw Tryz.func59 rfl rfl rfl ?_
  have ha := popA_le x
  have hb := popB_le (popA 8 x)
  have n1 : x / 2 &&& 6148914691236517205 ≤ 6148914691236517205 := Nat.and_le_right
  have n2 : x &&& 6148914691236517205 ≤ 6148914691236517205 := Nat.and_le_right
  have n3 : popA 8 x / 4 &&& 3689348814741910323 ≤ 3689348814741910323 := Nat.and_le_right
  have n4 : popA 8 x &&& 3689348814741910323 ≤ 3689348814741910323 := Nat.and_le_right
  refine aw_seq (aw_region ?_)
  refine q1 ?_
  refine aops_nil (thn_n ?_)
  refine aw_seq (aw_region ?_)
  refine q1 ?_
  refine qq rfl rfl (qr_as (qr_shift rfl rfl (u_shr (x) (k := 1) (by decide)) (by decide)) (show AV.v (.int .u64 (((x) / 2 ^ 1 : Nat) : Int)) = AV.v (.int .u64 ((x / 2 : Nat) : Int)) from rfl)) ?_
  refine qq rfl rfl (qr_as (qr_bits rfl rfl (u_and (a := x / 2) (b := 6148914691236517205) (by omega) (by decide))) (show AV.v (.int .u64 (((x / 2) &&& 6148914691236517205 : Nat) : Int)) = AV.v (.int .u64 (((x / 2) &&& 6148914691236517205 : Nat) : Int)) from rfl)) ?_
  refine q1 ?_
  refine qq rfl rfl (qr_as (qr_bits rfl rfl (u_and (a := x) (b := 6148914691236517205) hx (by decide))) (show AV.v (.int .u64 (((x) &&& 6148914691236517205 : Nat) : Int)) = AV.v (.int .u64 (((x) &&& 6148914691236517205 : Nat) : Int)) from rfl)) ?_
  refine qq rfl rfl (qr_as (qr_bits rfl rfl (u_add (x / 2 &&& 6148914691236517205) (x &&& 6148914691236517205))) (show AV.v (.int .u64 ((((x / 2 &&& 6148914691236517205) + (x &&& 6148914691236517205)) % 18446744073709551616 : Nat) : Int)) = AV.v (.int .u64 ((popA 8 x : Nat) : Int)) by rw [Nat.mod_eq_of_lt (by omega)]; exact popA_v x)) ?_
  refine q1 ?_
  refine aops_nil (thn_n ?_)
  refine aw_seq (aw_region ?_)
  refine q1 ?_
  refine qq rfl rfl (qr_as (qr_shift rfl rfl (u_shr (popA 8 x) (k := 2) (by decide)) (by decide)) (show AV.v (.int .u64 (((popA 8 x) / 2 ^ 2 : Nat) : Int)) = AV.v (.int .u64 ((popA 8 x / 4 : Nat) : Int)) from rfl)) ?_
  refine qq rfl rfl (qr_as (qr_bits rfl rfl (u_and (a := popA 8 x / 4) (b := 3689348814741910323) (by omega) (by decide))) (show AV.v (.int .u64 (((popA 8 x / 4) &&& 3689348814741910323 : Nat) : Int)) = AV.v (.int .u64 (((popA 8 x / 4) &&& 3689348814741910323 : Nat) : Int)) from rfl)) ?_
  refine q1 ?_
  refine qq rfl rfl (qr_as (qr_bits rfl rfl (u_and (a := popA 8 x) (b := 3689348814741910323) (by omega) (by decide))) (show AV.v (.int .u64 (((popA 8 x) &&& 3689348814741910323 : Nat) : Int)) = AV.v (.int .u64 (((popA 8 x) &&& 3689348814741910323 : Nat) : Int)) from rfl)) ?_
  refine qq rfl rfl (qr_as (qr_bits rfl rfl (u_add (popA 8 x / 4 &&& 3689348814741910323) (popA 8 x &&& 3689348814741910323))) (show AV.v (.int .u64 ((((popA 8 x / 4 &&& 3689348814741910323) + (popA 8 x &&& 3689348814741910323)) % 18446744073709551616 : Nat) : Int)) = AV.v (.int .u64 ((popB 8 (popA 8 x) : Nat) : Int)) by rw [Nat.mod_eq_of_lt (by omega)]; exact popB_v _)) ?_
  refine q1 ?_
  refine aops_nil (thn_n ?_)
  refine aw_seq (aw_region ?_)
  refine q1 ?_
  refine qq rfl rfl (qr_as (qr_shift rfl rfl (u_shr (popB 8 (popA 8 x)) (k := 4) (by decide)) (by decide)) (show AV.v (.int .u64 (((popB 8 (popA 8 x)) / 2 ^ 4 : Nat) : Int)) = AV.v (.int .u64 ((popB 8 (popA 8 x) / 16 : Nat) : Int)) from rfl)) ?_
  refine q1 ?_
  refine qq rfl rfl (qr_as (qr_bits rfl rfl (u_add (popB 8 (popA 8 x) / 16) (popB 8 (popA 8 x)))) (show AV.v (.int .u64 ((((popB 8 (popA 8 x) / 16) + (popB 8 (popA 8 x))) % 18446744073709551616 : Nat) : Int)) = AV.v (.int .u64 ((popB 8 (popA 8 x) / 16 + popB 8 (popA 8 x) : Nat) : Int)) by rw [Nat.mod_eq_of_lt (by omega)])) ?_
  refine qq rfl rfl (qr_as (qr_bits rfl rfl (u_and (a := popB 8 (popA 8 x) / 16 + popB 8 (popA 8 x)) (b := 1085102592571150095) (by omega) (by decide))) (show _ = AV.v (.int .u64 ((popF 8 x : Nat) : Int)) from popF_v x)) ?_
  refine q1 ?_
  refine aops_nil (thn_n ?_)
  refine aw_seq (aw_region ?_)
  refine q1 ?_
  refine q1 ?_
  refine qq rfl rfl (qr_as (qr_shift rfl rfl (u_shr (popF 8 x) (k := 8) (by decide)) (by decide)) (show AV.v (.int .u64 (((popF 8 x) / 2 ^ 8 : Nat) : Int)) = AV.v (.int .u64 ((popF 8 x / 256 : Nat) : Int)) from rfl)) ?_
  refine qq rfl rfl (qr_as (qr_bits rfl rfl (u_add (popF 8 x) (popF 8 x / 256))) (show AV.v (.int .u64 ((((popF 8 x) + (popF 8 x / 256)) % 18446744073709551616 : Nat) : Int)) = AV.v (.int .u64 ((popX (popF 8 x) : Nat) : Int)) by rfl)) ?_
  refine q1 ?_
  refine aops_nil (thn_n ?_)
  refine aw_seq (aw_region ?_)
  refine q1 ?_
  refine q1 ?_
  refine qq rfl rfl (qr_as (qr_shift rfl rfl (u_shr (popX (popF 8 x)) (k := 16) (by decide)) (by decide)) (show AV.v (.int .u64 (((popX (popF 8 x)) / 2 ^ 16 : Nat) : Int)) = AV.v (.int .u64 ((popX (popF 8 x) / 65536 : Nat) : Int)) from rfl)) ?_
  refine qq rfl rfl (qr_as (qr_bits rfl rfl (u_add (popX (popF 8 x)) (popX (popF 8 x) / 65536))) (show AV.v (.int .u64 ((((popX (popF 8 x)) + (popX (popF 8 x) / 65536)) % 18446744073709551616 : Nat) : Int)) = AV.v (.int .u64 ((popY (popX (popF 8 x)) : Nat) : Int)) by rfl)) ?_
  refine q1 ?_
  refine aops_nil (thn_n ?_)
  refine aw_seq (aw_region ?_)
  refine q1 ?_
  refine q1 ?_
  refine qq rfl rfl (qr_as (qr_shift rfl rfl (u_shr (popY (popX (popF 8 x))) (k := 32) (by decide)) (by decide)) (show AV.v (.int .u64 (((popY (popX (popF 8 x))) / 2 ^ 32 : Nat) : Int)) = AV.v (.int .u64 ((popY (popX (popF 8 x)) / 4294967296 : Nat) : Int)) from rfl)) ?_
  refine qq rfl rfl (qr_as (qr_bits rfl rfl (u_add (popY (popX (popF 8 x))) (popY (popX (popF 8 x)) / 4294967296))) (show AV.v (.int .u64 ((((popY (popX (popF 8 x))) + (popY (popX (popF 8 x)) / 4294967296)) % 18446744073709551616 : Nat) : Int)) = AV.v (.int .u64 ((popV x : Nat) : Int)) by rfl)) ?_
  refine q1 ?_
  refine aops_nil (thn_n ?_)
  refine aw_seq (aw_region ?_)
  refine q1 ?_
  refine qq rfl rfl (qr_convert (m := ((popV x : Nat) : Int)) rfl (i64_small (popW_0 x hx).1)) ?_
  refine qq rfl rfl (qr_bits rfl rfl (i_and127 (popW_0 x hx).1)) ?_
  refine rn ?_
  refine rq 0 ?_
  exact ⟨rfl, rfl⟩
end Go.Proofs
/- The walks of bits' turned, made. Conditions: none. -/
set_option linter.unusedVariables false
set_option linter.unusedSimpArgs false
set_option maxRecDepth 10000
namespace Go.Proofs
open Go Go.Ab
attribute [local irreducible] QR QV OE aops aw dsoup dsoupM dalloc dallocM thn inBlk jsoup jch lsoup
open Go.H
theorem lenW_app (l : List Nat) (a : Nat) : lenW (l ++ [a]) = max (lenW l) (a / 64 + 1) := lenW_s l a
theorem wrd_lt (l : List Nat) (i : Nat) : wrdL l i < 18446744073709551616 := wrdL_lt l i
theorem pow_lt {a : Nat} : 2 ^ (a % 64) < 18446744073709551616 := Nat.lt_of_lt_of_le (Nat.pow_lt_pow_right (by decide) (Nat.mod_lt a (by decide))) (by decide)
abbrev wordsA (l : List Nat) : AV := .list false 1 (wrdsA l)
theorem cloneRowW64 {f : Bool} (rows : List (List AV)) (hl : rows.length ≤ 1099511627776) (hone : ∀ r ∈ rows, r.all AV.one = true) : ACall Tryz.prog 98 [.list f 1 rows] [] (fun r h' => ∃ s, h' = [.row s 1 74 rows] ∧ r = .v s) := by
  refine acall_of_aw Tryz.func98 rfl rfl rfl ?_
  refine rn ?_
  refine aops_e rfl (oe_eqnil rfl rfl rfl fun b4 hb4 => ?_)
  refine rn ?_
  refine aw_cond rfl (fun hc4 => ?_) (fun hc4 => ?_)
  · refine rn ?_
    have h0 := hb4 hc4
    subst h0
    exact retq (.cons _ _ _ _ (.tmp _ _ rfl) .nil) (vent_nilrow 1 74 _) ⟨_, rfl, rfl⟩
  · refine rn ?_
    refine aops_e rfl (oe_buildRow rfl rfl rfl fun s5 => ?_)
    refine rn ?_
    refine aops_e rfl (oe_append_row rfl rfl (by simpa using hl) rfl (fun s7 => ?_) hone)
    refine rn ?_
    exact retq (.cons _ _ _ _ (.tmp _ _ rfl) .nil) (.refl _ _) ⟨_, by rw [List.nil_append], rfl⟩
set_option maxHeartbeats 4000000 in
theorem bTurned {f : Bool} (l : List Nat) (a : Nat) (hl : lenW l ≤ 1000) (ha : a < 10000) : ACall Tryz.prog 61 [.list f 1 (wrdsA (wordsL l)), iv (a : Int), .fn (.func 62) [] []] [] (fun r h' => h' = [] ∧ r = wordsA (wordsL (l ++ [a]))) := by
  refine acall_of_aw Tryz.func61 rfl rfl rfl ?_
  refine rn ?_
  refine aops_e rfl (oe_call rfl rfl (FCall.of_fun (cloneRowW64 (f := f) (wrdsA (wordsL l)) (by rw [wrdsA_len, wordsL_len]; omega) (wrdsA_one _))) rfl ?_)
  rintro _ _ ⟨s, rfl, rfl⟩
  refine aops_slice s fun sv0 hsv0 => ?_
  subst hsv0
  refine rn ?_
  refine aw_while (fun x : Nat × SV => lenW l ≤ x.1 ∧ x.1 ≤ lenW (l ++ [a])) (fun x => ⟨[(7, .v x.2.v), (1, iv (a : Int)), (2, .fn (.func 62) [] [])], .row x.2.v 1 74 (wrdsA (wordsF l (x.1))) :: [], []⟩) (fun x => lenW (l ++ [a]) - x.1) (lenW l, sv0) ⟨Nat.le_refl _, by rw [lenW_app]; exact Nat.le_max_left _ _⟩ es ?_
  rintro ⟨m, s⟩ ⟨h1, h2⟩
  simp only at h1 h2
  have hmx := lenW_app l a
  show aw _ _ _ _ _ ⟨[(7, .v s.v), (1, iv (a : Int)), (2, .fn (.func 62) [] [])], .row s.v 1 74 (wrdsA (wordsF l (m))) :: [], []⟩
  refine aw_seq ?_
  refine aw_seq (aw_region ?_)
  refine q1 ?_
  refine q1 ?_
  refine q1 ?_
  refine qq rfl rfl (qr_quo (c := ((a / 64 : Nat) : Int)) rfl rfl (by decide) rfl (by omega)) ?_
  refine rn ?_
  refine aw_cond rfl (fun hc14 => ?_) (fun hc14 => ?_)
  · have hlt : m ≤ a / 64 := by have q := of_decide_eq_true hc14; rw [wrdsA_len, wordsF_len] at q; omega
    refine rn ?_
    refine qv rfl rfl (qv_buildSlice rfl rfl) ?_
    refine aops_e rfl (oe_append_row rfl rfl (by rw [wrdsA_len, wordsF_len]; simp only [List.length_cons, List.length_nil]; omega) rfl (fun s27 => ?_) (fun r hr => by rw [List.mem_singleton.1 hr]; rfl))
    refine aops_slice s27 fun sv hsv => ?_
    subst hsv
    refine rn ?_
    exact ⟨(m + 1, sv), ⟨by simp only; omega, by simp only; omega⟩, by rw [← wordsF_more h1, ← wrdsA_app]; exact eA, by simp only; omega⟩
  · have hge : a / 64 < m := by have q := of_decide_eq_false hc14; rw [wrdsA_len, wordsF_len] at q; omega
    refine rn ?_
    refine aw_draw 13 rfl ?_
    refine dq rfl rfl qrA ?_
    refine dq rfl rfl qrA ?_
    refine dq rfl rfl (qr_quo (c := ((a / 64 : Nat) : Int)) rfl rfl (by decide) rfl (by omega)) ?_
    refine dq rfl rfl qrA ?_
    refine dq rfl rfl qrA ?_
    refine dq rfl rfl qrA ?_
    refine dq rfl rfl (qr_quo (c := ((a / 64 : Nat) : Int)) rfl rfl (by decide) rfl (by omega)) ?_
    refine dq rfl rfl (qr_index_row (k := a / 64) rfl rfl (by rw [wrdsA_len, wordsF_len]; exact hge)) ?_
    refine dq rfl rfl (qr_load_rp_one rfl (wF_at hge) rfl) ?_
    refine dq rfl rfl qrA ?_
    refine dq rfl rfl (qr_rem (c := ((a % 64 : Nat) : Int)) rfl rfl (by decide) rfl) ?_
    refine dq rfl rfl (qr_shift rfl rfl (u_shl1 (Nat.mod_lt a (by decide))) (Int.natCast_nonneg _)) ?_
    refine dv rfl rfl (by exact qv_call rfl rfl (FCall.pure (R := fun r => r = .v (.int .u64 ((wrdL l (a / 64) ||| 2 ^ (a % 64) : Nat) : Int))) (FCall.of_fun (bOr _ _ (wrd_lt l _) pow_lt)))) ?_
    refine rn2 ?_
    refine qq rfl rfl (qr_index_row (k := a / 64) rfl rfl (by rw [wrdsA_len, wordsF_len]; exact hge)) ?_
    refine aops_e rfl (oe_store_rp (k := a / 64) rfl rfl rfl (wF_at hge) rfl (Nat.le_of_ble_eq_true rfl) ?_)
    rw [st1, show ([AV.v (Value.int .u64 ((wrdL l (a / 64) ||| 2 ^ (a % 64) : Nat) : Int))] : List AV) = w64R (wrdL l (a / 64) ||| 2 ^ (a % 64)) from rfl, wF_set]
    refine rn ?_
    have hm : m = lenW (l ++ [a]) := by omega
    subst hm
    exact retq (.cons _ _ _ _ (.tmp _ _ rfl) .nil) vent_freeze ⟨rfl, rfl⟩
set_option maxHeartbeats 4000000 in
theorem bMade {f : Bool} (l : List Nat) (hl : lenW l ≤ 1000) : ACall Tryz.prog 63 [.list f 1 (wrdsA (wordsL l))] [] (fun r h' => h' = [] ∧ r = .agg [wordsA (wordsL l)]) := by
  refine acall_of_aw Tryz.func63 rfl rfl rfl ?_
  refine rn ?_
  refine aops_e rfl (oe_alloc rfl fun b2 => ?_)
  refine aops_nil (thn_n ?_)
  refine aw_seq (aw_region ?_)
  refine q1 ?_
  refine qq rfl rfl (qr_as (qr_len_list rfl) (show iv _ = iv (lenW l : Nat) from congrArg iv (by rw [wrdsA_len, wordsL_len]))) ?_
  refine rn ?_
  refine aw_while (fun _ : Unit => True) (fun _ => ⟨[(3, iv (lenW l : Nat)), (0, .list f 1 (wrdsA (wordsL l))), (2, .v (.pointer (some ⟨b2, 0, none⟩)))], .box b2 38 [.v (.slice none 0 0)] :: [], []⟩) (fun _ => 0) () trivial es ?_
  rintro _ _
  refine rn ?_
  refine asplit (fun hg2_2 => ?_) (fun hg2_2 => ?_)
  · refine q1 ?_
    refine q1 ?_
    refine qq rfl rfl (qr_as (qr_ari rfl rfl rfl (by omega)) (show iv _ = iv ((lenW l - 1 : Nat) : Int) from congrArg iv (by have q := hg2_2; simp at q; omega))) ?_
    refine qq rfl rfl (qr_index_list (i := lenW l - 1) rfl rfl (wF_at (by have q := hg2_2; simp at q; omega))) ?_
    refine rn ?_
    refine aw_cond rfl (fun hc16 => ?_) (fun hc16 => ?_)
    · exact absurd hc16 (by have h0 := words_last (l := l) (by have q := hg2_2; simp at q; omega); simp; omega)
    · refine rn ?_
      refine aops_e rfl (oe_makeSlice rfl rfl rfl (by omega) (hk := fun bm => ?_))
      refine aops_slice (.slice (some ⟨bm, 0, none⟩) (lenW l) (lenW l)) fun sv hsv => ?_
      rw [hsv]
      clear hsv
      refine q1 ?_
      refine aops_nil (thn_n ?_)
      refine aw_seq (aw_region ?_)
      refine q1 ?_
      refine q1 ?_
      refine q1 ?_
      refine q1 ?_
      refine qq rfl rfl (qr_as (qr_slice_hm (k := lenW l) rfl rfl rfl (by rw [wrdsA_len, wordsL_len]; exact Nat.le_refl _)) (show AV.list true 1 _ = .list true 1 (wrdsA (wordsL l)) by rw [List.take_of_length_le (by rw [wrdsA_len, wordsL_len]; exact Nat.le_refl _)])) ?_
      refine aops_e rfl (oe_copy_ln (lenW l) rfl rfl (by rw [List.length_replicate, wrdsA_len, wordsL_len]; exact Nat.min_self _) rfl (hk := ?_) (wrdsA_one _))
      rw [List.take_of_length_le (by rw [wrdsA_len, wordsL_len]; exact Nat.le_refl _), List.drop_eq_nil_of_le (by rw [List.length_replicate]; exact Nat.le_refl _), List.append_nil]
      refine rn ?_
      exact retq (.cons _ _ _ _ (.agg _ _ _ _ _ _ _ rfl inferInstance inferInstance inferInstance rfl) .nil) (.trans (vent_freeze_cell [] []) (.drop [_] _ _)) ⟨rfl, rfl⟩
  · refine rn ?_
    refine aw_cf rfl ?_
    refine rn ?_
    refine aops_e rfl (oe_makeSlice rfl rfl rfl (by omega) (hk := fun bm => ?_))
    refine aops_slice (.slice (some ⟨bm, 0, none⟩) (lenW l) (lenW l)) fun sv hsv => ?_
    rw [hsv]
    clear hsv
    refine q1 ?_
    refine aops_nil (thn_n ?_)
    refine aw_seq (aw_region ?_)
    refine q1 ?_
    refine q1 ?_
    refine q1 ?_
    refine q1 ?_
    refine qq rfl rfl (qr_as (qr_slice_hm (k := lenW l) rfl rfl rfl (by rw [wrdsA_len, wordsL_len]; exact Nat.le_refl _)) (show AV.list true 1 _ = .list true 1 (wrdsA (wordsL l)) by rw [List.take_of_length_le (by rw [wrdsA_len, wordsL_len]; exact Nat.le_refl _)])) ?_
    refine aops_e rfl (oe_copy_ln (lenW l) rfl rfl (by rw [List.length_replicate, wrdsA_len, wordsL_len]; exact Nat.min_self _) rfl (hk := ?_) (wrdsA_one _))
    rw [List.take_of_length_le (by rw [wrdsA_len, wordsL_len]; exact Nat.le_refl _), List.drop_eq_nil_of_le (by rw [List.length_replicate]; exact Nat.le_refl _), List.append_nil]
    refine rn ?_
    exact retq (.cons _ _ _ _ (.agg _ _ _ _ _ _ _ rfl inferInstance inferInstance inferInstance rfl) .nil) (.trans (vent_freeze_cell [] []) (.drop [_] _ _)) ⟨rfl, rfl⟩
end Go.Proofs
/- The walks of bits' Check, of, Count, Of. Conditions: none. -/
set_option linter.unusedVariables false
set_option linter.unusedSimpArgs false
set_option maxRecDepth 10000
namespace Go.Proofs
open Go Go.Ab
attribute [local irreducible] QR QV OE aops aw dsoup dsoupM dalloc dallocM thn inBlk jsoup jch lsoup
open Go.H
theorem bl_le (x : Nat) (hx : x < 18446744073709551616) : Lib.bitLen x ≤ 64 := Lib.bitLen_le x 64 (by omega) (by omega)
theorem len64 (x : Nat) (hx : x < 18446744073709551616) : ACall Tryz.prog 87 [.v (.int .u64 (x : Int))] [] (fun r h' => h' = [] ∧ r = iv (Lib.bitLen x : Nat)) := by
  intro X w vs hh ha
  match vs, ha with
  | [v], ⟨hv, _⟩ =>
    obtain rfl := hv.v_eq
    refine callsIn_wide.2 ((Any.bits_Len64 (P := Tryz.prog) (ρ := sortRen) { sortLays with } x w (by omega) (by omega)).mono ?_)
    rintro e w' ⟨rfl, rfl⟩
    exact ⟨_, _, _, rfl, ⟨rfl, rfl⟩, .v _, hh, .refl _ _⟩
set_option maxHeartbeats 2000000 in
theorem bCheck (l : List Nat) (hm : ∀ x ∈ l, x < 640) : ACall Tryz.prog 97 [.agg [wordsA (wordsL l)]] [] (fun r h' => h' = [] ∧ r = iv 0) := by
  refine acall_of_aw Tryz.func97 rfl rfl rfl ?_
  have hl := len_640 hm
  refine rn ?_
  refine aops_e rfl (oe_box rfl rfl rfl fun b1 => ?_)
  refine q1 ?_
  refine aops_nil (thn_n ?_)
  refine aw_seq (aw_region ?_)
  refine q1 ?_
  refine q1 ?_
  refine qq rfl rfl (qr_as (qr_len_list rfl) (show iv _ = iv (lenW l : Nat) from congrArg iv (by rw [wrdsA_len, wordsL_len]))) ?_
  refine rn ?_
  refine aw_cond rfl (fun hc9 => ?_) (fun hc9 => ?_)
  · refine rn ?_
    refine rq 1 ?_
    exact ⟨rfl, rfl⟩
  · have h0 : 0 < lenW l := by have q := hc9; simp at q; omega
    have hw := words_last h0
    have hb := bl_le _ (wrd_lt l (lenW l - 1))
    refine aw_skip ?_
    refine thn_n ?_
    refine aw_seq (aw_region ?_)
    refine q1 ?_
    refine q1 ?_
    refine q1 ?_
    refine qq rfl rfl (qr_as (qr_ari rfl rfl rfl (by omega)) (show iv _ = iv ((lenW l - 1 : Nat) : Int) from congrArg iv (by omega))) ?_
    refine qq rfl rfl (qr_index_list (i := lenW l - 1) rfl rfl (wF_at (by omega))) ?_
    refine q1 ?_
    refine q1 ?_
    refine aops_nil (thn_n ?_)
    refine aw_seq ?_
    refine aw_seq (aw_region ?_)
    refine q1 ?_
    refine qq rfl rfl (qr_cmp (c := false) rfl rfl (congrArg some (by simp; omega))) ?_
    refine q1 ?_
    refine q1 ?_
    refine qq rfl rfl (qr_cmp (c := false) rfl rfl (congrArg some (by simp; omega))) ?_
    refine q1 ?_
    refine q1 ?_
    refine q1 ?_
    refine qq rfl rfl (qr_as (qr_ari rfl rfl rfl (by omega)) (show iv _ = iv ((lenW l - 1 : Nat) : Int) from congrArg iv (by omega))) ?_
    refine rn ?_
    refine qv rfl rfl (qv_call rfl rfl (pcall (len64 _ (wrd_lt l _)) (Sbs.refl _))) ?_
    refine q1 ?_
    refine qq rfl rfl (qr_cmp (c := false) rfl rfl (congrArg some (by simp; omega))) ?_
    refine rn ?_
    refine aw_cond rfl (fun hc30 => ?_) (fun hc30 => ?_)
    · first | cases hc30 | exact absurd hc30 (by decide) | (exfalso; simp_all; done)
    · refine rn ?_
      refine rq 1 ?_
      exact ⟨rfl, rfl⟩
theorem bOf0 (l : List Nat) (hm : ∀ x ∈ l, x < 640) : ACall Tryz.prog 58 [.agg [wordsA (wordsL l)]] [] (fun r h' => h' = [] ∧ r = wordsA (wordsL l)) := by
  refine acall_of_aw Tryz.func58 rfl rfl rfl ?_
  refine rn ?_
  refine aops_e rfl (oe_box rfl rfl rfl fun b1 => ?_)
  refine rn ?_
  refine qv rfl rfl (qv_call rfl rfl (pcall (bCheck l hm) (Sbs.refl _))) ?_
  refine rn ?_
  refine aw_cond rfl (fun hc5 => ?_) (fun hc5 => ?_)
  · exact absurd hc5 (by decide)
  · refine rn ?_
    refine rq 1 ?_
    exact ⟨rfl, rfl⟩
set_option maxHeartbeats 2000000 in
theorem bCount (l : List Nat) (hm : ∀ x ∈ l, x < 640) : ACall Tryz.prog 32 [.agg [wordsA (wordsL l)]] [] (fun r h' => h' = [] ∧ r = iv (cntW (wordsL l) : Nat)) := by
  refine acall_of_aw Tryz.func32 rfl rfl rfl ?_
  have hl := len_640 hm
  have hwl := wordsL_len l
  refine rn ?_
  refine aops_e rfl (oe_box rfl rfl rfl fun b1 => ?_)
  refine rn ?_
  refine qv rfl rfl (qv_call rfl rfl (pcall (bOf0 l hm) (Sbs.refl _))) ?_
  refine rn ?_
  refine aw_range (wordsL l).length (fun _ => True) (fun k => ⟨[(9, iv k), (3, iv (cntW ((wordsL l).take k) : Nat)), (7, wordsA (wordsL l)), (8, iv (wrdsA (wordsL l)).length)], [.box b1 38 [wordsA (wordsL l)]], []⟩) trivial es ?_
  intro k lk _
  refine rn ?_
  refine aw_cond rfl (fun hc10 => ?_) (fun hc10 => ?_)
  · have hk : k < (wordsL l).length := by have q := of_decide_eq_true hc10; rw [wrdsA_len] at q; omega
    have hlt := words_lt (List.getElem_mem hk)
    have hp := popW_0 _ hlt
    refine aw_skip ?_
    refine thn_n ?_
    refine aw_seq ?_
    refine aw_block ?_
    refine aw_seq (aw_region ?_)
    refine qq rfl rfl (qr_index_list rfl rfl (wrdsA_at hk)) ?_
    refine rn ?_
    refine qv rfl rfl (qv_call rfl rfl (pcall (onesCount _ hlt) (Sbs.refl _))) ?_
    refine qq rfl rfl (qr_as (qr_ari rfl rfl rfl (by have hc := cntW_le ((wordsL l).take k) (fun x hx => words_lt (List.mem_of_mem_take hx)); rw [List.length_take] at hc; omega)) (show iv _ = iv (cntW ((wordsL l).take (k + 1)) : Nat) from congrArg iv (by rw [cntW_s hk]; omega))) ?_
    refine rn ?_
    exact ⟨hk, trivial, eA⟩
  · have qk : k = (wordsL l).length := by have q := of_decide_eq_false hc10; rw [wrdsA_len] at q; omega
    refine rn ?_
    refine rq 1 ?_
    exact ⟨rfl, by rw [qk, List.take_length]; rfl⟩
set_option maxHeartbeats 2000000 in
theorem bOf {f : Bool} (l : List Nat) (hm : ∀ x ∈ l, x < 640) (hl : l.length ≤ 4611686018427387904) : ACall Tryz.prog 33 [.list f 1 (l.map natR)] [] (fun r h' => h' = [] ∧ r = .tup [.agg [wordsA (wordsL l)], iv 0]) := by
  refine acall_of_aw Tryz.func33 rfl rfl rfl ?_
  refine rn ?_
  refine aops_e rfl (oe_alloc rfl fun b2 => ?_)
  refine rn ?_
  refine aw_range l.length (fun _ => True) (fun k => ⟨[(9, iv k), (4, wordsA (wordsL (l.take k))), (2, .v (.pointer (some ⟨b2, 0, none⟩))), (7, .list f 1 (l.map natR)), (8, iv (l.map natR).length)], [.box b2 38 [.v (.slice none 0 0)]], []⟩) trivial (ent_sb (by repeat (first | exact .nil | refine .cons _ _ _ _ rfl (.refl _) ?_ | refine .cons _ _ _ _ rfl (Sb.nil _ _) ?_))) ?_
  intro k lk _
  refine rn ?_
  refine aw_cond rfl (fun hc10 => ?_) (fun hc10 => ?_)
  · have hk := ltMap hc10
    have rk := atRow (f := natR) hk
    have hlk := hm l[k] (List.getElem_mem hk)
    have hln := len_640 (l := l.take k) (fun x hx => hm x (List.mem_of_mem_take hx))
    refine rn ?_
    refine qv rfl rfl (qv_call rfl rfl (pcall (bMay _) (Sbs.refl _))) ?_
    refine rn ?_
    refine aw_cond rfl (fun hc15 => ?_) (fun hc15 => ?_)
    · exfalso
      have q := hc15
      simp at q
      omega
    · refine rn ?_
      refine qv rfl rfl (qv_call rfl rfl (pcall (bTurned (f := false) (l.take k) l[k] (by omega) (by omega)) (Sbs.refl _))) ?_
      refine rn ?_
      exact ⟨hk, trivial, by rw [List.take_succ_eq_append_getElem hk]; exact eA⟩
  · have qk := geMap hc10 lk
    refine aw_exit ?_
    refine rn0 ?_
    refine aw_seq ?_
    rw [qk, List.take_length]
    refine rn ?_
    refine qv rfl rfl (qv_call rfl rfl (pcall (bMade (f := false) l (by have := len_640 hm; omega)) (Sbs.refl _))) ?_
    refine rn ?_
    exact retq (.cons _ _ _ _ (.agg _ _ _ _ _ _ _ rfl inferInstance inferInstance inferInstance rfl) (.cons _ _ _ _ (.tmp _ _ rfl) .nil)) (.drop [_] _ _) ⟨rfl, rfl⟩
end Go.Proofs
/- The walks of scc's Round, Cyclic. Conditions: none. -/
set_option linter.unusedVariables false
set_option linter.unusedSimpArgs false
set_option maxRecDepth 10000
namespace Go.Proofs
open Go Go.Ab
attribute [local irreducible] QR QV OE aops aw dsoup dsoupM dalloc dallocM thn inBlk jsoup jch lsoup
open Go.H
noncomputable def rndO (g : Gr) : List Nat := if chkB g = true then rndG g else []
theorem rndO_y {g : Gr} (h : chkE g = 0) : rndO g = rndG g := by rw [rndO, if_pos (chkB_iff.2 (chkE_0.1 h))]
theorem rndO_n {g : Gr} (h : chkE g ≠ 0) : rndO g = [] := by rw [rndO, if_neg (fun q => h (chkE_0.2 (chkB_iff.1 q)))]
theorem rndO_lt (g : Gr) : ∀ x ∈ rndO g, x < 640 := by
  intro x hx
  unfold rndO at hx
  split at hx
  · rename_i h
    have hn := (chkB_iff.1 h).n1
    have := List.mem_range.1 (List.mem_filter.1 hx).1
    unfold nG at this; omega
  · cases hx
theorem grp_rows (g : Gr) : (((setsG g).map rowI).filter (notP fun x => decide (x.length = 1))).flatten.map intR = (grpG g).map natR := by
  rw [natR_I, grpG]
  congr 1
  generalize setsG g = L
  induction L with
  | nil => rfl
  | cons C L ih =>
    rw [List.map_cons, List.filter_cons, List.filter_cons]
    have e : notP (fun x : List Int => decide (x.length = 1)) (rowI C) = (C.length != 1) := by
      show (!decide ((rowI C).length = 1)) = (C.length != 1)
      have h : (rowI C).length = C.length := by unfold rowI; rw [List.length_map]
      rw [h, Bool.eq_iff_iff]; simp
    rw [e]
    split
    · rw [List.flatten_cons, List.flatten_cons, ih]; simp [rowI]
    · exact ih
theorem lis_flat {L : List (List Int)} {p : List Int → Bool} : (L.filter p).flatten.length ≤ L.flatten.length := by
  induction L with
  | nil => exact Nat.le_refl _
  | cons a r ih =>
    rw [List.filter_cons]
    split
    · simp only [List.flatten_cons, List.length_append]; omega
    · simp only [List.flatten_cons, List.length_append]; omega
theorem rowI_flat (L : List (List Nat)) : (L.map rowI).flatten.length = L.flatten.length := by
  induction L with
  | nil => rfl
  | cons a r ih => rw [List.map_cons, List.flatten_cons, List.flatten_cons, List.length_append, List.length_append, ih]; unfold rowI; rw [List.length_map]
theorem scRound1 (l : List Int) : ACall Tryz.prog 36 [intsA l] [] (fun r h' => h' = [] ∧ r = bv (decide (l.length = 1))) := by
  refine acall_of_aw Tryz.func36 rfl rfl rfl ?_
  refine rn ?_
  refine rq 0 ?_
  exact ⟨rfl, congrArg bv (by rw [List.length_map, Bool.eq_iff_iff]; simp; try omega)⟩
set_option maxHeartbeats 4000000 in
theorem scRound (g : Gr) (hb : g.es.length ≤ 4611686018427387904) : ACall Tryz.prog 10 [.agg (grR g)] [] (fun r h' => h' = [] ∧ r = .tup [.agg [wordsA (wordsL (rndO g))], iv (chkE g)]) := by
  refine acall_of_aw Tryz.func10 rfl rfl rfl ?_
  refine rn ?_
  refine aops_e rfl (oe_box rfl rfl rfl fun b1 => ?_)
  refine aops_e rfl (oe_alloc rfl fun b2 => ?_)
  refine rn ?_
  refine aops_e rfl (oe_call rfl rfl (FCall.fr (FCall.of_fun (scSets g hb)) (.refl _)) rfl ?_)
  rintro _ _ ⟨_, rfl, s, rfl, rfl⟩
  simp only [List.cons_append, List.nil_append]
  refine rn ?_
  refine aw_cond rfl (fun hc12 => ?_) (fun hc12 => ?_)
  · have he : chkE g ≠ 0 := nzT hc12
    refine rn ?_
    exact retq (.cons _ _ _ _ (.agg _ _ _ _ _ _ _ rfl inferInstance inferInstance inferInstance rfl) (.cons _ _ _ _ (.tmp _ _ rfl) .nil)) (.trans (.drop [_, _, _] _ _) (.trans (vent_nilrow 1 38 _) (vent_freeze_ag [] [] [_]))) ⟨rfl, by rw [rndO_n he]; rfl⟩
  · have he : chkE g = 0 := nzF hc12
    have hok := chkE_0.1 he
    have hn1 := hok.n1
    have hng : nG g ≤ 300 := by unfold nG; omega
    have hsl := sets_le g
    have hfl : ((setsG g).map rowI).flatten.length ≤ 300 := by rw [rowI_flat]; have h1 : (setsG g).flatten.length = nG g := sets_many _ _; omega
    have hf2 := lis_flat (L := ((setsG g).map rowI)) (p := notP (fun x => decide (x.length = 1)))
    have hf3 := List.length_filter_le (notP (fun x => decide (x.length = 1))) ((setsG g).map rowI)
    rw [List.length_map] at hf3
    have hgm := grp_len g
    rw [setsO_y he]
    refine rn ?_
    refine aops_e rfl (oe_call rfl rfl (FCall.fr (FCall.of_fun (deleteLis ((setsG g).map rowI) s (.fn (.func 36) [] []) (fun x => decide (x.length = 1)) (fun x => FCall.of_fun (scRound1 x)) (by rw [List.length_map]; omega))) (.refl _)) rfl ?_)
    rintro _ _ ⟨_, rfl, s2, rfl, rfl⟩
    simp only [List.cons_append, List.nil_append]
    refine aops_ent (s' := ⟨[(16, .list false 1 ((((setsG g).map rowI).filter (notP (fun x => decide (x.length = 1)))).map lisR)), (2, .v (.pointer (some ⟨b2, 0, none⟩)))], .box b2 38 [.v (.slice none 0 0)] :: .box b1 24 (grR g) :: [], []⟩) (by exact ent_freeze (by repeat (first | exact .nil | refine .row _ _ rfl ?_ | refine .cons _ _ _ rfl ?_))) ?_
    refine aops_e rfl (oe_call rfl rfl (FCall.fr (FCall.of_fun (concatInt (((setsG g).map rowI).filter (notP (fun x => decide (x.length = 1)))) (by omega) (by omega))) (.refl _)) rfl ?_)
    rintro _ _ ⟨_, rfl, s3, rfl, rfl⟩
    simp only [List.cons_append, List.nil_append]
    rw [grp_rows]
    refine aops_ent (s' := ⟨[(17, .list false 1 ((grpG g).map natR)), (2, .v (.pointer (some ⟨b2, 0, none⟩)))], .box b2 38 [.v (.slice none 0 0)] :: .box b1 24 (grR g) :: [], []⟩) (by exact ent_freeze (by repeat (first | exact .nil | refine .row _ _ rfl ?_ | refine .cons _ _ _ rfl ?_))) ?_
    refine qv rfl rfl (qv_call rfl rfl (pcall (bOf (grpG g) (fun x hx => by have := grp_lt hx; omega) (by omega)) (Sbs.refl _))) ?_
    refine rn ?_
    exact retq (.cons _ _ _ _ (.agg _ _ _ _ _ _ _ rfl inferInstance inferInstance inferInstance rfl) (.cons _ _ _ _ (.tmp _ _ rfl) .nil)) (.drop [_, _] _ _) ⟨rfl, by rw [grp_words hok, rndO_y he, he]; rfl⟩
theorem scCyclic (g : Gr) (hb : g.es.length ≤ 4611686018427387904) : ACall Tryz.prog 9 [.agg (grR g)] [] (fun r h' => h' = [] ∧ r = .tup [bv (decide (0 < cntW (wordsL (rndO g)))), iv (chkE g)]) := by
  refine acall_of_aw Tryz.func9 rfl rfl rfl ?_
  refine rn ?_
  refine aops_e rfl (oe_box rfl rfl rfl fun b1 => ?_)
  refine rn ?_
  refine qv rfl rfl (qv_call rfl rfl (pcall (scRound g hb) (Sbs.refl _))) ?_
  refine rn ?_
  refine aops_e rfl (oe_alloc rfl fun b4 => ?_)
  refine rn ?_
  refine qv rfl rfl (qv_call rfl rfl (pcall (bCount (rndO g) (rndO_lt g)) (Sbs.refl _))) ?_
  refine rn ?_
  exact retq (.cons _ _ _ _ (.tmp _ _ rfl) (.cons _ _ _ _ (.tmp _ _ rfl) .nil)) (.drop [_, _] _ _) ⟨rfl, by rw [show decide ((cntW (wordsL (rndO g)) : Int) > 0) = decide (0 < cntW (wordsL (rndO g))) by rw [Bool.eq_iff_iff]; simp; try omega]; rfl⟩
end Go.Proofs
/- The walks of the reference 05's Ahead, RightEdge, Right. Conditions: none. -/
set_option linter.unusedVariables false
set_option linter.unusedSimpArgs false
set_option maxRecDepth 10000
namespace Go.Proofs
open Go Go.Ab
attribute [local irreducible] QR QV OE aops aw dsoup dsoupM dalloc dallocM thn inBlk jsoup jch lsoup
open Go.H
theorem ahead_cmp (a b : Ed) : aheadE a b = decide (cmpE a b < 0) := by
  rw [Bool.eq_iff_iff, decide_eq_true_iff]; exact aheadE_iff
theorem step_ah {n : Int} {l : List Ed} {i : Nat} (h : i < l.length) (h0 : 0 < i) : stepB n l i = (edgeB n l[i] && aheadE (l[i - 1]'(by omega)) l[i]) := by
  rw [step_at h, ahead_cmp]
  rw [show decide (i = 0) = false from decide_eq_false (by omega), Bool.false_or]
theorem step_z {n : Int} {l : List Ed} (h : 0 < l.length) : stepB n l 0 = edgeB n l[0] := step_0 h
def sameG (a b : Gr) : Bool := decide (a.n = b.n) && decide (a.es = b.es)
theorem sameG_iff {a b : Gr} : sameG a b = true ↔ a = b := by
  unfold sameG
  rw [Bool.and_eq_true, decide_eq_true_iff, decide_eq_true_iff]
  constructor
  · rintro ⟨h1, h2⟩
    cases a; cases b
    simp only at h1 h2
    rw [h1, h2]
  · rintro rfl; exact ⟨rfl, rfl⟩
theorem sameG_self (a : Gr) : sameG a a = true := sameG_iff.2 rfl
set_option maxHeartbeats 1000000 in
theorem refAhead (a b : Ed) : ACall Tryz.prog 38 [.agg (edR a), .agg (edR b)] [] (fun r h' => h' = [] ∧ r = bv (aheadE a b)) := by
  refine acall_of_aw Tryz.func38 rfl rfl rfl ?_
  refine rn ?_
  refine aops_e rfl (oe_box rfl rfl rfl fun b2 => ?_)
  refine aops_e rfl (oe_box rfl rfl rfl fun b3 => ?_)
  refine rn ?_
  refine aw_cond rfl (fun hc9 => ?_) (fun hc9 => ?_)
  · refine rn ?_
    refine rq 2 ?_
    exact ⟨rfl, congrArg bv (by unfold aheadE; first | (simp_all; done) | (simp_all; omega) | (split <;> simp_all <;> omega))⟩
  · refine rn ?_
    refine aw_cond rfl (fun hc19 => ?_) (fun hc19 => ?_)
    · refine rn ?_
      refine rq 2 ?_
      exact ⟨rfl, congrArg bv (by unfold aheadE; first | (simp_all; done) | (simp_all; omega) | (split <;> simp_all <;> omega))⟩
    · refine rn ?_
      refine rq 2 ?_
      exact ⟨rfl, congrArg bv (by unfold aheadE; first | (simp_all; done) | (simp_all; omega) | (split <;> simp_all <;> omega))⟩
set_option maxHeartbeats 4000000 in
theorem refEdge (n : Int) (e : Ed) : ACall Tryz.prog 37 [iv n, .agg (edR e)] [] (fun r h' => h' = [] ∧ r = bv (edgeB n e)) := by
  refine acall_of_aw Tryz.func37 rfl rfl rfl ?_
  refine rn ?_
  refine aops_e rfl (oe_box rfl rfl rfl fun b3 => ?_)
  refine rn ?_
  refine asplit (fun hg1_3 => ?_) (fun hg1_3 => ?_)
  · refine rn ?_
    refine asplit (fun hg1_9 => ?_) (fun hg1_9 => ?_)
    · refine rn ?_
      refine asplit (fun hg1_14 => ?_) (fun hg1_14 => ?_)
      · refine rn ?_
        refine asplit (fun hg1_20 => ?_) (fun hg1_20 => ?_)
        · refine rn ?_
          refine asplit (fun hg1_27 => ?_) (fun hg1_27 => ?_)
          · refine rn ?_
            refine asplit (fun hg1_32 => ?_) (fun hg1_32 => ?_)
            · refine rn ?_
              refine rq 1 ?_
              exact ⟨rfl, congrArg bv (by unfold edgeB; first | (simp_all; done) | (simp_all <;> omega))⟩
            · refine rn ?_
              refine rq 1 ?_
              exact ⟨rfl, congrArg bv (by unfold edgeB; first | (simp_all; done) | (simp_all <;> omega))⟩
          · refine rn ?_
            refine rq 1 ?_
            exact ⟨rfl, congrArg bv (by unfold edgeB; first | (simp_all; done) | (simp_all <;> omega))⟩
        · refine rn ?_
          refine rq 1 ?_
          exact ⟨rfl, congrArg bv (by unfold edgeB; first | (simp_all; done) | (simp_all <;> omega))⟩
      · refine rn ?_
        refine rq 1 ?_
        exact ⟨rfl, congrArg bv (by unfold edgeB; first | (simp_all; done) | (simp_all <;> omega))⟩
    · refine rn ?_
      refine rq 1 ?_
      exact ⟨rfl, congrArg bv (by unfold edgeB; first | (simp_all; done) | (simp_all <;> omega))⟩
  · refine rn ?_
    refine rq 1 ?_
    exact ⟨rfl, congrArg bv (by unfold edgeB; first | (simp_all; done) | (simp_all <;> omega))⟩
set_option maxHeartbeats 4000000 in
theorem refRight (g : Gr) (hb : g.es.length ≤ 4611686018427387904) : ACall Tryz.prog 11 [.agg (grR g)] [] (fun r h' => h' = [] ∧ r = bv (chkB g)) := by
  refine acall_of_aw Tryz.func11 rfl rfl rfl ?_
  refine rn ?_
  refine aops_e rfl (oe_box rfl rfl rfl fun b1 => ?_)
  refine rn ?_
  refine aw_range g.es.length (fun k => (List.range k).all (stepB g.n g.es) = true) (fun k => ⟨[(8, iv k), (1, .v (.pointer (some ⟨b1, 0, none⟩))), (6, edsA g.es), (7, iv (g.es.map edR).length)], .box b1 24 (grR g) :: [], []⟩) rfl es ?_
  intro k lk zk
  refine rn ?_
  refine aw_cond rfl (fun hc9 => ?_) (fun hc9 => ?_)
  · have hk : k < g.es.length := by have q := of_decide_eq_true hc9; rw [List.length_map] at q; omega
    refine aw_skip ?_
    refine thn_n ?_
    refine aw_seq ?_
    refine aw_block ?_
    refine aw_seq (aw_region ?_)
    refine q1 ?_
    refine qq rfl rfl (qr_index_list (i := k) rfl rfl (edR_at hk)) ?_
    refine rn ?_
    refine aops_e rfl (oe_alloc rfl fun b4 => ?_)
    refine rn ?_
    refine aw_draw 16 rfl ?_
    refine rn ?_
    refine dv rfl rfl (by exact qv_call rfl rfl (FCall.pure (R := fun x => x = bv (edgeB g.n g.es[k])) (FCall.of_fun (refEdge g.n g.es[k])))) ?_
    refine rn ?_
    refine dsplit (fun hg4_5 => ?_) (fun hg4_5 => ?_)
    · refine rn ?_
      refine aw_ct rfl ?_
      have hst : stepB g.n g.es k = false := by rcases Nat.eq_zero_or_pos k with h0 | h0; (subst h0; rw [step_z hk]; simp_all); (rw [step_ah hk h0]; simp_all)
      refine rn ?_
      refine rq 2 ?_
      exact ⟨rfl, congrArg bv (by unfold chkB; rw [all_rf hk hst]; simp)⟩
    · refine rn ?_
      refine dsplit (fun hg4_8 => ?_) (fun hg4_8 => ?_)
      · refine dq rfl rfl qrA ?_
        refine dq rfl rfl qrA ?_
        refine dq rfl rfl qrA ?_
        refine dq rfl rfl (qr_as (qr_ari rfl rfl rfl (by omega)) (show iv _ = iv ((k - 1 : Nat) : Int) from congrArg iv (by have q := hg4_8; simp at q; omega))) ?_
        refine dq rfl rfl (qr_index_list (i := k - 1) rfl rfl (edR_at (show k - 1 < g.es.length by omega))) ?_
        refine rn ?_
        refine qv rfl rfl (qv_call rfl rfl (FCall.pure (R := fun x => x = bv (aheadE (g.es[k - 1]'(by omega)) g.es[k])) (FCall.of_fun (refAhead _ _)))) ?_
        refine rn ?_
        refine aw_cond rfl (fun hc32 => ?_) (fun hc32 => ?_)
        · have hst : stepB g.n g.es k = false := by rcases Nat.eq_zero_or_pos k with h0 | h0; (subst h0; rw [step_z hk]; simp_all); (rw [step_ah hk h0]; simp_all)
          refine rn ?_
          refine rq 2 ?_
          exact ⟨rfl, congrArg bv (by unfold chkB; rw [all_rf hk hst]; simp)⟩
        · have hst : stepB g.n g.es k = true := by rcases Nat.eq_zero_or_pos k with h0 | h0; (subst h0; rw [step_z hk]; simp_all); (rw [step_ah hk h0]; simp_all)
          refine rn ?_
          exact ⟨hk, all_rs zk hst, eA⟩
      · refine rn ?_
        refine aw_cf rfl ?_
        have hst : stepB g.n g.es k = true := by rcases Nat.eq_zero_or_pos k with h0 | h0; (subst h0; rw [step_z hk]; simp_all); (rw [step_ah hk h0]; simp_all)
        refine rn ?_
        exact ⟨hk, all_rs zk hst, eA⟩
  · have qk : k = g.es.length := by have q := of_decide_eq_false hc9; rw [List.length_map] at q; omega
    refine rn ?_
    refine asplit (fun hg7_3 => ?_) (fun hg7_3 => ?_)
    · refine rn ?_
      refine asplit (fun hg7_8 => ?_) (fun hg7_8 => ?_)
      · refine rn ?_
        refine rq 1 ?_
        exact ⟨rfl, congrArg bv (by unfold chkB; rw [← qk, zk]; first | (simp_all; done) | (simp_all <;> omega))⟩
      · refine rn ?_
        refine rq 1 ?_
        exact ⟨rfl, congrArg bv (by unfold chkB; rw [← qk, zk]; first | (simp_all; done) | (simp_all <;> omega))⟩
    · refine rn ?_
      refine rq 1 ?_
      exact ⟨rfl, congrArg bv (by unfold chkB; rw [← qk, zk]; first | (simp_all; done) | (simp_all <;> omega))⟩
end Go.Proofs
/- The walks of the reference 05's SameEdges, Same, With, Of, Out. Conditions: none. -/
set_option linter.unusedVariables false
set_option linter.unusedSimpArgs false
set_option maxRecDepth 10000
namespace Go.Proofs
open Go Go.Ab
attribute [local irreducible] QR QV OE aops aw dsoup dsoupM dalloc dallocM thn inBlk jsoup jch lsoup
open Go.H
theorem neq_t {a b : Ed} (h : (!(([a.f, a.t, a.k] : List Int) == [b.f, b.t, b.k])) = true) : a ≠ b := by
  have h2 : (!edEq a b) = true := h
  rw [edEq_eq] at h2
  simpa using h2
theorem neq_f {a b : Ed} (h : (!(([a.f, a.t, a.k] : List Int) == [b.f, b.t, b.k])) = false) : a = b := by
  have h2 : (!edEq a b) = false := h
  rw [edEq_eq] at h2
  simpa using h2
def outG (g : Gr) (v : Int) : List Ed := g.es.filter fun e => decide (e.f = v)
set_option maxHeartbeats 1000000 in
theorem refSameEds (l m : List Ed) (hl : l.length ≤ 4611686018427387904) (hm : m.length ≤ 4611686018427387904) : ACall Tryz.prog 42 [edsA l, edsA m] [] (fun r h' => h' = [] ∧ r = bv (decide (l = m))) := by
  refine acall_of_aw Tryz.func42 rfl rfl rfl ?_
  refine rn ?_
  refine aw_cond rfl (fun hc10 => ?_) (fun hc10 => ?_)
  · have hne : l.length ≠ m.length := by have q := hc10; rw [List.length_map, List.length_map] at q; simp at q; omega
    refine rn ?_
    refine rq 0 ?_
    exact ⟨rfl, congrArg bv (decide_eq_false (fun q => hne (by rw [q]))).symm⟩
  · have hle : l.length = m.length := by have q := hc10; rw [List.length_map, List.length_map] at q; simp at q; omega
    refine rn ?_
    refine aw_range l.length (fun k => ∀ i, (hi : i < k) → (hl : i < l.length) → l[i] = m[i]'(by omega)) (fun k => ⟨[(13, iv k), (0, edsA l), (1, edsA m), (12, iv (l.map edR).length)], [], []⟩) (fun i hi _ => absurd hi (Nat.not_lt_zero _)) es ?_
    intro k lk zk
    refine rn ?_
    refine aw_cond rfl (fun hc14 => ?_) (fun hc14 => ?_)
    · have hk : k < l.length := by have q := of_decide_eq_true hc14; rw [List.length_map] at q; omega
      refine rn ?_
      refine aw_draw 8 rfl ?_
      refine dq rfl rfl qrA ?_
      refine dq rfl rfl qrA ?_
      refine dq rfl rfl (qr_index_list (i := k) rfl rfl (edR_at hk)) ?_
      refine dq rfl rfl qrA ?_
      refine dq rfl rfl qrA ?_
      refine dq rfl rfl qrA ?_
      refine dq rfl rfl (qr_index_list (i := k) rfl rfl (edR_at (show k < m.length by omega))) ?_
      refine rn ?_
      refine aw_cond rfl (fun hc24 => ?_) (fun hc24 => ?_)
      · have hx : l[k] ≠ m[k]'(by omega) := neq_t hc24
        refine rn ?_
        refine rq 0 ?_
        exact ⟨rfl, congrArg bv (decide_eq_false (fun q => hx (by subst q; rfl))).symm⟩
      · have hx : l[k] = m[k]'(by omega) := neq_f hc24
        refine rn ?_
        exact ⟨hk, fun i hi hl => (Nat.lt_succ_iff_lt_or_eq.1 hi).elim (fun q => zk i q hl) (fun q => by subst q; exact hx), eA⟩
    · have qk : k = l.length := by have q := of_decide_eq_false hc14; rw [List.length_map] at q; omega
      refine rn ?_
      refine rq 0 ?_
      exact ⟨rfl, congrArg bv (decide_eq_true (List.ext_getElem hle fun i h1 h2 => zk i (by omega) h1)).symm⟩
theorem refSameG (a b : Gr) (ha : a.es.length ≤ 4611686018427387904) (hb : b.es.length ≤ 4611686018427387904) : ACall Tryz.prog 19 [.agg (grR a), .agg (grR b)] [] (fun r h' => h' = [] ∧ r = bv (sameG a b)) := by
  refine acall_of_aw Tryz.func19 rfl rfl rfl ?_
  refine rn ?_
  refine aops_e rfl (oe_box rfl rfl rfl fun b2 => ?_)
  refine aops_e rfl (oe_box rfl rfl rfl fun b3 => ?_)
  refine rn ?_
  refine asplit (fun hg1_5 => ?_) (fun hg1_5 => ?_)
  · refine rn ?_
    refine qv rfl rfl (qv_call rfl rfl (FCall.pure (R := fun x => x = bv (decide (a.es = b.es))) (FCall.of_fun (refSameEds a.es b.es ha hb)))) ?_
    refine rn ?_
    refine rq 2 ?_
    exact ⟨rfl, congrArg bv (by unfold sameG; first | (simp_all; done) | (simp_all <;> omega))⟩
  · refine rn ?_
    refine rq 2 ?_
    exact ⟨rfl, congrArg bv (by unfold sameG; first | (simp_all; done) | (simp_all <;> omega))⟩
set_option maxHeartbeats 1000000 in
theorem refOut (g : Gr) (v : Int) (hl : g.es.length ≤ 1000000000) : ACall Tryz.prog 99 [.agg (grR g), iv v] [] (fun r h' => h' = [] ∧ r = edsA (outG g v)) := by
  refine acall_of_aw Tryz.func99 rfl rfl rfl ?_
  refine rn ?_
  refine aops_e rfl (oe_box rfl rfl rfl fun b2 => ?_)
  refine rn ?_
  refine aw_rng1 g.es.length (fun k s => ⟨[(11, iv k), (5, .v s.v), (1, iv v), (9, edsA g.es), (10, iv (g.es.map edR).length)], .row s.v 3 53 (((g.es.take k).filter fun e => decide (e.f = v)).map edR) :: .box b2 24 (grR g) :: [], []⟩) ⟨none, 0, 0⟩ (ent_trans (ent_nilrow 3 53) es) ?_
  intro k s lk
  refine rn ?_
  refine aw_cond rfl (fun hc12 => ?_) (fun hc12 => ?_)
  · have hk : k < g.es.length := by have q := of_decide_eq_true hc12; rw [List.length_map] at q; omega
    refine aw_skip ?_
    refine thn_n ?_
    refine aw_seq ?_
    refine aw_block ?_
    refine aw_seq (aw_region ?_)
    refine qq rfl rfl (qr_index_list (i := k) rfl rfl (edR_at hk)) ?_
    refine rn ?_
    refine aops_e rfl (oe_alloc rfl fun b7 => ?_)
    refine rn ?_
    refine aw_cond rfl (fun hc18 => ?_) (fun hc18 => ?_)
    · have hx : decide (g.es[k].f = v) = true := by simpa using hc18
      have hfl : ((g.es.take k).filter fun e => decide (e.f = v)).length ≤ k := Nat.le_trans (List.length_filter_le _ _) (by rw [List.length_take]; exact Nat.min_le_left _ _)
      refine rn ?_
      refine qv rfl rfl (qv_buildSlice rfl rfl) ?_
      refine aops_e rfl (oe_append_row rfl rfl (by simp only [List.length_map, List.length_append, List.length_cons, List.length_nil]; omega) rfl (fun s27 => ?_) (fun r hr => by rw [List.mem_singleton.1 hr]; rfl))
      refine aops_slice s27 fun sv hsv => ?_
      subst hsv
      refine rn ?_
      first | exact ⟨hk, sv, by rw [fk_y (p := fun e => decide (e.f = v)) hk hx, List.map_append]; exact eA⟩ | exact ⟨hk, s, by rw [fk_n (p := fun e => decide (e.f = v)) hk hx]; exact eA⟩
    · have hx : decide (g.es[k].f = v) = false := by simpa using hc18
      refine rn ?_
      first | exact ⟨hk, sv, by rw [fk_y (p := fun e => decide (e.f = v)) hk hx, List.map_append]; exact eA⟩ | exact ⟨hk, s, by rw [fk_n (p := fun e => decide (e.f = v)) hk hx]; exact eA⟩
  · have qk : k = g.es.length := by have q := of_decide_eq_false hc12; rw [List.length_map] at q; omega
    refine rn ?_
    exact retq (.cons _ _ _ _ (.tmp _ _ rfl) .nil) (.trans vent_freeze (.drop [_] _ _)) ⟨rfl, by rw [qk, List.take_length]; rfl⟩
end Go.Proofs
