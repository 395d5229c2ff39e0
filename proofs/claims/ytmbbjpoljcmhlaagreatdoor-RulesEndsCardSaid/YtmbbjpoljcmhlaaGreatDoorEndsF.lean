/- A history read as data. Conditions: none. -/
import Derived.Test.YtmbbjpoljcmhlaaGreatDoorEndsE
import Derived.Test.YtmbbjpoljcmhlaaGreatDoorTie
import Derived.OpenShut
import Derived.Lib.LaidTab
import Derived.Lib.LaidU8
import Derived.ProofKit
import Derived.LaidMore
import Derived.LaidSub
import Derived.LaidHandle
import Derived.Lay
import Derived.SevenTiedAt
import Derived.Stop.Joined
set_option linter.unusedSimpArgs false
set_option linter.unusedVariables false
set_option linter.unusedVariables false
set_option maxRecDepth 100000
namespace Go.Proofs
open Go Go.Ab Go.H
section
variable {K : Type} {enc : TypeId × Value → K} {w : World}
theorem rInt : Reads enc Tryz.prog w 3 (fun n : Int => [iv n]) (fun _ => True) := .int Tryz.underlying3
theorem rBool : Reads enc Tryz.prog w 4 (fun b : Bool => [bv b]) (fun _ => True) := .bool Tryz.underlying4
theorem rStr : Reads enc Tryz.prog w 9 strR (fun _ => True) := .string Tryz.underlying9
theorem rVer : Reads enc Tryz.prog w 60 verR (fun _ => True) :=
  .map (fun x : Int × Int × Unit => ⟨x.1, x.2.1⟩) (.struct Tryz.underlying60 rfl (tot := 2) (by kernel_rfl) (.cons rInt (s := 1) (by kernel_rfl) (.cons rInt (s := 1) (by kernel_rfl) (.nil 2)))) (fun _ => rfl) (fun _ _ => trivial)
theorem rdSeen : Reads enc Tryz.prog w 81 seenR (fun _ => True) :=
  .map (fun x : Int × Ver × Unit => ⟨x.1, x.2.1⟩) (.struct Tryz.underlying81 rfl (tot := 3) (by kernel_rfl) (.cons rInt (s := 1) (by kernel_rfl) (.cons rVer (s := 2) (by kernel_rfl) (.nil 3)))) (fun _ => rfl) (fun _ _ => trivial)
theorem big_of {n : Nat} (h : n ≤ reachBytes) : n ≤ 4611686018427387904 := Nat.le_trans h (by decide)
theorem rSeens : Reads enc Tryz.prog w 73 (fun l : List Seen => [seensA l]) (fun l => l.length ≤ 4611686018427387904) :=
  .map (fun l : List Seen => l) (.slice Tryz.underlying73 rdSeen (k := 3) (by kernel_rfl) (by decide) (by rw [show Tryz.prog.bytesOf 81 = 24 by kernel_rfl]; decide)) (fun _ => rfl) (fun _ h => big_of h.1)
theorem rInts : Reads enc Tryz.prog w 40 (fun l : List Int => [intsA l]) (fun l => l.length ≤ 4611686018427387904) :=
  .map (fun l : List Int => l) (.slice Tryz.underlying40 rInt (k := 1) (by kernel_rfl) (by decide) (by rw [show Tryz.prog.bytesOf 3 = 8 by kernel_rfl]; decide)) (fun _ => rfl) (fun _ h => big_of h.1)
theorem rStrs : Reads enc Tryz.prog w 22 (fun l : List ByteArray => [strsA l]) (fun l => l.length ≤ 4611686018427387904) :=
  .map (fun l : List ByteArray => l) (.slice Tryz.underlying22 rStr (k := 1) (by kernel_rfl) (by decide) (by rw [show Tryz.prog.bytesOf 9 = 16 by kernel_rfl]; decide)) (fun _ => rfl) (fun _ h => big_of h.1)
theorem rEv : Reads enc Tryz.prog w 77 evR (fun e => e.scan.length ≤ 4611686018427387904) :=
  .map (fun x : Int × Int × Int × Int × Int × Ver × Int × List Seen × Unit => ⟨x.1, x.2.1, x.2.2.1, x.2.2.2.1, x.2.2.2.2.1, x.2.2.2.2.2.1, x.2.2.2.2.2.2.1, x.2.2.2.2.2.2.2.1⟩)
    (.struct Tryz.underlying77 rfl (tot := 9) (by kernel_rfl) (.cons rInt (s := 1) (by kernel_rfl) (.cons rInt (s := 1) (by kernel_rfl) (.cons rInt (s := 1) (by kernel_rfl) (.cons rInt (s := 1) (by kernel_rfl) (.cons rInt (s := 1) (by kernel_rfl)
      (.cons rVer (s := 2) (by kernel_rfl) (.cons rInt (s := 1) (by kernel_rfl) (.cons rSeens (s := 1) (by kernel_rfl) (.nil 9)))))))))) (fun _ => rfl) (fun _ h => h.2.2.2.2.2.2.2.1)
theorem rOrd : Reads enc Tryz.prog w 98 ordR (fun e => e.ts.length ≤ 4611686018427387904) :=
  .map (fun x : Int × List Int × Unit => ⟨x.1, x.2.1⟩) (.struct Tryz.underlying98 rfl (tot := 2) (by kernel_rfl) (.cons rInt (s := 1) (by kernel_rfl) (.cons rInts (s := 1) (by kernel_rfl) (.nil 2)))) (fun _ => rfl) (fun _ h => h.2.1)
theorem rMat : Reads enc Tryz.prog w 91 matR (fun e => e.ts.length ≤ 4611686018427387904) :=
  .map (fun x : Int × Int × Bool × List Int × Unit => ⟨x.1, x.2.1, x.2.2.1, x.2.2.2.1⟩) (.struct Tryz.underlying91 rfl (tot := 4) (by kernel_rfl) (.cons rInt (s := 1) (by kernel_rfl) (.cons rInt (s := 1) (by kernel_rfl) (.cons rBool (s := 1) (by kernel_rfl) (.cons rInts (s := 1) (by kernel_rfl) (.nil 4)))))) (fun _ => rfl) (fun _ h => h.2.2.2.1)
theorem rWan : Reads enc Tryz.prog w 102 wanR (fun _ => True) :=
  .map (fun x : Int × Int × Unit => ⟨x.1, x.2.1⟩) (.struct Tryz.underlying102 rfl (tot := 2) (by kernel_rfl) (.cons rInt (s := 1) (by kernel_rfl) (.cons rInt (s := 1) (by kernel_rfl) (.nil 2)))) (fun _ => rfl) (fun _ _ => trivial)
theorem rEvs : Reads enc Tryz.prog w 23 (fun l : List Ev => [evsA l]) (fun l => l.length ≤ 4611686018427387904 ∧ ∀ e ∈ l, e.scan.length ≤ 4611686018427387904) :=
  .map (fun l : List Ev => l) (.slice Tryz.underlying23 rEv (k := 9) (by kernel_rfl) (by decide) (by rw [show Tryz.prog.bytesOf 77 = 88 by kernel_rfl]; decide)) (fun _ => rfl) (fun _ h => ⟨big_of h.1, h.2⟩)
theorem rOrds : Reads enc Tryz.prog w 24 (fun l : List H.Ord => [ordsA l]) (fun l => l.length ≤ 4611686018427387904 ∧ ∀ e ∈ l, e.ts.length ≤ 4611686018427387904) :=
  .map (fun l : List H.Ord => l) (.slice Tryz.underlying24 rOrd (k := 2) (by kernel_rfl) (by decide) (by rw [show Tryz.prog.bytesOf 98 = 32 by kernel_rfl]; decide)) (fun _ => rfl) (fun _ h => ⟨big_of h.1, h.2⟩)
theorem rMats : Reads enc Tryz.prog w 25 (fun l : List Mat => [matsA l]) (fun l => l.length ≤ 4611686018427387904 ∧ ∀ e ∈ l, e.ts.length ≤ 4611686018427387904) :=
  .map (fun l : List Mat => l) (.slice Tryz.underlying25 rMat (k := 4) (by kernel_rfl) (by decide) (by rw [show Tryz.prog.bytesOf 91 = 48 by kernel_rfl]; decide)) (fun _ => rfl) (fun _ h => ⟨big_of h.1, h.2⟩)
theorem rWans : Reads enc Tryz.prog w 26 (fun l : List Wan => [wansA l]) (fun l => l.length ≤ 4611686018427387904) :=
  .map (fun l : List Wan => l) (.slice Tryz.underlying26 rWan (k := 2) (by kernel_rfl) (by decide) (by rw [show Tryz.prog.bytesOf 102 = 16 by kernel_rfl]; decide)) (fun _ => rfl) (fun _ h => big_of h.1)
theorem rHist : Reads enc Tryz.prog w 28 histC (Lim 4611686018427387904) :=
  .map (fun x : List ByteArray × List ByteArray × List ByteArray × List ByteArray × List Ev × List H.Ord × List Mat × List Wan × Unit => ⟨x.1, x.2.1, x.2.2.1, x.2.2.2.1, x.2.2.2.2.1, x.2.2.2.2.2.1, x.2.2.2.2.2.2.1, x.2.2.2.2.2.2.2.1⟩)
    (.struct Tryz.underlying28 rfl (tot := 8) (by kernel_rfl) (.cons rStrs (s := 1) (by kernel_rfl) (.cons rStrs (s := 1) (by kernel_rfl) (.cons rStrs (s := 1) (by kernel_rfl) (.cons rStrs (s := 1) (by kernel_rfl) (.cons rEvs (s := 1) (by kernel_rfl)
      (.cons rOrds (s := 1) (by kernel_rfl) (.cons rMats (s := 1) (by kernel_rfl) (.cons rWans (s := 1) (by kernel_rfl) (.nil 8)))))))))) (fun _ => rfl)
    (fun x h => ⟨h.1, h.2.1, h.2.2.1, h.2.2.2.1, h.2.2.2.2.1.1, h.2.2.2.2.2.1.1, h.2.2.2.2.2.2.1.1, h.2.2.2.2.2.2.2.1, h.2.2.2.2.1.2, h.2.2.2.2.2.1.2, h.2.2.2.2.2.2.1.2⟩)
end
end Go.Proofs
/- The listed package variables, aS they are laid: the boxes that are looked at. Conditions: none. -/
set_option linter.unusedVariables false
set_option maxRecDepth 100000
namespace Go.Proofs
open Go Go.Ab Go.H
theorem chunks {α : Type} (s : Nat) : ∀ (n : Nat) (cs : List α) (f : Nat → List α), cs.length = n * s → (∀ i, i < n → (cs.drop (i * s)).take s = f i) → cs = (List.range n).flatMap f
  | 0, cs, f, h, _ => by simp at h; subst h; rfl
  | n + 1, cs, f, h, k => by
    have h0 := k 0 (by omega)
    have ih := chunks s n (cs.drop s) (fun i => f (i + 1)) (by rw [List.length_drop, h, Nat.add_mul]; omega) fun i hi => by
      have := k (i + 1) (by omega)
      rw [Nat.add_mul, Nat.one_mul, Nat.add_comm, ← List.drop_drop] at this
      exact this
    rw [List.range_succ_eq_map, List.flatMap_cons, List.flatMap_map, ← h0]
    simp only [Nat.zero_mul, List.drop_zero]
    have e : cs = cs.take s ++ cs.drop s := (List.take_append_drop s cs).symm
    rw [ih] at e
    exact e
theorem glob_of {P : Program} {w : World} {n : String} {g t : Nat} {d : DataW Unit} {vals : List Value} {T : TypeId} (hr : Lib.VarReads P w n d) (hg : P.globalNamed n = some g) (ht : (P.globals[g]?).map (·.type) = some t)
    (hv : ∀ fuel cs p, DataW.trod (fun _ => ()) P w 0 (fun _ => true) false fuel t cs = some (d, p) → cs = vals) : (Res.glob g T (vals.map .v)).holds w noX := by
  obtain ⟨g', t', cs, fuel, p, h1, h2, h3, h4⟩ := hr
  obtain rfl := Option.some.inj (hg.symm.trans h1)
  obtain rfl := Option.some.inj (ht.symm.trans h2)
  have hcs := hv _ _ _ h4
  unfold World.var? at h3
  rw [hg] at h3
  simp only [Option.bind_some] at h3
  split at h3
  · rename_i c T0 fr hh
    cases h3
    refine ⟨fun h => h, (Array.getElem?_eq_some_iff.1 hh).1, cs, T0, fr, hh, by rw [List.length_map, ← hcs]; simp, fun j j1 j2 => ?_⟩
    rw [List.getElem_map]
    have : vals[j]'(by simpa using j1) = cs[j] := by simp [← hcs]
    rw [this]
    exact .v _
  · cases h3
theorem glob0 {w : World} (h : Lib.VarReads Tryz.prog w "yardarm/history.limits" YtmbbjpoljcmhlaaGreatDoor.Rows.laid_yardarm_history_limits) : (Res.glob 1 114 limitsC).holds w noX :=
  glob_of (vals := [300, 60, 300, 60].map fun z => Value.int .i64 z) h (by kernel_rfl) (show _ = some 114 by kernel_rfl) fun fuel cs p hd =>
    Lib.cells_of_tab (zs := [300, 60, 300, 60]) Tryz.underlying114 Tryz.underlying3 (by kernel_rfl) (by kernel_rfl) hd
def firstZ : List Int := (List.range 256).map firstV
theorem first_eq : YtmbbjpoljcmhlaaGreatDoor.Rows.laid_unicode_utf8_first = Lib.tabData .u8 firstZ := by kernel_rfl
theorem glob1 {w : World} (h : Lib.VarReads Tryz.prog w "unicode/utf8.first" YtmbbjpoljcmhlaaGreatDoor.Rows.laid_unicode_utf8_first) : (Res.glob 2 235 firstC).holds w noX := by
  have := glob_of (P := Tryz.prog) (w := w) (n := "unicode/utf8.first") (g := 2) (t := 235) (d := YtmbbjpoljcmhlaaGreatDoor.Rows.laid_unicode_utf8_first) (T := 235) (vals := firstZ.map fun z => Value.int .u8 z) h (by kernel_rfl) (by kernel_rfl) fun fuel cs p hd =>
    Lib.cells_of_tab (zs := firstZ) Tryz.underlying235 Tryz.underlying5 (by kernel_rfl) (by kernel_rfl) (first_eq ▸ hd)
  simpa [firstC, firstZ, List.map_map, Function.comp_def] using this
def accZ (i : Nat) : List Int := [[128, 160, 128, 144, 128].getD i 0, [191, 191, 159, 191, 143].getD i 0]
theorem accept_eq : (YtmbbjpoljcmhlaaGreatDoor.Rows.laid_unicode_utf8_acceptRanges : DataW Unit) = .agg ((List.range 16).map fun i => .agg ((accZ i).map fun z => .lit (.int .u8 z))) := by kernel_rfl
theorem accC_eq : acceptC = ((List.range 16).flatMap fun i => (accZ i).map fun z => Value.int .u8 z).map .v := rfl
theorem glob2 {w : World} (h : Lib.VarReads Tryz.prog w "unicode/utf8.acceptRanges" YtmbbjpoljcmhlaaGreatDoor.Rows.laid_unicode_utf8_acceptRanges) : (Res.glob 3 238 acceptC).holds w noX := by
  rw [accC_eq]
  refine glob_of (T := 238) h (by kernel_rfl) (show _ = some 238 by kernel_rfl) fun fuel cs p hd => ?_
  rw [accept_eq] at hd
  have c132 : Tryz.prog.cellsOf 237 = 2 := by kernel_rfl
  have c133 : Tryz.prog.cellsOf 238 = 32 := by kernel_rfl
  have hlen : cs.length = 16 * 2 := by
    obtain ⟨_, _, _, _, hl, _⟩ := DataW.trod_array Tryz.underlying238 hd
    rw [hl, c133]
  refine chunks 2 16 cs _ hlen fun i hi => ?_
  obtain ⟨f', d, q, h1, h2⟩ := Lib.array_elem Tryz.underlying238 hd i hi
  simp only [List.getElem?_map, List.getElem?_range hi, Option.map_some, Option.some.injEq] at h1
  subst h1
  rw [c132] at h2
  exact Lib.ints_of_struct Tryz.underlying237 (fun j f hj => by
    match j, hj with
    | 0, hj => simp at hj; subst hj; exact ⟨Tryz.underlying5, rfl, by kernel_rfl⟩
    | 1, hj => simp at hj; subst hj; exact ⟨Tryz.underlying5, rfl, by kernel_rfl⟩
    | j + 2, hj => simp at hj) (by rw [c132]; rfl) h2
theorem hrel_G3 {w : World} (h0 : (Res.glob 1 114 limitsC).holds w noX) (h1 : (Res.glob 2 235 firstC).holds w noX) (h2 : (Res.glob 3 238 acceptC).holds w noX) :
    HRel noX w [.glob 1 114 limitsC, .glob 2 235 firstC, .glob 3 238 acceptC] := by
  have hO : OO [.glob 1 114 limitsC, .glob 2 235 firstC, .glob 3 238 acceptC] noX = noX := by funext b; simp [OO, owns, noX, Res.own]
  refine ⟨by simp [owns, Res.own], fun b hb => by simp [owns, Res.own] at hb, fun b hb => hb.elim, fun r hr => ?_⟩
  rw [hO]
  simp only [List.mem_cons, List.not_mem_nil, or_false] at hr
  rcases hr with rfl | rfl | rfl <;> assumption
theorem OO_G3 : OO [.glob 1 114 limitsC, .glob 2 235 firstC, .glob 3 238 acceptC] noX = noX := by funext b; simp [OO, owns, noX, Res.own]
end Go.Proofs
/- The entry: from the row's conditions to the contract, and from the contract to what the row promises. Conditions: none. -/
set_option linter.unusedVariables false
set_option maxRecDepth 100000
namespace Go.Proofs.YtmbbjpoljcmhlaaGreatDoor
open Go Go.Ab Go.H Go.ChangeShapes Go.WideShapes Go.ChangeAt Go.RowKit
theorem own : ownKnob Tryz.prog.godebug = none := by kernel_rfl
def laid4 : List (String × DataW Unit) := [("unicode/utf8.acceptRanges", Rows.laid_unicode_utf8_acceptRanges), ("yardarm/history.limits", Rows.laid_yardarm_history_limits), ("yardarm/rules.asks", Rows.laid_yardarm_rules_asks), ("unicode/utf8.first", Rows.laid_unicode_utf8_first)]
def laidD : List (String × DataW Unit) := [("unicode/utf8.acceptRanges", Rows.laid_unicode_utf8_acceptRanges), ("yardarm/history.limits", Rows.laid_yardarm_history_limits), ("unicode/utf8.first", Rows.laid_unicode_utf8_first)]
theorem laidD_eq : (laid4.filter fun x => x.2.handleName?.isNone) = laidD := by kernel_rfl
theorem laidD_of {W : World} (h : laidMetH Tryz.prog laid4 W) : laidMet Tryz.prog laidD W := by
  have := (laidMetH_iff.1 h).1
  rw [laidD_eq] at this
  exact this
theorem laid_hrel {W : World} (h : laidMetH Tryz.prog laid4 W) : HRel noX W [.glob 1 114 limitsC, .glob 2 235 firstC, .glob 3 238 acceptC] := by
  have h := laidD_of h
  exact hrel_G3 (glob0 (Lib.laidMet.reads h (.tail _ (.head _)))) (glob1 (Lib.laidMet.reads h (.tail _ (.tail _ (.head _))))) (glob2 (Lib.laidMet.reads h (.head _)))
/-! The witness: the three data laid by the kit's function, the table of functions set beforehand. -/
def asksV : List Value := .nilFunc :: [235, 237, 238, 239, 240, 241, 242, 243, 244, 245].map fun f => .func (.func f) #[] #[]
noncomputable def wit0 (os : Os) : World := { World.holding Tryz.prog os ⟨#[], #[], []⟩ with heap := (World.holding Tryz.prog os ⟨#[], #[], []⟩).heap.modify 0 (Lay.setRow asksV) }
noncomputable def wit (os : Os) : World := (wit0 os).layVars Tryz.prog laidD
theorem wit_os (os : Os) : (wit os).os = os := World.layVars_os _ _ _
theorem wit_met (os : Os) (args : Array Value) : laidMetH Tryz.prog laid4 ((wit os).forCall (fun _ _ => 0) ⟨#[], args, []⟩).memory := by
  refine laidMetH_of_parts3 (fuel := 8) ?_ (by kernel_rfl) (by kernel_rfl)
  rw [laidD_eq]
  have h : laidMet Tryz.prog laidD (wit os) := laidMet_layVars (w0 := wit0 os) (laidD.map (·.1)) [] (by kernel_rfl) (by kernel_rfl) (by kernel_rfl) (by
    rw [show (laidD.filter fun x => !(laidD.map (·.1)).contains x.1) = [] by kernel_rfl]; exact LaidIn.none)
  exact h.of_heap (by simp [World.memory, World.forCall, Input.heap])
/-- Blocks that were there stay: what is read of an argument stays. -/
theorem keep_below {W W' : World} (hk : Keep [] W [] W') : RowKit.Below W.heap.size W { W' with tape := W.tape } :=
  ⟨hk.env.1, rfl, hk.env.2, hk.size, fun k hk' => (hk.same k hk' (by simp)).1⟩
theorem keep_but {W W' : World} (hk : Keep [] W [] W') (may : MemPlace → Prop) : W.keptBut W' may := by
  refine ⟨hk.env.1, hk.env.2, fun i hi => ?_⟩
  rw [(hk.same i hi (by simp)).1]
  generalize W.heap[i]? = o
  cases o with
  | none => rfl
  | some o => cases o <;> first | rfl | exact ⟨rfl, rfl, rfl, fun _ _ => rfl⟩ | exact .inr ⟨rfl, rfl⟩
section
variable {H : Type} {enc : TypeId × Value → H}
theorem trod_keep {W W' : World} {v : Value} {d : DataW H} {ps : List MemPlace} (hk : Keep [] W [] W') (h : DataW.Trod enc Tryz.prog W 0 (fun _ => true) true 28 v d ps) (hlt : ∀ x ∈ ps, x.block < W.heap.size) :
    DataW.Trod enc Tryz.prog W' 0 (fun b => decide (b < W.heap.size)) true 28 v d ps :=
  DataW.Trod.of_heap (w := { W' with tape := W.tape }) (w' := W') rfl (Below.trod (by kernel_rfl) (by kernel_rfl) (by decide +kernel) h (keep_below hk) hlt)
/-- A history by value, aS the contract wants it. -/
theorem hist_of {W : World} {cs : Array Value} {d : DataW H} {ps : List MemPlace} (h : DataW.Trod enc Tryz.prog W 0 (fun _ => true) true 28 (.agg cs) d ps) (hw : ∀ n ∈ d.weights Tryz.prog 28, n ≤ reachBytes) :
    ∃ x, Lim 4611686018427387904 x ∧ Rel W noX (.agg (histC x)) (.agg cs) := by
  obtain ⟨fuel, hf⟩ := h
  obtain ⟨x, hlim, hx⟩ := rHist fuel _ _ hf hw
  exact ⟨x, hlim, .agg _ _ (by simpa [Value.cells] using hx.1) fun j h1 h2 => by simpa [Value.cells] using hx.2 j h1 (by simpa [Value.cells] using h2)⟩
end
end Go.Proofs.YtmbbjpoljcmhlaaGreatDoor
/- Maps aS rows of pairs, and what stands in them. Conditions: aS each lemma states. -/
set_option linter.unusedVariables false
set_option linter.unusedSectionVars false
namespace Go.Ab
open Go
section
variable {K V : Type} [DecidableEq K]
def getT (k : K) : List (K × V) → Option V
  | [] => none
  | p :: r => if p.1 = k then some p.2 else getT k r
def putT (k : K) (v : V) : List (K × V) → List (K × V)
  | [] => [(k, v)]
  | p :: r => if p.1 = k then (p.1, v) :: r else p :: putT k v r
def mapA (f : V → AV) (m : List (K × V)) : List (K × AV) := m.map fun p => (p.1, f p.2)
theorem lookM_mapA (f : V → AV) (k : K) : ∀ m : List (K × V), lookM k (mapA f m) = (getT k m).map f
  | [] => rfl
  | p :: m => by
    have ih := lookM_mapA f k m
    simp only [mapA, List.map_cons, lookM, getT] at ih ⊢
    by_cases h : p.1 = k
    · simp [h]
    · rw [if_neg h, if_neg h, ih]
theorem updM_mapA (f : V → AV) (k : K) (v : V) : ∀ m : List (K × V), updM k (f v) (mapA f m) = mapA f (putT k v m)
  | [] => rfl
  | p :: m => by
    have ih := updM_mapA f k v m
    simp only [mapA, List.map_cons, updM, putT] at ih ⊢
    by_cases h : p.1 = k
    · rw [if_pos h, if_pos h]; rfl
    · rw [if_neg h, if_neg h, ih]; rfl
theorem get_put (k k' : K) (v : V) : ∀ m : List (K × V), getT k (putT k' v m) = if k' = k then some v else getT k m
  | [] => by simp only [putT, getT]
  | p :: m => by
    have ih := get_put k k' v m
    simp only [putT]
    by_cases h : p.1 = k'
    · rw [if_pos h]; simp only [getT, h]
      by_cases hk : k' = k
      · simp [hk]
      · simp [hk]
    · rw [if_neg h]; simp only [getT, ih]
      by_cases hp : p.1 = k
      · rw [if_pos hp, if_neg (fun q => h (hp.trans q.symm)), if_pos hp]
      · rw [if_neg hp, if_neg hp]
theorem put_len (k : K) (v : V) : ∀ m : List (K × V), (putT k v m).length = if (getT k m).isSome then m.length else m.length + 1
  | [] => rfl
  | p :: m => by
    have ih := put_len k v m
    by_cases h : p.1 = k
    · simp [putT, getT, h]
    · simp only [putT, getT, if_neg h, List.length_cons, ih]
      split <;> simp
/-- A map that is a set of what is met in a row. -/
def setT {α : Type} (p : α → Bool) (key : α → K) (m : List (K × Bool)) (l : List α) : List (K × Bool) := l.foldl (fun m e => if p e then putT (key e) true m else m) m
theorem setT_get {α : Type} (p : α → Bool) (key : α → K) (k : K) : ∀ (l : List α) (m : List (K × Bool)), getT k (setT p key m l) = if l.any (fun e => p e && decide (key e = k)) then some true else getT k m
  | [], m => by simp [setT]
  | e :: l, m => by
    have ih := setT_get p key k l (if p e then putT (key e) true m else m)
    simp only [setT, List.foldl_cons, List.any_cons] at ih ⊢
    rw [ih]
    by_cases h : (l.any fun e => p e && decide (key e = k)) = true
    · simp only [h, Bool.or_true, if_true]
    · have h' := Bool.eq_false_iff.2 h
      simp only [h', Bool.or_false, Bool.false_eq_true, if_false]
      cases hp : p e with
      | false => simp
      | true => simp [get_put]
/-- What was put last of a row. -/
def lasT {α : Type} (p : α → Bool) (key : α → K) (val : α → V) (m : List (K × V)) (l : List α) : List (K × V) := l.foldl (fun m e => if p e then putT (key e) (val e) m else m) m
theorem lasT_get {α : Type} (p : α → Bool) (key : α → K) (val : α → V) (k : K) : ∀ (l : List α) (m : List (K × V)), getT k (lasT p key val m l) = (((l.filter fun e => p e && decide (key e = k)).getLast?).map val).or (getT k m)
  | [], m => by simp [lasT]
  | e :: l, m => by
    have ih := lasT_get p key val k l (if p e then putT (key e) (val e) m else m)
    simp only [lasT, List.foldl_cons, List.filter_cons] at ih ⊢
    rw [ih]
    cases hp : p e with
    | false => simp
    | true =>
      by_cases hk : key e = k
      · simp only [hk, decide_true, Bool.and_self, if_true, get_put]
        cases hl : (l.filter fun e => p e && decide (key e = k)).getLast? with
        | none =>
          rw [List.getLast?_eq_none_iff] at hl
          simp [hl]
        | some y => simp [List.getLast?_cons, hl]
      · simp [hk, get_put]
/-- How many of a row. -/
def cntT {α : Type} (p : α → Bool) (key : α → K) (m : List (K × Int)) (l : List α) : List (K × Int) := l.foldl (fun m e => if p e then putT (key e) ((getT (key e) m).getD 0 + 1) m else m) m
theorem cntT_get {α : Type} (p : α → Bool) (key : α → K) (k : K) : ∀ (l : List α) (m : List (K × Int)), (getT k (cntT p key m l)).getD 0 = (getT k m).getD 0 + ((l.filter fun e => p e && decide (key e = k)).length : Int)
  | [], m => by simp [cntT]
  | e :: l, m => by
    have ih := cntT_get p key k l (if p e then putT (key e) ((getT (key e) m).getD 0 + 1) m else m)
    simp only [cntT, List.foldl_cons, List.filter_cons] at ih ⊢
    rw [ih]
    cases hp : p e with
    | false => simp
    | true =>
      by_cases hk : key e = k
      · simp only [hk, decide_true, Bool.and_self, if_true, get_put, Option.getD_some, List.length_cons]; omega
      · simp [hk, get_put]
end
end Go.Ab
/- What rules.look keeps of the events gone by. Conditions: none. -/
set_option linter.unusedVariables false
namespace Go.H
open Go Go.Ab
def begM (l : List Ev) : List (Int × Bool) := setT (fun e : Ev => e.kind == 1) Ev.t [] l
def ovrM (l : List Ev) : List (Int × Bool) := setT (fun e : Ev => e.kind == 5 || e.kind == 6) Ev.t [] l
def kTO (e : Ev) : Int × Int := (e.t, e.o)
def kOV (e : Ev) : Int × Int × Int := (e.o, e.v.t, e.v.k)
def wroM (l : List Ev) : List ((Int × Int) × Int) := cntT (fun e : Ev => e.kind == 2) kTO [] l
def lasM (l : List Ev) : List ((Int × Int) × Ver) := lasT (fun e : Ev => e.kind == 2) kTO Ev.v [] l
def thrM (l : List Ev) : List ((Int × Int × Int) × Bool) := setT (fun e : Ev => e.kind == 2) kOV [] l
theorem begM_get (l : List Ev) (t : Int) : getT t (begM l) = if begunB l t then some true else none := by
  rw [begM, setT_get, begunB, hasB_any]
  congr 1
  have : (l.any fun e => e.kind == 1 && decide (e.t = t)) = (l.any fun y => y.t == t && y.kind == 1) := by
    congr 1; funext e; rw [Bool.and_comm]; rfl
  rw [this]
theorem ovrM_get (l : List Ev) (t : Int) : getT t (ovrM l) = if overB l t then some true else none := by
  rw [ovrM, setT_get, overB]
  have : (l.any fun e => (e.kind == 5 || e.kind == 6) && decide (e.t = t)) = (l.any fun y => y.t == t && (y.kind == 5 || y.kind == 6)) := by
    congr 1; funext e; rw [Bool.and_comm]; rfl
  rw [this]; rfl
theorem kTO_eq (e : Ev) (t x : Int) : decide (kTO e = (t, x)) = (e.t == t && e.o == x) := by
  simp only [kTO, Prod.mk.injEq, Bool.decide_and]; rfl
theorem wroM_get (l : List Ev) (t x : Int) : (getT (t, x) (wroM l)).getD 0 = ((wroteL l t x).length : Int) := by
  rw [wroM, cntT_get, wroteL]
  simp only [kTO_eq, getT, Option.getD_none, Int.zero_add, Bool.and_assoc]
theorem lasM_get (l : List Ev) (t x : Int) : getT (t, x) (lasM l) = lastV l t x := by
  rw [lasM, lasT_get, lastV, wroteL]
  simp only [kTO_eq, getT, Option.or_none, Bool.and_assoc]
theorem thrM_get (l : List Ev) (x : Int) (v : Ver) : getT (x, v.t, v.k) (thrM l) = if thereB l x v then some true else none := by
  rw [thrM, setT_get, thereB]
  have : (l.any fun e => e.kind == 2 && decide (kOV e = (x, v.t, v.k))) = (l.any fun y => y.kind == 2 && y.o == x && y.v == v) := by
    congr 1; funext e
    have : decide (kOV e = (x, v.t, v.k)) = (e.o == x && e.v == v) := by
      obtain ⟨vt, vk⟩ := v
      obtain ⟨k, t, s, l, o, ⟨et, ek⟩, p, sc⟩ := e
      rw [Bool.eq_iff_iff]; simp [kOV]
    rw [this, Bool.and_assoc]
  rw [this]; rfl
/-- One event more. -/
theorem begM_snoc (l : List Ev) (e : Ev) : begM (l ++ [e]) = if e.kind == 1 then putT e.t true (begM l) else begM l := by simp [begM, setT]
theorem ovrM_snoc (l : List Ev) (e : Ev) : ovrM (l ++ [e]) = if e.kind == 5 || e.kind == 6 then putT e.t true (ovrM l) else ovrM l := by simp [ovrM, setT]
theorem wroM_snoc (l : List Ev) (e : Ev) : wroM (l ++ [e]) = if e.kind == 2 then putT (kTO e) ((getT (kTO e) (wroM l)).getD 0 + 1) (wroM l) else wroM l := by simp [wroM, cntT]
theorem lasM_snoc (l : List Ev) (e : Ev) : lasM (l ++ [e]) = if e.kind == 2 then putT (kTO e) e.v (lasM l) else lasM l := by simp [lasM, lasT]
theorem thrM_snoc (l : List Ev) (e : Ev) : thrM (l ++ [e]) = if e.kind == 2 then putT (kOV e) true (thrM l) else thrM l := by simp [thrM, setT]
theorem wroteL_le (l : List Ev) (t x : Int) : (wroteL l t x).length ≤ l.length := List.length_filter_le _ _
theorem seenOf_len {e : Ev} (h : e.scan.length ≤ 4611686018427387904) : (seenOf e).length ≤ 4611686018427387904 := by
  unfold seenOf; split
  · exact Nat.le_of_ble_eq_true rfl
  · exact h
theorem ver_beq (a b : Ver) : (a == b) = (a.t == b.t && a.k == b.k) := by
  obtain ⟨a1, a2⟩ := a; obtain ⟨b1, b2⟩ := b
  rw [Bool.eq_iff_iff]; simp
/-- The objects met in a scan. -/
def metT (l : List Seen) : List (Int × Bool) := setT (fun _ : Seen => true) Seen.o [] l
theorem metT_get (l : List Seen) (x : Int) : getT x (metT l) = if l.any (fun s => decide (s.o = x)) then some true else none := by
  rw [metT, setT_get]; simp only [Bool.true_and]; rfl
theorem met_put {l : List Seen} {k : Nat} (hk : k < l.length) : metT (l.take (k + 1)) = putT l[k].o true (metT (l.take k)) := by
  rw [List.take_succ_eq_append_getElem hk, metT, setT, List.foldl_append]; rfl
theorem met_no {l : List Seen} {x : Int} (h : (getT x (metT l)).getD false = false) : x ∉ l.map Seen.o := by
  rw [metT_get] at h
  intro hm
  obtain ⟨s, hs, rfl⟩ := List.mem_map.1 hm
  rw [if_pos (List.any_eq_true.2 ⟨s, hs, by simp⟩)] at h
  cases h
theorem met_yes {l : List Seen} {x : Int} (h : (getT x (metT l)).getD false = true) : x ∈ l.map Seen.o := by
  rw [metT_get] at h
  split at h
  · rename_i h'
    obtain ⟨s, hs, e⟩ := List.any_eq_true.1 h'
    exact List.mem_map.2 ⟨s, hs, by simpa using e⟩
  · cases h
theorem met_next {l : List Seen} {k : Nat} (hk : k < l.length) (hn : ((l.take k).map Seen.o).Nodup) (hx : l[k].o ∉ (l.take k).map Seen.o) : ((l.take (k + 1)).map Seen.o).Nodup := by
  rw [List.take_succ_eq_append_getElem hk, List.map_append, List.nodup_append]
  refine ⟨hn, by simp, fun a ha b hb e => ?_⟩
  simp only [List.map_cons, List.map_nil, List.mem_singleton] at hb
  subst hb; subst e; exact hx ha
theorem met_len : ∀ (l : List Seen), (l.map Seen.o).Nodup → (metT l).length = l.length := by
  intro l
  have key : ∀ n, n ≤ l.length → (l.map Seen.o).Nodup → (metT (l.take n)).length = n := by
    intro n
    induction n with
    | zero => intro _ _; rfl
    | succ n ih =>
      intro hn hd
      have hlt : n < l.length := hn
      rw [met_put hlt, put_len]
      have : getT l[n].o (metT (l.take n)) = none := by
        rw [metT_get]
        refine if_neg fun h => ?_
        obtain ⟨s, hs, e⟩ := List.any_eq_true.1 h
        obtain ⟨j, hj, rfl⟩ := List.mem_take_iff_getElem.1 hs
        have hjn : j < n := by omega
        have := List.pairwise_iff_getElem.1 hd j n (by simp; omega) (by simp; omega) hjn
        simp at this e
        exact this e
      rw [this]; simp [ih (by omega) hd]
  intro hd
  have := key l.length (Nat.le_refl _) hd
  rwa [List.take_length] at this
theorem scan_e {l : List Seen} (hn : ((l.take l.length).map Seen.o).Nodup) : decide (((metT (l.take l.length)).length : Int) < ((l.map seenR).length : Nat)) = !decide ((l.map Seen.o).Nodup) := by
  rw [List.take_length] at hn ⊢
  rw [met_len l hn, List.length_map, decide_eq_true hn]; simp
theorem scan_w {l : List Seen} {k : Nat} (hk : k < l.length) (hn : ((l.take k).map Seen.o).Nodup) (hx : (getT l[k].o (metT (l.take k))).getD false = true) : decide (((metT (l.take k)).length : Int) < ((l.map seenR).length : Nat)) = !decide ((l.map Seen.o).Nodup) := by
  have h1 := met_yes hx
  rw [met_len _ hn, List.length_take, List.length_map]
  have : ¬ (l.map Seen.o).Nodup := fun hd => by
    obtain ⟨s, hs, e⟩ := List.mem_map.1 h1
    obtain ⟨j, hj, rfl⟩ := List.mem_take_iff_getElem.1 hs
    have hjk : j < k := by omega
    have := List.pairwise_iff_getElem.1 hd j k (by simp; omega) (by simpa using hk) hjk
    simp at this e
    exact this e
  rw [decide_eq_false this]
  simp; omega
theorem rowF_step {α : Type} {w : Nat → α → Bool} {l : List α} {k : Nat} (hk : k < l.length) (hz : rowF w 0 l = rowF w k (l.drop k)) (hw : w k l[k] = false) : rowF w 0 l = rowF w (k + 1) (l.drop (k + 1)) := by
  rw [hz, List.drop_eq_getElem_cons hk, rowF, hw]; rfl
theorem rowF_stop {α : Type} {w : Nat → α → Bool} {l : List α} {k : Nat} (hk : k < l.length) (hz : rowF w 0 l = rowF w k (l.drop k)) (hw : w k l[k] = true) : rowF w 0 l = some k := by
  rw [hz, List.drop_eq_getElem_cons hk, rowF, hw]; rfl
theorem rowF_end {α : Type} {w : Nat → α → Bool} {l : List α} {k : Nat} (hk : k = l.length) (hz : rowF w 0 l = rowF w k (l.drop k)) : rowF w 0 l = none := by
  rw [hz, hk, List.drop_length]; rfl
end Go.H
/- The abstract logic, part 30: a map's entry that is made ahead of its value. Conditions: none (lemmas over any program). -/
set_option linter.unusedVariables false
set_option linter.unusedSimpArgs false
namespace Go.Ab
open Go
class HasMapE (h : List Res) (r : Nat) (i : outParam Nat) (es : outParam (List (Value × AV))) (j st : outParam Nat) : Prop where
  h : h[i]? = some (.mape r es j st)
instance HasMapE.head {r : Nat} {es : List (Value × AV)} {j st : Nat} {h : List Res} : HasMapE (.mape r es j st :: h) r 0 es j st := ⟨rfl⟩
instance HasMapE.tail {r i : Nat} {es : List (Value × AV)} {j st : Nat} {x : Res} {h : List Res} [k : HasMapE h r i es j st] : HasMapE (x :: h) r (i + 1) es j st := ⟨by simpa using k.h⟩
/-- The entries with one for a key. -/
def entM {K : Type} [DecidableEq K] (k : K) (z : AV) (es : List (K × AV)) : List (K × AV) := match lookM k es with
  | some _ => es
  | none => es ++ [(k, z)]
theorem lookM_app {K : Type} [DecidableEq K] (k : K) (z : AV) : ∀ es : List (K × AV), lookM k es = none → lookM k (es ++ [(k, z)]) = some z
  | [], _ => by simp [lookM]
  | p :: es, h => by
    simp only [lookM, List.cons_append] at h ⊢
    split at h
    · cases h
    · rename_i hn; rw [if_neg hn]; exact lookM_app k z es h
/-- An entry more with what stands for nothing: the same is found. -/
theorem lookM_ent {K : Type} [DecidableEq K] (k : K) (z : AV) (es : List (K × AV)) : (lookM k (entM k z es)).getD z = (lookM k es).getD z := by
  unfold entM
  cases h : lookM k es with
  | some a => simp [h]
  | none => simp [lookM_app k z es h]
section
variable {P : Program} {ro : Option Nat} {nt : Nat} {dst : Option Tmp} {ty : TypeId} {pos : String} {after : Array Edge} {guard : Option (Nat × Bool)} {x y z : Operand} {t : Fr} {h : List Res} {ds : List Nat} {next : St → Prop} {f : Operand → Option AV}
  {K : Type} [DecidableEq K] {enc : K → Value} {es : List (K × AV)} {kt et T : TypeId} {r i : Nat} {k : K} {av : AV}
theorem oe_mapEntry {d : Tmp} {kv : AV} {zv : Value} {h' : Res → List Res} (hlt : dok nt (some d) = true) (hx : ev t x = some (.v (.map (some r)))) (hy : ev t y = some kv) [hkv : KeyV kv (enc k)] [hm : HasMap h r i (encM enc es)] [hu : Und P T (.map kt et)] [hkt : KeyT P kt enc] [hz : ZerV P et zv]
    [hset : ∀ y, SetAt h i y (h' y)] (hk : ∀ (j st : Nat), (∀ a, (encM enc (entM k (.v zv) es)).modify j (fun p => (p.1, a)) = encM enc (updM k a es)) →
      next ⟨(d, .tup [(lookM k es).getD (.v zv), .v (.int .i64 st)]) :: t, h' (.mape r (encM enc (entM k (.v zv) es)) j st), ds⟩) :
    OE P ro nt ⟨some d, .mapEntry T x y, ty, pos, after, guard⟩ ⟨t, h, ds⟩ next := by
  intro X a w Kc Q hs hK
  refine ⟨about_true, ?_⟩
  obtain ⟨ents, clock, h1, h2, h3, h4, h5⟩ := hs.heap.holds _ (List.mem_of_getElem? hm.h)
  have hks := keys_of_holds h2 h3
  have hl' : es.length = ents.toList.length := by simpa [encM] using h2
  have hle : es.length = ents.size := by simpa using hl'
  have hfind := hkt.find w k ents.toList (es.map (·.1)) hks
  have hrun : ∃ ents' clock' j st v, (Instr.mapEntry T (a.eval x) (a.eval y)).run P w = .ok (.tuple #[v, .int .i64 (st : Nat)]) { w with heap := w.heap.setIfInBounds r (.map ents' clock') } ∧
      Rel w (OO h X) ((lookM k es).getD (.v zv)) v ∧ (∀ a, (encM enc (entM k (.v zv) es)).modify j (fun p => (p.1, a)) = encM enc (updM k a es)) ∧
      (encM enc (entM k (.v zv) es)).length = ents'.size ∧ (∀ i (h1 : i < (encM enc (entM k (.v zv) es)).length) (h2 : i < ents'.size), (encM enc (entM k (.v zv) es))[i].1 = ents'[i].key ∧ Rel w (OO h X) (encM enc (entM k (.v zv) es))[i].2 ents'[i].val) ∧
      (∀ i (h : i < ents'.size), ents'[i].born < clock') ∧ (∀ i j (hi : i < ents'.size) (hj : j < ents'.size), i < j → ents'[i].born < ents'[j].born) ∧ ∃ h : j < ents'.size, ents'[j].born = st := by
    rw [(hs.env.rel x _ hx).v_eq, hkv.h w _ _ (hs.env.rel y _ hy)]
    simp only [Instr.mapEntry, Sem.run_bind, run_underlying (h := hu), Result.andThen_ok, MapKept.run_getObj_map h1, hkt.chk, hfind]
    rcases fK_spec k es ents.toList 0 hl' with ⟨g, b, c⟩ | ⟨j, g1, g2, g, b, c, d⟩
    · rw [g]
      have he : entM k (.v zv) es = es ++ [(k, .v zv)] := by unfold entM; rw [b]
      rw [he]
      refine ⟨ents.push { key := enc k, val := zv, born := clock }, clock + 1, es.length, clock, zv, ?_, by rw [b]; exact .v _, fun a => ?_, by simp [encM, hle], fun i a1 a2 => ?_, fun i a1 => ?_, fun i j a1 a2 a3 => ?_, by simp [hle], ?_⟩
      · simp only [Sem.run_bind, run_zeroValue hz.h, Result.andThen_ok, MapKept.run_setObj_map _ h1, Sem.run_pure, goInt]
      · rw [c a]
        simp only [encM, List.map_append, List.map_cons, List.map_nil]
        have : es.length = (es.map fun p => (enc p.1, p.2)).length := by simp
        rw [this]
        have hmod : ∀ (l : List (Value × AV)) (p : Value × AV) (g : Value × AV → Value × AV), (l ++ [p]).modify l.length g = l ++ [g p] := by
          intro l p g
          induction l with
          | nil => rfl
          | cons q l ih => simp [ih]
        rw [hmod]
      · simp only [encM, List.map_append, List.map_cons, List.map_nil, List.getElem_append, Array.getElem_push]
        by_cases hi : i < ents.size
        · have : i < (List.map (fun p : K × AV => (enc p.1, p.2)) es).length := by simp; omega
          simp only [hi, this, dif_pos]
          exact h3 i (by simpa [encM] using this) hi
        · have h9 : ¬ i < (List.map (fun p : K × AV => (enc p.1, p.2)) es).length := by simp; omega
          simp only [hi, h9, dif_neg, not_false_eq_true, List.getElem_singleton]
          exact ⟨trivial, .v _⟩
      · rw [Array.getElem_push]
        split
        · have := h4 i (by assumption); omega
        · simp
      · simp only [Array.size_push] at a1 a2
        rw [Array.getElem_push, Array.getElem_push]
        split <;> split
        · exact h5 i j _ _ a3
        · have := h4 i (by assumption); simpa using this
        · omega
        · omega
      · simp [Array.getElem_push, hle]
    · have hj : j < ents.size := by simpa using g2
      have hkey : ents[j].key = enc k := by
        have := (h3 j (by simpa [encM] using g1) hj).1
        simp [encM] at this
        rw [← this, c]
      have he : entM k (.v zv) es = es := by unfold entM; rw [b]
      rw [g, he]
      have hgd : ((ents[j]?).map (·.key)).getD (enc k) = enc k := by
        rw [Array.getElem?_eq_getElem hj]; simp [hkey]
      have hsame : (ents.modify j fun e => { e with key := enc k }) = ents := by
        apply Array.ext
        · simp
        · intro q q1 q2
          rw [Array.getElem_modify]
          split
          · rename_i hjq; subst hjq
            have hk2 : ∀ e : MapEntry, e.key = enc k → ({ e with key := enc k } : MapEntry) = e := fun e he => by
              cases e; simp only at he; subst he; rfl
            exact hk2 _ hkey
          · rfl
      refine ⟨ents, clock, j, ents[j].born, ents[j].val, ?_, ?_, fun a => ?_, h2, h3, h4, h5, hj, rfl⟩
      · simp only [Sem.run_bind, Nat.zero_add, hgd, run_keyThatStays (P := P) (kt := kt), Result.andThen_ok, hsame, MapKept.run_setObj_map _ h1, Sem.run_pure, goInt]
        simp only [Array.getElem?_eq_getElem hj, Option.map_some, Option.getD_some]
        rfl
      · rw [b]
        have := (h3 j (by simpa [encM] using g1) hj).2
        simpa [encM] using this
      · rw [d a]
        refine List.ext_getElem (by simp [encM]) fun q q1 q2 => ?_
        simp only [encM, List.getElem_modify, List.getElem_map, List.getElem_set]
        split
        · rename_i hq; subst hq; rw [c]
        · rfl
  obtain ⟨ents', clock', j, st, v, e, hv, hmod, e1, e2, e3, e4, e5, e6⟩ := hrun
  rw [semAt_nd rfl]
  have e' : (execOp a.eval (⟨some d, .mapEntry T x y, ty, pos, after, guard⟩ : Oper)).run P w = .ok (.value (.tuple #[v, .int .i64 (st : Nat)])) { w with heap := w.heap.setIfInBounds r (.map ents' clock') } := run_v _ e
  rw [e']
  have hlt' : r < w.heap.size := (Array.getElem?_eq_some_iff.1 h1).1
  have hoth : ∀ b, b ≠ r → (w.heap.setIfInBounds r (.map ents' clock'))[b]? = w.heap[b]? := fun b hb => by rw [Array.getElem?_setIfInBounds_ne (Ne.symm hb)]
  have hrown : OO h X r := .inl (mem_owns.2 ⟨_, List.mem_of_getElem? hm.h, by simp [Res.own]⟩)
  have hkk : ∀ b, ¬ OO h X b → b < w.heap.size → (w.heap.setIfInBounds r (.map ents' clock'))[b]? = w.heap[b]? ∧ ¬ OO h X b := fun b hb hl => ⟨hoth b (fun q => hb (q ▸ hrown)), hb⟩
  have hholds : (Res.mape r (encM enc (entM k (.v zv) es)) j st).holds { w with heap := w.heap.setIfInBounds r (.map ents' clock') } (OO h X) :=
    ⟨ents', clock', by simp [hlt'], e1, fun i a1 a2 => ⟨(e2 i a1 a2).1, (e2 i a1 a2).2.keep (by simp) hkk⟩, e3, e4, e5, e6⟩
  have hh2 := hs.heap.set (w' := { w with heap := w.heap.setIfInBounds r (.map ents' clock') }) hm.h (y := .mape r (encM enc (entM k (.v zv) es)) j st) rfl (by simp) (fun b hb hne => hoth b (by simpa [Res.own] using hne)) hholds
  rw [(hset _).h] at hh2
  have hown : owns (h' (.mape r (encM enc (entM k (.v zv) es)) j st)) = owns h := by rw [← (hset _).h]; exact owns_set hm.h rfl
  have hkeep : Keep (owns h) w (owns (h' (.mape r (encM enc (entM k (.v zv) es)) j st))) { w with heap := w.heap.setIfInBounds r (.map ents' clock') } := ⟨by simp, fun b hb ho => ⟨hoth b (fun q => ho (q ▸ mem_owns.2 ⟨_, List.mem_of_getElem? hm.h, by simp [Res.own]⟩)), by rw [hown]; exact ho⟩, rfl, rfl⟩
  have hkoo := fun b hb hl => hkeep.oo (X := X) b hb hl
  refine hK _ _ _ (hk j st hmod) (Sim.put (s := ⟨t, h' (.mape r (encM enc (entM k (.v zv) es)) j st), ds⟩) ⟨hh2, hs.size, hs.fr.keep hkeep.size (fun b hb hl => hkoo b hb hl), hs.defs⟩ hlt (.tup _ _ rfl fun q q1 q2 => ?_)) hkeep
  match q, q1, q2 with
  | 0, _, _ => exact hv.keep hkeep.size (fun b hb hl => hkoo b hb hl)
  | 1, _, _ => exact .v _
  | q + 2, q1, _ => simp at q1; omega
theorem oe_entryStore {j st : Nat} {es' es2 : List (Value × AV)} {h' : List Res} (hx : ev t x = some (.v (.map (some r)))) (hy : ev t y = some (.v (.int .i64 st))) (hz : ev t z = some av) [hm : HasMapE h r i es' j st] (he : es'.modify j (fun p => (p.1, av)) = es2)
    [hset : SetAt h i (.map r es2) h'] (hk : next ⟨t, h', ds⟩) : OE P ro nt ⟨none, .entryStore T x y z, ty, pos, after, guard⟩ ⟨t, h, ds⟩ next := by
  refine oe_skip_run rfl rfl (fun X a w hs => ?_) hk
  obtain ⟨ents, clock, h1, h2, h3, h4, h5, hj, h6⟩ := hs.heap.holds _ (List.mem_of_getElem? hm.h)
  have hrv := hs.env.rel z _ hz
  subst he
  have hidx : ents.findIdx? (fun e => ((e.born : Nat) : Int) == ((st : Nat) : Int)) = some j := by
    rw [Array.findIdx?_eq_some_iff_getElem]
    refine ⟨hj, by simp [h6], fun q hq => ?_⟩
    have := h5 q j (by omega) hj hq
    simp; omega
  obtain ⟨ents', hents⟩ : ∃ e, e = ents.modify j (fun e => { e with val := a.eval z }) := ⟨_, rfl⟩
  have hsz : ents'.size = ents.size := by rw [hents]; simp
  have hrun : (Instr.entryStore T (a.eval x) (a.eval y) (a.eval z)).run P w = .ok () { w with heap := w.heap.setIfInBounds r (.map ents' clock) } := by
    rw [(hs.env.rel x _ hx).v_eq, (hs.env.rel y _ hy).v_eq]
    simp only [Instr.entryStore, Sem.run_bind, MapKept.run_getObj_map h1, Result.andThen_ok, asInt, asIntOf, Sem.run_pure, hidx, MapKept.run_setObj_map _ h1, hents]
  have hlt : r < w.heap.size := (Array.getElem?_eq_some_iff.1 h1).1
  have hoth : ∀ b, b ≠ r → (w.heap.setIfInBounds r (.map ents' clock))[b]? = w.heap[b]? := fun b hb => by rw [Array.getElem?_setIfInBounds_ne (Ne.symm hb)]
  have hrown : OO h X r := .inl (mem_owns.2 ⟨_, List.mem_of_getElem? hm.h, by simp [Res.own]⟩)
  have hkk : ∀ b, ¬ OO h X b → b < w.heap.size → (w.heap.setIfInBounds r (.map ents' clock))[b]? = w.heap[b]? ∧ ¬ OO h X b := fun b hb hl => ⟨hoth b (fun q => hb (q ▸ hrown)), hb⟩
  have hmapholds : (Res.map r (es'.modify j (fun p => (p.1, av)))).holds { w with heap := w.heap.setIfInBounds r (.map ents' clock) } (OO h X) := by
    refine ⟨ents', clock, by simp [hlt], by simp [hsz, h2], fun i a1 a2 => ?_, fun i a1 => ?_, fun i j' a1 a2 a3 => ?_⟩
    · have b1 : i < es'.length := by simpa using a1
      have b2 : i < ents.size := by omega
      have := h3 i b1 b2
      subst hents
      rw [List.getElem_modify, Array.getElem_modify]
      split
      · exact ⟨this.1, hrv.keep (by simp) hkk⟩
      · exact ⟨this.1, this.2.keep (by simp) hkk⟩
    · subst hents
      rw [Array.getElem_modify]
      have b2 : i < ents.size := by simpa using a1
      split <;> exact h4 i b2
    · subst hents
      have b1 : i < ents.size := by simpa using a1
      have b2 : j' < ents.size := by simpa using a2
      rw [Array.getElem_modify, Array.getElem_modify]
      split <;> split <;> exact h5 i j' b1 b2 a3
  have hh2 := hs.heap.set (w' := { w with heap := w.heap.setIfInBounds r (.map ents' clock) }) hm.h (y := .map r (es'.modify j (fun p => (p.1, av)))) rfl (by simp) (fun b hb hne => hoth b (by simpa [Res.own] using hne)) hmapholds
  rw [hset.h] at hh2
  have hown : owns h' = owns h := by rw [← hset.h]; exact owns_set hm.h rfl
  have hkeep : Keep (owns h) w (owns h') { w with heap := w.heap.setIfInBounds r (.map ents' clock) } := ⟨by simp, fun b hb ho => ⟨hoth b (fun q => ho (q ▸ mem_owns.2 ⟨_, List.mem_of_getElem? hm.h, by simp [Res.own]⟩)), by rw [hown]; exact ho⟩, rfl, rfl⟩
  exact ⟨_, run_u hrun, ⟨hh2, hs.size, hs.fr.keep hkeep.size (fun b hb hl => hkeep.oo b hb hl), hs.defs⟩, hkeep⟩
/-- Looked up while its entry is there ahead of its value. -/
theorem qr_lookup_e {kv : AV} {zv : Value} {j st : Nat} (hx : f x = some (.v (.map (some r)))) (hy : f y = some kv) [hkv : KeyV kv (enc k)] [hm : HasMapE h r i (encM enc (entM k (.v zv) es)) j st] [hu : Und P T (.map kt et)] [hkt : KeyT P kt enc] [hz : ZerV P et zv]
    (hl : (lookM k es).getD (.v zv) = av) : QR P h f ⟨dst, .lookup T x y false, ty, pos, after, guard⟩ av := fun X ρ w hev => by
  obtain ⟨ents, clock, h1, h2, h3, h4, h5, _⟩ := hev.heap.holds _ (List.mem_of_getElem? hm.h)
  have hks := keys_of_holds h2 h3
  have hl' : (entM k (.v zv) es).length = ents.toList.length := by simpa [encM] using h2
  have hfind := hkt.find w k ents.toList ((entM k (.v zv) es).map (·.1)) hks
  have key := lookM_ent k (.v zv) es
  rw [hl] at key
  have hrun : ∃ v, (Instr.lookup T (ρ x) (ρ y) false).run P w = .ok v w ∧ Rel w (OO h X) av v := by
    rw [(hev.rel x _ hx).v_eq, hkv.h w _ _ (hev.rel y _ hy)]
    simp only [Instr.lookup, Sem.run_bind, run_underlying (h := hu), Result.andThen_ok, MapKept.run_getObj_map h1, Sem.run_pure, hkt.chk, hfind]
    rcases fK_spec k (entM k (.v zv) es) ents.toList 0 hl' with ⟨a, b, c⟩ | ⟨j, g1, g2, a, b, c, d⟩
    · rw [b] at key
      refine ⟨zv, ?_, by rw [← key]; exact .v _⟩
      rw [a]; simp [run_zeroValue hz.h]
    · rw [b] at key
      refine ⟨(ents[j]'(by simpa using g2)).val, ?_, ?_⟩
      · rw [a]; simp
      · have := (h3 j (by simpa [encM] using g1) (by simpa using g2)).2
        rw [← key]; simpa [encM] using this
  obtain ⟨v, e, hr⟩ := hrun
  exact ⟨v, run_v _ e, hr⟩
end
end Go.Ab
/- Keys of maps that are three whole numbers. Conditions: aS each lemma states. -/
set_option linter.unusedVariables false
set_option linter.unusedSimpArgs false
namespace Go.Ab
open Go
def int3K (p : Int × Int × Int) : Value := .agg #[.int .i64 p.1, .int .i64 p.2.1, .int .i64 p.2.2]
class Chk3 (P : Program) (kt : TypeId) : Prop where
  h : ∀ (e : Bool) (w : World) (a b c : Int), (Instr.checkKey e 10000 kt (.agg #[.int .i64 a, .int .i64 b, .int .i64 c])).run P w = .ok () w
instance KeyT.int3 {P : Program} {kt : TypeId} [he : EqInts P kt 3] [hc : Chk3 P kt] [hi : IsA P kt true] : KeyT P kt int3K where
  inj := fun a b h => by
    obtain ⟨a1, a2, a3⟩ := a; obtain ⟨b1, b2, b3⟩ := b
    simpa [int3K] using h
  stays := fun a => by simp [int3K, Instr.sameBits]
  chk := fun e w k => hc.h e w k.1 k.2.1 k.2.2
  find := fun w k l ks h => by
    obtain ⟨d, hd, hb⟩ := hi.h
    refine (congrArg (fun r => r) (run_findKey_eq (P := P) (w := w) (k := kt) (by rw [hd]; cases d <;> simp [aggB] at hb ⊢) _ l)).trans ?_
    refine findAsking_fK (fun w a b => ?_) k w l ks 0 h
    have := run_eqints (P := P) (T := kt) w (xs := [a.1, a.2.1, a.2.2]) (ys := [b.1, b.2.1, b.2.2]) rfl rfl
    simp only [int3K]
    refine this.trans ?_
    obtain ⟨a1, a2, a3⟩ := a; obtain ⟨b1, b2, b3⟩ := b
    congr 1
    by_cases h1 : a1 = b1 <;> by_cases h2 : a2 = b2 <;> by_cases h3 : a3 = b3 <;> simp [h1, h2, h3]
instance KeyV.int3 {a b c : Int} : KeyV (.agg [.v (.int .i64 a), .v (.int .i64 b), .v (.int .i64 c)]) (int3K (a, b, c)) := ⟨fun w O u r => by
  cases r with
  | agg _ cs hl hr =>
    simp at hl
    have h0 := (hr 0 (by simp) (by omega)).v_eq
    have h1 := (hr 1 (by simp) (by omega)).v_eq
    have h2 := (hr 2 (by simp) (by omega)).v_eq
    simp only [int3K]
    congr 1
    apply Array.ext
    · simp [← hl]
    · intro i hi hi2
      match i, hi, hi2 with
      | 0, _, _ => exact h0
      | 1, _, _ => exact h1
      | 2, _, _ => exact h2
      | i + 3, hi, hi2 => simp at hi2; omega⟩
end Go.Ab
/- Maps aS rows of pairs: looked up, written, counted. Conditions: none (lemmas over any program). -/
set_option linter.unusedVariables false
set_option linter.unusedSimpArgs false
namespace Go.Ab
open Go
/-- A value that may be taken for another one. -/
class ZV (z : Value) (a : AV) : Prop where
  h : ∀ w O u, Rel w O (.v z) u → Rel w O a u
instance ZV.v {z : Value} : ZV z (.v z) := ⟨fun _ _ _ h => h⟩
instance ZV.agg2 {a b : Value} : ZV (.agg #[a, b]) (.agg [.v a, .v b]) := ⟨fun w O u h => by
  rw [h.v_eq]
  refine .agg _ _ rfl fun j h1 h2 => ?_
  match j, h1, h2 with
  | 0, _, _ => exact .v _
  | 1, _, _ => exact .v _
  | j + 2, h1, _ => simp at h1; omega⟩
instance ZV.agg3 {a b c : Value} : ZV (.agg #[a, b, c]) (.agg [.v a, .v b, .v c]) := ⟨fun w O u h => by
  rw [h.v_eq]
  refine .agg _ _ rfl fun j h1 h2 => ?_
  match j, h1, h2 with
  | 0, _, _ => exact .v _
  | 1, _, _ => exact .v _
  | 2, _, _ => exact .v _
  | j + 3, h1, _ => simp at h1; omega⟩
theorem qr_weak {P : Program} {h : List Res} {f : Operand → Option AV} {o : Oper} {a b : AV} (hw : ∀ w O v, Rel w O a v → Rel w O b v) (q : QR P h f o a) : QR P h f o b := fun X ρ w he =>
  let ⟨v, e, r⟩ := q X ρ w he; ⟨v, e, hw _ _ _ r⟩
section
variable {P : Program} {ro : Option Nat} {nt : Nat} {dst : Option Tmp} {ty : TypeId} {pos : String} {after : Array Edge} {guard : Option (Nat × Bool)} {x y z : Operand} {t : Fr} {h h' : List Res} {ds : List Nat} {next : St → Prop} {f : Operand → Option AV}
  {K V : Type} [DecidableEq K] {enc : K → Value} {g : V → AV} {m : List (K × V)} {kt et T : TypeId} {r i : Nat} {k : K} {kv : AV}
theorem look_def {zv : Value} {d : V} [hz : ZV zv (g d)] {w : World} {O : Nat → Prop} {u : Value} (h : Rel w O ((lookM k (mapA g m)).getD (.v zv)) u) : Rel w O (g ((getT k m).getD d)) u := by
  rw [lookM_mapA] at h
  cases hg : getT k m with
  | some a => rw [hg] at h; exact h
  | none => rw [hg] at h; exact hz.h w O u h
theorem qr_lookT (d : V) {zv : Value} (hx : f x = some (.v (.map (some r)))) (hy : f y = some kv) [hkv : KeyV kv (enc k)] [hm : HasMap h r i (encM enc (mapA g m))] [hu : Und P T (.map kt et)] [hkt : KeyT P kt enc] [hz : ZerV P et zv] [hd : ZV zv (g d)] :
    QR P h f ⟨dst, .lookup T x y false, ty, pos, after, guard⟩ (g ((getT k m).getD d)) :=
  qr_weak (fun w O v hr => look_def hr) (qr_lookup hx hy rfl)
theorem qr_lookT2 (d : V) {zv : Value} {b : Bool} (hx : f x = some (.v (.map (some r)))) (hy : f y = some kv) [hkv : KeyV kv (enc k)] [hm : HasMap h r i (encM enc (mapA g m))] [hu : Und P T (.map kt et)] [hkt : KeyT P kt enc] [hz : ZerV P et zv] [hd : ZV zv (g d)]
    (hb : (getT k m).isSome = b) : QR P h f ⟨dst, .lookup T x y true, ty, pos, after, guard⟩ (.tup [g ((getT k m).getD d), .v (.bool b)]) :=
  qr_weak (fun w O v hr => by
    cases hr with
    | tup _ cs hl hr =>
      refine .tup _ _ (by simpa using hl) fun j h1 h2 => ?_
      match j, h1, h2 with
      | 0, _, h2 => exact look_def (hr 0 (by simp) h2)
      | 1, _, h2 => exact hr 1 (by simp) h2
      | j + 2, h1, _ => simp at h1; omega) (qr_lookup2 hx hy rfl (b := b) (by rw [lookM_mapA, Option.isSome_map]; exact hb))
theorem qr_lookTe (d : V) {zv : Value} {j st : Nat} (hx : f x = some (.v (.map (some r)))) (hy : f y = some kv) [hkv : KeyV kv (enc k)] [hm : HasMapE h r i (encM enc (entM k (.v zv) (mapA g m))) j st] [hu : Und P T (.map kt et)] [hkt : KeyT P kt enc] [hz : ZerV P et zv] [hd : ZV zv (g d)] :
    QR P h f ⟨dst, .lookup T x y false, ty, pos, after, guard⟩ (g ((getT k m).getD d)) :=
  qr_weak (fun w O v hr => look_def hr) (qr_lookup_e hx hy rfl)
theorem oe_mapUpdT {v : V} (hx : ev t x = some (.v (.map (some r)))) (hy : ev t y = some kv) (hz : ev t z = some (g v)) [hkv : KeyV kv (enc k)] [hm : HasMap h r i (encM enc (mapA g m))] [hu : Und P T (.map kt et)] [hkt : KeyT P kt enc]
    [hset : SetAt h i (.map r (encM enc (mapA g (putT k v m)))) h'] (hk : next ⟨t, h', ds⟩) : OE P ro nt ⟨none, .mapUpdate T x y z, ty, pos, after, guard⟩ ⟨t, h, ds⟩ next := by
  have : SetAt h i (.map r (encM enc (updM k (g v) (mapA g m)))) h' := by rw [updM_mapA]; exact hset
  exact oe_mapUpdate hx hy hz hk
theorem oe_mapEntT {d : Tmp} {zv : Value} {h' : Res → List Res} (hlt : dok nt (some d) = true) (hx : ev t x = some (.v (.map (some r)))) (hy : ev t y = some kv) [hkv : KeyV kv (enc k)] [hm : HasMap h r i (encM enc (mapA g m))] [hu : Und P T (.map kt et)] [hkt : KeyT P kt enc] [hz : ZerV P et zv]
    [hset : ∀ y, SetAt h i y (h' y)] (hk : ∀ (j st : Nat), (∀ v, (encM enc (entM k (.v zv) (mapA g m))).modify j (fun p => (p.1, g v)) = encM enc (mapA g (putT k v m))) →
      next ⟨(d, .tup [(lookM k (mapA g m)).getD (.v zv), .v (.int .i64 st)]) :: t, h' (.mape r (encM enc (entM k (.v zv) (mapA g m))) j st), ds⟩) :
    OE P ro nt ⟨some d, .mapEntry T x y, ty, pos, after, guard⟩ ⟨t, h, ds⟩ next :=
  oe_mapEntry hlt hx hy fun j st hj => hk j st fun v => by rw [hj (g v), updM_mapA]
theorem oe_entStT {v : V} {j st : Nat} {es' : List (Value × AV)} (hx : ev t x = some (.v (.map (some r)))) (hy : ev t y = some (.v (.int .i64 st))) (hz : ev t z = some (g v)) [hm : HasMapE h r i es' j st] (he : es'.modify j (fun p => (p.1, g v)) = encM enc (mapA g (putT k v m)))
    [hset : SetAt h i (.map r (encM enc (mapA g (putT k v m)))) h'] (hk : next ⟨t, h', ds⟩) : OE P ro nt ⟨none, .entryStore T x y z, ty, pos, after, guard⟩ ⟨t, h, ds⟩ next :=
  oe_entryStore hx hy hz he hk
theorem oe_q {d : Tmp} {op : Op} {av : AV} (hq : QR P h (ev t) ⟨some d, op, ty, pos, after, guard⟩ av) (hk : next ⟨(d, av) :: t, h, ds⟩) (hd : dok nt (some d) = true := by rfl) (hn : notDefer ⟨some d, op, ty, pos, after, guard⟩ = true := by rfl) :
    OE P ro nt ⟨some d, op, ty, pos, after, guard⟩ ⟨t, h, ds⟩ next := fun X a w K Q hs hK =>
  qv_of_qr hq hn X a w K Q hs.env fun v w' hr hh hkp => hK _ _ _ hk (Sim.put (s := ⟨t, h, ds⟩) ⟨hh, hs.size, hs.fr.keep hkp.size (fun b hb hl => hkp.oo b hb hl), hs.defs⟩ hd hr) hkp
theorem qr_len_map {tys : List TypeId} (hx : f x = some (.v (.map (some r)))) [hm : HasMap h r i (encM enc (mapA g m))] [hu : Und P T (.map kt et)] : QR P h f ⟨dst, .call ⟨.builtin .len, [x].toArray, (T :: tys).toArray⟩, ty, pos, after, guard⟩ (.v (.int .i64 m.length)) := fun X ρ w he => by
  obtain ⟨ents, clock, h1, h2, _⟩ := he.heap.holds _ (List.mem_of_getElem? hm.h)
  refine ⟨.int .i64 m.length, ?_, .v _⟩
  have hl : m.length = ents.size := by simpa [encM, mapA] using h2
  simp only [execOp, resolve, List.map_toArray, List.map_cons, List.map_nil, (he.rel x _ hx).v_eq, Sem.run_bind, Sem.run_pure, Result.andThen_ok, invoke, builtin, Builtin.len_, List.getElem?_toArray, List.getElem?_cons_zero, run_underlying (h := hu), MapKept.run_getObj_map h1, hl]
  rfl
end
end Go.Ab
/- The abstract logic, part 29: regions that draw their order, with operations that change memory among them. Conditions: the program draws freely ('mixedOrders'). -/
set_option linter.unusedVariables false
set_option linter.unusedSimpArgs false
namespace Go.Ab
open Go
def mem? (i : Nat) (l : List Nat) : Bool := l.any (Nat.beq i)
theorem mem?_iff {i : Nat} {l : List Nat} : mem? i l = true ↔ i ∈ l := by
  rw [mem?, List.any_eq_true]
  constructor
  · rintro ⟨x, hx, e⟩; rw [Nat.eq_of_beq_eq_true e]; exact hx
  · intro h; exact ⟨i, h, by simp⟩
def nodupB : List Nat → Bool
  | [] => true
  | i :: r => !mem? i r && nodupB r
theorem nodupB_of : ∀ {l : List Nat}, nodupB l = true → l.Nodup
  | [], _ => .nil
  | i :: r, h => by
    simp only [nodupB, Bool.and_eq_true, Bool.not_eq_true'] at h
    exact List.nodup_cons.2 ⟨fun hm => (by rw [mem?_iff.2 hm] at h; cases h.1), nodupB_of h.2⟩
def soupJ (l : List Oper) (n : Nat) (eff late : List Nat) : Bool :=
  (late.all fun i => !mem? i eff && Nat.blt i n && eff.all fun j => (clos l i (predsOf l i)).any (Nat.beq j)) && nodupB late &&
  Nat.ble n l.length &&
  ((List.range l.length).all fun i => (predsOf l i).all fun j => Nat.blt j i) &&
  ((List.range n).all fun i => match l[i]? with
    | some o => (match o.dst with
      | some d => ((List.range n).all fun j => Nat.beq j i || match dstOf l j with
        | some d' => !Nat.beq d d'
        | none => true)
      | none => mem? i eff) && (!mem? i eff || (match o.guard with
        | none => true
        | some _ => false))
    | none => false) &&
  ((List.range l.length).all fun t => Nat.blt t n || (List.range t).all fun j => (clos l t (predsOf l t)).any (Nat.beq j))
structure SoupD (l : List Oper) (n : Nat) (eff late : List Nat) : Prop extends SoupT l n where
  lat : ∀ i ∈ late, i ∉ eff ∧ i < n ∧ ∀ j ∈ eff, j ∈ clos l i (predsOf l i)
  lnd : late.Nodup
  dst : ∀ i, i < n → ∃ o, l[i]? = some o ∧ (i ∉ eff → ∃ d, o.dst = some d) ∧ (i ∈ eff → o.guard = none) ∧ ∀ d, o.dst = some d → ∀ j, j < n → j ≠ i → ∀ d', dstOf l j = some d' → d ≠ d'
theorem soupD_of {l : List Oper} {n : Nat} {eff late : List Nat} (hc : soupJ l n eff late = true) : SoupD l n eff late := by
  simp only [soupJ, Bool.and_eq_true, List.all_eq_true, List.mem_range] at hc
  obtain ⟨⟨⟨⟨⟨h5, h6⟩, h1⟩, h2⟩, h3⟩, h4⟩ := hc
  refine ⟨⟨Nat.le_of_ble_eq_true h1, fun i hi j hj => Nat.le_of_ble_eq_true (h2 i hi j hj), fun t ht htl j hj => ?_⟩, fun i hi => ?_, nodupB_of h6, fun i hi => ?_⟩
  rotate_left
  · obtain ⟨⟨g1, g2⟩, g3⟩ := h5 i hi
    refine ⟨fun hm => (by rw [mem?_iff.2 hm] at g1; cases g1), Nat.le_of_ble_eq_true g2, fun j hj => ?_⟩
    obtain ⟨x, hx, e⟩ := List.any_eq_true.1 (g3 j hj)
    rw [Nat.eq_of_beq_eq_true e]; exact hx
  rotate_left
  · have := h4 t htl
    simp only [Bool.or_eq_true] at this
    rcases this with e | e
    · exact absurd (Nat.le_of_ble_eq_true e) (by omega)
    · have := List.all_eq_true.1 e j (List.mem_range.2 hj)
      obtain ⟨x, hx, e2⟩ := List.any_eq_true.1 this
      rw [Nat.eq_of_beq_eq_true e2]; exact hx
  · have := h3 i hi
    split at this
    · rename_i o ho
      simp only [Bool.and_eq_true] at this
      obtain ⟨g1, g2⟩ := this
      refine ⟨o, ho, fun hne => ?_, fun he => ?_, fun d hd j hj hji d' hd' => ?_⟩
      · cases hd : o.dst with
        | some d => exact ⟨d, rfl⟩
        | none => simp only [hd] at g1; exact absurd (mem?_iff.1 g1) hne
      · rw [mem?_iff.2 he] at g2
        simp only [Bool.not_true, Bool.false_or] at g2
        split at g2
        · assumption
        · cases g2
      · simp only [hd] at g1
        have := List.all_eq_true.1 g1 j (List.mem_range.2 hj)
        simp only [hd', Bool.or_eq_true, Bool.not_eq_true'] at this
        rcases this with e | e
        · exact absurd (Nat.eq_of_beq_eq_true e) hji
        · exact Nat.ne_of_beq_eq_false e
    · cases this
/-- What stands ahead of an operation that changes memory: what it waits for. -/
def fltP (ds : List Tmp) (f : Fr) : Fr := f.filter fun p => ds.any (Nat.beq p.1)
def fltN (ds : List Tmp) (f : Fr) : Fr := f.filter fun p => !ds.any (Nat.beq p.1)
def stF (o : Oper) (av : AV) (f : Fr) : Fr := match o.dst with
  | some d => (d, av) :: f
  | none => f
theorem lk_flt {q : Nat → Bool} : ∀ {f : Fr} {d : Nat}, q d = true → lk (f.filter fun p => q p.1) d = lk f d
  | [], _, _ => rfl
  | (j, a) :: f, d, hq => by
    have ih := lk_flt (f := f) hq
    simp only [List.filter_cons, lk]
    split
    · simp only [lk, ih]
    · rename_i hj
      have : Nat.beq j d = false := by
        cases h : Nat.beq j d with
        | false => rfl
        | true => rw [Nat.eq_of_beq_eq_true h] at hj; exact absurd hq hj
      rw [this]; exact ih
theorem lk_fltN {q : Nat → Bool} : ∀ {f : Fr} {d : Nat}, q d = false → lk (f.filter fun p => q p.1) d = none
  | [], _, _ => rfl
  | (j, a) :: f, d, hq => by
    have ih := lk_fltN (f := f) hq
    simp only [List.filter_cons]
    split
    · rename_i hj
      simp only [lk]
      have : Nat.beq j d = false := by
        cases h : Nat.beq j d with
        | false => rfl
        | true => rw [Nat.eq_of_beq_eq_true h] at hj; rw [hq] at hj; cases hj
      rw [this]; exact ih
    · exact ih
section
variable {P : Program} {ro : Option Nat} {nt : Nat} {l : List Oper} {eff : List Nat} {sd : List Tmp} {t0 : Fr} {C : List Res → Prop}
def QJ (P : Program) (ro : Option Nat) (nt : Nat) (C : List Res → Prop) (l : List Oper) (sd : List Tmp) (t0 : Fr) (o : Oper) (d : Tmp) (av : AV) (e : Fr) : Prop :=
  o.dst = some d ∧ Nat.blt d nt = true ∧ ((gdS l (lkS sd (pdst l o) e t0) o = some true ∧ ∀ h, C h → QV P ro h (evS sd (pdst l o) e t0) o av) ∨ (gdS l (lkS sd (pdst l o) e t0) o = some false ∧ av = .v undef))
/-- The operations that leave memory aS it is, in the text's order. -/
def jsoup (P : Program) (ro : Option Nat) (nt : Nat) (C : List Res → Prop) (l : List Oper) (eff : List Nat) (sd : List Tmp) (t0 : Fr) : List Oper → Nat → Fr → (Fr → Prop) → Prop
  | [], _, e, K => K e
  | o :: rest, i, e, K => (mem? i eff = true ∧ jsoup P ro nt C l eff sd t0 rest (i + 1) e K) ∨ (mem? i eff = false ∧ ∃ d av, QJ P ro nt C l sd t0 o d av e ∧ jsoup P ro nt C l eff sd t0 rest (i + 1) ((d, av) :: e) K)
theorem jnil {i : Nat} {e : Fr} {K : Fr → Prop} (hk : K e) : jsoup P ro nt C l eff sd t0 [] i e K := hk
theorem je {o : Oper} {rest : List Oper} {i : Nat} {e : Fr} {K : Fr → Prop} (hi : mem? i eff = true) (hk : jsoup P ro nt C l eff sd t0 rest (i + 1) e K) : jsoup P ro nt C l eff sd t0 (o :: rest) i e K := .inl ⟨hi, hk⟩
theorem jq {d : Tmp} {op : Op} {ty : TypeId} {pos : String} {after : Array Edge} {g : Option (Nat × Bool)} {av : AV} {rest : List Oper} {i : Nat} {e : Fr} {K : Fr → Prop}
    (hg : gdS l (lkS sd (pdst l ⟨some d, op, ty, pos, after, g⟩) e t0) ⟨some d, op, ty, pos, after, g⟩ = some true)
    (hq : ∀ h, C h → QR P h (evS sd (pdst l ⟨some d, op, ty, pos, after, g⟩) e t0) ⟨some d, op, ty, pos, after, g⟩ av) (hk : jsoup P ro nt C l eff sd t0 rest (i + 1) ((d, av) :: e) K)
    (hi : mem? i eff = false := by rfl) (hd : Nat.blt d nt = true := by rfl) (hn : notDefer ⟨some d, op, ty, pos, after, g⟩ = true := by rfl) : jsoup P ro nt C l eff sd t0 (⟨some d, op, ty, pos, after, g⟩ :: rest) i e K :=
  .inr ⟨hi, d, av, ⟨rfl, hd, .inl ⟨hg, fun h hc => qv_of_qr (hq h hc) hn⟩⟩, hk⟩
/-- The facts, one by one, over the whole. -/
theorem jfacts {n : Nat} {ef la : List Nat} (hC : SoupD l n ef la) (hsk : ∀ i, i ∉ eff → i ∉ ef) {K : Fr → Prop} : ∀ {os : List Oper} {i : Nat} {e : Fr}, i + os.length = n → os = (l.take n).drop i → (∀ d a, lk e d = some a → ∃ j, j < i ∧ j ∉ eff ∧ dstOf l j = some d) → (∀ j, j < i → j ∉ eff → ∀ d, dstOf l j = some d → lk e d ≠ none) → jsoup P ro nt C l eff sd t0 os i e K →
    ∃ E, K E ∧ (∀ d a, lk e d = some a → lk E d = some a) ∧ (∀ d a, lk E d = some a → ∃ j, j < n ∧ j ∉ eff ∧ dstOf l j = some d) ∧ (∀ j, j < n → j ∉ eff → ∀ d, dstOf l j = some d → lk E d ≠ none) ∧
      ∀ j o, i ≤ j → j < n → j ∉ eff → l[j]? = some o → ∃ d av e', lk E d = some av ∧ (∀ d a, lk e' d = some a → lk E d = some a) ∧ QJ P ro nt C l sd t0 o d av e'
  | [], i, e, hn, ho, he, hf, hk => ⟨e, hk, fun _ _ h => h, fun d a h => let ⟨j, h1, h2⟩ := he d a h; ⟨j, by simp at hn; omega, h2⟩, fun j hj => hf j (by simp at hn; omega), fun j o h1 h2 => by simp at hn; omega⟩
  | o :: os, i, e, hn, ho, he, hf, hk => by
    have hin : i < n := by simp at hn; omega
    have hoi : l[i]? = some o := by
      have : (l.take n)[i]? = some o := by
        have := congrArg List.head? ho
        rw [List.head?_cons, List.head?_drop] at this; exact this.symm
      rwa [List.getElem?_take_of_lt hin] at this
    have ho' : os = (l.take n).drop (i + 1) := by
      have := congrArg List.tail ho
      rwa [List.tail_cons, List.tail_drop] at this
    rcases hk with ⟨hi, hk⟩ | ⟨hi, d, av, hq, hk⟩
    · have hie := mem?_iff.1 hi
      obtain ⟨E, h1, h2, h3, h4, h5⟩ := jfacts hC hsk (by simp at hn; omega) ho' (fun d a h => let ⟨j, g1, g2⟩ := he d a h; ⟨j, by omega, g2⟩) (fun j hj hje d hd => by
        rcases Nat.lt_or_ge j i with h | h
        · exact hf j h hje d hd
        · have : j = i := by omega
          subst this; exact absurd hie hje) hk
      refine ⟨E, h1, h2, h3, h4, fun j oj hj1 hj2 hje hoj => ?_⟩
      rcases Nat.lt_or_ge i j with h | h
      · exact h5 j oj h hj2 hje hoj
      · have : j = i := by omega
        subst this; exact absurd hie hje
    · have hie : i ∉ eff := fun h => by rw [mem?_iff.2 h] at hi; cases hi
      obtain ⟨o2, g1, _, _, g4⟩ := hC.dst i hin
      have : o2 = o := Option.some.inj (g1.symm.trans hoi)
      subst this
      have hdd : dstOf l i = some d := by simp [dstOf, hoi, hq.1]
      have hnew : lk e d = none := by
        cases hl : lk e d with
        | none => rfl
        | some a =>
          obtain ⟨j, k1, k2, k3⟩ := he d a hl
          exact absurd rfl (g4 d hq.1 j (by omega) (by omega) d k3)
      have hmono : ∀ d' a, lk e d' = some a → lk ((d, av) :: e) d' = some a := fun d' a h => by
        simp only [lk]
        split
        · rename_i hb
          rw [← Nat.eq_of_beq_eq_true hb, hnew] at h; cases h
        · exact h
      obtain ⟨E, h1, h2, h3, h4, h5⟩ := jfacts hC hsk (by simp at hn; omega) ho' (fun d' a h => by
        simp only [lk] at h
        split at h
        · rename_i hb
          rw [← Nat.eq_of_beq_eq_true hb]; exact ⟨i, by omega, hie, hdd⟩
        · obtain ⟨j, k1, k2⟩ := he d' a h; exact ⟨j, by omega, k2⟩) (fun j hj hje d' hd' => by
        simp only [lk]
        split
        · simp
        · rename_i hb
          rcases Nat.lt_or_ge j i with h | h
          · exact hf j h hje d' hd'
          · have : j = i := by omega
            subst this
            rw [hdd] at hd'; cases hd'
            simp at hb) hk
      refine ⟨E, h1, fun d' a h => h2 d' a (hmono d' a h), h3, h4, fun j oj hj1 hj2 hje hoj => ?_⟩
      rcases Nat.lt_or_ge i j with h | h
      · exact h5 j oj h hj2 hje hoj
      · have : j = i := by omega
        subst this
        have : oj = o2 := Option.some.inj (hoj.symm.trans hoi)
        subst this
        exact ⟨d, av, e, h2 d av (by simp [lk]), fun d' a h => h2 d' a (hmono d' a h), hq⟩
end
/-- Those that wait for all that changes memory. -/
def lsoup (P : Program) (ro : Option Nat) (nt : Nat) (he : List Res) (l : List Oper) (sd : List Tmp) (t0 : Fr) : List Nat → Fr → (Fr → Prop) → Prop
  | [], e, K => K e
  | i :: r, e, K => ∃ o d av, l[i]? = some o ∧ QJ P ro nt (fun h => h = he) l sd t0 o d av e ∧ lsoup P ro nt he l sd t0 r ((d, av) :: e) K
section
variable {P : Program} {ro : Option Nat} {nt : Nat} {l : List Oper} {sd : List Tmp} {t0 : Fr} {he : List Res}
theorem ln {e : Fr} {K : Fr → Prop} (hk : K e) : lsoup P ro nt he l sd t0 [] e K := hk
theorem lq {i : Nat} {r : List Nat} {e : Fr} {K : Fr → Prop} {d : Tmp} {op : Op} {ty : TypeId} {pos : String} {after : Array Edge} {g : Option (Nat × Bool)} {av : AV} (ho : l[i]? = some ⟨some d, op, ty, pos, after, g⟩)
    (hg : gdS l (lkS sd (pdst l ⟨some d, op, ty, pos, after, g⟩) e t0) ⟨some d, op, ty, pos, after, g⟩ = some true)
    (hq : QR P he (evS sd (pdst l ⟨some d, op, ty, pos, after, g⟩) e t0) ⟨some d, op, ty, pos, after, g⟩ av) (hk : lsoup P ro nt he l sd t0 r ((d, av) :: e) K)
    (hd : Nat.blt d nt = true := by rfl) (hn : notDefer ⟨some d, op, ty, pos, after, g⟩ = true := by rfl) : lsoup P ro nt he l sd t0 (i :: r) e K :=
  ⟨_, d, av, ho, ⟨rfl, hd, .inl ⟨hg, fun h hh => by subst hh; exact qv_of_qr hq hn⟩⟩, hk⟩
theorem lfacts {n : Nat} {ef la : List Nat} (hC : SoupD l n ef la) {K : Fr → Prop} : ∀ {r : List Nat} {e : Fr}, (∀ i ∈ r, i ∈ la) → r.Nodup → (∀ i ∈ r, ∀ d, dstOf l i = some d → lk e d = none) → lsoup P ro nt he l sd t0 r e K →
    ∃ F, K F ∧ (∀ d a, lk e d = some a → lk F d = some a) ∧ (∀ d a, lk F d = some a → lk e d = some a ∨ ∃ i ∈ r, dstOf l i = some d) ∧ (∀ i ∈ r, ∀ d, dstOf l i = some d → lk F d ≠ none) ∧
      ∀ i ∈ r, ∀ o, l[i]? = some o → ∃ d av e', lk F d = some av ∧ (∀ d a, lk e' d = some a → lk F d = some a) ∧ QJ P ro nt (fun h => h = he) l sd t0 o d av e'
  | [], e, _, _, _, hk => ⟨e, hk, fun _ _ h => h, fun _ _ h => .inl h, fun i h => (by cases h), fun i h => (by cases h)⟩
  | i :: r, e, hr, hnd, hdis, ⟨o, d, av, ho, hq, hk⟩ => by
    obtain ⟨hir, hnd'⟩ := List.nodup_cons.1 hnd
    have hdd : dstOf l i = some d := by simp [dstOf, ho, hq.1]
    have hnew := hdis i (by simp) d hdd
    have hin := (hC.lat i (hr i (by simp))).2.1
    have hmono : ∀ d' a, lk e d' = some a → lk ((d, av) :: e) d' = some a := fun d' a h => by
      simp only [lk]
      split
      · rename_i hb
        rw [← Nat.eq_of_beq_eq_true hb, hnew] at h; cases h
      · exact h
    obtain ⟨F, h1, h2, h3, h4, h5⟩ := lfacts hC (r := r) (fun j hj => hr j (by simp [hj])) hnd' (fun j hj d' hd' => by
      simp only [lk]
      split
      · rename_i hb
        have := Nat.eq_of_beq_eq_true hb
        subst this
        obtain ⟨oi, g1, _, _, g4⟩ := hC.dst i hin
        have : oi = o := Option.some.inj (g1.symm.trans ho)
        subst this
        exact absurd rfl (g4 d hq.1 j (hC.lat j (hr j (by simp [hj]))).2.1 (fun e => hir (e ▸ hj)) d hd')
      · exact hdis j (by simp [hj]) d' hd') hk
    refine ⟨F, h1, fun d' a h => h2 d' a (hmono d' a h), fun d' a h => ?_, fun j hj d' hd' => ?_, fun j hj oj hoj => ?_⟩
    · rcases h3 d' a h with h | ⟨j, hj, h⟩
      · simp only [lk] at h
        split at h
        · rename_i hb
          exact .inr ⟨i, by simp, by rw [← Nat.eq_of_beq_eq_true hb]; exact hdd⟩
        · exact .inl h
      · exact .inr ⟨j, by simp [hj], h⟩
    · rcases List.mem_cons.1 hj with rfl | hj
      · rw [hdd] at hd'; cases hd'
        rw [h2 d av (by simp [lk])]; simp
      · exact h4 j hj d' hd'
    · rcases List.mem_cons.1 hj with rfl | hj
      · have : oj = o := Option.some.inj (hoj.symm.trans ho)
        subst this
        exact ⟨d, av, e, h2 d av (by simp [lk]), fun d' a h => h2 d' a (hmono d' a h), hq⟩
      · exact h5 j hj oj hoj
end
structure InvJ (P : Program) (X : Nat → Prop) (nt : Nat) (h : List Res) (l : List Oper) (n : Nat) (eff late : List Nat) (t : Fr) (dsl : List Nat) (E : Fr) (J : List Nat → Fr → List Res → Prop) (w0 : World) (L : List Nat) (ee : Fr) (he : List Res) (F : Fr) (listed : Array Bool) (a : Act) (w : World) : Prop where
  size : listed.size = l.length
  closed : ∀ i, listed.getD i false = true → ∀ j ∈ predsOf l i, listed.getD j false = true
  tail : ∀ i, n ≤ i → listed.getD i false = false
  tsz : a.tmps.size = nt
  defs : a.defers = dsl.map markOf
  J : J L ee he
  heap : HRel X w he
  lst : ∀ i, i ∈ L ↔ i ∈ eff ∧ i < n ∧ listed.getD i false = true
  lvals : ∀ i d av, i ∈ late → dstOf l i = some d → lk F d = some av → listed.getD i false = true → ∃ v, a.tmps[d]? = some v ∧ Rel w (OO he X) av v
  vals : ∀ i d av, i < n → i ∉ eff ++ late → dstOf l i = some d → lk E d = some av → listed.getD i false = true → ∃ v, a.tmps[d]? = some v ∧ Rel w (OO he X) av v
  evals : ∀ d av, lk ee d = some av → ∃ v, a.tmps[d]? = some v ∧ Rel w (OO he X) av v
  edom : ∀ d, lk ee d ≠ none ↔ ∃ i, i ∈ L ∧ dstOf l i = some d
  base : ∀ d av, (∀ j, j < n → dstOf l j ≠ some d) → lk t d = some av → ∃ v, a.tmps[d]? = some v ∧ Rel w (OO he X) av v
  keep : Keep (owns h) w0 (owns he) w
structure GoodF (P : Program) (ro : Option Nat) (nt : Nat) (Q : Exit → St → Prop) (l : List Oper) (n : Nat) (late : List Nat) (t : Fr) (dsl : List Nat) (E ee : Fr) (he : List Res) (F : Fr) : Prop where
  fin : aops P ro nt l.toArray (l.drop n) Q ⟨F ++ t, he, dsl⟩
  up : ∀ d a, lk (E ++ ee) d = some a → lk F d = some a
  dn : ∀ d a, lk F d = some a → lk (E ++ ee) d = some a ∨ ∃ i ∈ late, dstOf l i = some d
  nn : ∀ i ∈ late, ∀ d, dstOf l i = some d → lk F d ≠ none
  facts : ∀ i ∈ late, ∀ o, l[i]? = some o → ∃ d av e', lk F d = some av ∧ (∀ d a, lk e' d = some a → lk F d = some a) ∧ QJ P ro nt (fun h => h = he) l (sdst l n) t o d av e'
/-- A region that draws its order; J: what is so when those of 'eff' in the list have been carried out; 'late': those that wait for them all. -/
theorem aw_drawJ {P : Program} {ro : Option Nat} {nt rid : Nat} {Q : Exit → St → Prop} {l : List Oper} {t : Fr} {h : List Res} {dsl : List Nat} (n : Nat) (eff late : List Nat) (C : List Res → Prop) [hm : Mixed P] (hc : soupJ l n eff late = true)
    (hk : jsoup P ro nt C l (eff ++ late) (sdst l n) t (l.take n) 0 [] (fun E => ∃ J : List Nat → Fr → List Res → Prop, J [] [] h ∧ (∀ L ee he, J L ee he → C he) ∧
      (∀ L ee he, J L ee he → ∀ i o, i ∈ eff → i ∉ L → l[i]? = some o → (∀ j, j ∈ clos l i (predsOf l i) → j ∈ eff → j ∈ L) → ∀ u, OE P ro nt o ⟨fltP (pdst l o) E ++ (fltP (pdst l o) ee ++ (fltN (sdst l n) t ++ u)), he, dsl⟩
        (fun s' => ∃ av he', s' = ⟨stF o av (fltP (pdst l o) E ++ (fltP (pdst l o) ee ++ (fltN (sdst l n) t ++ u))), he', dsl⟩ ∧ J (i :: L) (stF o av ee) he')) ∧
      (∀ L ee he, J L ee he → (∀ i, i ∈ eff → i < n → i ∈ L) → lsoup P ro nt he l (sdst l n) t late (E ++ ee) (fun F => aops P ro nt l.toArray (l.drop n) Q ⟨F ++ t, he, dsl⟩)))) : aw P ro nt (.region rid l.toArray true) Q ⟨t, h, dsl⟩ := by
  intro X a0 w0 hs
  have hC := soupD_of hc
  obtain ⟨E, ⟨J, h0, hJC, hstep, hfin⟩, _, hE1, hE2, hfact⟩ := jfacts (os := l.take n) (i := 0) (n := n) (K := fun E => _) hC (fun i hi he => hi (List.mem_append_left _ he)) (by have := hC.le; simp; omega) rfl (fun d a h => by simp [lk] at h) (fun j hj => by omega) hk
  refine wpIn_region_any hm.h ?_
  have hsome_dst : ∀ j o, l[j]? = some o → dstOf l j = o.dst := fun j o ho => by simp [dstOf, ho]
  have hE1' : ∀ d a, lk E d = some a → ∃ j, j < n ∧ j ∉ eff ∧ j ∉ late ∧ dstOf l j = some d := fun d a h => by
    obtain ⟨j, h1, h2, h3⟩ := hE1 d a h
    exact ⟨j, h1, fun he => h2 (List.mem_append_left _ he), fun he => h2 (List.mem_append_right _ he), h3⟩
  have main : ∀ (fuel : Nat) (U L : List Nat) (ee : Fr) (he : List Res) (F : Fr) (listed : Array Bool) (a : Act) (w : World), InvJ P X nt h l n eff late t dsl E J w0 L ee he F listed a w → ((∀ i, i ∈ eff → i < n → i ∈ L) → GoodF P ro nt Q l n late t dsl E ee he F) → (∀ i, i < l.length → listed.getD i false = false → i ∈ U) → U.length ≤ fuel →
      wpAnyIn (FW ro) 0 P .any l.toArray (AOut X nt ⟨t, h, dsl⟩ w0 Q) fuel listed a w := by
    have done : ∀ (fuel : Nat) (U L : List Nat) (ee : Fr) (he : List Res) (F : Fr) (listed : Array Bool) (a : Act) (w : World), InvJ P X nt h l n eff late t dsl E J w0 L ee he F listed a w → ((∀ i, i ∈ eff → i < n → i ∈ L) → GoodF P ro nt Q l n late t dsl E ee he F) → (∀ i, i < l.length → listed.getD i false = false → i ∈ U) → U.length ≤ fuel →
        (∀ i, i < n → listed.getD i false = true) → wpAnyIn (FW ro) 0 P .any l.toArray (AOut X nt ⟨t, h, dsl⟩ w0 Q) fuel listed a w := by
      intro fuel U L ee he F listed a w hi hG hU hf hall
      have hg := hG (fun i h1 h2 => (hi.lst i).2 ⟨h1, h2, hall i h2⟩)
      refine tail_seq hC.toSoupT fuel U n listed a w (Nat.le_refl _) hC.le hi.size (fun j hj => ⟨fun hl => ?_, fun hl => hall j hl⟩) (fun i h1 h2 => hU i h2 (hi.tail i h1)) hf ?_
      · rcases Nat.lt_or_ge j n with h | h
        · exact h
        · rw [hi.tail j h] at hl; cases hl
      · have hsim : Sim X nt ⟨F ++ t, he, dsl⟩ a w := by
          refine ⟨hi.heap, hi.tsz, fun d av hl => ?_, hi.defs⟩
          have hl' : lk (F ++ t) d = some av := hl
          rw [lk_append] at hl'
          cases hF : lk F d with
          | some av' =>
            simp only [hF, Option.some.injEq] at hl'; subst hl'
            rcases hg.dn d _ hF with hE | ⟨j, g1, g2⟩
            · rw [lk_append] at hE
              cases hE2 : lk E d with
              | some av2 =>
                simp only [hE2, Option.some.injEq] at hE; subst hE
                obtain ⟨j, g1, g2, g3⟩ := hE1 d _ hE2
                exact hi.vals j d _ g1 g2 g3 hE2 (hall j g1)
              | none => simp only [hE2] at hE; exact hi.evals d _ hE
            · exact hi.lvals j d _ g1 g2 hF (hall j (hC.lat j g1).2.1)
          | none =>
            simp only [hF] at hl'
            have hEe : lk (E ++ ee) d = none := by
              cases hx : lk (E ++ ee) d with
              | none => rfl
              | some y => rw [hg.up d y hx] at hF; cases hF
            rw [lk_append] at hEe
            refine hi.base d av (fun j hj hd => ?_) hl'
            by_cases hje : j ∈ eff
            · have := (hi.edom d).2 ⟨j, (hi.lst j).2 ⟨hje, hj, hall j hj⟩, hd⟩
              cases hE : lk E d with
              | some y => simp [hE] at hEe
              | none => simp only [hE] at hEe; exact this hEe
            · by_cases hjl : j ∈ late
              · exact hg.nn j hjl d hd hF
              · refine hE2 j hj (fun hm => (List.mem_append.1 hm).elim hje hjl) d hd ?_
                cases hE : lk E d with
                | some y => simp [hE] at hEe
                | none => rfl
        have := hg.fin X a w hsim
        exact wpListIn_aout_mono (s := ⟨t, h, dsl⟩) (s' := ⟨F ++ t, he, dsl⟩) hi.keep this
    intro fuel
    induction fuel with
    | zero =>
      intro U L ee he F listed a w hi hG hU hf
      refine done 0 U L ee he F listed a w hi hG hU hf fun i hin => ?_
      have hU0 : U = [] := List.eq_nil_of_length_eq_zero (by omega)
      cases hl : listed.getD i false with
      | true => rfl
      | false => have := hU i (by have := hC.le; omega) hl; simp [hU0] at this
    | succ fuel ih =>
      intro U L ee he F listed a w hi hG hU hf
      by_cases hall : ∀ i, i < n → listed.getD i false = true
      · exact done _ U L ee he F listed a w hi hG hU hf hall
      · have hready : ∀ i, i ∈ Region.ready .any l.toArray listed → i < n ∧ listed.getD i false = false ∧ i < l.length ∧ ∀ j ∈ predsOf l i, listed.getD j false = true := by
          intro i hir
          obtain ⟨h1, h2, h3⟩ := ready_iff.1 hir
          have hun : listed.getD i false = false := by rw [getD_tf (by rw [hi.size]; exact h2) false true]; exact h1
          refine ⟨?_, hun, h2, h3⟩
          rcases Nat.lt_or_ge i n with h | h
          · exact h
          · exfalso
            apply hall
            intro j hj
            exact clos_listed hi.closed i _ h3 j (hC.tail i h h2 j (by omega))
        have hsome : ∀ m, (∃ i, i < n ∧ i < m ∧ listed.getD i false = false) → Region.ready .any l.toArray listed ≠ [] := by
          intro m
          induction m with
          | zero => rintro ⟨i, _, h, _⟩; omega
          | succ m ihm =>
            rintro ⟨i, hin, him, hun⟩
            by_cases hp : ∀ j ∈ predsOf l i, listed.getD j false = true
            · intro h0
              have hin' : i < l.length := by have := hC.le; omega
              have : i ∈ Region.ready .any l.toArray listed := ready_iff.2 ⟨by rw [getD_tf (by rw [hi.size]; exact hin') true false]; exact hun, hin', hp⟩
              rw [h0] at this; exact absurd this (by simp)
            · have : ∃ j, j ∈ predsOf l i ∧ listed.getD j false = false := by
                refine Classical.byContradiction fun hne => hp fun j hj => ?_
                cases hl : listed.getD j false with
                | true => rfl
                | false => exact absurd ⟨j, hj, hl⟩ hne
              obtain ⟨j, hj, hjun⟩ := this
              have := hC.back i (by have := hC.le; omega) j hj
              exact ihm ⟨j, by omega, by omega, hjun⟩
        refine ⟨fun h0 => ?_, fun i hir => ?_⟩
        · exfalso
          have : ∃ i, i < n ∧ listed.getD i false = false := by
            refine Classical.byContradiction fun hne => hall fun i hin => ?_
            cases hl : listed.getD i false with
            | true => rfl
            | false => exact absurd ⟨i, hin, hl⟩ hne
          obtain ⟨i, hin, hun⟩ := this
          exact hsome (i + 1) ⟨i, hin, by omega, hun⟩ h0
        · obtain ⟨hin, hun, hil, hp⟩ := hready i hir
          obtain ⟨o, ho, hq1, hq2, hq3⟩ := hC.dst i hin
          have hU' : ∀ k, k < l.length → (listed.setIfInBounds i true).getD k false = false → k ∈ U.erase i := fun k hkl hk => by
            have hki : i ≠ k := fun e => by subst e; rw [getD_set_self (by rw [hi.size]; exact hil)] at hk; cases hk
            rw [getD_set_ne false hki] at hk
            exact (List.mem_erase_of_ne (fun h => hki h.symm)).2 (hU k hkl hk)
          have hf' : (U.erase i).length ≤ fuel := by rw [List.length_erase_of_mem (hU i hil hun)]; omega
          have hcl : ∀ k, (listed.setIfInBounds i true).getD k false = true → ∀ j ∈ predsOf l k, (listed.setIfInBounds i true).getD j false = true := fun k hk j hj => by
            by_cases hik : i = k
            · subst hik; exact getD_set_true (hp j hj)
            · rw [getD_set_ne false hik] at hk; exact getD_set_true (hi.closed k hk j hj)
          have hdo := hsome_dst i o ho
          have hne : ∀ d j dj, o.dst = some d → j < n → j ≠ i → dstOf l j = some dj → d ≠ dj := fun d j dj hd hj hji hdj => hq3 d hd j hj hji dj hdj
          -- what is looked up
          have hsd : ∀ d, (sdst l n).any (Nat.beq d) = false → ∀ j, j < n → dstOf l j ≠ some d := fun d hf j hj hd => by
            have : d ∈ sdst l n := by
              simp only [sdst, List.mem_filterMap]
              simp only [dstOf] at hd
              cases hlj : l[j]? with
              | none => simp [hlj] at hd
              | some oj =>
                simp only [hlj, Option.bind_some] at hd
                exact ⟨oj, List.mem_of_getElem? (i := j) (by rw [List.getElem?_take_of_lt hj]; exact hlj), hd⟩
            have : (sdst l n).any (Nat.beq d) = true := List.any_eq_true.2 ⟨d, this, by simp⟩
            simp_all
          have hpd : ∀ d, (pdst l o).any (Nat.beq d) = true → ∃ j, j ∈ predsOf l i ∧ dstOf l j = some d := fun d hpd => by
            obtain ⟨x, hx, e⟩ := List.any_eq_true.1 hpd
            have := Nat.eq_of_beq_eq_true e
            subst this
            simp only [pdst, List.mem_filterMap] at hx
            obtain ⟨j', hj', hd'⟩ := hx
            exact ⟨j', by simp only [predsOf, ho]; exact hj', hd'⟩
          have hlookE : ∀ d av, (pdst l o).any (Nat.beq d) = true → lk E d = some av → ∃ v, a.tmps[d]? = some v ∧ Rel w (OO he X) av v := fun d av hpd' hl => by
            obtain ⟨j, hj, hjd⟩ := hpd d hpd'
            obtain ⟨j', g1, g2, g3⟩ := hE1 d av hl
            have hji := hC.back i hil j hj
            have : j' = j := by
              refine Classical.byContradiction fun hne' => ?_
              obtain ⟨oj, k1, _, _, k4⟩ := hC.dst j (by omega)
              exact k4 d (by rw [← hsome_dst j oj k1]; exact hjd) j' g1 hne' d g3 rfl
            subst this
            exact hi.vals j' d av g1 g2 g3 hl (hp j' hj)
          have hbase : ∀ d av, (sdst l n).any (Nat.beq d) = false → lk t d = some av → ∃ v, a.tmps[d]? = some v ∧ Rel w (OO he X) av v := fun d av hf hl => hi.base d av (hsd d hf) hl
          unfold wpOpIn
          simp only [List.getElem?_toArray, ho]
          by_cases hie : i ∈ eff
          · -- memory is changed
            have hg := hq2 hie
            have hiL : i ∉ L := fun h => by have := ((hi.lst i).1 h).2.2; rw [hun] at this; cases this
            rw [if_pos (by simp [Region.wanted, hg])]
            -- all that is known, once more
            obtain ⟨T, hT⟩ : ∃ T : Fr, T = (E.filter fun p => (List.range n).any fun j => !mem? j (eff ++ late) && listed.getD j false && (match dstOf l j with | some d => Nat.beq d p.1 | none => false)) ++ (ee ++ fltN (sdst l n) t) := ⟨_, rfl⟩
            have hO2 := hstep L ee he hi.J i o hie hiL ho (fun j hj hje => (hi.lst j).2 ⟨hje, (by
              have := clos_listed hi.closed i _ hp j hj
              rcases Nat.lt_or_ge j n with h | h
              · exact h
              · rw [hi.tail j h] at this; cases this), clos_listed hi.closed i _ hp j hj⟩) T
            obtain ⟨G, hG⟩ : ∃ G, G = fltP (pdst l o) E ++ (fltP (pdst l o) ee ++ (fltN (sdst l n) t ++ T)) := ⟨_, rfl⟩
            rw [← hG] at hO2
            have hGr : FrRel w (OO he X) G a.tmps := fun d av hl => by
              rw [hG, lk_append] at hl
              by_cases hpd' : (pdst l o).any (Nat.beq d) = true
              · rw [fltP, lk_flt (q := fun d => (pdst l o).any (Nat.beq d)) hpd'] at hl
                cases hE : lk E d with
                | some av' => simp only [hE, Option.some.injEq] at hl; subst hl; exact hlookE d _ hpd' hE
                | none =>
                  simp only [hE] at hl
                  rw [lk_append, fltP, lk_flt (q := fun d => (pdst l o).any (Nat.beq d)) hpd'] at hl
                  cases he' : lk ee d with
                  | some av' => simp only [he', Option.some.injEq] at hl; subst hl; exact hi.evals d _ he'
                  | none =>
                    simp only [he'] at hl
                    rw [lk_append] at hl
                    by_cases hsd' : (sdst l n).any (Nat.beq d) = false
                    · rw [fltN, lk_flt (q := fun d => !(sdst l n).any (Nat.beq d)) (by simp [hsd'])] at hl
                      cases ht : lk t d with
                      | some av' => simp only [ht, Option.some.injEq] at hl; subst hl; exact hbase d _ hsd' ht
                      | none =>
                        simp only [ht] at hl
                        rw [hT, lk_append, lk_append] at hl
                        rw [fltN, lk_flt (q := fun d => !(sdst l n).any (Nat.beq d)) (by simp [hsd']), he', ht] at hl
                        split at hl
                        · rename_i q
                          by_cases hq : ((List.range n).any fun j => !mem? j (eff ++ late) && listed.getD j false && (match dstOf l j with | some d2 => Nat.beq d2 d | none => false)) = true
                          · rw [lk_flt (q := fun d => (List.range n).any fun j => !mem? j (eff ++ late) && listed.getD j false && (match dstOf l j with | some d2 => Nat.beq d2 d | none => false)) hq, hE] at q; cases q
                          · rw [lk_fltN (q := fun d => (List.range n).any fun j => !mem? j (eff ++ late) && listed.getD j false && (match dstOf l j with | some d2 => Nat.beq d2 d | none => false)) (by simpa using hq)] at q; cases q
                        · cases hl
                    · -- waited for, and not known
                      rw [fltN, lk_fltN (q := fun d => !(sdst l n).any (Nat.beq d)) (by simpa using hsd')] at hl
                      simp only at hl
                      rw [hT, lk_append, lk_append, he', fltN, lk_fltN (q := fun d => !(sdst l n).any (Nat.beq d)) (by simpa using hsd')] at hl
                      split at hl
                      · rename_i q
                        by_cases hq : ((List.range n).any fun j => !mem? j (eff ++ late) && listed.getD j false && (match dstOf l j with | some d2 => Nat.beq d2 d | none => false)) = true
                        · rw [lk_flt (q := fun d => (List.range n).any fun j => !mem? j (eff ++ late) && listed.getD j false && (match dstOf l j with | some d2 => Nat.beq d2 d | none => false)) hq, hE] at q; cases q
                        · rw [lk_fltN (q := fun d => (List.range n).any fun j => !mem? j (eff ++ late) && listed.getD j false && (match dstOf l j with | some d2 => Nat.beq d2 d | none => false)) (by simpa using hq)] at q; cases q
                      · cases hl
              · rw [fltP, lk_fltN (q := fun d => (pdst l o).any (Nat.beq d)) (Bool.eq_false_iff.2 hpd')] at hl
                simp only at hl
                rw [lk_append, fltP, lk_fltN (q := fun d => (pdst l o).any (Nat.beq d)) (Bool.eq_false_iff.2 hpd')] at hl
                simp only at hl
                have hrest : ∀ av, lk T d = some av → ∃ v, a.tmps[d]? = some v ∧ Rel w (OO he X) av v := fun av hl => by
                  rw [hT, lk_append] at hl
                  by_cases hq : ((List.range n).any fun j => !mem? j (eff ++ late) && listed.getD j false && (match dstOf l j with | some d2 => Nat.beq d2 d | none => false)) = true
                  · rw [lk_flt (q := fun d => (List.range n).any fun j => !mem? j (eff ++ late) && listed.getD j false && (match dstOf l j with | some d2 => Nat.beq d2 d | none => false)) hq] at hl
                    obtain ⟨j, hj, hq'⟩ := List.any_eq_true.1 hq
                    simp only [Bool.and_eq_true, Bool.not_eq_true'] at hq'
                    obtain ⟨⟨k1, k2⟩, k3⟩ := hq'
                    have hje : j ∉ eff ++ late := fun h => by rw [mem?_iff.2 h] at k1; cases k1
                    have hjd : dstOf l j = some d := by
                      split at k3
                      · rename_i d2 hd2; rw [hd2, Nat.eq_of_beq_eq_true k3]
                      · cases k3
                    cases hE : lk E d with
                    | some av' => simp only [hE, Option.some.injEq] at hl; subst hl; exact hi.vals j d _ (List.mem_range.1 hj) hje hjd hE k2
                    | none => exact absurd hE (hE2 j (List.mem_range.1 hj) hje d hjd)
                  · rw [lk_fltN (q := fun d => (List.range n).any fun j => !mem? j (eff ++ late) && listed.getD j false && (match dstOf l j with | some d2 => Nat.beq d2 d | none => false)) (by simpa using hq)] at hl
                    simp only at hl
                    rw [lk_append] at hl
                    cases he' : lk ee d with
                    | some av' => simp only [he', Option.some.injEq] at hl; subst hl; exact hi.evals d _ he'
                    | none =>
                      simp only [he'] at hl
                      by_cases hsd' : (sdst l n).any (Nat.beq d) = false
                      · rw [fltN, lk_flt (q := fun d => !(sdst l n).any (Nat.beq d)) (by simp [hsd'])] at hl
                        exact hbase d _ hsd' hl
                      · rw [fltN, lk_fltN (q := fun d => !(sdst l n).any (Nat.beq d)) (by simpa using hsd')] at hl; cases hl
                rw [lk_append] at hl
                split at hl
                · rename_i q
                  cases hl
                  by_cases hsd' : (sdst l n).any (Nat.beq d) = false
                  · rw [fltN, lk_flt (q := fun d => !(sdst l n).any (Nat.beq d)) (by simp [hsd'])] at q
                    exact hbase d _ hsd' q
                  · rw [fltN, lk_fltN (q := fun d => !(sdst l n).any (Nat.beq d)) (by simpa using hsd')] at q; cases q
                · exact hrest _ hl
            refine hO2 X a w _ _ ⟨hi.heap, hi.tsz, hGr, hi.defs⟩ fun s' a' w' hs' hsim' hkp => ?_
            obtain ⟨av, he', rfl, hJ'⟩ := hs'
            have hT' : ∀ d av, (∀ d', o.dst = some d' → d' ≠ d) → lk G d = some av → ∃ v, a'.tmps[d]? = some v ∧ Rel w' (OO he' X) av v := fun d av' hnd hl => by
              refine hsim'.fr d av' ?_
              show lk (stF o av G) d = _
              unfold stF
              split
              · rename_i d' hd'
                simp only [lk]
                have : Nat.beq d' d = false := by
                  cases hb : Nat.beq d' d with
                  | false => rfl
                  | true => exact absurd (Nat.eq_of_beq_eq_true hb) (hnd d' hd')
                rw [this]; exact hl
              · exact hl
            have hGT : ∀ d av, lk T d = some av → (lk G d = some av) ∨ ∃ av', lk G d = some av' := fun d av hl => by
              cases hg : lk G d with
              | some av' => exact .inr ⟨av', rfl⟩
              | none =>
                exfalso
                rw [hG] at hg
                simp only [lk_append] at hg
                repeat' split at hg
                all_goals first | (rw [hl] at hg; cases hg) | cases hg
            have hedom' : ∀ d, lk (stF o av ee) d ≠ none ↔ ∃ k, k ∈ i :: L ∧ dstOf l k = some d := fun d => by
              unfold stF
              constructor
              · intro hx
                split at hx
                · rename_i d' hd'
                  simp only [lk] at hx
                  split at hx
                  · rename_i hb
                    have := Nat.eq_of_beq_eq_true hb
                    subst this
                    exact ⟨i, by simp, by rw [hdo]; exact hd'⟩
                  · obtain ⟨k, k1, k2⟩ := (hi.edom d).1 hx; exact ⟨k, by simp [k1], k2⟩
                · obtain ⟨k, k1, k2⟩ := (hi.edom d).1 hx; exact ⟨k, by simp [k1], k2⟩
              · rintro ⟨k, k1, k2⟩
                rcases List.mem_cons.1 k1 with rfl | k1
                · rw [hdo] at k2; rw [k2]; simp [lk]
                · have := (hi.edom d).2 ⟨k, k1, k2⟩
                  split
                  · simp only [lk]; split
                    · simp
                    · exact this
                  · exact this
            obtain ⟨F', hF'⟩ : ∃ F', (∀ k, k ∈ eff → k < n → k ∈ i :: L) → GoodF P ro nt Q l n late t dsl E (stF o av ee) he' F' := by
              by_cases hA : ∀ k, k ∈ eff → k < n → k ∈ i :: L
              · obtain ⟨F', k1, k2, k3, k4, k5⟩ := lfacts hC (r := late) (fun _ h => h) hC.lnd (fun j hj d hd => by
                  rw [lk_append]
                  obtain ⟨oj, g1, _, _, g4⟩ := hC.dst j (hC.lat j hj).2.1
                  have hoj : oj.dst = some d := by rw [← hsome_dst j oj g1]; exact hd
                  cases hx : lk E d with
                  | some y =>
                    obtain ⟨q, q1, q2, q3, q4⟩ := hE1' d y hx
                    exact absurd rfl (g4 d hoj q q1 (fun e => q3 (e ▸ hj)) d q4)
                  | none =>
                    simp only
                    cases hy : lk (stF o av ee) d with
                    | none => rfl
                    | some y =>
                      obtain ⟨q, q1, q2⟩ := (hedom' d).1 (by rw [hy]; simp)
                      have hqe : q ∈ eff ∧ q < n := (List.mem_cons.1 q1).elim (fun e => e ▸ ⟨hie, hin⟩) (fun h => let h := (hi.lst q).1 h; ⟨h.1, h.2.1⟩)
                      exact absurd rfl (g4 d hoj q hqe.2 (fun e => (hC.lat j hj).1 (e ▸ hqe.1)) d q2)) (hfin _ _ _ hJ' hA)
                exact ⟨F', fun _ => ⟨k1, k2, k3, k4, k5⟩⟩
              · exact ⟨[], fun h => absurd h hA⟩
            refine ih (U.erase i) (i :: L) (stF o av ee) he' F' _ _ _ ?_ hF' hU' hf'
            have hGE : ∀ j d, j < n → j ∉ eff ++ late → dstOf l j = some d → listed.getD j false = true → ∀ av, lk E d = some av → lk G d = some av := fun j d hj hje hjd hlj av hl => by
              have hed : lk ee d = none := by
                cases hx : lk ee d with
                | none => rfl
                | some y =>
                  obtain ⟨k, hk1, hk2⟩ := (hi.edom d).1 (by rw [hx]; simp)
                  obtain ⟨hk3, hk4, _⟩ := (hi.lst k).1 hk1
                  obtain ⟨oj, g1, _, _, g4⟩ := hC.dst j hj
                  have hkj : k ≠ j := fun e => hje (List.mem_append_left _ (e ▸ hk3))
                  exact absurd rfl (g4 d (by rw [← hsome_dst j oj g1]; exact hjd) k hk4 hkj d hk2)
              have hsd' : ¬ (sdst l n).any (Nat.beq d) = false := fun hf => hsd d hf j hj hjd
              rw [hG, lk_append]
              by_cases hpd' : (pdst l o).any (Nat.beq d) = true
              · rw [fltP, lk_flt (q := fun d => (pdst l o).any (Nat.beq d)) hpd', hl]
              · rw [fltP, lk_fltN (q := fun d => (pdst l o).any (Nat.beq d)) (Bool.eq_false_iff.2 hpd')]
                simp only
                rw [lk_append, fltP, lk_fltN (q := fun d => (pdst l o).any (Nat.beq d)) (Bool.eq_false_iff.2 hpd')]
                simp only
                rw [lk_append, fltN, lk_fltN (q := fun d => !(sdst l n).any (Nat.beq d)) (by simpa using hsd')]
                simp only
                rw [hT, lk_append, lk_flt (q := fun d => (List.range n).any fun j => !mem? j (eff ++ late) && listed.getD j false && (match dstOf l j with | some d2 => Nat.beq d2 d | none => false)) (by
                  refine List.any_eq_true.2 ⟨j, List.mem_range.2 hj, ?_⟩
                  have : mem? j (eff ++ late) = false := by
                    cases hb : mem? j (eff ++ late) with
                    | false => rfl
                    | true => exact absurd (mem?_iff.1 hb) hje
                  simp [this, hlj, hjd]), hl]
            have hGe : ∀ d av, lk ee d = some av → lk G d = some av := fun d av hl => by
              obtain ⟨k, hk1, hk2⟩ := (hi.edom d).1 (by rw [hl]; simp)
              obtain ⟨hk3, hk4, _⟩ := (hi.lst k).1 hk1
              have hEd : lk E d = none := by
                cases hx : lk E d with
                | none => rfl
                | some y =>
                  obtain ⟨j, g1, g2, g3⟩ := hE1 d y hx
                  obtain ⟨ok, k1, _, _, k4⟩ := hC.dst k hk4
                  have hkj : j ≠ k := fun e => g2 (List.mem_append_left _ (e ▸ hk3))
                  exact absurd rfl (k4 d (by rw [← hsome_dst k ok k1]; exact hk2) j g1 hkj d g3)
              have hsd' : ¬ (sdst l n).any (Nat.beq d) = false := fun hf => hsd d hf k hk4 hk2
              have hflt : lk (E.filter fun p => (List.range n).any fun j => !mem? j (eff ++ late) && listed.getD j false && (match dstOf l j with | some d => Nat.beq d p.1 | none => false)) d = none := by
                by_cases hq : ((List.range n).any fun j => !mem? j (eff ++ late) && listed.getD j false && (match dstOf l j with | some d2 => Nat.beq d2 d | none => false)) = true
                · rw [lk_flt (q := fun d => (List.range n).any fun j => !mem? j (eff ++ late) && listed.getD j false && (match dstOf l j with | some d2 => Nat.beq d2 d | none => false)) hq, hEd]
                · rw [lk_fltN (q := fun d => (List.range n).any fun j => !mem? j (eff ++ late) && listed.getD j false && (match dstOf l j with | some d2 => Nat.beq d2 d | none => false)) (by simpa using hq)]
              rw [hG, lk_append]
              by_cases hpd' : (pdst l o).any (Nat.beq d) = true
              · rw [fltP, lk_flt (q := fun d => (pdst l o).any (Nat.beq d)) hpd', hEd]
                simp only
                rw [lk_append, fltP, lk_flt (q := fun d => (pdst l o).any (Nat.beq d)) hpd', hl]
              · rw [fltP, lk_fltN (q := fun d => (pdst l o).any (Nat.beq d)) (Bool.eq_false_iff.2 hpd')]
                simp only
                rw [lk_append, fltP, lk_fltN (q := fun d => (pdst l o).any (Nat.beq d)) (Bool.eq_false_iff.2 hpd')]
                simp only
                rw [lk_append, fltN, lk_fltN (q := fun d => !(sdst l n).any (Nat.beq d)) (by simpa using hsd')]
                simp only
                rw [hT, lk_append, hflt]
                simp only
                rw [lk_append, hl]
            have hGt : ∀ d av, (∀ j, j < n → dstOf l j ≠ some d) → lk t d = some av → lk G d = some av := fun d av hj hl => by
              have hsd' : (sdst l n).any (Nat.beq d) = false := by
                cases hb : (sdst l n).any (Nat.beq d) with
                | false => rfl
                | true =>
                  obtain ⟨x, hx, e⟩ := List.any_eq_true.1 hb
                  have := Nat.eq_of_beq_eq_true e
                  subst this
                  simp only [sdst, List.mem_filterMap] at hx
                  obtain ⟨oj, hoj, hd⟩ := hx
                  obtain ⟨j, hj1, hj2⟩ := List.getElem_of_mem hoj
                  have hjn : j < n := by simp at hj1; omega
                  have : l[j]? = some oj := by
                    have : (l.take n)[j]? = some oj := by rw [List.getElem?_eq_getElem hj1, hj2]
                    rwa [List.getElem?_take_of_lt hjn] at this
                  exact absurd (by rw [hsome_dst j oj this]; exact hd) (hj j hjn)
              have hEd : lk E d = none := by
                cases hx : lk E d with
                | none => rfl
                | some y => obtain ⟨j, g1, g2, g3⟩ := hE1 d y hx; exact absurd g3 (hj j g1)
              have hed : lk ee d = none := by
                cases hx : lk ee d with
                | none => rfl
                | some y =>
                  obtain ⟨k, hk1, hk2⟩ := (hi.edom d).1 (by rw [hx]; simp)
                  exact absurd hk2 (hj k ((hi.lst k).1 hk1).2.1)
              rw [hG, lk_append]
              have e1 : lk (fltP (pdst l o) E) d = none := by
                by_cases hpd' : (pdst l o).any (Nat.beq d) = true
                · rw [fltP, lk_flt (q := fun d => (pdst l o).any (Nat.beq d)) hpd', hEd]
                · rw [fltP, lk_fltN (q := fun d => (pdst l o).any (Nat.beq d)) (Bool.eq_false_iff.2 hpd')]
              have e2 : lk (fltP (pdst l o) ee) d = none := by
                by_cases hpd' : (pdst l o).any (Nat.beq d) = true
                · rw [fltP, lk_flt (q := fun d => (pdst l o).any (Nat.beq d)) hpd', hed]
                · rw [fltP, lk_fltN (q := fun d => (pdst l o).any (Nat.beq d)) (Bool.eq_false_iff.2 hpd')]
              rw [e1]; simp only
              rw [lk_append, e2]; simp only
              rw [lk_append, fltN, lk_flt (q := fun d => !(sdst l n).any (Nat.beq d)) (by simp [hsd']), hl]
            refine ⟨by simp [hi.size], hcl, fun k hk => by rw [getD_set_ne false (by omega)]; exact hi.tail k hk, hsim'.size, hsim'.defs, hJ', hsim'.heap, fun k => ?_, fun k d av' hk hkd hFd hlk => ?_, fun k d av' hk hke hkd hEd hlk => ?_, fun d av' hl => ?_, fun d => ?_, fun d av' hj hl => ?_, hi.keep.trans hkp⟩
            · rw [List.mem_cons, hi.lst k]
              by_cases hki : k = i
              · subst hki
                simp only [true_or, true_iff]
                exact ⟨hie, hin, getD_set_self (by rw [hi.size]; exact hil)⟩
              · rw [getD_set_ne false (Ne.symm hki)]; simp [hki]
            · exfalso
              have hki : i ≠ k := fun e => (hC.lat k hk).1 (e ▸ hie)
              rw [getD_set_ne false hki] at hlk
              have := clos_listed hi.closed k _ (fun j hj => hi.closed k hlk j hj) i ((hC.lat k hk).2.2 i hie)
              rw [hun] at this; cases this
            · have hki : i ≠ k := fun e => hke (List.mem_append_left _ (e ▸ hie))
              rw [getD_set_ne false hki] at hlk
              exact hT' d av' (fun d' hd' e => by subst e; exact hne d' k d' hd' hk (Ne.symm hki) hkd rfl) (hGE k d hk hke hkd hlk av' hEd)
            · unfold stF at hl
              split at hl
              · rename_i d' hd'
                simp only [lk] at hl
                split at hl
                · rename_i hb
                  have := Nat.eq_of_beq_eq_true hb
                  subst this
                  cases hl
                  refine hsim'.fr d' av ?_
                  show lk (stF o av G) d' = _
                  unfold stF; rw [hd']; simp [lk]
                · rename_i hb
                  exact hT' d av' (fun d2 hd2 e => by rw [hd'] at hd2; cases hd2; subst e; simp at hb) (hGe d av' hl)
              · rename_i hd'
                exact hT' d av' (fun d2 hd2 => by rw [hd'] at hd2; cases hd2) (hGe d av' hl)
            · exact hedom' d
            · exact hT' d av' (fun d' hd' e => by subst e; exact hj i hin (by rw [hdo]; exact hd')) (hGt d av' hj hl)
          · -- memory stays
            have hgood : i ∈ late → GoodF P ro nt Q l n late t dsl E ee he F := fun hil' => hG fun k h1 h2 => (hi.lst k).2 ⟨h1, h2, clos_listed hi.closed i _ hp k ((hC.lat i hil').2.2 k h1)⟩
            obtain ⟨d, av, e', hown, hlookP, hqd, hdn, hq⟩ : ∃ d av e', ((i ∈ late ∧ lk F d = some av) ∨ (i ∉ late ∧ lk E d = some av)) ∧ (∀ d' a', (pdst l o).any (Nat.beq d') = true → lk e' d' = some a' → ∃ v, a.tmps[d']? = some v ∧ Rel w (OO he X) a' v) ∧ QJ P ro nt (fun h => h = he) l (sdst l n) t o d av e' := by
              by_cases hil' : i ∈ late
              · obtain ⟨d, av, e', k1, k2, k3⟩ := (hgood hil').facts i hil' o ho
                refine ⟨d, av, e', .inl ⟨hil', k1⟩, fun d' a' hpd' hl => ?_, k3⟩
                have hF := k2 d' a' hl
                rcases (hgood hil').dn d' a' hF with hE | ⟨j, g1, g2⟩
                · rw [lk_append] at hE
                  cases hE2' : lk E d' with
                  | some av2 => simp only [hE2', Option.some.injEq] at hE; subst hE; exact hlookE d' _ hpd' hE2'
                  | none => simp only [hE2'] at hE; exact hi.evals d' _ hE
                · obtain ⟨j', hj', hjd'⟩ := hpd d' hpd'
                  have hji := hC.back i hil j' hj'
                  have : j = j' := by
                    refine Classical.byContradiction fun hne' => ?_
                    obtain ⟨oj, q1, _, _, q4⟩ := hC.dst j' (by omega)
                    exact q4 d' (by rw [← hsome_dst j' oj q1]; exact hjd') j (hC.lat j g1).2.1 hne' d' g2 rfl
                  subst this
                  exact hi.lvals j d' _ g1 g2 hF (hp j hj')
              · obtain ⟨d, av, e', hEd, hmono, hqd, hdn, hq⟩ := hfact i o (Nat.zero_le _) hin (fun hm => (List.mem_append.1 hm).elim hie hil') ho
                exact ⟨d, av, e', .inr ⟨hil', hEd⟩, fun d' a' hpd' hl => hlookE d' a' hpd' (hmono d' a' hl), hqd, hdn, hq.imp (fun h => ⟨h.1, fun h' e => by subst e; exact h.2 _ (hJC L ee _ hi.J)⟩) id⟩
            have hlook : ∀ d' av', lkS (sdst l n) (pdst l o) e' t d' = some av' → ∃ v, a.tmps[d']? = some v ∧ Rel w (OO he X) av' v := fun d' av' hl => by
              unfold lkS at hl
              split at hl
              · rename_i hpd'; exact hlookP d' av' hpd' hl
              · split at hl
                · cases hl
                · rename_i hsd'; exact hbase d' av' hsd' hl
            have henv : Env X he (evS (sdst l n) (pdst l o) e' t) a.eval w := by
              refine ⟨hi.heap, fun x av' hx => ?_⟩
              cases x with
              | tmp d' =>
                obtain ⟨v, e, r⟩ := hlook d' av' hx
                have : a.eval (.tmp d') = v := by simp [Act.eval, Array.getD_eq_getD_getElem?, e]
                rw [this]; exact r
              | const x => cases hx; exact .v x
              | global g => cases hx; exact .v _
              | func f => cases hx; exact .fn _ _ _ _ _ rfl rfl (fun j h => absurd h (Nat.not_lt_zero j)) (fun j h => absurd h (Nat.not_lt_zero j))
            have hguard : ∀ b, gdS l (lkS (sdst l n) (pdst l o) e' t) o = some b → Region.wanted o (yielded l.toArray a.tmps) = b := fun b hg => by
              unfold gdS at hg
              unfold Region.wanted
              split at hg
              · rename_i h0; rw [h0]; simpa using hg
              · rename_i j want h0
                rw [h0]
                simp only
                split at hg
                · rename_i d2 hd2
                  have hd' : ((l.toArray)[j]?).bind (·.dst) = some d2 := by simpa [dstOf] using hd2
                  split at hg
                  · rename_i c hcc
                    obtain ⟨v, e, r⟩ := hlook _ _ hcc
                    rw [r.v_eq] at e
                    simp only [Option.some.injEq] at hg
                    subst hg
                    simp only [yielded, hd', Option.bind_some, e]
                    cases c <;> cases want <;> rfl
                  · rename_i c hcc
                    obtain ⟨v, e, r⟩ := hlook _ _ hcc
                    rw [r.v_eq] at e
                    simp only [Option.some.injEq] at hg
                    subst hg
                    simp only [yielded, hd', Option.bind_some, e]
                    cases want <;> rfl
                  · cases hg
                · cases hg
            have hdni : d < nt := Nat.le_of_ble_eq_true hdn
            have hdi : dstOf l i = some d := by rw [hdo]; exact hqd
            have hput : ∀ v d', d ≠ d' → (a.put (some d) v).tmps[d']? = a.tmps[d']? := fun v d' hdd => by simp [Act.put, hdd]
            have hgo : ∀ v w', Rel w' (OO he X) av v → HRel X w' he → Keep (owns he) w (owns he) w' → wpAnyIn (FW ro) 0 P .any l.toArray (AOut X nt ⟨t, h, dsl⟩ w0 Q) fuel (listed.setIfInBounds i true) (a.put o.dst v) w' := fun v w' hr hh hkp => by
              rw [hqd]
              refine ih (U.erase i) L ee he F _ _ _ ?_ hG hU' hf'
              have hkk := fun b (hb : ¬ OO he X b) hl => hkp.oo (X := X) b hb hl
              refine ⟨by simp [hi.size], hcl, fun k hk => by rw [getD_set_ne false (by omega)]; exact hi.tail k hk, by simp [Act.put, hi.tsz], hi.defs, hi.J, hh, fun k => ?_, fun k dk avk hk hkd hFk hlk => ?_, fun k dk avk hk hke hkd hEk hlk => ?_, fun dk avk hl => ?_, hi.edom, fun dk avk hj hl => ?_, hi.keep.trans hkp⟩
              · rw [hi.lst k]
                by_cases hki : k = i
                · subst hki; simp [hie]
                · rw [getD_set_ne false (Ne.symm hki)]
              · by_cases hki : i = k
                · subst hki
                  have : dk = d := by rw [hdi] at hkd; exact (Option.some.inj hkd).symm
                  subst this
                  have : avk = av := hown.elim (fun h => Option.some.inj (hFk.symm.trans h.2)) (fun h => absurd hk h.1)
                  subst this
                  exact ⟨v, by simp [Act.put, hi.tsz, hdni], hr⟩
                · rw [getD_set_ne false hki] at hlk
                  obtain ⟨u, e, r⟩ := hi.lvals k dk avk hk hkd hFk hlk
                  exact ⟨u, by rw [hput v dk (hne d k dk hqd (hC.lat k hk).2.1 (Ne.symm hki) hkd)]; exact e, r.keep hkp.size hkk⟩
              · by_cases hki : i = k
                · subst hki
                  have : dk = d := by rw [hdi] at hkd; exact (Option.some.inj hkd).symm
                  subst this
                  have : avk = av := hown.elim (fun h => absurd (List.mem_append_right _ h.1) hke) (fun h => Option.some.inj (hEk.symm.trans h.2))
                  subst this
                  exact ⟨v, by simp [Act.put, hi.tsz, hdni], hr⟩
                · rw [getD_set_ne false hki] at hlk
                  obtain ⟨u, e, r⟩ := hi.vals k dk avk hk hke hkd hEk hlk
                  exact ⟨u, by rw [hput v dk (hne d k dk hqd hk (Ne.symm hki) hkd)]; exact e, r.keep hkp.size hkk⟩
              · obtain ⟨u, e, r⟩ := hi.evals dk avk hl
                obtain ⟨k, k1, k2⟩ := (hi.edom dk).1 (by rw [hl]; simp)
                obtain ⟨k3, k4, _⟩ := (hi.lst k).1 k1
                exact ⟨u, by rw [hput v dk (hne d k dk hqd k4 (fun e => hie (e ▸ k3)) k2)]; exact e, r.keep hkp.size hkk⟩
              · obtain ⟨u, e, r⟩ := hi.base dk avk hj hl
                exact ⟨u, by rw [hput v dk (fun e => hj i hin (by rw [← e]; exact hdi))]; exact e, r.keep hkp.size hkk⟩
            rcases hq with ⟨hg, hq⟩ | ⟨hg, rfl⟩
            · rw [if_pos (hguard _ hg)]
              exact hq he rfl X a w _ _ henv fun v w' hr hh hkp => hgo v w' hr hh hkp
            · rw [if_neg (by rw [hguard _ hg]; simp)]
              exact ⟨about_true, hgo _ _ (.v _) hi.heap (.refl _ _)⟩
  have hrep : ∀ i, (Array.replicate l.length false).getD i false = false := getD_rep l.length
  have hsz : l.toArray.size = l.length := by simp
  obtain ⟨F0, hF0⟩ : ∃ F0, (∀ k, k ∈ eff → k < n → k ∈ ([] : List Nat)) → GoodF P ro nt Q l n late t dsl E [] h F0 := by
    by_cases hA : ∀ k, k ∈ eff → k < n → k ∈ ([] : List Nat)
    · obtain ⟨F', k1, k2, k3, k4, k5⟩ := lfacts hC (r := late) (fun _ h => h) hC.lnd (fun j hj d hd => by
        rw [lk_append]
        obtain ⟨oj, g1, _, _, g4⟩ := hC.dst j (hC.lat j hj).2.1
        have hoj : oj.dst = some d := by rw [← hsome_dst j oj g1]; exact hd
        cases hx : lk E d with
        | some y =>
          obtain ⟨q, q1, q2, q3, q4⟩ := hE1' d y hx
          exact absurd rfl (g4 d hoj q q1 (fun e => q3 (e ▸ hj)) d q4)
        | none => rfl) (hfin _ _ _ h0 hA)
      exact ⟨F', fun _ => ⟨k1, k2, k3, k4, k5⟩⟩
    · exact ⟨[], fun h => absurd h hA⟩
  refine main l.toArray.size (List.range l.length) [] [] h F0 _ a0 { w0 with drawn := w0.drawn + 1 } ⟨by simp, fun i hi => ?_, fun i _ => ?_, hs.size, hs.defs, h0, ?_, fun i => ?_, fun i d av _ _ _ hl => ?_, fun i d av _ _ _ _ hl => ?_, fun d av hl => by simp [lk] at hl, fun d => by simp [lk], fun d av _ hl => ?_, ⟨Nat.le_refl _, fun b _ h => ⟨rfl, h⟩, rfl, rfl⟩⟩
    hF0 (fun i hi _ => List.mem_range.2 hi) (by simp)
  · rw [hsz, hrep i] at hi; cases hi
  · rw [hsz]; exact hrep i
  · exact hs.heap.grow (Nat.le_refl _) fun _ _ => rfl
  · rw [hsz, hrep i]; simp
  · rw [hsz, hrep i] at hl; cases hl
  · rw [hsz, hrep i] at hl; cases hl
  · obtain ⟨v, e, r⟩ := hs.fr d av hl
    exact ⟨v, e, Rel.keep (w := w0) (O := OO h X) (Nat.le_refl _) (fun b hb _ => ⟨rfl, hb⟩) r⟩
/-- Those that change memory come one after another. -/
def chainJ (l : List Oper) (n : Nat) : List Nat → Bool
  | [] => true
  | [i] => Nat.blt i n
  | i :: j :: r => Nat.blt i n && ((clos l j (predsOf l j)).any (Nat.beq i) && chainJ l n (j :: r))
section
variable {P : Program} {ro : Option Nat} {nt : Nat} {l : List Oper} {dsl : List Nat}
def jch (P : Program) (ro : Option Nat) (nt : Nat) (C : List Res → Prop) (l : List Oper) (dsl : List Nat) (E tt : Fr) : List Nat → Fr → List Res → (Fr → List Res → Prop) → Prop
  | [], ee, he, K => K ee he
  | i :: r, ee, he, K => ∃ o, l[i]? = some o ∧ ∀ u, OE P ro nt o ⟨fltP (pdst l o) E ++ (fltP (pdst l o) ee ++ (tt ++ u)), he, dsl⟩
      (fun s' => ∃ av he', s' = ⟨stF o av (fltP (pdst l o) E ++ (fltP (pdst l o) ee ++ (tt ++ u))), he', dsl⟩ ∧ C he' ∧ jch P ro nt C l dsl E tt r (stF o av ee) he' K)
theorem jcn {C : List Res → Prop} {E tt ee : Fr} {he : List Res} {K : Fr → List Res → Prop} (hk : K ee he) : jch P ro nt C l dsl E tt [] ee he K := hk
theorem jce {C : List Res → Prop} {E tt ee : Fr} {he : List Res} {K : Fr → List Res → Prop} {i : Nat} {r : List Nat} {o : Oper} (ho : l[i]? = some o)
    (hk : ∀ u, OE P ro nt o ⟨fltP (pdst l o) E ++ (fltP (pdst l o) ee ++ (tt ++ u)), he, dsl⟩
      (fun s' => ∃ av he', s' = ⟨stF o av (fltP (pdst l o) E ++ (fltP (pdst l o) ee ++ (tt ++ u))), he', dsl⟩ ∧ C he' ∧ jch P ro nt C l dsl E tt r (stF o av ee) he' K)) : jch P ro nt C l dsl E tt (i :: r) ee he K := ⟨o, ho, hk⟩
theorem chain_at {n : Nat} : ∀ {eff : List Nat}, chainJ l n eff = true → ∀ k, (hk : k + 1 < eff.length) → eff[k] ∈ clos l eff[k + 1] (predsOf l eff[k + 1])
  | [], _, k, hk => by simp at hk
  | [i], _, k, hk => by simp at hk
  | i :: j :: r, h, k, hk => by
    simp only [chainJ, Bool.and_eq_true] at h
    cases k with
    | zero =>
      obtain ⟨x, hx, e⟩ := List.any_eq_true.1 h.2.1
      simp only [List.getElem_cons_zero, List.getElem_cons_succ, Nat.zero_add]
      rw [Nat.eq_of_beq_eq_true e]; exact hx
    | succ k => exact chain_at (eff := j :: r) h.2.2 k (by simpa using hk)
end
theorem aw_drawX {P : Program} {ro : Option Nat} {nt rid : Nat} {Q : Exit → St → Prop} {l : List Oper} {t : Fr} {h : List Res} {dsl : List Nat} (n : Nat) (eff late : List Nat) (C : List Res → Prop) [hm : Mixed P] (hc : soupJ l n eff late = true) (hch : chainJ l n eff = true) (h0 : C h)
    (hk : jsoup P ro nt C l (eff ++ late) (sdst l n) t (l.take n) 0 [] (fun E => jch P ro nt C l dsl E (fltN (sdst l n) t) eff [] h (fun ee he => lsoup P ro nt he l (sdst l n) t late (E ++ ee) (fun F => aops P ro nt l.toArray (l.drop n) Q ⟨F ++ t, he, dsl⟩)))) : aw P ro nt (.region rid l.toArray true) Q ⟨t, h, dsl⟩ := by
  have hmono : ∀ (os : List Oper) (i : Nat) (e : Fr) (K K' : Fr → Prop), (∀ e, K e → K' e) → jsoup P ro nt C l (eff ++ late) (sdst l n) t os i e K → jsoup P ro nt C l (eff ++ late) (sdst l n) t os i e K' := by
    intro os
    induction os with
    | nil => intro i e K K' h hk; exact h _ hk
    | cons o os ih =>
      intro i e K K' h hk
      rcases hk with ⟨h1, h2⟩ | ⟨h1, d, av, h2, h3⟩
      · exact .inl ⟨h1, ih _ _ _ _ h h2⟩
      · exact .inr ⟨h1, d, av, h2, ih _ _ _ _ h h3⟩
  have hnd : ∀ (L : List Nat), chainJ l n L = true → (∀ i, i < l.length → ∀ j ∈ predsOf l i, j < i) → L.Pairwise (· < ·) ∧ ∀ i ∈ L, i < n := by
    intro L
    induction L with
    | nil => intro _ _; exact ⟨.nil, fun i h => by cases h⟩
    | cons i L ih =>
      intro hL hb
      cases L with
      | nil => exact ⟨by simp, fun j hj => by simp only [List.mem_singleton] at hj; subst hj; exact Nat.le_of_ble_eq_true hL⟩
      | cons j L =>
        have hL' := hL
        simp only [chainJ, Bool.and_eq_true] at hL
        obtain ⟨h1, h2⟩ := ih hL.2.2 hb
        have hjn : j < n := h2 j (by simp)
        have hij : i < j := by
          have hcl := chain_at hL' 0 (by simp)
          have hlt : ∀ (k : Nat) (S : List Nat) (b : Nat), (∀ x ∈ S, x < b) → ∀ x ∈ clos l k S, x < b := by
            intro k
            induction k with
            | zero => intro S b hS x hx; exact hS x hx
            | succ k ihk =>
              intro S b hS x hx
              unfold clos at hx
              refine ihk _ b (fun y hy => ?_) x hx
              split at hy
              · rename_i hany
                rcases List.mem_append.1 hy with hy | hy
                · exact hS y hy
                · obtain ⟨z, hz, e⟩ := List.any_eq_true.1 hany
                  have hzb := hS z hz
                  rw [← Nat.eq_of_beq_eq_true e] at hzb
                  by_cases hkl : k < l.length
                  · have := hb k hkl y hy; omega
                  · simp only [predsOf, List.getElem?_eq_none (Nat.le_of_not_lt hkl)] at hy; cases hy
              · exact hS y hy
          simp only [List.getElem_cons_zero, List.getElem_cons_succ, Nat.zero_add] at hcl
          by_cases hjl : j < l.length
          · exact hlt j _ j (hb j hjl) i hcl
          · have : predsOf l j = [] := by simp only [predsOf, List.getElem?_eq_none (Nat.le_of_not_lt hjl)]
            rw [this] at hcl
            have := hlt j [] 0 (fun x hx => by cases hx) i hcl; omega
        refine ⟨List.pairwise_cons.2 ⟨fun x hx => ?_, h1⟩, fun x hx => ?_⟩
        · rcases List.mem_cons.1 hx with rfl | hx
          · exact hij
          · have := (List.pairwise_cons.1 h1).1 x hx; omega
        · rcases List.mem_cons.1 hx with rfl | hx
          · exact Nat.le_of_ble_eq_true hL.1
          · exact h2 x hx
  obtain ⟨hlt, hin⟩ := hnd eff hch (soupD_of hc).back
  refine aw_drawJ n eff late C hc (hmono _ _ _ _ _ (fun E hE => ?_) hk)
  refine ⟨fun L ee he => C he ∧ ∃ k, L = (eff.take k).reverse ∧ jch P ro nt C l dsl E (fltN (sdst l n) t) (eff.drop k) ee he (fun ee he => lsoup P ro nt he l (sdst l n) t late (E ++ ee) (fun F => aops P ro nt l.toArray (l.drop n) Q ⟨F ++ t, he, dsl⟩)), ⟨h0, 0, by simp, by simpa using hE⟩, fun L ee he h => h.1, ?_, ?_⟩
  · rintro L ee he ⟨hCe, k, rfl, hj⟩ i o hie hiL hio hpre u
    obtain ⟨m, hm', rfl⟩ := List.getElem_of_mem hie
    have hkm : k ≤ m := Classical.byContradiction fun h => hiL (by rw [List.mem_reverse, List.mem_take_iff_getElem]; exact ⟨m, by omega, rfl⟩)
    have hmk : m = k := by
      rcases Nat.eq_or_lt_of_le hkm with h | h
      · exact h.symm
      · exfalso
        obtain ⟨m, rfl⟩ : ∃ m', m = m' + 1 := ⟨m - 1, by omega⟩
        have hcl := chain_at hch m hm'
        have := hpre _ hcl (List.getElem_mem _)
        rw [List.mem_reverse, List.mem_take_iff_getElem] at this
        obtain ⟨q, hq, e⟩ := this
        have hq' : q < m := by omega
        have := List.pairwise_iff_getElem.1 hlt q m (by omega) (by omega) hq'
        omega
    subst hmk
    rw [List.drop_eq_getElem_cons hm'] at hj
    obtain ⟨o', ho', hoe⟩ := hj
    obtain rfl : o' = o := Option.some.inj (ho'.symm.trans hio)
    intro X a w K Q' hs hK
    refine hoe u X a w K Q' hs fun s' a' w' hn hs' hk' => ?_
    obtain ⟨av, he', e, hC', hj'⟩ := hn
    exact hK s' a' w' ⟨av, he', e, hC', m + 1, by rw [List.take_succ_eq_append_getElem hm', List.reverse_append]; rfl, hj'⟩ hs' hk'
  · rintro L ee he ⟨hCe, k, rfl, hj⟩ hall
    have : eff.length ≤ k := Classical.byContradiction fun h => by
      have hk' : k < eff.length := by omega
      have := hall eff[k] (List.getElem_mem _) (hin _ (List.getElem_mem _))
      rw [List.mem_reverse, List.mem_take_iff_getElem] at this
      obtain ⟨q, hq, e⟩ := this
      have := List.pairwise_iff_getElem.1 hlt q k (by omega) hk' (by omega)
      omega
    rw [List.drop_eq_nil_of_le this] at hj
    exact hj
end Go.Ab
/- What rules.look keeps, aS resources. Conditions: none. -/
set_option linter.unusedVariables false
set_option linter.unusedSimpArgs false
set_option maxRecDepth 10000
namespace Go.Proofs
open Go Go.Ab
attribute [local irreducible] QR QV OE aops aw dsoup dsoupM dalloc dallocM thn inBlk jsoup jch lsoup
open Go.H
instance : Chk2 Tryz.prog 256 := ⟨fun e w a b => by kernel_rfl⟩
instance : Chk3 Tryz.prog 258 := ⟨fun e w a b c => by kernel_rfl⟩
abbrev mpv (r : Nat) : AV := .v (.map (some r))
abbrev nmp : AV := .v (.map none)
abbrev verA (v : Ver) : AV := .agg (verR v)
instance : ZV (.agg #[.int .i64 0, .int .i64 0]) (verA ⟨0, 0⟩) := ZV.agg2
abbrev lookN (h : Hist) : List AV := histC h ++ [nmp, nmp, nmp, nmp, nmp]
abbrev lookC (h : Hist) (r1 r2 r3 r4 r5 : Nat) : List AV := histC h ++ [mpv r1, mpv r2, mpv r3, mpv r4, mpv r5]
/-- What a look has, past so many events. -/
abbrev lookS (bl : Nat) (h : Hist) (p : List Ev) (r1 r2 r3 r4 r5 : Nat) (W : List Res) : List Res := .box bl 111 (lookC h r1 r2 r3 r4 r5) :: .map r1 (encM intK (mapA bv (begM p))) :: .map r2 (encM intK (mapA bv (ovrM p))) ::
  .map r3 (encM int2K (mapA iv (wroM p))) :: .map r4 (encM int2K (mapA verA (lasM p))) :: .map r5 (encM int3K (mapA bv (thrM p))) :: W
def placeV : Option Nat → AV
  | some i => .tup [iv i, bv true]
  | none => .tup [iv 0, bv false]
end Go.Proofs
/- The walks of slices.IndexFunc, ContainsFunc and history.all. Conditions: none. -/
set_option linter.unusedVariables false
set_option linter.unusedSimpArgs false
set_option maxRecDepth 10000
namespace Go.Proofs
open Go Go.Ab
attribute [local irreducible] QR QV OE aops aw dsoup dsoupM dalloc dallocM thn inBlk
open Go.H
theorem indexFuncInt {full : Bool} (l : List Int) (fv : AV) (p : Int → Bool) (G : List Res) (hp : ∀ a ∈ l, FCall Tryz.prog fv [iv a] G (fun r h' => h' = G ∧ r = bv (p a))) (hlen : l.length ≤ 4611686018427387904) : ACall Tryz.prog 88 [.list full 1 (l.map intR), fv] G (fun r h' => h' = G ∧ r = iv (fidx p 0 l)) := by
  refine acall_of_aw Tryz.func88 rfl rfl rfl ?_
  refine rn ?_
  refine aw_loop' (fun k : Nat => k ≤ l.length ∧ fidx p 0 l = fidx p k (l.drop k)) (fun k => ⟨[(8, iv k), (7, iv (l.map intR).length), (0, .list full 1 (l.map intR)), (1, fv)], G, []⟩) (fun k => l.length - k) 0 ⟨Nat.zero_le _, by simp⟩
    (ent_sub (.cons _ _ _ rfl (.cons _ _ _ rfl (.cons _ _ _ rfl (.cons _ _ _ rfl (.nil)))))) ?_
  rintro k ⟨hk, hnot⟩
  refine rn ?_
  refine aw_cond rfl (fun hc9 => ?_) (fun hc9 => ?_)
  · have hk2 : k < l.length := by simpa using hc9
    have hrow : (l.map intR)[k]? = some (intR l[k]) := by simp [hk2]
    have hd := List.drop_eq_getElem_cons hk2
    refine rn ?_
    refine qv rfl rfl (qv_call rfl rfl (hp l[k] (by simp))) ?_
    refine rn ?_
    refine aw_cond rfl (fun hc16 => ?_) (fun hc16 => ?_)
    · refine rn ?_
      exact retq (.cons _ _ _ _ (.tmp _ _ rfl) .nil) (.refl _ _) ⟨rfl, by rw [hnot, hd, fidx, if_pos hc16]; rfl⟩
    · refine rn ?_
      exact ⟨k + 1, ⟨by omega, by rw [hnot, hd, fidx, if_neg (by simp [hc16])]⟩, (ent_sub (.cons _ _ _ rfl (.cons _ _ _ rfl (.cons _ _ _ rfl (.cons _ _ _ rfl (.nil)))))), by omega⟩
  · have hk3 : k = l.length := by
      have : l.length ≤ k := by simpa using hc9
      omega
    refine rn ?_
    exact retq (.cons _ _ _ _ (.tmp _ _ rfl) .nil) (.refl _ _) ⟨rfl, by rw [hnot, hk3, List.drop_length, fidx]; rfl⟩
theorem containsFuncInt {full : Bool} (l : List Int) (fv : AV) (p : Int → Bool) (G : List Res) (hp : ∀ a ∈ l, FCall Tryz.prog fv [iv a] G (fun r h' => h' = G ∧ r = bv (p a))) (hlen : l.length ≤ 4611686018427387904) : ACall Tryz.prog 170 [.list full 1 (l.map intR), fv] G (fun r h' => h' = G ∧ r = bv (l.any p)) := by
  refine acall_of_aw Tryz.func170 rfl rfl rfl ?_
  refine rn ?_
  refine qv rfl rfl (qv_call rfl rfl (FCall.of_fun (indexFuncInt l _ p G hp hlen))) ?_
  refine rn ?_
  exact retq (.cons _ _ _ _ (.tmp _ _ rfl) .nil) (.refl _ _) ⟨rfl, by simp only [← fidx_ge p l 0]; rfl⟩
theorem allNotInt (a : Int) (fv : AV) (v : Bool) (b : Nat) (G : List Res) (hp : FCall Tryz.prog fv [iv a] G (fun r h' => h' = G ∧ r = bv v)) : ACall Tryz.prog 171 [iv a, .v (.pointer (some ⟨b, 0, none⟩))] (.box b 137 [fv] :: G) (fun r h' => h' = .box b 137 [fv] :: G ∧ r = bv (!v)) := by
  refine acall_of_aw Tryz.func171 rfl rfl rfl ?_
  refine rn ?_
  refine qv rfl rfl (qv_call rfl rfl (FCall.quiet (R := fun x => x = bv v) (h2 := [_]) (List.perm_append_comm (l₁ := [_])) hp)) ?_
  refine rn ?_
  exact retq (.cons _ _ _ _ (.tmp _ _ rfl) .nil) (.refl _ _) ⟨rfl, rfl⟩
theorem allInt {full : Bool} (l : List Int) (fv : AV) (p : Int → Bool) (G : List Res) (hone : fv.cellsOf = some [fv]) (hp : ∀ a ∈ l, FCall Tryz.prog fv [iv a] G (fun r h' => h' = G ∧ r = bv (p a))) (hlen : l.length ≤ 4611686018427387904) : ACall Tryz.prog 131 [.list full 1 (l.map intR), fv] G (fun r h' => h' = G ∧ r = bv (l.all p)) := by
  refine acall_of_aw Tryz.func131 rfl rfl rfl ?_
  refine rn ?_
  refine aops_e rfl (oe_box rfl hone rfl fun b3 => ?_)
  refine rn ?_
  refine qv rfl rfl (qv_call rfl rfl (FCall.of_fun (containsFuncInt l _ (fun a => !p a) (.box b3 137 [fv] :: G) (fun a ha => FCall.of_acall (fs := []) (cs := [.v (.pointer (some ⟨b3, 0, none⟩))]) (allNotInt a fv (p a) b3 G (hp a ha))) hlen))) ?_
  refine rn ?_
  exact retq (.cons _ _ _ _ (.tmp _ _ rfl) .nil) (.drop1 _ _ _) ⟨rfl, by simp only [← any_not p l]; rfl⟩
theorem indexFuncEv {full : Bool} (l : List Ev) (fv : AV) (p : Ev → Bool) (G : List Res) (hp : ∀ a ∈ l, FCall Tryz.prog fv [.agg (evR a)] G (fun r h' => h' = G ∧ r = bv (p a))) (hlen : l.length ≤ 4611686018427387904) : ACall Tryz.prog 206 [.list full 9 (l.map evR), fv] G (fun r h' => h' = G ∧ r = iv (fidx p 0 l)) := by
  refine acall_of_aw Tryz.func206 rfl rfl rfl ?_
  refine rn ?_
  refine aw_loop' (fun k : Nat => k ≤ l.length ∧ fidx p 0 l = fidx p k (l.drop k)) (fun k => ⟨[(8, iv k), (7, iv (l.map evR).length), (0, .list full 9 (l.map evR)), (1, fv)], G, []⟩) (fun k => l.length - k) 0 ⟨Nat.zero_le _, by simp⟩
    (ent_sub (.cons _ _ _ rfl (.cons _ _ _ rfl (.cons _ _ _ rfl (.cons _ _ _ rfl (.nil)))))) ?_
  rintro k ⟨hk, hnot⟩
  refine rn ?_
  refine aw_cond rfl (fun hc9 => ?_) (fun hc9 => ?_)
  · have hk2 : k < l.length := by simpa using hc9
    have hrow : (l.map evR)[k]? = some (evR l[k]) := by simp [hk2]
    have hd := List.drop_eq_getElem_cons hk2
    refine rn ?_
    refine qv rfl rfl (qv_call rfl rfl (hp l[k] (by simp))) ?_
    refine rn ?_
    refine aw_cond rfl (fun hc16 => ?_) (fun hc16 => ?_)
    · refine rn ?_
      exact retq (.cons _ _ _ _ (.tmp _ _ rfl) .nil) (.refl _ _) ⟨rfl, by rw [hnot, hd, fidx, if_pos hc16]; rfl⟩
    · refine rn ?_
      exact ⟨k + 1, ⟨by omega, by rw [hnot, hd, fidx, if_neg (by simp [hc16])]⟩, (ent_sub (.cons _ _ _ rfl (.cons _ _ _ rfl (.cons _ _ _ rfl (.cons _ _ _ rfl (.nil)))))), by omega⟩
  · have hk3 : k = l.length := by
      have : l.length ≤ k := by simpa using hc9
      omega
    refine rn ?_
    exact retq (.cons _ _ _ _ (.tmp _ _ rfl) .nil) (.refl _ _) ⟨rfl, by rw [hnot, hk3, List.drop_length, fidx]; rfl⟩
theorem containsFuncEv {full : Bool} (l : List Ev) (fv : AV) (p : Ev → Bool) (G : List Res) (hp : ∀ a ∈ l, FCall Tryz.prog fv [.agg (evR a)] G (fun r h' => h' = G ∧ r = bv (p a))) (hlen : l.length ≤ 4611686018427387904) : ACall Tryz.prog 172 [.list full 9 (l.map evR), fv] G (fun r h' => h' = G ∧ r = bv (l.any p)) := by
  refine acall_of_aw Tryz.func172 rfl rfl rfl ?_
  refine rn ?_
  refine qv rfl rfl (qv_call rfl rfl (FCall.of_fun (indexFuncEv l _ p G hp hlen))) ?_
  refine rn ?_
  exact retq (.cons _ _ _ _ (.tmp _ _ rfl) .nil) (.refl _ _) ⟨rfl, by simp only [← fidx_ge p l 0]; rfl⟩
theorem allNotEv (a : Ev) (fv : AV) (v : Bool) (b : Nat) (G : List Res) (hp : FCall Tryz.prog fv [.agg (evR a)] G (fun r h' => h' = G ∧ r = bv v)) : ACall Tryz.prog 173 [.agg (evR a), .v (.pointer (some ⟨b, 0, none⟩))] (.box b 171 [fv] :: G) (fun r h' => h' = .box b 171 [fv] :: G ∧ r = bv (!v)) := by
  refine acall_of_aw Tryz.func173 rfl rfl rfl ?_
  refine rn ?_
  refine aops_e rfl (oe_box rfl rfl rfl fun b2 => ?_)
  refine rn ?_
  refine qv rfl rfl (qv_call rfl rfl (FCall.quiet (R := fun x => x = bv v) (h2 := [_, _]) (List.perm_append_comm (l₁ := [_, _])) hp)) ?_
  refine rn ?_
  exact retq (.cons _ _ _ _ (.tmp _ _ rfl) .nil) (.drop1 _ _ _) ⟨rfl, rfl⟩
theorem allEv {full : Bool} (l : List Ev) (fv : AV) (p : Ev → Bool) (G : List Res) (hone : fv.cellsOf = some [fv]) (hp : ∀ a ∈ l, FCall Tryz.prog fv [.agg (evR a)] G (fun r h' => h' = G ∧ r = bv (p a))) (hlen : l.length ≤ 4611686018427387904) : ACall Tryz.prog 134 [.list full 9 (l.map evR), fv] G (fun r h' => h' = G ∧ r = bv (l.all p)) := by
  refine acall_of_aw Tryz.func134 rfl rfl rfl ?_
  refine rn ?_
  refine aops_e rfl (oe_box rfl hone rfl fun b3 => ?_)
  refine rn ?_
  refine qv rfl rfl (qv_call rfl rfl (FCall.of_fun (containsFuncEv l _ (fun a => !p a) (.box b3 171 [fv] :: G) (fun a ha => FCall.of_acall (fs := []) (cs := [.v (.pointer (some ⟨b3, 0, none⟩))]) (allNotEv a fv (p a) b3 G (hp a ha))) hlen))) ?_
  refine rn ?_
  exact retq (.cons _ _ _ _ (.tmp _ _ rfl) .nil) (.drop1 _ _ _) ⟨rfl, by simp only [← any_not p l]; rfl⟩
theorem indexFuncOrd {full : Bool} (l : List Ord) (fv : AV) (p : Ord → Bool) (G : List Res) (hp : ∀ a ∈ l, FCall Tryz.prog fv [.agg (ordR a)] G (fun r h' => h' = G ∧ r = bv (p a))) (hlen : l.length ≤ 4611686018427387904) : ACall Tryz.prog 151 [.list full 2 (l.map ordR), fv] G (fun r h' => h' = G ∧ r = iv (fidx p 0 l)) := by
  refine acall_of_aw Tryz.func151 rfl rfl rfl ?_
  refine rn ?_
  refine aw_loop' (fun k : Nat => k ≤ l.length ∧ fidx p 0 l = fidx p k (l.drop k)) (fun k => ⟨[(8, iv k), (7, iv (l.map ordR).length), (0, .list full 2 (l.map ordR)), (1, fv)], G, []⟩) (fun k => l.length - k) 0 ⟨Nat.zero_le _, by simp⟩
    (ent_sub (.cons _ _ _ rfl (.cons _ _ _ rfl (.cons _ _ _ rfl (.cons _ _ _ rfl (.nil)))))) ?_
  rintro k ⟨hk, hnot⟩
  refine rn ?_
  refine aw_cond rfl (fun hc9 => ?_) (fun hc9 => ?_)
  · have hk2 : k < l.length := by simpa using hc9
    have hrow : (l.map ordR)[k]? = some (ordR l[k]) := by simp [hk2]
    have hd := List.drop_eq_getElem_cons hk2
    refine rn ?_
    refine qv rfl rfl (qv_call rfl rfl (hp l[k] (by simp))) ?_
    refine rn ?_
    refine aw_cond rfl (fun hc16 => ?_) (fun hc16 => ?_)
    · refine rn ?_
      exact retq (.cons _ _ _ _ (.tmp _ _ rfl) .nil) (.refl _ _) ⟨rfl, by rw [hnot, hd, fidx, if_pos hc16]; rfl⟩
    · refine rn ?_
      exact ⟨k + 1, ⟨by omega, by rw [hnot, hd, fidx, if_neg (by simp [hc16])]⟩, (ent_sub (.cons _ _ _ rfl (.cons _ _ _ rfl (.cons _ _ _ rfl (.cons _ _ _ rfl (.nil)))))), by omega⟩
  · have hk3 : k = l.length := by
      have : l.length ≤ k := by simpa using hc9
      omega
    refine rn ?_
    exact retq (.cons _ _ _ _ (.tmp _ _ rfl) .nil) (.refl _ _) ⟨rfl, by rw [hnot, hk3, List.drop_length, fidx]; rfl⟩
theorem containsFuncOrd {full : Bool} (l : List Ord) (fv : AV) (p : Ord → Bool) (G : List Res) (hp : ∀ a ∈ l, FCall Tryz.prog fv [.agg (ordR a)] G (fun r h' => h' = G ∧ r = bv (p a))) (hlen : l.length ≤ 4611686018427387904) : ACall Tryz.prog 185 [.list full 2 (l.map ordR), fv] G (fun r h' => h' = G ∧ r = bv (l.any p)) := by
  refine acall_of_aw Tryz.func185 rfl rfl rfl ?_
  refine rn ?_
  refine qv rfl rfl (qv_call rfl rfl (FCall.of_fun (indexFuncOrd l _ p G hp hlen))) ?_
  refine rn ?_
  exact retq (.cons _ _ _ _ (.tmp _ _ rfl) .nil) (.refl _ _) ⟨rfl, by simp only [← fidx_ge p l 0]; rfl⟩
theorem allNotOrd (a : Ord) (fv : AV) (v : Bool) (b : Nat) (G : List Res) (hp : FCall Tryz.prog fv [.agg (ordR a)] G (fun r h' => h' = G ∧ r = bv v)) : ACall Tryz.prog 186 [.agg (ordR a), .v (.pointer (some ⟨b, 0, none⟩))] (.box b 173 [fv] :: G) (fun r h' => h' = .box b 173 [fv] :: G ∧ r = bv (!v)) := by
  refine acall_of_aw Tryz.func186 rfl rfl rfl ?_
  refine rn ?_
  refine aops_e rfl (oe_box rfl rfl rfl fun b2 => ?_)
  refine rn ?_
  refine qv rfl rfl (qv_call rfl rfl (FCall.quiet (R := fun x => x = bv v) (h2 := [_, _]) (List.perm_append_comm (l₁ := [_, _])) hp)) ?_
  refine rn ?_
  exact retq (.cons _ _ _ _ (.tmp _ _ rfl) .nil) (.drop1 _ _ _) ⟨rfl, rfl⟩
theorem allOrd {full : Bool} (l : List Ord) (fv : AV) (p : Ord → Bool) (G : List Res) (hone : fv.cellsOf = some [fv]) (hp : ∀ a ∈ l, FCall Tryz.prog fv [.agg (ordR a)] G (fun r h' => h' = G ∧ r = bv (p a))) (hlen : l.length ≤ 4611686018427387904) : ACall Tryz.prog 137 [.list full 2 (l.map ordR), fv] G (fun r h' => h' = G ∧ r = bv (l.all p)) := by
  refine acall_of_aw Tryz.func137 rfl rfl rfl ?_
  refine rn ?_
  refine aops_e rfl (oe_box rfl hone rfl fun b3 => ?_)
  refine rn ?_
  refine qv rfl rfl (qv_call rfl rfl (FCall.of_fun (containsFuncOrd l _ (fun a => !p a) (.box b3 173 [fv] :: G) (fun a ha => FCall.of_acall (fs := []) (cs := [.v (.pointer (some ⟨b3, 0, none⟩))]) (allNotOrd a fv (p a) b3 G (hp a ha))) hlen))) ?_
  refine rn ?_
  exact retq (.cons _ _ _ _ (.tmp _ _ rfl) .nil) (.drop1 _ _ _) ⟨rfl, by simp only [← any_not p l]; rfl⟩
theorem indexFuncMat {full : Bool} (l : List Mat) (fv : AV) (p : Mat → Bool) (G : List Res) (hp : ∀ a ∈ l, FCall Tryz.prog fv [.agg (matR a)] G (fun r h' => h' = G ∧ r = bv (p a))) (hlen : l.length ≤ 4611686018427387904) : ACall Tryz.prog 61 [.list full 4 (l.map matR), fv] G (fun r h' => h' = G ∧ r = iv (fidx p 0 l)) := by
  refine acall_of_aw Tryz.func61 rfl rfl rfl ?_
  refine rn ?_
  refine aw_loop' (fun k : Nat => k ≤ l.length ∧ fidx p 0 l = fidx p k (l.drop k)) (fun k => ⟨[(8, iv k), (7, iv (l.map matR).length), (0, .list full 4 (l.map matR)), (1, fv)], G, []⟩) (fun k => l.length - k) 0 ⟨Nat.zero_le _, by simp⟩
    (ent_sub (.cons _ _ _ rfl (.cons _ _ _ rfl (.cons _ _ _ rfl (.cons _ _ _ rfl (.nil)))))) ?_
  rintro k ⟨hk, hnot⟩
  refine rn ?_
  refine aw_cond rfl (fun hc9 => ?_) (fun hc9 => ?_)
  · have hk2 : k < l.length := by simpa using hc9
    have hrow : (l.map matR)[k]? = some (matR l[k]) := by simp [hk2]
    have hd := List.drop_eq_getElem_cons hk2
    refine rn ?_
    refine qv rfl rfl (qv_call rfl rfl (hp l[k] (by simp))) ?_
    refine rn ?_
    refine aw_cond rfl (fun hc16 => ?_) (fun hc16 => ?_)
    · refine rn ?_
      exact retq (.cons _ _ _ _ (.tmp _ _ rfl) .nil) (.refl _ _) ⟨rfl, by rw [hnot, hd, fidx, if_pos hc16]; rfl⟩
    · refine rn ?_
      exact ⟨k + 1, ⟨by omega, by rw [hnot, hd, fidx, if_neg (by simp [hc16])]⟩, (ent_sub (.cons _ _ _ rfl (.cons _ _ _ rfl (.cons _ _ _ rfl (.cons _ _ _ rfl (.nil)))))), by omega⟩
  · have hk3 : k = l.length := by
      have : l.length ≤ k := by simpa using hc9
      omega
    refine rn ?_
    exact retq (.cons _ _ _ _ (.tmp _ _ rfl) .nil) (.refl _ _) ⟨rfl, by rw [hnot, hk3, List.drop_length, fidx]; rfl⟩
theorem containsFuncMat {full : Bool} (l : List Mat) (fv : AV) (p : Mat → Bool) (G : List Res) (hp : ∀ a ∈ l, FCall Tryz.prog fv [.agg (matR a)] G (fun r h' => h' = G ∧ r = bv (p a))) (hlen : l.length ≤ 4611686018427387904) : ACall Tryz.prog 187 [.list full 4 (l.map matR), fv] G (fun r h' => h' = G ∧ r = bv (l.any p)) := by
  refine acall_of_aw Tryz.func187 rfl rfl rfl ?_
  refine rn ?_
  refine qv rfl rfl (qv_call rfl rfl (FCall.of_fun (indexFuncMat l _ p G hp hlen))) ?_
  refine rn ?_
  exact retq (.cons _ _ _ _ (.tmp _ _ rfl) .nil) (.refl _ _) ⟨rfl, by simp only [← fidx_ge p l 0]; rfl⟩
theorem allNotMat (a : Mat) (fv : AV) (v : Bool) (b : Nat) (G : List Res) (hp : FCall Tryz.prog fv [.agg (matR a)] G (fun r h' => h' = G ∧ r = bv v)) : ACall Tryz.prog 188 [.agg (matR a), .v (.pointer (some ⟨b, 0, none⟩))] (.box b 92 [fv] :: G) (fun r h' => h' = .box b 92 [fv] :: G ∧ r = bv (!v)) := by
  refine acall_of_aw Tryz.func188 rfl rfl rfl ?_
  refine rn ?_
  refine aops_e rfl (oe_box rfl rfl rfl fun b2 => ?_)
  refine rn ?_
  refine qv rfl rfl (qv_call rfl rfl (FCall.quiet (R := fun x => x = bv v) (h2 := [_, _]) (List.perm_append_comm (l₁ := [_, _])) hp)) ?_
  refine rn ?_
  exact retq (.cons _ _ _ _ (.tmp _ _ rfl) .nil) (.drop1 _ _ _) ⟨rfl, rfl⟩
theorem allMat {full : Bool} (l : List Mat) (fv : AV) (p : Mat → Bool) (G : List Res) (hone : fv.cellsOf = some [fv]) (hp : ∀ a ∈ l, FCall Tryz.prog fv [.agg (matR a)] G (fun r h' => h' = G ∧ r = bv (p a))) (hlen : l.length ≤ 4611686018427387904) : ACall Tryz.prog 139 [.list full 4 (l.map matR), fv] G (fun r h' => h' = G ∧ r = bv (l.all p)) := by
  refine acall_of_aw Tryz.func139 rfl rfl rfl ?_
  refine rn ?_
  refine aops_e rfl (oe_box rfl hone rfl fun b3 => ?_)
  refine rn ?_
  refine qv rfl rfl (qv_call rfl rfl (FCall.of_fun (containsFuncMat l _ (fun a => !p a) (.box b3 92 [fv] :: G) (fun a ha => FCall.of_acall (fs := []) (cs := [.v (.pointer (some ⟨b3, 0, none⟩))]) (allNotMat a fv (p a) b3 G (hp a ha))) hlen))) ?_
  refine rn ?_
  exact retq (.cons _ _ _ _ (.tmp _ _ rfl) .nil) (.drop1 _ _ _) ⟨rfl, by simp only [← any_not p l]; rfl⟩
theorem indexFuncWan {full : Bool} (l : List Wan) (fv : AV) (p : Wan → Bool) (G : List Res) (hp : ∀ a ∈ l, FCall Tryz.prog fv [.agg (wanR a)] G (fun r h' => h' = G ∧ r = bv (p a))) (hlen : l.length ≤ 4611686018427387904) : ACall Tryz.prog 209 [.list full 2 (l.map wanR), fv] G (fun r h' => h' = G ∧ r = iv (fidx p 0 l)) := by
  refine acall_of_aw Tryz.func209 rfl rfl rfl ?_
  refine rn ?_
  refine aw_loop' (fun k : Nat => k ≤ l.length ∧ fidx p 0 l = fidx p k (l.drop k)) (fun k => ⟨[(8, iv k), (7, iv (l.map wanR).length), (0, .list full 2 (l.map wanR)), (1, fv)], G, []⟩) (fun k => l.length - k) 0 ⟨Nat.zero_le _, by simp⟩
    (ent_sub (.cons _ _ _ rfl (.cons _ _ _ rfl (.cons _ _ _ rfl (.cons _ _ _ rfl (.nil)))))) ?_
  rintro k ⟨hk, hnot⟩
  refine rn ?_
  refine aw_cond rfl (fun hc9 => ?_) (fun hc9 => ?_)
  · have hk2 : k < l.length := by simpa using hc9
    have hrow : (l.map wanR)[k]? = some (wanR l[k]) := by simp [hk2]
    have hd := List.drop_eq_getElem_cons hk2
    refine rn ?_
    refine qv rfl rfl (qv_call rfl rfl (hp l[k] (by simp))) ?_
    refine rn ?_
    refine aw_cond rfl (fun hc16 => ?_) (fun hc16 => ?_)
    · refine rn ?_
      exact retq (.cons _ _ _ _ (.tmp _ _ rfl) .nil) (.refl _ _) ⟨rfl, by rw [hnot, hd, fidx, if_pos hc16]; rfl⟩
    · refine rn ?_
      exact ⟨k + 1, ⟨by omega, by rw [hnot, hd, fidx, if_neg (by simp [hc16])]⟩, (ent_sub (.cons _ _ _ rfl (.cons _ _ _ rfl (.cons _ _ _ rfl (.cons _ _ _ rfl (.nil)))))), by omega⟩
  · have hk3 : k = l.length := by
      have : l.length ≤ k := by simpa using hc9
      omega
    refine rn ?_
    exact retq (.cons _ _ _ _ (.tmp _ _ rfl) .nil) (.refl _ _) ⟨rfl, by rw [hnot, hk3, List.drop_length, fidx]; rfl⟩
theorem containsFuncWan {full : Bool} (l : List Wan) (fv : AV) (p : Wan → Bool) (G : List Res) (hp : ∀ a ∈ l, FCall Tryz.prog fv [.agg (wanR a)] G (fun r h' => h' = G ∧ r = bv (p a))) (hlen : l.length ≤ 4611686018427387904) : ACall Tryz.prog 189 [.list full 2 (l.map wanR), fv] G (fun r h' => h' = G ∧ r = bv (l.any p)) := by
  refine acall_of_aw Tryz.func189 rfl rfl rfl ?_
  refine rn ?_
  refine qv rfl rfl (qv_call rfl rfl (FCall.of_fun (indexFuncWan l _ p G hp hlen))) ?_
  refine rn ?_
  exact retq (.cons _ _ _ _ (.tmp _ _ rfl) .nil) (.refl _ _) ⟨rfl, by simp only [← fidx_ge p l 0]; rfl⟩
theorem allNotWan (a : Wan) (fv : AV) (v : Bool) (b : Nat) (G : List Res) (hp : FCall Tryz.prog fv [.agg (wanR a)] G (fun r h' => h' = G ∧ r = bv v)) : ACall Tryz.prog 190 [.agg (wanR a), .v (.pointer (some ⟨b, 0, none⟩))] (.box b 176 [fv] :: G) (fun r h' => h' = .box b 176 [fv] :: G ∧ r = bv (!v)) := by
  refine acall_of_aw Tryz.func190 rfl rfl rfl ?_
  refine rn ?_
  refine aops_e rfl (oe_box rfl rfl rfl fun b2 => ?_)
  refine rn ?_
  refine qv rfl rfl (qv_call rfl rfl (FCall.quiet (R := fun x => x = bv v) (h2 := [_, _]) (List.perm_append_comm (l₁ := [_, _])) hp)) ?_
  refine rn ?_
  exact retq (.cons _ _ _ _ (.tmp _ _ rfl) .nil) (.drop1 _ _ _) ⟨rfl, rfl⟩
theorem allWan {full : Bool} (l : List Wan) (fv : AV) (p : Wan → Bool) (G : List Res) (hone : fv.cellsOf = some [fv]) (hp : ∀ a ∈ l, FCall Tryz.prog fv [.agg (wanR a)] G (fun r h' => h' = G ∧ r = bv (p a))) (hlen : l.length ≤ 4611686018427387904) : ACall Tryz.prog 141 [.list full 2 (l.map wanR), fv] G (fun r h' => h' = G ∧ r = bv (l.all p)) := by
  refine acall_of_aw Tryz.func141 rfl rfl rfl ?_
  refine rn ?_
  refine aops_e rfl (oe_box rfl hone rfl fun b3 => ?_)
  refine rn ?_
  refine qv rfl rfl (qv_call rfl rfl (FCall.of_fun (containsFuncWan l _ (fun a => !p a) (.box b3 176 [fv] :: G) (fun a ha => FCall.of_acall (fs := []) (cs := [.v (.pointer (some ⟨b3, 0, none⟩))]) (allNotWan a fv (p a) b3 G (hp a ha))) hlen))) ?_
  refine rn ?_
  exact retq (.cons _ _ _ _ (.tmp _ _ rfl) .nil) (.drop1 _ _ _) ⟨rfl, by simp only [← any_not p l]; rfl⟩
theorem indexFuncSeen {full : Bool} (l : List Seen) (fv : AV) (p : Seen → Bool) (G : List Res) (hp : ∀ a ∈ l, FCall Tryz.prog fv [.agg (seenR a)] G (fun r h' => h' = G ∧ r = bv (p a))) (hlen : l.length ≤ 4611686018427387904) : ACall Tryz.prog 104 [.list full 3 (l.map seenR), fv] G (fun r h' => h' = G ∧ r = iv (fidx p 0 l)) := by
  refine acall_of_aw Tryz.func104 rfl rfl rfl ?_
  refine rn ?_
  refine aw_loop' (fun k : Nat => k ≤ l.length ∧ fidx p 0 l = fidx p k (l.drop k)) (fun k => ⟨[(8, iv k), (7, iv (l.map seenR).length), (0, .list full 3 (l.map seenR)), (1, fv)], G, []⟩) (fun k => l.length - k) 0 ⟨Nat.zero_le _, by simp⟩
    (ent_sub (.cons _ _ _ rfl (.cons _ _ _ rfl (.cons _ _ _ rfl (.cons _ _ _ rfl (.nil)))))) ?_
  rintro k ⟨hk, hnot⟩
  refine rn ?_
  refine aw_cond rfl (fun hc9 => ?_) (fun hc9 => ?_)
  · have hk2 : k < l.length := by simpa using hc9
    have hrow : (l.map seenR)[k]? = some (seenR l[k]) := by simp [hk2]
    have hd := List.drop_eq_getElem_cons hk2
    refine rn ?_
    refine qv rfl rfl (qv_call rfl rfl (hp l[k] (by simp))) ?_
    refine rn ?_
    refine aw_cond rfl (fun hc16 => ?_) (fun hc16 => ?_)
    · refine rn ?_
      exact retq (.cons _ _ _ _ (.tmp _ _ rfl) .nil) (.refl _ _) ⟨rfl, by rw [hnot, hd, fidx, if_pos hc16]; rfl⟩
    · refine rn ?_
      exact ⟨k + 1, ⟨by omega, by rw [hnot, hd, fidx, if_neg (by simp [hc16])]⟩, (ent_sub (.cons _ _ _ rfl (.cons _ _ _ rfl (.cons _ _ _ rfl (.cons _ _ _ rfl (.nil)))))), by omega⟩
  · have hk3 : k = l.length := by
      have : l.length ≤ k := by simpa using hc9
      omega
    refine rn ?_
    exact retq (.cons _ _ _ _ (.tmp _ _ rfl) .nil) (.refl _ _) ⟨rfl, by rw [hnot, hk3, List.drop_length, fidx]; rfl⟩
theorem containsFuncSeen {full : Bool} (l : List Seen) (fv : AV) (p : Seen → Bool) (G : List Res) (hp : ∀ a ∈ l, FCall Tryz.prog fv [.agg (seenR a)] G (fun r h' => h' = G ∧ r = bv (p a))) (hlen : l.length ≤ 4611686018427387904) : ACall Tryz.prog 207 [.list full 3 (l.map seenR), fv] G (fun r h' => h' = G ∧ r = bv (l.any p)) := by
  refine acall_of_aw Tryz.func207 rfl rfl rfl ?_
  refine rn ?_
  refine qv rfl rfl (qv_call rfl rfl (FCall.of_fun (indexFuncSeen l _ p G hp hlen))) ?_
  refine rn ?_
  exact retq (.cons _ _ _ _ (.tmp _ _ rfl) .nil) (.refl _ _) ⟨rfl, by simp only [← fidx_ge p l 0]; rfl⟩
theorem allNotSeen (a : Seen) (fv : AV) (v : Bool) (b : Nat) (G : List Res) (hp : FCall Tryz.prog fv [.agg (seenR a)] G (fun r h' => h' = G ∧ r = bv v)) : ACall Tryz.prog 208 [.agg (seenR a), .v (.pointer (some ⟨b, 0, none⟩))] (.box b 153 [fv] :: G) (fun r h' => h' = .box b 153 [fv] :: G ∧ r = bv (!v)) := by
  refine acall_of_aw Tryz.func208 rfl rfl rfl ?_
  refine rn ?_
  refine aops_e rfl (oe_box rfl rfl rfl fun b2 => ?_)
  refine rn ?_
  refine qv rfl rfl (qv_call rfl rfl (FCall.quiet (R := fun x => x = bv v) (h2 := [_, _]) (List.perm_append_comm (l₁ := [_, _])) hp)) ?_
  refine rn ?_
  exact retq (.cons _ _ _ _ (.tmp _ _ rfl) .nil) (.drop1 _ _ _) ⟨rfl, rfl⟩
theorem allSeen {full : Bool} (l : List Seen) (fv : AV) (p : Seen → Bool) (G : List Res) (hone : fv.cellsOf = some [fv]) (hp : ∀ a ∈ l, FCall Tryz.prog fv [.agg (seenR a)] G (fun r h' => h' = G ∧ r = bv (p a))) (hlen : l.length ≤ 4611686018427387904) : ACall Tryz.prog 181 [.list full 3 (l.map seenR), fv] G (fun r h' => h' = G ∧ r = bv (l.all p)) := by
  refine acall_of_aw Tryz.func181 rfl rfl rfl ?_
  refine rn ?_
  refine aops_e rfl (oe_box rfl hone rfl fun b3 => ?_)
  refine rn ?_
  refine qv rfl rfl (qv_call rfl rfl (FCall.of_fun (containsFuncSeen l _ (fun a => !p a) (.box b3 153 [fv] :: G) (fun a ha => FCall.of_acall (fs := []) (cs := [.v (.pointer (some ⟨b3, 0, none⟩))]) (allNotSeen a fv (p a) b3 G (hp a ha))) hlen))) ?_
  refine rn ?_
  exact retq (.cons _ _ _ _ (.tmp _ _ rfl) .nil) (.drop1 _ _ _) ⟨rfl, by simp only [← any_not p l]; rfl⟩
end Go.Proofs
/- The walks of the rules' small functions. Conditions: none. -/
set_option linter.unusedVariables false
set_option linter.unusedSimpArgs false
set_option maxRecDepth 10000
namespace Go.Proofs
open Go Go.Ab
attribute [local irreducible] QR QV OE aops aw dsoup dsoupM dalloc dallocM thn inBlk jsoup jch lsoup
open Go.H
theorem rSeen (e : Ev) : ACall Tryz.prog 251 [.agg (evR e)] [] (fun r h' => h' = [] ∧ r = seensA (seenOf e)) := by
  refine acall_of_aw Tryz.func251 rfl rfl rfl ?_
  refine rn ?_
  refine aops_e rfl (oe_box rfl rfl rfl fun b1 => ?_)
  refine rn ?_
  refine aw_cond rfl (fun hc5 => ?_) (fun hc5 => ?_)
  · refine rn ?_
    refine qv rfl rfl (qv_buildSlice rfl rfl) ?_
    refine rn ?_
    exact retq (.cons _ _ _ _ (.tmp _ _ rfl) .nil) (.trans (.drop [_] _ _) (.le Sb.unfull.le)) ⟨rfl, by rw [seenOf, if_pos (by simpa using hc5)]; rfl⟩
  · refine rn ?_
    refine rq 1 ?_
    exact ⟨rfl, by rw [seenOf, if_neg (by simpa using hc5)]; rfl⟩
theorem rBegin1 (e : Ev) (bl bp : Nat) (h : Hist) (p : List Ev) (r1 r2 r3 r4 r5 : Nat) : ACall Tryz.prog 247 [.agg (evR e), .v (.pointer (some ⟨bp, 0, none⟩))] (lookS bl h p r1 r2 r3 r4 r5 [.box bp 105 [.v (.pointer (some ⟨bl, 0, none⟩))]]) (fun r h' => h' = (lookS bl h p r1 r2 r3 r4 r5 [.box bp 105 [.v (.pointer (some ⟨bl, 0, none⟩))]]) ∧ r = bv (wrongP 1 e p)) := by
  refine acall_of_aw Tryz.func247 rfl rfl rfl ?_
  refine rn ?_
  refine aops_e rfl (oe_box rfl rfl rfl fun b2 => ?_)
  refine rn ?_
  refine aw_draw 10 rfl ?_
  refine dq rfl rfl qrA ?_
  refine dq rfl rfl qrA ?_
  refine dq rfl rfl qrA ?_
  refine dq rfl rfl qrA ?_
  refine dq rfl rfl qrA ?_
  refine dq rfl rfl qrA ?_
  refine dq rfl rfl (qr_lookT (enc := intK) (k := e.t) false rfl rfl) ?_
  refine rn ?_
  refine rq 1 ?_
  exact ⟨rfl, congrArg bv (by rw [begM_get]; simp only [wrongP]; cases begunB p e.t <;> rfl)⟩
theorem rEnd1 (e : Ev) (bl bp : Nat) (h : Hist) (p : List Ev) (r1 r2 r3 r4 r5 : Nat) : ACall Tryz.prog 248 [.agg (evR e), .v (.pointer (some ⟨bp, 0, none⟩))] (lookS bl h p r1 r2 r3 r4 r5 [.box bp 105 [.v (.pointer (some ⟨bl, 0, none⟩))]]) (fun r h' => h' = (lookS bl h p r1 r2 r3 r4 r5 [.box bp 105 [.v (.pointer (some ⟨bl, 0, none⟩))]]) ∧ r = bv (wrongP 2 e p)) := by
  refine acall_of_aw Tryz.func248 rfl rfl rfl ?_
  refine rn ?_
  refine aops_e rfl (oe_box rfl rfl rfl fun b2 => ?_)
  refine rn ?_
  refine aw_draw 6 rfl ?_
  refine rn2 ?_
  refine qq rfl rfl (qr_lookT (enc := intK) (k := e.t) false rfl rfl) ?_
  refine rn ?_
  refine rq 1 ?_
  exact ⟨rfl, congrArg bv (by rw [ovrM_get]; simp only [wrongP]; cases overB p e.t <;> rfl)⟩
theorem rCount1 (e : Ev) (bl bp : Nat) (h : Hist) (p : List Ev) (r1 r2 r3 r4 r5 : Nat) (hl : p.length ≤ 1000000) : ACall Tryz.prog 249 [.agg (evR e), .v (.pointer (some ⟨bp, 0, none⟩))] (lookS bl h p r1 r2 r3 r4 r5 [.box bp 105 [.v (.pointer (some ⟨bl, 0, none⟩))]]) (fun r h' => h' = (lookS bl h p r1 r2 r3 r4 r5 [.box bp 105 [.v (.pointer (some ⟨bl, 0, none⟩))]]) ∧ r = bv (wrongP 3 e p)) := by
  refine acall_of_aw Tryz.func249 rfl rfl rfl ?_
  have hw := wroteL_le p e.t e.o
  refine rn ?_
  refine aops_e rfl (oe_box rfl rfl rfl fun b2 => ?_)
  refine rn ?_
  refine aw_draw 18 rfl ?_
  refine rn ?_
  refine dsplit (fun hg1_3 => ?_) (fun hg1_3 => ?_)
  · refine dq rfl rfl qrA ?_
    refine dq rfl rfl qrA ?_
    refine dq rfl rfl qrA ?_
    refine dq rfl rfl qrA ?_
    refine dq rfl rfl qrA ?_
    refine dq rfl rfl qrA ?_
    refine dq rfl rfl qrA ?_
    refine dq rfl rfl qrA ?_
    refine dq rfl rfl qrA ?_
    refine dq rfl rfl qrA ?_
    refine dq rfl rfl qrA ?_
    refine dq rfl rfl (qr_build (out := [iv e.t, iv e.o]) rfl (by rfl)) ?_
    refine dq rfl rfl (qr_lookT (enc := int2K) (k := (e.t, e.o)) 0 rfl rfl) ?_
    refine dq rfl rfl (qr_ari rfl rfl rfl (by rw [wroM_get]; omega)) ?_
    refine rn ?_
    refine rq 1 ?_
    exact ⟨rfl, congrArg bv (by simp only [wrongP]; rw [← wroM_get]; simp_all [bne])⟩
  · refine rn ?_
    refine rq 1 ?_
    exact ⟨rfl, congrArg bv (by simp only [wrongP]; rw [← wroM_get]; simp_all [bne])⟩
theorem rWritten11 (s : Seen) (bl bp : Nat) (h : Hist) (p : List Ev) (r1 r2 r3 r4 r5 : Nat) : ACall Tryz.prog 252 [.agg (seenR s), .v (.pointer (some ⟨bp, 0, none⟩))] (lookS bl h p r1 r2 r3 r4 r5 [.box bp 105 [.v (.pointer (some ⟨bl, 0, none⟩))]]) (fun r h' => h' = (lookS bl h p r1 r2 r3 r4 r5 [.box bp 105 [.v (.pointer (some ⟨bl, 0, none⟩))]]) ∧ r = bv (decide (s.v.k > 0) && !thereB p s.o s.v)) := by
  refine acall_of_aw Tryz.func252 rfl rfl rfl ?_
  refine rn ?_
  refine aops_e rfl (oe_box rfl rfl rfl fun b2 => ?_)
  refine rn ?_
  refine aw_draw 14 rfl ?_
  refine rn ?_
  refine dsplit (fun hg1_4 => ?_) (fun hg1_4 => ?_)
  · refine dq rfl rfl qrA ?_
    refine dq rfl rfl qrA ?_
    refine dq rfl rfl qrA ?_
    refine dq rfl rfl qrA ?_
    refine dq rfl rfl qrA ?_
    refine dq rfl rfl qrA ?_
    refine dq rfl rfl qrA ?_
    refine dq rfl rfl qrA ?_
    refine dq rfl rfl (qr_build (out := [iv s.o, iv s.v.t, iv s.v.k]) rfl (by rfl)) ?_
    refine rn2 ?_
    refine qq rfl rfl (qr_lookT (enc := int3K) (k := (s.o, s.v.t, s.v.k)) false rfl rfl) ?_
    refine rn ?_
    refine rq 1 ?_
    exact ⟨rfl, congrArg bv (by first | (rw [thrM_get]; cases thereB p s.o s.v <;> simp_all; done) | (simp_all; done) | (simp_all <;> (intros; omega)))⟩
  · refine rn ?_
    refine rq 1 ?_
    exact ⟨rfl, congrArg bv (by first | (rw [thrM_get]; cases thereB p s.o s.v <;> simp_all; done) | (simp_all; done) | (simp_all <;> (intros; omega)))⟩
theorem rWritten1 (e : Ev) (bl bp : Nat) (h : Hist) (p : List Ev) (r1 r2 r3 r4 r5 : Nat) (hl : e.scan.length ≤ 4611686018427387904) : ACall Tryz.prog 250 [.agg (evR e), .v (.pointer (some ⟨bp, 0, none⟩))] (lookS bl h p r1 r2 r3 r4 r5 [.box bp 105 [.v (.pointer (some ⟨bl, 0, none⟩))]]) (fun r h' => h' = (lookS bl h p r1 r2 r3 r4 r5 [.box bp 105 [.v (.pointer (some ⟨bl, 0, none⟩))]]) ∧ r = bv (wrongP 4 e p)) := by
  refine acall_of_aw Tryz.func250 rfl rfl rfl ?_
  refine rn ?_
  refine aops_e rfl (oe_box rfl rfl rfl fun b2 => ?_)
  refine rn ?_
  refine qv rfl rfl (qv_call rfl rfl (pcall (rSeen _) (Sbs.refl _))) ?_
  refine rn ?_
  refine qv rfl rfl (qv_call rfl rfl (FCall.quiet (R := fun r => r = bv _) (h2 := [_]) (List.perm_append_comm (l₁ := [_])) (FCall.of_fun (containsFuncSeen (seenOf e) _ _ (lookS bl h p r1 r2 r3 r4 r5 [.box bp 105 [.v (.pointer (some ⟨bl, 0, none⟩))]]) (fun s _ => FCall.of_acall (fs := []) (cs := [.v (.pointer (some ⟨bp, 0, none⟩))]) (rWritten11 s bl bp h p r1 r2 r3 r4 r5)) (seenOf_len hl))))) ?_
  refine rn ?_
  refine rq 1 ?_
  exact ⟨rfl, rfl⟩
theorem rOwn11 (s : Seen) (e : Ev) (be : Nat) (bl bp : Nat) (h : Hist) (p : List Ev) (r1 r2 r3 r4 r5 : Nat) : ACall Tryz.prog 254 [.agg (seenR s), .v (.pointer (some ⟨bp, 0, none⟩)), .v (.pointer (some ⟨be, 0, none⟩))] (.box be 77 (evR e) :: (lookS bl h p r1 r2 r3 r4 r5 [.box bp 105 [.v (.pointer (some ⟨bl, 0, none⟩))]])) (fun r h' => h' = (.box be 77 (evR e) :: (lookS bl h p r1 r2 r3 r4 r5 [.box bp 105 [.v (.pointer (some ⟨bl, 0, none⟩))]])) ∧ r = bv (match lastV p e.t s.o with | some v => v != s.v | none => false)) := by
  refine acall_of_aw Tryz.func254 rfl rfl rfl ?_
  refine rn ?_
  refine aops_e rfl (oe_box rfl rfl rfl fun b3 => ?_)
  refine rn0 ?_
  refine aw_seq ?_
  refine aw_drawX 15 [13, 14] [] (fun he => he = .box b3 81 (seenR s) :: (.box be 77 (evR e) :: (lookS bl h p r1 r2 r3 r4 r5 [.box bp 105 [.v (.pointer (some ⟨bl, 0, none⟩))]])) ∨ ∃ b c, he = .box b 60 c :: .box b3 81 (seenR s) :: (.box be 77 (evR e) :: (lookS bl h p r1 r2 r3 r4 r5 [.box bp 105 [.v (.pointer (some ⟨bl, 0, none⟩))]]))) rfl rfl (.inl rfl) ?_
  refine jq rfl (fun he hC => by rcases hC with rfl | ⟨b, c, rfl⟩ <;> exact qrA) ?_
  refine jq rfl (fun he hC => by rcases hC with rfl | ⟨b, c, rfl⟩ <;> exact qrA) ?_
  refine jq rfl (fun he hC => by rcases hC with rfl | ⟨b, c, rfl⟩ <;> exact qrA) ?_
  refine jq rfl (fun he hC => by rcases hC with rfl | ⟨b, c, rfl⟩ <;> exact qrA) ?_
  refine jq rfl (fun he hC => by rcases hC with rfl | ⟨b, c, rfl⟩ <;> exact qrA) ?_
  refine jq rfl (fun he hC => by rcases hC with rfl | ⟨b, c, rfl⟩ <;> exact qrA) ?_
  refine jq rfl (fun he hC => by rcases hC with rfl | ⟨b, c, rfl⟩ <;> exact qrA) ?_
  refine jq rfl (fun he hC => by rcases hC with rfl | ⟨b, c, rfl⟩ <;> exact qrA) ?_
  refine jq rfl (fun he hC => by rcases hC with rfl | ⟨b, c, rfl⟩ <;> exact (by exact qr_build (out := [iv e.t, iv s.o]) rfl (by rfl))) ?_
  refine jq rfl (fun he hC => by rcases hC with rfl | ⟨b, c, rfl⟩ <;> exact (by exact qr_lookT2 (enc := int2K) (k := (e.t, s.o)) (⟨0, 0⟩ : Ver) rfl rfl rfl)) ?_
  refine jq rfl (fun he hC => by rcases hC with rfl | ⟨b, c, rfl⟩ <;> exact qrA) ?_
  refine jq rfl (fun he hC => by rcases hC with rfl | ⟨b, c, rfl⟩ <;> exact qrA) ?_
  refine jq rfl (fun he hC => by rcases hC with rfl | ⟨b, c, rfl⟩ <;> exact qrA) ?_
  refine je rfl ?_
  refine je rfl ?_
  refine jnil ?_
  refine jce rfl fun u => ?_
  refine oe_alloc rfl fun b5 => ⟨_, _, rfl, .inr ⟨_, _, rfl⟩, ?_⟩
  refine jce rfl fun u => ?_
  refine oe_store_all rfl rfl rfl ⟨.any, _, rfl, .inr ⟨_, _, rfl⟩, ?_⟩
  refine jcn ?_
  refine ln ?_
  refine rn ?_
  refine asplit (fun hg2_1 => ?_) (fun hg2_1 => ?_)
  · refine rn ?_
    refine rq 2 ?_
    exact ⟨rfl, congrArg bv (by rw [lasM_get] at hg2_1; (try rw [lasM_get]); cases hv : lastV p e.t s.o <;> simp_all [verR, bne, ver_beq])⟩
  · refine rn ?_
    refine rq 2 ?_
    exact ⟨rfl, congrArg bv (by rw [lasM_get] at hg2_1; (try rw [lasM_get]); cases hv : lastV p e.t s.o <;> simp_all [verR, bne, ver_beq])⟩
theorem rOwn1 (e : Ev) (bl bp : Nat) (h : Hist) (p : List Ev) (r1 r2 r3 r4 r5 : Nat) (hl : e.scan.length ≤ 4611686018427387904) : ACall Tryz.prog 253 [.agg (evR e), .v (.pointer (some ⟨bp, 0, none⟩))] (lookS bl h p r1 r2 r3 r4 r5 [.box bp 105 [.v (.pointer (some ⟨bl, 0, none⟩))]]) (fun r h' => h' = (lookS bl h p r1 r2 r3 r4 r5 [.box bp 105 [.v (.pointer (some ⟨bl, 0, none⟩))]]) ∧ r = bv (wrongP 5 e p)) := by
  refine acall_of_aw Tryz.func253 rfl rfl rfl ?_
  refine rn ?_
  refine aops_e rfl (oe_box rfl rfl rfl fun b2 => ?_)
  refine rn ?_
  refine qv rfl rfl (qv_call rfl rfl (pcall (rSeen _) (Sbs.refl _))) ?_
  refine rn ?_
  refine qv rfl rfl (qv_call rfl rfl (FCall.of_fun (containsFuncSeen (seenOf e) _ _ (.box b2 77 (evR e) :: (lookS bl h p r1 r2 r3 r4 r5 [.box bp 105 [.v (.pointer (some ⟨bl, 0, none⟩))]])) (fun s _ => FCall.of_acall (fs := []) (cs := [.v (.pointer (some ⟨bp, 0, none⟩)), .v (.pointer (some ⟨b2, 0, none⟩))]) (rOwn11 s e b2 bl bp h p r1 r2 r3 r4 r5)) (seenOf_len hl)))) ?_
  refine rn ?_
  refine rq 1 ?_
  exact ⟨rfl, rfl⟩
theorem rScan1 (e : Ev) (hl : e.scan.length ≤ 4611686018427387904) : ACall Tryz.prog 255 [.agg (evR e)] [] (fun r h' => h' = [] ∧ r = bv (wrongP 6 e [])) := by
  refine acall_of_aw Tryz.func255 rfl rfl rfl ?_
  refine rn ?_
  refine aops_e rfl (oe_box rfl rfl rfl fun b1 => ?_)
  refine rn ?_
  refine aw_scope ?_
  refine rn ?_
  refine aops_e rfl (oe_makeMap (enc := intK) rfl fun b6 => ?_)
  refine rn ?_
  refine aw_range e.scan.length (fun k => ((e.scan.take k).map Seen.o).Nodup) (fun k => ⟨[(10, iv k), (1, .v (.pointer (some ⟨b1, 0, none⟩))), (3, .v (.map (some b6))), (8, seensA e.scan), (9, iv (e.scan.map seenR).length)], [.map b6 (encM intK (mapA bv (metT (e.scan.take k)))), .box b1 77 (evR e)], []⟩) (by simp) es ?_
  intro k lk nk
  refine rn ?_
  refine aw_cond rfl (fun hc11 => ?_) (fun hc11 => ?_)
  · have hk := ltMap hc11
    have rk := atRow (f := seenR) hk
    refine rn ?_
    refine aops_e rfl (oe_alloc rfl fun b5 => ?_)
    first | refine aops_e rfl (oe_store_all rfl rfl rfl ?_) | refine aops_e rfl (oe_store rfl rfl rfl rfl (Nat.le_of_ble_eq_true rfl) ?_)
    refine aops_nil (thn_n ?_)
    refine aw_seq ?_
    refine aw_seq (aw_region ?_)
    refine q1 ?_
    refine q1 ?_
    refine q1 ?_
    refine qq rfl rfl (qr_lookT (enc := intK) (k := e.scan[k].o) false rfl rfl) ?_
    refine rn ?_
    refine aw_cond rfl (fun hc17 => ?_) (fun hc17 => ?_)
    · refine aw_exit ?_
      refine thn_e ?_
      refine inBlk_miss rfl ?_
      refine thn_e ?_
      refine thn_e ?_
      refine inBlk_hit ?_
      refine thn_n ?_
      refine aw_seq (aw_region ?_)
      refine q1 ?_
      refine qq rfl rfl (qr_len_map (enc := intK) rfl) ?_
      refine rn ?_
      refine ⟨fun l h => (by cases h), ?_⟩
      first | (refine rq 3 ?_; exact ⟨rfl, congrArg bv (scan_w hk nk (by simpa using hc17))⟩) | (refine rq 2 ?_; exact ⟨rfl, congrArg bv (scan_e nk)⟩)
    · have hx := met_no (by simpa using hc17)
      refine rn ?_
      refine aops_e rfl (oe_mapUpdT (enc := intK) (k := e.scan[k].o) (v := true) rfl rfl rfl ?_)
      refine rn ?_
      exact ⟨hk, met_next hk nk hx, by rw [met_put hk]; exact eA⟩
  · have qk := geMap hc11 lk
    subst qk
    refine aw_exit ?_
    refine thn_e ?_
    refine thn_e ?_
    refine inBlk_hit ?_
    refine thn_n ?_
    refine aw_seq (aw_region ?_)
    refine q1 ?_
    refine qq rfl rfl (qr_len_map (enc := intK) rfl) ?_
    refine rn ?_
    refine ⟨fun l h => (by cases h), ?_⟩
    first | (refine rq 3 ?_; exact ⟨rfl, congrArg bv (scan_w hk nk (by simpa using hc17))⟩) | (refine rq 2 ?_; exact ⟨rfl, congrArg bv (scan_e nk)⟩)
end Go.Proofs
/- Five maps made in any order, and put one after another into a variable. Conditions: aS each lemma states. -/
set_option linter.unusedVariables false
namespace Go.Ab
open Go
def isM (i : Nat) : Bool := Nat.blt i 10
def mkE (L : List Nat) (ρ : Nat → Nat) : Fr := (L.filter isM).map fun i => (i + 6, .v (.map (some (ρ i))))
def mkH (L : List Nat) (ρ : Nat → Nat) : List Res := (L.filter isM).map fun i => .map (ρ i) []
def cel (L : List Nat) (ρ : Nat → Nat) (s m : Nat) : AV := if s ∈ L then .v (.map (some (ρ m))) else .v (.map none)
def cels (L : List Nat) (ρ : Nat → Nat) : List AV := [cel L ρ 12 5, cel L ρ 15 6, cel L ρ 18 7, cel L ρ 21 8, .v (.map none)]
def eff5 : List Nat := [5, 6, 7, 8, 9, 12, 15, 18, 21]
def J5 (bl : Nat) (T : TypeId) (c0 : List AV) (R : List Res) (L : List Nat) (ee : Fr) (he : List Res) : Prop :=
  L.Nodup ∧ (∀ i ∈ L, i ∈ eff5) ∧ ((12 ∈ L → 5 ∈ L) ∧ (15 ∈ L → 6 ∈ L) ∧ (18 ∈ L → 7 ∈ L) ∧ (21 ∈ L → 8 ∈ L)) ∧ ∃ ρ, ee = mkE L ρ ∧ he = mkH L ρ ++ .box bl T (c0 ++ cels L ρ) :: R
theorem J5.start {bl : Nat} {T : TypeId} {c0 : List AV} {R : List Res} : J5 bl T c0 R [] [] (.box bl T (c0 ++ [.v (.map none), .v (.map none), .v (.map none), .v (.map none), .v (.map none)]) :: R) :=
  ⟨.nil, fun i h => by simp at h, ⟨fun h => by simp at h, fun h => by simp at h, fun h => by simp at h, fun h => by simp at h⟩, fun _ => 0, rfl, by simp [mkH, cels, cel]⟩
theorem mk_congr {L : List Nat} {ρ ρ' : Nat → Nat} (h : ∀ i ∈ L, ρ i = ρ' i) : mkE L ρ = mkE L ρ' ∧ mkH L ρ = mkH L ρ' :=
  ⟨List.map_congr_left fun i hi => by rw [h i (List.mem_filter.1 hi).1], List.map_congr_left fun i hi => by rw [h i (List.mem_filter.1 hi).1]⟩
theorem J5.make {bl : Nat} {T : TypeId} {c0 : List AV} {R : List Res} {L : List Nat} {ee : Fr} {he : List Res} {i : Nat} (h : J5 bl T c0 R L ee he) (hi : i ∉ L) (hm : isM i = true) (hie : i ∈ eff5) (r : Nat) : J5 bl T c0 R (i :: L) ((i + 6, .v (.map (some r))) :: ee) (.map r [] :: he) := by
  obtain ⟨h1, h2, ⟨p1, p2, p3, p4⟩, ρ, rfl, rfl⟩ := h
  have hlt : i < 10 := Nat.le_of_ble_eq_true hm
  have hne : ∀ j ∈ L, ρ j = (fun j => if j = i then r else ρ j) j := fun j hj => by
    have : j ≠ i := fun e => hi (e ▸ hj)
    simp [this]
  obtain ⟨e1, e2⟩ := mk_congr hne
  refine ⟨List.nodup_cons.2 ⟨hi, h1⟩, fun j hj => (List.mem_cons.1 hj).elim (fun e => e ▸ hie) (h2 j), ⟨?_, ?_, ?_, ?_⟩, fun j => if j = i then r else ρ j, ?_, ?_⟩
  iterate 4 (· intro hx; rcases List.mem_cons.1 hx with e | hx; omega; first | exact List.mem_cons_of_mem _ (p1 hx) | exact List.mem_cons_of_mem _ (p2 hx) | exact List.mem_cons_of_mem _ (p3 hx) | exact List.mem_cons_of_mem _ (p4 hx))
  · rw [e1]; simp [mkE, List.filter_cons, hm]
  · have hc : ∀ s m, 10 ≤ s → (s ∈ L → m ∈ L) → cel L ρ s m = cel (i :: L) (fun j => if j = i then r else ρ j) s m := fun s m hs hsm => by
      unfold cel
      by_cases hx : s ∈ L
      · rw [if_pos hx, if_pos (List.mem_cons_of_mem _ hx), ← hne m (hsm hx)]
      · rw [if_neg hx, if_neg (fun q => (List.mem_cons.1 q).elim (by omega) hx)]
    rw [e2]
    have : cels L ρ = cels (i :: L) (fun j => if j = i then r else ρ j) := by
      unfold cels
      rw [hc 12 5 (by omega) p1, hc 15 6 (by omega) p2, hc 18 7 (by omega) p3, hc 21 8 (by omega) p4]
    rw [this]; simp [mkH, List.filter_cons, hm]
theorem mkE_get {ρ : Nat → Nat} {m : Nat} (hm : isM m = true) : ∀ {L : List Nat}, m ∈ L → lk (mkE L ρ) (m + 6) = some (.v (.map (some (ρ m))))
  | [], h => by simp at h
  | j :: L, h => by
    unfold mkE
    rw [List.filter_cons]
    by_cases hj : isM j = true
    · rw [if_pos hj, List.map_cons, lk]
      by_cases e : j = m
      · subst e; simp
      · have : Nat.beq (j + 6) (m + 6) = false := by
          cases hb : Nat.beq (j + 6) (m + 6) with
          | false => rfl
          | true => have := Nat.eq_of_beq_eq_true hb; omega
        rw [this]
        exact mkE_get hm ((List.mem_cons.1 h).resolve_left (fun q => e q.symm))
    · rw [if_neg hj]
      refine mkE_get hm ((List.mem_cons.1 h).resolve_left (fun q => hj (q ▸ hm)))
theorem mkE_none {ρ : Nat → Nat} {d : Nat} (hd : d < 6) : ∀ {L : List Nat}, lk (mkE L ρ) d = none
  | [] => rfl
  | j :: L => by
    unfold mkE
    rw [List.filter_cons]
    split
    · rw [List.map_cons, lk]
      have : Nat.beq (j + 6) d = false := by
        cases hb : Nat.beq (j + 6) d with
        | false => rfl
        | true => have := Nat.eq_of_beq_eq_true hb; omega
      rw [this]; exact mkE_none hd
    · exact mkE_none hd
theorem lk_et {E ee t : Fr} {d : Nat} {a : AV} (h1 : lk E d = none) (h2 : lk ee d = none) (h3 : lk t d = some a) : lk ((E ++ ee) ++ t) d = some a := by
  rw [lk_append, lk_append, h1]; simp only; rw [h2]; exact h3
theorem lk_em {E ee t : Fr} {d : Nat} {a : AV} (h1 : lk E d = none) (h2 : lk ee d = some a) : lk ((E ++ ee) ++ t) d = some a := by
  rw [lk_append, lk_append, h1]; simp only; rw [h2]
theorem lk_ee {A ee B : Fr} {ds : List Tmp} {d : Nat} {a : AV} (h1 : lk A d = none) (h2 : ds.any (Nat.beq d) = true) (h3 : lk ee d = some a) : lk (A ++ (fltP ds ee ++ B)) d = some a := by
  rw [lk_append, h1]
  simp only
  rw [lk_append, fltP, lk_flt (q := fun d => ds.any (Nat.beq d)) h2, h3]
section
variable {bl : Nat} {T : TypeId} {c0 : List AV} {R : List Res} {L : List Nat} {ρ : Nat → Nat}
theorem box5 : HasBox (mkH L ρ ++ .box bl T (c0 ++ cels L ρ) :: R) bl (mkH L ρ).length T (c0 ++ cels L ρ) := ⟨by simp⟩
theorem set5 (x : Res) : SetAt (mkH L ρ ++ .box bl T (c0 ++ cels L ρ) :: R) (mkH L ρ).length x (mkH L ρ ++ x :: R) := ⟨by simp⟩
theorem J5.put {s m : Nat} {cs' : List AV} (h : J5 bl T c0 R L (mkE L ρ) (mkH L ρ ++ .box bl T (c0 ++ cels L ρ) :: R)) (hs : s ∉ L) (hse : s ∈ eff5) (hsm : isM s = false) (hmL : (s, m) ∈ [(12, 5), (15, 6), (18, 7), (21, 8)]) (hm : m ∈ L)
    (hc : cs' = c0 ++ (cels L ρ).set ((m - 5)) (.v (.map (some (ρ m))))) : J5 bl T c0 R (s :: L) (mkE L ρ) (mkH L ρ ++ .box bl T cs' :: R) := by
  obtain ⟨h1, h2, ⟨p1, p2, p3, p4⟩, _⟩ := h
  refine ⟨List.nodup_cons.2 ⟨hs, h1⟩, fun j hj => (List.mem_cons.1 hj).elim (fun e => e ▸ hse) (h2 j), ⟨fun q => ?_, fun q => ?_, fun q => ?_, fun q => ?_⟩, ρ, ?_, ?_⟩
  iterate 4 (· rcases List.mem_cons.1 q with e | q; (subst e; simp at hmL; subst hmL; exact List.mem_cons_of_mem _ hm); first | exact List.mem_cons_of_mem _ (p1 q) | exact List.mem_cons_of_mem _ (p2 q) | exact List.mem_cons_of_mem _ (p3 q) | exact List.mem_cons_of_mem _ (p4 q))
  · simp [mkE, List.filter_cons, hsm]
  · have e1 : mkH (s :: L) ρ = mkH L ρ := by simp [mkH, List.filter_cons, hsm]
    rw [e1, hc]
    have : (cels L ρ).set (m - 5) (.v (.map (some (ρ m)))) = cels (s :: L) ρ := by
      simp only [List.mem_cons, Prod.mk.injEq, List.not_mem_nil, or_false] at hmL
      rcases hmL with ⟨rfl, rfl⟩ | ⟨rfl, rfl⟩ | ⟨rfl, rfl⟩ | ⟨rfl, rfl⟩ <;> simp [cels, cel]
    rw [this]
theorem J5.last (h : J5 bl T c0 R L (mkE L ρ) (mkH L ρ ++ .box bl T (c0 ++ cels L ρ) :: R)) (ha : ∀ i, i ∈ eff5 → i ∈ L) :
    (mkH L ρ ++ .box bl T (c0 ++ cels L ρ) :: R).Perm (.box bl T (c0 ++ [.v (.map (some (ρ 5))), .v (.map (some (ρ 6))), .v (.map (some (ρ 7))), .v (.map (some (ρ 8))), .v (.map none)]) :: .map (ρ 5) [] :: .map (ρ 6) [] :: .map (ρ 7) [] :: .map (ρ 8) [] :: .map (ρ 9) [] :: R) := by
  have hp : (L.filter isM).Perm [5, 6, 7, 8, 9] := by
    rw [List.perm_ext_iff_of_nodup (h.1.filter _) (by decide)]
    intro a
    rw [List.mem_filter]
    constructor
    · rintro ⟨q1, q2⟩
      have := h.2.1 a q1
      have q3 : a < 10 := Nat.le_of_ble_eq_true q2
      simp [eff5] at this ⊢; omega
    · intro q
      have : a ∈ eff5 := by simp [eff5] at q ⊢; omega
      refine ⟨ha a this, ?_⟩
      simp at q; rcases q with rfl | rfl | rfl | rfl | rfl <;> rfl
  have hcs : cels L ρ = [.v (.map (some (ρ 5))), .v (.map (some (ρ 6))), .v (.map (some (ρ 7))), .v (.map (some (ρ 8))), .v (.map none)] := by
    simp [cels, cel, ha 12 (by simp [eff5]), ha 15 (by simp [eff5]), ha 18 (by simp [eff5]), ha 21 (by simp [eff5])]
  rw [hcs]
  have := hp.map (fun i => Res.map (ρ i) [])
  exact (this.append_right _).trans (List.perm_middle (l₁ := [Res.map (ρ 5) [], Res.map (ρ 6) [], Res.map (ρ 7) [], Res.map (ρ 8) [], Res.map (ρ 9) []]))
end
end Go.Ab
/- The walk of the events gone through. Conditions: none. -/
set_option linter.unusedVariables false
set_option linter.unusedSimpArgs false
set_option maxRecDepth 10000
namespace Go.Proofs
open Go Go.Ab
attribute [local irreducible] QR QV OE aops aw dsoup dsoupM dalloc dallocM thn inBlk jsoup jch lsoup
open Go.H
set_option maxHeartbeats 4000000 in
theorem rEvents1 (h : Hist) (la : h.evs.length ≤ 1000000) (y : AV) (bl b1 : Nat) (w : Nat → Ev → Bool) (I F : Nat → List Res) (hy : ∀ k (hk : k < h.evs.length) r1 r2 r3 r4 r5, FCall Tryz.prog y [iv k, .agg (evR h.evs[k])] (lookS bl h (h.evs.take k) r1 r2 r3 r4 r5 (.box b1 105 [.v (.pointer (some ⟨bl, 0, none⟩))] :: I k)) (fun r h' => r = bv (!w k h.evs[k]) ∧ h' = lookS bl h (h.evs.take k) r1 r2 r3 r4 r5 (.box b1 105 [.v (.pointer (some ⟨bl, 0, none⟩))] :: bif w k h.evs[k] then F k else I (k + 1)))) : ACall Tryz.prog 272 [y, .v (.pointer (some ⟨b1, 0, none⟩))] (.box bl 111 (lookN h) :: .box b1 105 [.v (.pointer (some ⟨bl, 0, none⟩))] :: I 0) (fun r h' => h' = match rowF w 0 h.evs with | some k => F k | none => I h.evs.length) := by
  refine acall_of_aw Tryz.func272 rfl rfl rfl ?_
  refine aw_seq ?_
  refine aw_drawJ 22 eff5 [] (fun he => HasB he b1 105 [.v (.pointer (some ⟨bl, 0, none⟩))]) rfl ?_
  refine jq rfl (fun he hC => by haveI := hC; exact qrA) ?_
  refine jq rfl (fun he hC => by haveI := hC; exact qrA) ?_
  refine jq rfl (fun he hC => by haveI := hC; exact qrA) ?_
  refine jq rfl (fun he hC => by haveI := hC; exact qrA) ?_
  refine jq rfl (fun he hC => by haveI := hC; exact qrA) ?_
  refine je rfl ?_
  refine je rfl ?_
  refine je rfl ?_
  refine je rfl ?_
  refine je rfl ?_
  refine jq rfl (fun he hC => by haveI := hC; exact qrA) ?_
  refine jq rfl (fun he hC => by haveI := hC; exact qrA) ?_
  refine je rfl ?_
  refine jq rfl (fun he hC => by haveI := hC; exact qrA) ?_
  refine jq rfl (fun he hC => by haveI := hC; exact qrA) ?_
  refine je rfl ?_
  refine jq rfl (fun he hC => by haveI := hC; exact qrA) ?_
  refine jq rfl (fun he hC => by haveI := hC; exact qrA) ?_
  refine je rfl ?_
  refine jq rfl (fun he hC => by haveI := hC; exact qrA) ?_
  refine jq rfl (fun he hC => by haveI := hC; exact qrA) ?_
  refine je rfl ?_
  refine jnil ?_
  refine ⟨J5 bl 111 (histC h) (.box b1 105 [.v (.pointer (some ⟨bl, 0, none⟩))] :: I 0), .start, fun L ee he hJ => ?_, fun L ee he hJ i o hie hiL ho hpre u => ?_, fun L ee he hJ hall => ?_⟩
  · obtain ⟨_, _, _, ρ, _, rfl⟩ := hJ
    exact ⟨.inl (by simp)⟩
  · simp only [eff5, List.mem_cons, List.not_mem_nil, or_false] at hie
    rcases hie with rfl | rfl | rfl | rfl | rfl | rfl | rfl | rfl | rfl
    · obtain rfl := Option.some.inj ho
      exact oe_makeMap (enc := intK) rfl fun r => ⟨_, _, rfl, hJ.make hiL rfl (by decide) r⟩
    · obtain rfl := Option.some.inj ho
      exact oe_makeMap (enc := intK) rfl fun r => ⟨_, _, rfl, hJ.make hiL rfl (by decide) r⟩
    · obtain rfl := Option.some.inj ho
      exact oe_makeMap (enc := intK) rfl fun r => ⟨_, _, rfl, hJ.make hiL rfl (by decide) r⟩
    · obtain rfl := Option.some.inj ho
      exact oe_makeMap (enc := intK) rfl fun r => ⟨_, _, rfl, hJ.make hiL rfl (by decide) r⟩
    · obtain rfl := Option.some.inj ho
      exact oe_makeMap (enc := intK) rfl fun r => ⟨_, _, rfl, hJ.make hiL rfl (by decide) r⟩
    · obtain rfl := Option.some.inj ho
      have hJ2 := hJ
      obtain ⟨_, _, _, ρ, rfl, rfl⟩ := hJ2
      have hm : 5 ∈ L := hpre 5 (mem?_iff.1 rfl) (by decide)
      haveI := box5 (bl := bl) (T := 111) (c0 := histC h) (R := (.box b1 105 [.v (.pointer (some ⟨bl, 0, none⟩))] :: I 0)) (L := L) (ρ := ρ)
      haveI := fun x => set5 (bl := bl) (T := 111) (c0 := histC h) (R := (.box b1 105 [.v (.pointer (some ⟨bl, 0, none⟩))] :: I 0)) (L := L) (ρ := ρ) x
      exact oe_store (b := bl) (off := 8) (n := 1) rfl (lk_ee rfl rfl (mkE_get rfl hm)) rfl rfl (Nat.le_of_ble_eq_true rfl) ⟨.any, _, rfl, hJ.put hiL (by decide) rfl (by decide) hm rfl⟩
    · obtain rfl := Option.some.inj ho
      have hJ2 := hJ
      obtain ⟨_, _, _, ρ, rfl, rfl⟩ := hJ2
      have hm : 6 ∈ L := hpre 6 (mem?_iff.1 rfl) (by decide)
      haveI := box5 (bl := bl) (T := 111) (c0 := histC h) (R := (.box b1 105 [.v (.pointer (some ⟨bl, 0, none⟩))] :: I 0)) (L := L) (ρ := ρ)
      haveI := fun x => set5 (bl := bl) (T := 111) (c0 := histC h) (R := (.box b1 105 [.v (.pointer (some ⟨bl, 0, none⟩))] :: I 0)) (L := L) (ρ := ρ) x
      exact oe_store (b := bl) (off := 9) (n := 1) rfl (lk_ee rfl rfl (mkE_get rfl hm)) rfl rfl (Nat.le_of_ble_eq_true rfl) ⟨.any, _, rfl, hJ.put hiL (by decide) rfl (by decide) hm rfl⟩
    · obtain rfl := Option.some.inj ho
      have hJ2 := hJ
      obtain ⟨_, _, _, ρ, rfl, rfl⟩ := hJ2
      have hm : 7 ∈ L := hpre 7 (mem?_iff.1 rfl) (by decide)
      haveI := box5 (bl := bl) (T := 111) (c0 := histC h) (R := (.box b1 105 [.v (.pointer (some ⟨bl, 0, none⟩))] :: I 0)) (L := L) (ρ := ρ)
      haveI := fun x => set5 (bl := bl) (T := 111) (c0 := histC h) (R := (.box b1 105 [.v (.pointer (some ⟨bl, 0, none⟩))] :: I 0)) (L := L) (ρ := ρ) x
      exact oe_store (b := bl) (off := 10) (n := 1) rfl (lk_ee rfl rfl (mkE_get rfl hm)) rfl rfl (Nat.le_of_ble_eq_true rfl) ⟨.any, _, rfl, hJ.put hiL (by decide) rfl (by decide) hm rfl⟩
    · obtain rfl := Option.some.inj ho
      have hJ2 := hJ
      obtain ⟨_, _, _, ρ, rfl, rfl⟩ := hJ2
      have hm : 8 ∈ L := hpre 8 (mem?_iff.1 rfl) (by decide)
      haveI := box5 (bl := bl) (T := 111) (c0 := histC h) (R := (.box b1 105 [.v (.pointer (some ⟨bl, 0, none⟩))] :: I 0)) (L := L) (ρ := ρ)
      haveI := fun x => set5 (bl := bl) (T := 111) (c0 := histC h) (R := (.box b1 105 [.v (.pointer (some ⟨bl, 0, none⟩))] :: I 0)) (L := L) (ρ := ρ) x
      exact oe_store (b := bl) (off := 11) (n := 1) rfl (lk_ee rfl rfl (mkE_get rfl hm)) rfl rfl (Nat.le_of_ble_eq_true rfl) ⟨.any, _, rfl, hJ.put hiL (by decide) rfl (by decide) hm rfl⟩
  have hJ2 := hJ
  obtain ⟨_, _, _, ρ, rfl, rfl⟩ := hJ2
  have hal : ∀ i, i ∈ eff5 → i ∈ L := fun i hi => hall i hi (by simp [eff5] at hi; omega)
  refine ln ?_
  refine aops_ent (s' := ⟨[(0, y), (1, .v (.pointer (some ⟨b1, 0, none⟩))), (10, .v (.pointer (some ⟨bl, 0, none⟩))), (15, mpv (ρ 9))], .box bl 111 (histC h ++ [mpv (ρ 5), mpv (ρ 6), mpv (ρ 7), mpv (ρ 8), nmp]) :: .map (ρ 5) [] :: .map (ρ 6) [] :: .map (ρ 7) [] :: .map (ρ 8) [] :: .map (ρ 9) [] :: (.box b1 105 [.v (.pointer (some ⟨bl, 0, none⟩))] :: I 0), []⟩) (ent_trans (ent_perm (hJ.last hal)) (ent_sub (.cons _ _ _ (lk_et rfl (mkE_none (by decide)) rfl) (.cons _ _ _ (lk_et rfl (mkE_none (by decide)) rfl) (.cons _ _ _ rfl (.cons _ _ _ (lk_em rfl (mkE_get (m := 9) rfl (hal 9 (by decide)))) .nil)))))) ?_
  generalize ρ 5 = r1
  generalize ρ 6 = r2
  generalize ρ 7 = r3
  generalize ρ 8 = r4
  generalize ρ 9 = r5
  refine rn ?_
  refine aw_range h.evs.length (fun k => rowF w 0 h.evs = rowF w k (h.evs.drop k)) (fun k => ⟨[(32, iv k), (0, y), (1, .v (.pointer (some ⟨b1, 0, none⟩))), (30, evsA h.evs), (31, iv (h.evs.map evR).length)], (lookS bl h (h.evs.take k) r1 r2 r3 r4 r5 (.box b1 105 [.v (.pointer (some ⟨bl, 0, none⟩))] :: I k)), []⟩) (by simp) es ?_
  intro k lk zk
  have hwl := fun e : Ev => wroteL_le (h.evs.take k) e.t e.o
  have hle : (h.evs.take k).length ≤ h.evs.length := by simp; omega
  refine rn ?_
  refine aw_cond rfl (fun hc33 => ?_) (fun hc33 => ?_)
  · have hk := ltMap hc33
    have rk := atRow (f := evR) hk
    refine rn ?_
    refine aops_e rfl (oe_alloc rfl fun b4 => ?_)
    refine rn ?_
    refine aops_e rfl (oe_call rfl rfl (FCall.fr1 (hy k hk r1 r2 r3 r4 r5)) rfl ?_)
    rintro _ _ ⟨_, rfl, rfl, rfl⟩
    refine rn ?_
    refine aw_cond rfl (fun hc41 => ?_) (fun hc41 => ?_)
    · have hw : w k h.evs[k] = true := by simpa using hc41
      rw [hw]
      refine rn ?_
      exact retq .nil (.drop [_, _, _, _, _, _, _, _] _ _) (by rw [rowF_stop hk zk hw])
    · have hw : w k h.evs[k] = false := by simpa using hc41
      rw [hw]
      refine rn ?_
      refine aw_cond rfl (fun hc44 => ?_) (fun hc44 => ?_)
      · refine aw_draw 6 rfl ?_
        refine rn ?_
        refine aops_e rfl (oe_mapUpdT (g := bv) (enc := intK) (k := h.evs[k].t) (v := true) rfl rfl rfl ?_)
        refine rn ?_
        have et := List.take_succ_eq_append_getElem hk
        exact ⟨hk, rowF_step hk zk hw, by rw [et]; simp only [lookS, begM_snoc, ovrM_snoc, wroM_snoc, lasM_snoc, thrM_snoc, kTO, kOV]; first | (rw [if_pos (by simp_all), if_neg (by simp_all), if_neg (by simp_all), if_neg (by simp_all), if_neg (by simp_all)]; exact eA) | (rw [if_neg (by simp_all), if_pos (by simp_all), if_neg (by simp_all), if_neg (by simp_all), if_neg (by simp_all)]; exact eA) | (rw [if_neg (by simp_all), if_neg (by simp_all), if_pos (by simp_all), if_pos (by simp_all), if_pos (by simp_all)]; exact eA) | (rw [if_neg (by simp_all), if_neg (by simp_all), if_neg (by simp_all), if_neg (by simp_all), if_neg (by simp_all)]; exact eA)⟩
      · refine rn ?_
        refine aw_cond rfl (fun hc52 => ?_) (fun hc52 => ?_)
        · refine rn ?_
          refine aw_cond rfl (fun hc52 => ?_) (fun hc52 => ?_)
          · refine aw_draw 6 rfl ?_
            refine rn ?_
            refine aops_e rfl (oe_mapUpdT (g := bv) (enc := intK) (k := h.evs[k].t) (v := true) rfl rfl rfl ?_)
            refine rn ?_
            have et := List.take_succ_eq_append_getElem hk
            exact ⟨hk, rowF_step hk zk hw, by rw [et]; simp only [lookS, begM_snoc, ovrM_snoc, wroM_snoc, lasM_snoc, thrM_snoc, kTO, kOV]; first | (rw [if_pos (by simp_all), if_neg (by simp_all), if_neg (by simp_all), if_neg (by simp_all), if_neg (by simp_all)]; exact eA) | (rw [if_neg (by simp_all), if_pos (by simp_all), if_neg (by simp_all), if_neg (by simp_all), if_neg (by simp_all)]; exact eA) | (rw [if_neg (by simp_all), if_neg (by simp_all), if_pos (by simp_all), if_pos (by simp_all), if_pos (by simp_all)]; exact eA) | (rw [if_neg (by simp_all), if_neg (by simp_all), if_neg (by simp_all), if_neg (by simp_all), if_neg (by simp_all)]; exact eA)⟩
          · first | cases hc52 | exact absurd hc52 (by decide) | (exfalso; simp_all; done)
        · refine rn ?_
          refine aw_cond rfl (fun hc52 => ?_) (fun hc52 => ?_)
          · refine aw_draw 6 rfl ?_
            refine rn ?_
            refine aops_e rfl (oe_mapUpdT (g := bv) (enc := intK) (k := h.evs[k].t) (v := true) rfl rfl rfl ?_)
            refine rn ?_
            have et := List.take_succ_eq_append_getElem hk
            exact ⟨hk, rowF_step hk zk hw, by rw [et]; simp only [lookS, begM_snoc, ovrM_snoc, wroM_snoc, lasM_snoc, thrM_snoc, kTO, kOV]; first | (rw [if_pos (by simp_all), if_neg (by simp_all), if_neg (by simp_all), if_neg (by simp_all), if_neg (by simp_all)]; exact eA) | (rw [if_neg (by simp_all), if_pos (by simp_all), if_neg (by simp_all), if_neg (by simp_all), if_neg (by simp_all)]; exact eA) | (rw [if_neg (by simp_all), if_neg (by simp_all), if_pos (by simp_all), if_pos (by simp_all), if_pos (by simp_all)]; exact eA) | (rw [if_neg (by simp_all), if_neg (by simp_all), if_neg (by simp_all), if_neg (by simp_all), if_neg (by simp_all)]; exact eA)⟩
          · refine rn ?_
            refine aw_cond rfl (fun hc61 => ?_) (fun hc61 => ?_)
            · refine aw_seq (aw_region ?_)
              refine q1 ?_
              refine q1 ?_
              refine q1 ?_
              refine q1 ?_
              refine qq rfl rfl (qr_build (out := [iv h.evs[k].t, iv h.evs[k].o]) rfl (by rfl)) ?_
              refine aops_e rfl (oe_alloc rfl fun b5 => ?_)
              refine rn0 ?_
              refine aw_seq ?_
              refine aw_drawX 9 [7] [8] (fun he => he = .box b5 256 [iv h.evs[k].t, iv h.evs[k].o] :: .box b4 77 (evR h.evs[k]) :: .box bl 111 (lookC h r1 r2 r3 r4 r5) :: .map r1 (encM intK (mapA bv (begM (h.evs.take k)))) :: .map r2 (encM intK (mapA bv (ovrM (h.evs.take k)))) :: .map r3 (encM int2K (mapA iv (wroM (h.evs.take k)))) :: .map r4 (encM int2K (mapA verA (lasM (h.evs.take k)))) :: .map r5 (encM int3K (mapA bv (thrM (h.evs.take k)))) :: .box b1 105 [.v (.pointer (some ⟨bl, 0, none⟩))] :: I (k + 1) ∨ ∃ j st, he = .box b5 256 [iv h.evs[k].t, iv h.evs[k].o] :: .box b4 77 (evR h.evs[k]) :: .box bl 111 (lookC h r1 r2 r3 r4 r5) :: .map r1 (encM intK (mapA bv (begM (h.evs.take k)))) :: .map r2 (encM intK (mapA bv (ovrM (h.evs.take k)))) :: .mape r3 (encM int2K (entM (h.evs[k].t, h.evs[k].o) (iv 0) (mapA iv (wroM (h.evs.take k))))) j st :: .map r4 (encM int2K (mapA verA (lasM (h.evs.take k)))) :: .map r5 (encM int3K (mapA bv (thrM (h.evs.take k)))) :: .box b1 105 [.v (.pointer (some ⟨bl, 0, none⟩))] :: I (k + 1)) rfl rfl (.inl rfl) ?_
              refine jq rfl (fun he hC => by rcases hC with rfl | ⟨j, st, rfl⟩ <;> exact qrA) ?_
              refine jq rfl (fun he hC => by rcases hC with rfl | ⟨j, st, rfl⟩ <;> exact qrA) ?_
              refine jq rfl (fun he hC => by rcases hC with rfl | ⟨j, st, rfl⟩ <;> exact qrA) ?_
              refine jq rfl (fun he hC => by rcases hC with rfl | ⟨j, st, rfl⟩ <;> exact qrA) ?_
              refine jq rfl (fun he hC => by rcases hC with rfl | ⟨j, st, rfl⟩ <;> exact qrA) ?_
              refine jq rfl (fun he hC => by rcases hC with rfl | ⟨j, st, rfl⟩ <;> exact (by first | exact qr_lookT (enc := int2K) (k := (h.evs[k].t, h.evs[k].o)) (0 : Int) rfl rfl | exact qr_lookTe (enc := int2K) (k := (h.evs[k].t, h.evs[k].o)) (0 : Int) rfl rfl)) ?_
              refine jq rfl (fun he hC => by rcases hC with rfl | ⟨j, st, rfl⟩ <;> exact (by exact qr_ari rfl rfl rfl (by rw [wroM_get]; have := wroteL_le (h.evs.take k) h.evs[k].t h.evs[k].o; omega))) ?_
              refine je rfl ?_
              refine je rfl ?_
              refine jnil ?_
              refine jce rfl fun u => ?_
              refine oe_mapEntT (enc := int2K) (k := (h.evs[k].t, h.evs[k].o)) rfl rfl rfl fun j st hj => ⟨_, _, rfl, .inr ⟨_, _, rfl⟩, ?_⟩
              refine jcn ?_
              refine lq rfl rfl (by exact qrA) ?_
              refine ln ?_
              refine aops_e rfl (oe_entStT (g := iv) (enc := int2K) (k := (h.evs[k].t, h.evs[k].o)) (v := ((getT (h.evs[k].t, h.evs[k].o) (wroM (h.evs.take k))).getD 0 + 1)) rfl rfl rfl (hj _) ?_)
              refine rn0 ?_
              refine aw_drawX 19 [16, 17, 18] [] (fun he => ∃ x : Res, he = .box b5 256 [iv h.evs[k].t, iv h.evs[k].o] :: .box b4 77 (evR h.evs[k]) :: .box bl 111 (lookC h r1 r2 r3 r4 r5) :: .map r1 (encM intK (mapA bv (begM (h.evs.take k)))) :: .map r2 (encM intK (mapA bv (ovrM (h.evs.take k)))) :: .map r3 (encM int2K (mapA iv (putT (h.evs[k].t, h.evs[k].o) ((getT (h.evs[k].t, h.evs[k].o) (wroM (h.evs.take k))).getD 0 + 1) (wroM (h.evs.take k))))) :: x :: .map r5 (encM int3K (mapA bv (thrM (h.evs.take k)))) :: .box b1 105 [.v (.pointer (some ⟨bl, 0, none⟩))] :: I (k + 1)) rfl rfl ⟨_, rfl⟩ ?_
              refine jq rfl (fun he hC => by obtain ⟨x, rfl⟩ := hC <;> exact qrA) ?_
              refine jq rfl (fun he hC => by obtain ⟨x, rfl⟩ := hC <;> exact qrA) ?_
              refine jq rfl (fun he hC => by obtain ⟨x, rfl⟩ := hC <;> exact qrA) ?_
              refine jq rfl (fun he hC => by obtain ⟨x, rfl⟩ := hC <;> exact qrA) ?_
              refine jq rfl (fun he hC => by obtain ⟨x, rfl⟩ := hC <;> exact qrA) ?_
              refine jq rfl (fun he hC => by obtain ⟨x, rfl⟩ := hC <;> exact qrA) ?_
              refine jq rfl (fun he hC => by obtain ⟨x, rfl⟩ := hC <;> exact qrA) ?_
              refine jq rfl (fun he hC => by obtain ⟨x, rfl⟩ := hC <;> exact qrA) ?_
              refine jq rfl (fun he hC => by obtain ⟨x, rfl⟩ := hC <;> exact qrA) ?_
              refine jq rfl (fun he hC => by obtain ⟨x, rfl⟩ := hC <;> exact qrA) ?_
              refine jq rfl (fun he hC => by obtain ⟨x, rfl⟩ := hC <;> exact qrA) ?_
              refine jq rfl (fun he hC => by obtain ⟨x, rfl⟩ := hC <;> exact qrA) ?_
              refine jq rfl (fun he hC => by obtain ⟨x, rfl⟩ := hC <;> exact qrA) ?_
              refine jq (av := .agg [iv h.evs[k].o, iv h.evs[k].v.t, iv h.evs[k].v.k]) rfl (fun he hC => by obtain ⟨x, rfl⟩ := hC <;> exact (by exact qr_build (out := [iv (h.evs[k]'hk).o, iv (h.evs[k]'hk).v.t, iv (h.evs[k]'hk).v.k]) rfl (by rfl))) ?_
              refine jq rfl (fun he hC => by obtain ⟨x, rfl⟩ := hC <;> exact qrA) ?_
              refine jq rfl (fun he hC => by obtain ⟨x, rfl⟩ := hC <;> exact qrA) ?_
              refine je rfl ?_
              refine je rfl ?_
              refine je rfl ?_
              refine jnil ?_
              refine jce rfl fun u => ?_
              refine oe_mapEntT (enc := int2K) (k := (h.evs[k].t, h.evs[k].o)) rfl rfl rfl fun j st hj => ⟨_, _, rfl, ⟨_, rfl⟩, ?_⟩
              refine jce rfl fun u => ?_
              refine oe_q qrA ⟨_, _, rfl, ⟨_, rfl⟩, ?_⟩
              refine jce rfl fun u => ?_
              refine oe_entStT (g := verA) (enc := int2K) (k := (h.evs[k].t, h.evs[k].o)) (v := h.evs[k].v) rfl rfl rfl (hj _) ⟨.any, _, rfl, ⟨_, rfl⟩, ?_⟩
              refine jcn ?_
              refine ln ?_
              refine aops_e rfl (oe_mapEntT (enc := int3K) (k := (h.evs[k].o, h.evs[k].v.t, h.evs[k].v.k)) rfl rfl rfl fun j2 st2 hj2 => ?_)
              refine rn ?_
              refine aops_e rfl (oe_entStT (g := bv) (enc := int3K) (k := (h.evs[k].o, h.evs[k].v.t, h.evs[k].v.k)) (v := true) rfl rfl rfl (hj2 _) ?_)
              refine rn ?_
              have et := List.take_succ_eq_append_getElem hk
              exact ⟨hk, rowF_step hk zk hw, by rw [et]; simp only [lookS, begM_snoc, ovrM_snoc, wroM_snoc, lasM_snoc, thrM_snoc, kTO, kOV]; first | (rw [if_pos (by simp_all), if_neg (by simp_all), if_neg (by simp_all), if_neg (by simp_all), if_neg (by simp_all)]; exact eA) | (rw [if_neg (by simp_all), if_pos (by simp_all), if_neg (by simp_all), if_neg (by simp_all), if_neg (by simp_all)]; exact eA) | (rw [if_neg (by simp_all), if_neg (by simp_all), if_pos (by simp_all), if_pos (by simp_all), if_pos (by simp_all)]; exact eA) | (rw [if_neg (by simp_all), if_neg (by simp_all), if_neg (by simp_all), if_neg (by simp_all), if_neg (by simp_all)]; exact eA)⟩
            · refine rn ?_
              have et := List.take_succ_eq_append_getElem hk
              exact ⟨hk, rowF_step hk zk hw, by rw [et]; simp only [lookS, begM_snoc, ovrM_snoc, wroM_snoc, lasM_snoc, thrM_snoc, kTO, kOV]; first | (rw [if_pos (by simp_all), if_neg (by simp_all), if_neg (by simp_all), if_neg (by simp_all), if_neg (by simp_all)]; exact eA) | (rw [if_neg (by simp_all), if_pos (by simp_all), if_neg (by simp_all), if_neg (by simp_all), if_neg (by simp_all)]; exact eA) | (rw [if_neg (by simp_all), if_neg (by simp_all), if_pos (by simp_all), if_pos (by simp_all), if_pos (by simp_all)]; exact eA) | (rw [if_neg (by simp_all), if_neg (by simp_all), if_neg (by simp_all), if_neg (by simp_all), if_neg (by simp_all)]; exact eA)⟩
  · have qk := geMap hc33 lk
    refine rn ?_
    exact retq_n .nil (.drop [_, _, _, _, _, _, _] _ _) (by rw [rowF_end qk zk, qk])
end Go.Proofs
/- Rounds whose variables are new memory. Conditions: none (lemmas over any program). -/
set_option linter.unusedVariables false
set_option linter.unusedSimpArgs false
namespace Go.Ab
open Go
/-- A round of a loop over a function, called aS yield; what its variables take is new memory. -/
theorem fcall_yield2 {P : Program} {l : Nat} {pend : Option Code} {fn : FuncId} {nt : Nat} {t : Fr} {ps : List Tmp} {asn body : Code} {dd : Nat} {args : List AV} {h : List Res} {R : AV → List Res → Prop} (hps : Nat.beq ps.length args.length = true) (hpn : (ps.all fun p => Nat.blt p nt) = true)
    (hb : aw P (some l) nt asn (thn (fun s => ∃ t' h2, Ent nt s ⟨t', .loop l .ready pend fn nt t ps.toArray asn body dd :: h2, []⟩ ∧ aw P (some l) nt body (RoundQ l pend fn nt t ps.toArray asn body dd R) ⟨t', .loop l .busy pend fn nt t ps.toArray asn body dd :: h2, []⟩) (fun _ _ => False))
      ⟨zipFr ps args t, .loop l .ready pend fn nt t ps.toArray asn body dd :: h, []⟩) : FCall P (yv l) args (.loop l .ready pend fn nt t ps.toArray asn body dd :: h) R := by
  intro X w v vs hh hv ha
  rw [hv.v_eq]
  obtain ⟨tmps, hl, hsz, hfr⟩ := loop_at hh
  have hlen : ps.length = vs.length := by rw [Nat.eq_of_beq_eq_true hps]; exact ha.length
  have hrun : (callV (.func (.yield l) #[] #[]) vs.toArray).run P w = .ok (.round l fn ((ps.zip vs).foldl (fun tmps (x : Tmp × Value) => tmps.setIfInBounds x.1 x.2) tmps) asn body) w := by
    simp only [callV, Deferred.ofValue, Sem.run_bind, Sem.run_pure, Result.andThen_ok, invoke, Instr.yield, run_getLoop hl]
    simp only [Array.append_eq_append, Array.empty_append, List.size_toArray]
    rw [if_neg (by omega)]
    simp only [Sem.run_pure]
    congr 2
    rw [← Array.foldl_toList]
    simp
  rw [hrun]
  have hpn' : ∀ p ∈ ps, p < tmps.size := fun p hp => by have := List.all_eq_true.1 hpn p hp; rw [hsz]; exact Nat.le_of_ble_eq_true this
  obtain ⟨z1, z2⟩ := zip_rel hpn' ha hfr
  refine roundIn_of_wpIn (F := FW none) trivial ?_
  refine wpIn_mono (hb X { tmps := (ps.zip vs).foldl (fun tmps (x : Tmp × Value) => tmps.setIfInBounds x.1 x.2) tmps, defers := [] } w ⟨hh, by rw [z2, hsz], z1, rfl⟩) ?_
  rintro e a1 w1 ⟨s1, q1, r1, k1⟩
  cases e with
  | normal =>
    obtain ⟨t', h2, hent, hbody⟩ := q1
    have r1' := hent.2 X a1 w1 r1
    have k1' : Keep (owns (.loop l .ready pend fn nt t ps.toArray asn body dd :: h)) w (owns (.loop l .ready pend fn nt t ps.toArray asn body dd :: h2)) w1 := ⟨k1.size, fun b hb ho => ⟨(k1.same b hb ho).1, fun hm => (k1.same b hb ho).2 (hent.1 b hm)⟩, k1.env⟩
    obtain ⟨tmps1, hl1, hsz1, hfr1⟩ := loop_at r1'.heap
    obtain ⟨w2, g1, g2, g3, g4, g5⟩ := loop_set (P := P) (st' := .busy) (pend' := pend) r1'.heap hl1
    refine ⟨w2, ?_, ?_⟩
    · simp only [Instr.beginRound, Sem.run_bind, run_getLoop hl1, Result.andThen_ok, g1, Sem.run_pure]
    · have hsim : Sim X nt ⟨t', .loop l .busy pend fn nt t ps.toArray asn body dd :: h2, []⟩ a1 w2 := ⟨g2, r1'.size, r1'.fr.keep g3.size g4, r1'.defs⟩
      refine wpIn_mono (hbody X a1 w2 hsim) ?_
      rintro e2 a3 w3 ⟨s3, ⟨h1, hp, hR⟩, r3, k3⟩
      have hh3 := r3.heap.perm hp
      obtain ⟨tmps3, hl3, hsz3, hfr3⟩ := loop_at hh3
      have fin : ∀ (jump : Option Code), (∀ b : Bool, b = jump.isNone → R (.v (.bool b)) (.loop l (if jump.isNone then .ready else .done) jump fn nt t ps.toArray asn body dd :: h1)) →
          ∃ v w', (Instr.endRound l jump).run P w3 = .ok v w' ∧ CPost X w (.loop l .ready pend fn nt t ps.toArray asn body dd :: h) R (.returned v) w' := by
        intro jump hRj
        obtain ⟨w4, f1, f2, f3, f4, f5⟩ := loop_set (P := P) (st' := if jump.isNone then .ready else .done) (pend' := jump) hh3 hl3
        refine ⟨.bool jump.isNone, w4, ?_, .bool jump.isNone, .v (.bool jump.isNone), _, rfl, hRj _ rfl, .v _, f2, ?_⟩
        · simp only [Instr.endRound, Sem.run_bind, run_getLoop hl3, Result.andThen_ok, f1, Sem.run_pure]
        · exact (k1'.trans g3).trans ((k3.perm_right hp).trans f3)
      cases e2 with
      | normal => exact fin none fun b hb => by subst hb; exact hR
      | ret => exact fin (some .ret) fun b hb => by subst hb; exact hR
      | exit id => exact fin (some (.exit id)) fun b hb => by subst hb; exact hR
      | goto g => exact hR.elim
      | panic ch => exact hR.elim
      | outgrown => exact hR.elim
  | exit id => exact q1.elim
  | goto g => exact q1.elim
  | ret => exact q1.elim
  | panic ch => exact q1.elim
  | outgrown => exact q1.elim
theorem fcall_yl2 {P : Program} {l : Nat} {pend : Option Code} {fn : FuncId} {nt : Nat} {t : Fr} {ps : List Tmp} {asn body : Code} {dd : Nat} {args : List AV} {h : List Res} {R : AV → List Res → Prop} {lp : LP} (hlp : lp = fun st pend => .loop l st pend fn nt t ps.toArray asn body dd)
    (hps : Nat.beq ps.length args.length = true) (hpn : (ps.all fun p => Nat.blt p nt) = true)
    (hb : aw P (some l) nt asn (thn (fun s => ∃ t' h2, Ent nt s ⟨t', lp .ready pend :: h2, []⟩ ∧ aw P (some l) nt body (RoundL lp pend R) ⟨t', lp .busy pend :: h2, []⟩) (fun _ _ => False))
      ⟨zipFr ps args t, lp .ready pend :: h, []⟩) : FCall P (yv l) args (lp .ready pend :: h) R := by
  subst hlp
  exact fcall_yield2 hps hpn hb
end Go.Ab
/- The walks of rules.look's events and at. Conditions: none. -/
set_option linter.unusedVariables false
set_option linter.unusedSimpArgs false
set_option maxRecDepth 10000
namespace Go.Proofs
open Go Go.Ab
attribute [local irreducible] QR QV OE aops aw dsoup dsoupM dalloc dallocM thn inBlk jsoup jch lsoup
open Go.H
theorem rEvents (bl : Nat) (W : List Res) : ACall Tryz.prog 270 [.v (.pointer (some ⟨bl, 0, none⟩))] W (fun r h' => ∃ b1, h' = .box b1 105 [.v (.pointer (some ⟨bl, 0, none⟩))] :: W ∧ r = .fn (.func 272) [] [.v (.pointer (some ⟨b1, 0, none⟩))]) := by
  refine acall_of_aw Tryz.func270 rfl rfl rfl ?_
  refine rn ?_
  refine aops_e rfl (oe_box rfl rfl rfl fun b1 => ?_)
  refine rn ?_
  exact retq (.cons _ _ _ _ (.tmp _ _ rfl) .nil) (.refl _ _) ⟨_, rfl, rfl⟩
set_option maxHeartbeats 4000000 in
theorem rAt (h : Hist) (la : h.evs.length ≤ 1000000) (bl : Nat) (fv : AV) (hone : fv.cellsOf = some [fv]) (W : List Res) (w : Nat → Ev → Bool) (hp : ∀ k (hk : k < h.evs.length) r1 r2 r3 r4 r5, FCall Tryz.prog fv [.agg (evR h.evs[k])] (lookS bl h (h.evs.take k) r1 r2 r3 r4 r5 W) (fun r h' => h' = lookS bl h (h.evs.take k) r1 r2 r3 r4 r5 W ∧ r = bv (w k h.evs[k]))) : ACall Tryz.prog 246 [.v (.pointer (some ⟨bl, 0, none⟩)), fv] (.box bl 111 (lookN h) :: W) (fun r h' => h' = W ∧ r = placeV (rowF w 0 h.evs)) := by
  refine acall_of_aw Tryz.func246 rfl rfl rfl ?_
  refine rn ?_
  refine aops_e rfl (oe_box rfl hone rfl fun b3 => ?_)
  refine aops_e rfl (oe_alloc rfl fun b4 => ?_)
  refine aops_e rfl (oe_alloc rfl fun b5 => ?_)
  refine rn ?_
  refine aops_e rfl (oe_call rfl rfl (FCall.of_fun (rEvents bl _)) rfl ?_)
  rintro _ _ ⟨b1, rfl, rfl⟩
  refine rn ?_
  refine aw_rf (fun pend h'' => (pend = none ∧ rowF w 0 h.evs = none ∧ h'' = .box b5 4 [bv false] :: .box b4 3 [iv 0] :: .box b3 171 [fv] :: W) ∨ (pend = some .ret ∧ ∃ k : Nat, rowF w 0 h.evs = some k ∧ h'' = .box b5 4 [bv true] :: .box b4 3 [iv (k : Nat)] :: .box b3 171 [fv] :: W)) rfl (fun fn l q lp hlp => ?_) (fun q h'' hK => ?_) (fun q h'' c hK => ?_)
  · suffices hy : ∀ k (hk : k < h.evs.length) r1 r2 r3 r4 r5, FCall Tryz.prog (yv l) [iv k, .agg (evR h.evs[k])] (lookS bl h (h.evs.take k) r1 r2 r3 r4 r5 (.box b1 105 [.v (.pointer (some ⟨bl, 0, none⟩))] :: (fun _ => lp .ready none :: .defs q :: .box b5 4 [bv false] :: .box b4 3 [iv 0] :: .box b3 171 [fv] :: W) k)) (fun r h' => r = bv (!w k h.evs[k]) ∧ h' = lookS bl h (h.evs.take k) r1 r2 r3 r4 r5 (.box b1 105 [.v (.pointer (some ⟨bl, 0, none⟩))] :: bif w k h.evs[k] then (fun k => lp .done (some .ret) :: .defs q :: .box b5 4 [bv true] :: .box b4 3 [iv (k : Nat)] :: .box b3 171 [fv] :: W) k else (fun _ => lp .ready none :: .defs q :: .box b5 4 [bv false] :: .box b4 3 [iv 0] :: .box b3 171 [fv] :: W) (k + 1))) by
      refine ACall.mono (ACall.perm ((pt6 _ _ _ _ _ _ _ _).trans (.cons _ (pt2 _ _ _ _))) (rEvents1 h la (yv l) bl b1 w (fun _ => lp .ready none :: .defs q :: .box b5 4 [bv false] :: .box b4 3 [iv 0] :: .box b3 171 [fv] :: W) (fun k => lp .done (some .ret) :: .defs q :: .box b5 4 [bv true] :: .box b4 3 [iv (k : Nat)] :: .box b3 171 [fv] :: W) hy)) ?_
      rintro _ _ rfl
      cases hr : rowF w 0 h.evs with
      | none => exact ⟨none, .ready, _, .refl _, by simp, .inl ⟨rfl, rfl, rfl⟩⟩
      | some k => exact ⟨_, _, _, .refl _, by simp, .inr ⟨rfl, k, rfl, rfl⟩⟩
    intro k hk r1 r2 r3 r4 r5
    refine FCall.perm (pt7 _ _ _ _ _ _ _ _ _) (FCall.permR ?_)
    refine fcall_yl2 hlp rfl rfl ?_
    refine rn ?_
    refine aops_e rfl (oe_alloc rfl fun b7 => ?_)
    refine rn ?_
    refine ⟨[(6, iv k), (7, .v (.pointer (some ⟨b7, 0, none⟩))), (3, .v (.pointer (some ⟨b3, 0, none⟩))), (4, .v (.pointer (some ⟨b4, 0, none⟩))), (5, .v (.pointer (some ⟨b5, 0, none⟩)))], .box b7 77 (evR h.evs[k]) :: lookS bl h (h.evs.take k) r1 r2 r3 r4 r5 (.box b1 105 [.v (.pointer (some ⟨bl, 0, none⟩))] :: .defs q :: .box b5 4 [bv false] :: .box b4 3 [iv 0] :: .box b3 171 [fv] :: W), ent_trans (ent_perm (pt1 _ _ _)) es, ?_⟩
    refine rn ?_
    refine qv rfl rfl (qv_call rfl rfl (FCall.qt (h2 := [_, _, _, _, _, _, _]) (hp k hk r1 r2 r3 r4 r5) (List.Perm.trans (.cons _ (.cons _ ((pt6 _ _ _ _ _ _ _ _).trans (.cons _ ((pt6 _ _ _ _ _ _ _ _).trans (.cons _ ((pt6 _ _ _ _ _ _ _ _).trans (.cons _ ((pt6 _ _ _ _ _ _ _ _).trans (.cons _ (pt6 _ _ _ _ _ _ _ _))))))))))) (perm_swap [_, _, _, _, _, _, _] _)))) ?_
    refine rn ?_
    refine aw_cond rfl (fun hc14 => ?_) (fun hc14 => ?_)
    · have hw : w k h.evs[k] = true := by simpa using hc14
      refine aw_ent (s' := ⟨[(6, iv k), (4, .v (.pointer (some ⟨b4, 0, none⟩))), (5, .v (.pointer (some ⟨b5, 0, none⟩)))], lp .busy none :: lookS bl h (h.evs.take k) r1 r2 r3 r4 r5 (.box b1 105 [.v (.pointer (some ⟨bl, 0, none⟩))] :: .defs q :: .box b5 4 [bv false] :: .box b4 3 [iv 0] :: .box b3 171 [fv] :: W), []⟩) (eD 1) ?_
      refine rn ?_
      exact round_r (.refl _) ⟨_, ((pt1 _ _ _).trans (.cons _ ((pt1 _ _ _).trans (.cons _ ((pt1 _ _ _).trans (.cons _ ((pt1 _ _ _).trans (.cons _ ((pt1 _ _ _).trans (.cons _ ((pt1 _ _ _).trans (.cons _ (pt1 _ _ _))))))))))))), by rw [hw]; rfl, by rw [hw]; rfl⟩
    · have hw : w k h.evs[k] = false := by simpa using hc14
      refine aw_ent (s' := ⟨[(6, iv k), (4, .v (.pointer (some ⟨b4, 0, none⟩))), (5, .v (.pointer (some ⟨b5, 0, none⟩)))], lp .busy none :: lookS bl h (h.evs.take k) r1 r2 r3 r4 r5 (.box b1 105 [.v (.pointer (some ⟨bl, 0, none⟩))] :: .defs q :: .box b5 4 [bv false] :: .box b4 3 [iv 0] :: .box b3 171 [fv] :: W), []⟩) (eD 1) ?_
      refine rn ?_
      exact round_n (.refl _) ⟨_, ((pt1 _ _ _).trans (.cons _ ((pt1 _ _ _).trans (.cons _ ((pt1 _ _ _).trans (.cons _ ((pt1 _ _ _).trans (.cons _ ((pt1 _ _ _).trans (.cons _ ((pt1 _ _ _).trans (.cons _ (pt1 _ _ _))))))))))))), by rw [hw]; rfl, by rw [hw]; rfl⟩
  · obtain ⟨_, hr, rfl⟩ | ⟨hc, _⟩ := hK
    rotate_left
    · cases hc
    refine rn ?_
    exact retqd (.refl _) (.cons _ _ _ _ (.one _ _ _ _ _ _ _ rfl inferInstance inferInstance rfl) (.cons _ _ _ _ (.one _ _ _ _ _ _ _ rfl inferInstance inferInstance rfl) .nil)) (.drop [_, _, _] _ _) ⟨rfl, by rw [hr]; rfl⟩
  · obtain ⟨hc, _⟩ | ⟨hc, k, hr, rfl⟩ := hK
    · cases hc
    obtain rfl : c = .ret := by simpa using hc
    refine rn ?_
    exact retqd (.refl _) (.cons _ _ _ _ (.one _ _ _ _ _ _ _ rfl inferInstance inferInstance rfl) (.cons _ _ _ _ (.one _ _ _ _ _ _ _ rfl inferInstance inferInstance rfl) .nil)) (.drop [_, _, _] _ _) ⟨rfl, by rw [hr]; rfl⟩
end Go.Proofs
