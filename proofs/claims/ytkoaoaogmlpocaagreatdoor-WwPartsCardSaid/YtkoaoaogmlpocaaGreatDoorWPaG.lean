/- A history read as data. Conditions: none. -/
import Derived.Test.YtkoaoaogmlpocaaGreatDoorWPaF
import Derived.Test.YtkoaoaogmlpocaaGreatDoorTie
import Derived.OpenShut
import Derived.Lib.LaidTab
import Derived.Lib.LaidU8
import Derived.ProofKit
import Derived.LaidMore
import Derived.LaidSub
import Derived.LaidHandle
import Derived.Lay
import Derived.SevenTiedAt
import Derived.Stop.Joined
set_option linter.unusedSectionVars false
set_option linter.unusedSimpArgs false
set_option linter.unusedVariables false
set_option linter.unusedVariables false
set_option maxRecDepth 100000
namespace Go.Proofs
open Go Go.Ab Go.H
section
variable {K : Type} {enc : TypeId × Value → K} {w : World}
theorem rInt : Reads enc Tryz.prog w 3 (fun n : Int => [iv n]) (fun _ => True) := .int Tryz.underlying3
theorem rBool : Reads enc Tryz.prog w 4 (fun b : Bool => [bv b]) (fun _ => True) := .bool Tryz.underlying4
theorem rStr : Reads enc Tryz.prog w 9 strR (fun _ => True) := .string Tryz.underlying9
theorem rVer : Reads enc Tryz.prog w 38 verR (fun _ => True) :=
  .map (fun x : Int × Int × Unit => ⟨x.1, x.2.1⟩) (.struct Tryz.underlying38 rfl (tot := 2) (by kernel_rfl) (.cons rInt (s := 1) (by kernel_rfl) (.cons rInt (s := 1) (by kernel_rfl) (.nil 2)))) (fun _ => rfl) (fun _ _ => trivial)
theorem rdSeen : Reads enc Tryz.prog w 59 seenR (fun _ => True) :=
  .map (fun x : Int × Ver × Unit => ⟨x.1, x.2.1⟩) (.struct Tryz.underlying59 rfl (tot := 3) (by kernel_rfl) (.cons rInt (s := 1) (by kernel_rfl) (.cons rVer (s := 2) (by kernel_rfl) (.nil 3)))) (fun _ => rfl) (fun _ _ => trivial)
theorem big_of {n b b' c : Nat} (hb : b' = b) (hb0 : 0 < b) (hc : reachBytes / b ≤ c) (h : n * b' ≤ reachBytes) : n ≤ c := by subst hb; exact Nat.le_trans ((Nat.le_div_iff_mul_le hb0).2 h) hc
theorem rSeens : Reads enc Tryz.prog w 54 (fun l : List Seen => [seensA l]) (fun l => l.length ≤ 5864062014805) :=
  .map (fun l : List Seen => l) (.slice Tryz.underlying54 rdSeen (k := 3) (by kernel_rfl) (by decide) (by rw [show Tryz.prog.bytesOf 59 = 24 by kernel_rfl]; decide)) (fun _ => rfl) (fun _ h => big_of (b := 24) (by kernel_rfl) (by decide) (by decide) h.1)
theorem rInts : Reads enc Tryz.prog w 29 (fun l : List Int => [intsA l]) (fun l => l.length ≤ 17592186044416) :=
  .map (fun l : List Int => l) (.slice Tryz.underlying29 rInt (k := 1) (by kernel_rfl) (by decide) (by rw [show Tryz.prog.bytesOf 3 = 8 by kernel_rfl]; decide)) (fun _ => rfl) (fun _ h => big_of (b := 8) (by kernel_rfl) (by decide) (by decide) h.1)
theorem rStrs : Reads enc Tryz.prog w 22 (fun l : List ByteArray => [strsA l]) (fun l => l.length ≤ 8796093022208) :=
  .map (fun l : List ByteArray => l) (.slice Tryz.underlying22 rStr (k := 1) (by kernel_rfl) (by decide) (by rw [show Tryz.prog.bytesOf 9 = 16 by kernel_rfl]; decide)) (fun _ => rfl) (fun _ h => big_of (b := 16) (by kernel_rfl) (by decide) (by decide) h.1)
theorem rEv : Reads enc Tryz.prog w 56 evR (fun e => e.scan.length ≤ 5864062014805) :=
  .map (fun x : Int × Int × Int × Int × Int × Ver × Int × List Seen × Unit => ⟨x.1, x.2.1, x.2.2.1, x.2.2.2.1, x.2.2.2.2.1, x.2.2.2.2.2.1, x.2.2.2.2.2.2.1, x.2.2.2.2.2.2.2.1⟩)
    (.struct Tryz.underlying56 rfl (tot := 9) (by kernel_rfl) (.cons rInt (s := 1) (by kernel_rfl) (.cons rInt (s := 1) (by kernel_rfl) (.cons rInt (s := 1) (by kernel_rfl) (.cons rInt (s := 1) (by kernel_rfl) (.cons rInt (s := 1) (by kernel_rfl)
      (.cons rVer (s := 2) (by kernel_rfl) (.cons rInt (s := 1) (by kernel_rfl) (.cons rSeens (s := 1) (by kernel_rfl) (.nil 9)))))))))) (fun _ => rfl) (fun _ h => h.2.2.2.2.2.2.2.1)
theorem rOrd : Reads enc Tryz.prog w 101 ordR (fun e => e.ts.length ≤ 17592186044416) :=
  .map (fun x : Int × List Int × Unit => ⟨x.1, x.2.1⟩) (.struct Tryz.underlying101 rfl (tot := 2) (by kernel_rfl) (.cons rInt (s := 1) (by kernel_rfl) (.cons rInts (s := 1) (by kernel_rfl) (.nil 2)))) (fun _ => rfl) (fun _ h => h.2.1)
theorem rMat : Reads enc Tryz.prog w 103 matR (fun e => e.ts.length ≤ 17592186044416) :=
  .map (fun x : Int × Int × Bool × List Int × Unit => ⟨x.1, x.2.1, x.2.2.1, x.2.2.2.1⟩) (.struct Tryz.underlying103 rfl (tot := 4) (by kernel_rfl) (.cons rInt (s := 1) (by kernel_rfl) (.cons rInt (s := 1) (by kernel_rfl) (.cons rBool (s := 1) (by kernel_rfl) (.cons rInts (s := 1) (by kernel_rfl) (.nil 4)))))) (fun _ => rfl) (fun _ h => h.2.2.2.1)
theorem rWan : Reads enc Tryz.prog w 106 wanR (fun _ => True) :=
  .map (fun x : Int × Int × Unit => ⟨x.1, x.2.1⟩) (.struct Tryz.underlying106 rfl (tot := 2) (by kernel_rfl) (.cons rInt (s := 1) (by kernel_rfl) (.cons rInt (s := 1) (by kernel_rfl) (.nil 2)))) (fun _ => rfl) (fun _ _ => trivial)
theorem rEvs : Reads enc Tryz.prog w 23 (fun l : List Ev => [evsA l]) (fun l => l.length ≤ 1599289640401 ∧ ∀ e ∈ l, e.scan.length ≤ 5864062014805) :=
  .map (fun l : List Ev => l) (.slice Tryz.underlying23 rEv (k := 9) (by kernel_rfl) (by decide) (by rw [show Tryz.prog.bytesOf 56 = 88 by kernel_rfl]; decide)) (fun _ => rfl) (fun _ h => ⟨big_of (b := 88) (by kernel_rfl) (by decide) (by decide) h.1, h.2⟩)
theorem rOrds : Reads enc Tryz.prog w 24 (fun l : List H.Ord => [ordsA l]) (fun l => l.length ≤ 4398046511104 ∧ ∀ e ∈ l, e.ts.length ≤ 17592186044416) :=
  .map (fun l : List H.Ord => l) (.slice Tryz.underlying24 rOrd (k := 2) (by kernel_rfl) (by decide) (by rw [show Tryz.prog.bytesOf 101 = 32 by kernel_rfl]; decide)) (fun _ => rfl) (fun _ h => ⟨big_of (b := 32) (by kernel_rfl) (by decide) (by decide) h.1, h.2⟩)
theorem rMats : Reads enc Tryz.prog w 25 (fun l : List Mat => [matsA l]) (fun l => l.length ≤ 2932031007402 ∧ ∀ e ∈ l, e.ts.length ≤ 17592186044416) :=
  .map (fun l : List Mat => l) (.slice Tryz.underlying25 rMat (k := 4) (by kernel_rfl) (by decide) (by rw [show Tryz.prog.bytesOf 103 = 48 by kernel_rfl]; decide)) (fun _ => rfl) (fun _ h => ⟨big_of (b := 48) (by kernel_rfl) (by decide) (by decide) h.1, h.2⟩)
theorem rWans : Reads enc Tryz.prog w 26 (fun l : List Wan => [wansA l]) (fun l => l.length ≤ 8796093022208) :=
  .map (fun l : List Wan => l) (.slice Tryz.underlying26 rWan (k := 2) (by kernel_rfl) (by decide) (by rw [show Tryz.prog.bytesOf 106 = 16 by kernel_rfl]; decide)) (fun _ => rfl) (fun _ h => big_of (b := 16) (by kernel_rfl) (by decide) (by decide) h.1)
theorem rHist : Reads enc Tryz.prog w 28 histC Big :=
  .map (fun x : List ByteArray × List ByteArray × List ByteArray × List ByteArray × List Ev × List H.Ord × List Mat × List Wan × Unit => ⟨x.1, x.2.1, x.2.2.1, x.2.2.2.1, x.2.2.2.2.1, x.2.2.2.2.2.1, x.2.2.2.2.2.2.1, x.2.2.2.2.2.2.2.1⟩)
    (.struct Tryz.underlying28 rfl (tot := 8) (by kernel_rfl) (.cons rStrs (s := 1) (by kernel_rfl) (.cons rStrs (s := 1) (by kernel_rfl) (.cons rStrs (s := 1) (by kernel_rfl) (.cons rStrs (s := 1) (by kernel_rfl) (.cons rEvs (s := 1) (by kernel_rfl)
      (.cons rOrds (s := 1) (by kernel_rfl) (.cons rMats (s := 1) (by kernel_rfl) (.cons rWans (s := 1) (by kernel_rfl) (.nil 8)))))))))) (fun _ => rfl)
    (fun x h => by
      obtain ⟨h1, h2, h3, h4, ⟨h5, h6⟩, ⟨h7, h8⟩, ⟨h9, hA⟩, hB, _⟩ := h
      exact ⟨⟨Nat.le_trans h1 (by decide), Nat.le_trans h2 (by decide), Nat.le_trans h3 (by decide), Nat.le_trans h4 (by decide), Nat.le_trans h5 (by decide), Nat.le_trans h7 (by decide), Nat.le_trans h9 (by decide), Nat.le_trans hB (by decide), fun e he => Nat.le_trans (h6 e he) (by decide), fun e he => Nat.le_trans (h8 e he) (by decide), fun e he => Nat.le_trans (hA e he) (by decide)⟩, h1, h2, h3, h4, h7, h9, hB, h6, h8, hA⟩)
end
end Go.Proofs
/- The listed package variables, as they are laid: the boxes that are looked at. Conditions: none. -/
set_option linter.unusedVariables false
set_option maxRecDepth 100000
namespace Go.Proofs
open Go Go.Ab Go.H
theorem chunks {α : Type} (s : Nat) : ∀ (n : Nat) (cs : List α) (f : Nat → List α), cs.length = n * s → (∀ i, i < n → (cs.drop (i * s)).take s = f i) → cs = (List.range n).flatMap f
  | 0, cs, f, h, _ => by simp at h; subst h; rfl
  | n + 1, cs, f, h, k => by
    have h0 := k 0 (by omega)
    have ih := chunks s n (cs.drop s) (fun i => f (i + 1)) (by rw [List.length_drop, h, Nat.add_mul]; omega) fun i hi => by
      have := k (i + 1) (by omega)
      rw [Nat.add_mul, Nat.one_mul, Nat.add_comm, ← List.drop_drop] at this
      exact this
    rw [List.range_succ_eq_map, List.flatMap_cons, List.flatMap_map, ← h0]
    simp only [Nat.zero_mul, List.drop_zero]
    have e : cs = cs.take s ++ cs.drop s := (List.take_append_drop s cs).symm
    rw [ih] at e
    exact e
theorem glob_of {P : Program} {w : World} {n : String} {g t : Nat} {d : DataW Unit} {vals : List Value} {T : TypeId} (hr : Lib.VarReads P w n d) (hg : P.globalNamed n = some g) (ht : (P.globals[g]?).map (·.type) = some t)
    (hv : ∀ fuel cs p, DataW.trod (fun _ => ()) P w 0 (fun _ => true) false fuel t cs = some (d, p) → cs = vals) : (Res.glob g T (vals.map .v)).holds w noX := by
  obtain ⟨g', t', cs, fuel, p, h1, h2, h3, h4⟩ := hr
  obtain rfl := Option.some.inj (hg.symm.trans h1)
  obtain rfl := Option.some.inj (ht.symm.trans h2)
  have hcs := hv _ _ _ h4
  unfold World.var? at h3
  rw [hg] at h3
  simp only [Option.bind_some] at h3
  split at h3
  · rename_i c T0 fr hh
    cases h3
    refine ⟨fun h => h, (Array.getElem?_eq_some_iff.1 hh).1, cs, T0, fr, hh, by rw [List.length_map, ← hcs]; simp, fun j j1 j2 => ?_⟩
    rw [List.getElem_map]
    have : vals[j]'(by simpa using j1) = cs[j] := by simp [← hcs]
    rw [this]
    exact .v _
  · cases h3
theorem glob0 {w : World} (h : Lib.VarReads Tryz.prog w "yardarm/history.limits" YtkoaoaogmlpocaaGreatDoor.Rows.laid_yardarm_history_limits) : (Res.glob 0 186 limitsC).holds w noX :=
  glob_of (vals := [300, 60, 300, 60].map fun z => Value.int .i64 z) h (by kernel_rfl) (show _ = some 186 by kernel_rfl) fun fuel cs p hd =>
    Lib.cells_of_tab (zs := [300, 60, 300, 60]) Tryz.underlying186 Tryz.underlying3 (by kernel_rfl) (by kernel_rfl) hd
def firstZ : List Int := (List.range 256).map firstV
theorem utfFirst_eq : YtkoaoaogmlpocaaGreatDoor.Rows.laid_unicode_utf8_first = Lib.tabData .u8 firstZ := by kernel_rfl
theorem glob1 {w : World} (h : Lib.VarReads Tryz.prog w "unicode/utf8.first" YtkoaoaogmlpocaaGreatDoor.Rows.laid_unicode_utf8_first) : (Res.glob 2 287 firstC).holds w noX := by
  have := glob_of (P := Tryz.prog) (w := w) (n := "unicode/utf8.first") (g := 2) (t := 287) (d := YtkoaoaogmlpocaaGreatDoor.Rows.laid_unicode_utf8_first) (T := 287) (vals := firstZ.map fun z => Value.int .u8 z) h (by kernel_rfl) (by kernel_rfl) fun fuel cs p hd =>
    Lib.cells_of_tab (zs := firstZ) Tryz.underlying287 Tryz.underlying5 (by kernel_rfl) (by kernel_rfl) (utfFirst_eq ▸ hd)
  simpa [firstC, firstZ, List.map_map, Function.comp_def] using this
def accZ (i : Nat) : List Int := [[128, 160, 128, 144, 128].getD i 0, [191, 191, 159, 191, 143].getD i 0]
theorem accept_eq : (YtkoaoaogmlpocaaGreatDoor.Rows.laid_unicode_utf8_acceptRanges : DataW Unit) = .agg ((List.range 16).map fun i => .agg ((accZ i).map fun z => .lit (.int .u8 z))) := by kernel_rfl
theorem accC_eq : acceptC = ((List.range 16).flatMap fun i => (accZ i).map fun z => Value.int .u8 z).map .v := rfl
theorem glob2 {w : World} (h : Lib.VarReads Tryz.prog w "unicode/utf8.acceptRanges" YtkoaoaogmlpocaaGreatDoor.Rows.laid_unicode_utf8_acceptRanges) : (Res.glob 3 290 acceptC).holds w noX := by
  rw [accC_eq]
  refine glob_of (T := 290) h (by kernel_rfl) (show _ = some 290 by kernel_rfl) fun fuel cs p hd => ?_
  rw [accept_eq] at hd
  have c132 : Tryz.prog.cellsOf 289 = 2 := by kernel_rfl
  have c133 : Tryz.prog.cellsOf 290 = 32 := by kernel_rfl
  have hlen : cs.length = 16 * 2 := by
    obtain ⟨_, _, _, _, hl, _⟩ := DataW.trod_array Tryz.underlying290 hd
    rw [hl, c133]
  refine chunks 2 16 cs _ hlen fun i hi => ?_
  obtain ⟨f', d, q, h1, h2⟩ := Lib.array_elem Tryz.underlying290 hd i hi
  simp only [List.getElem?_map, List.getElem?_range hi, Option.map_some, Option.some.injEq] at h1
  subst h1
  rw [c132] at h2
  exact Lib.ints_of_struct Tryz.underlying289 (fun j f hj => by
    match j, hj with
    | 0, hj => simp at hj; subst hj; exact ⟨Tryz.underlying5, rfl, by kernel_rfl⟩
    | 1, hj => simp at hj; subst hj; exact ⟨Tryz.underlying5, rfl, by kernel_rfl⟩
    | j + 2, hj => simp at hj) (by rw [c132]; rfl) h2
theorem hrel_G3 {w : World} (h0 : (Res.glob 0 186 limitsC).holds w noX) (h1 : (Res.glob 2 287 firstC).holds w noX) (h2 : (Res.glob 3 290 acceptC).holds w noX) :
    HRel noX w [.glob 0 186 limitsC, .glob 2 287 firstC, .glob 3 290 acceptC] := by
  have hO : OO [.glob 0 186 limitsC, .glob 2 287 firstC, .glob 3 290 acceptC] noX = noX := by funext b; simp [OO, owns, noX, Res.own]
  refine ⟨by simp [owns, Res.own], fun b hb => by simp [owns, Res.own] at hb, fun b hb => hb.elim, fun r hr => ?_⟩
  rw [hO]
  simp only [List.mem_cons, List.not_mem_nil, or_false] at hr
  rcases hr with rfl | rfl | rfl <;> assumption
theorem OO_G3 : OO [.glob 0 186 limitsC, .glob 2 287 firstC, .glob 3 290 acceptC] noX = noX := by funext b; simp [OO, owns, noX, Res.own]
end Go.Proofs
/- The entry: from the row's conditions to the contract, and from the contract to what the row promises. Conditions: none. -/
set_option linter.unusedVariables false
set_option maxRecDepth 100000
namespace Go.Proofs.YtkoaoaogmlpocaaGreatDoor
open Go Go.Ab Go.H Go.ChangeShapes Go.WideShapes Go.ChangeAt Go.RowKit
theorem own : ownKnob Tryz.prog.godebug = none := by kernel_rfl
def laid4 : List (String × DataW Unit) := [("unicode/utf8.acceptRanges", Rows.laid_unicode_utf8_acceptRanges), ("yardarm/history.limits", Rows.laid_yardarm_history_limits), ("yardarm/rules.asks", Rows.laid_yardarm_rules_asks), ("unicode/utf8.first", Rows.laid_unicode_utf8_first)]
def laidD : List (String × DataW Unit) := [("unicode/utf8.acceptRanges", Rows.laid_unicode_utf8_acceptRanges), ("yardarm/history.limits", Rows.laid_yardarm_history_limits), ("unicode/utf8.first", Rows.laid_unicode_utf8_first)]
theorem laidD_eq : (laid4.filter fun x => x.2.handleName?.isNone) = laidD := by kernel_rfl
theorem laidD_of {W : World} (h : laidMetH Tryz.prog laid4 W) : laidMet Tryz.prog laidD W := by
  have := (laidMetH_iff.1 h).1
  rw [laidD_eq] at this
  exact this
theorem laid_hrel {W : World} (h : laidMetH Tryz.prog laid4 W) : HRel noX W [.glob 0 186 limitsC, .glob 2 287 firstC, .glob 3 290 acceptC] := by
  have h := laidD_of h
  exact hrel_G3 (glob0 (Lib.laidMet.reads h (.tail _ (.head _)))) (glob1 (Lib.laidMet.reads h (.tail _ (.tail _ (.head _))))) (glob2 (Lib.laidMet.reads h (.head _)))
/-! The witness: the three data laid by the kit's function, the table of functions set beforehand. -/
def asksV : List Value := .nilFunc :: [259, 261, 262, 263, 264, 265, 266, 267, 268, 269].map fun f => .func (.func f) #[] #[]
noncomputable def wit0 (os : Os) : World := { World.holding Tryz.prog os ⟨#[], #[], []⟩ with heap := (World.holding Tryz.prog os ⟨#[], #[], []⟩).heap.modify 1 (Lay.setRow asksV) }
noncomputable def wit (os : Os) : World := (wit0 os).layVars Tryz.prog laidD
theorem wit_os (os : Os) : (wit os).os = os := World.layVars_os _ _ _
theorem wit_met (os : Os) (args : Array Value) : laidMetH Tryz.prog laid4 ((wit os).forCall (fun _ _ => 0) ⟨#[], args, []⟩).memory := by
  refine laidMetH_of_parts3 (fuel := 8) ?_ (by kernel_rfl) (by kernel_rfl)
  rw [laidD_eq]
  have h : laidMet Tryz.prog laidD (wit os) := laidMet_layVars (w0 := wit0 os) (laidD.map (·.1)) [] (by kernel_rfl) (by kernel_rfl) (by kernel_rfl) (by
    rw [show (laidD.filter fun x => !(laidD.map (·.1)).contains x.1) = [] by kernel_rfl]; exact LaidIn.none)
  exact h.of_heap (by simp [World.memory, World.forCall, Input.heap])
/-- Blocks that were there stay: what is read of an argument stays. -/
theorem keep_below {W W' : World} (hk : Keep [] W [] W') : RowKit.Below W.heap.size W { W' with tape := W.tape } :=
  ⟨hk.env.1, rfl, hk.env.2, hk.size, fun k hk' => (hk.same k hk' (by simp)).1⟩
theorem keep_but {W W' : World} (hk : Keep [] W [] W') (may : MemPlace → Prop) : W.keptBut W' may := by
  refine ⟨hk.env.1, hk.env.2, fun i hi => ?_⟩
  rw [(hk.same i hi (by simp)).1]
  generalize W.heap[i]? = o
  cases o with
  | none => rfl
  | some o => cases o <;> first | rfl | exact ⟨rfl, rfl, rfl, fun _ _ => rfl⟩ | exact .inr ⟨rfl, rfl⟩
section
variable {H : Type} {enc : TypeId × Value → H}
theorem trod_keep {W W' : World} {v : Value} {d : DataW H} {ps : List MemPlace} (hk : Keep [] W [] W') (h : DataW.Trod enc Tryz.prog W 0 (fun _ => true) true 28 v d ps) (hlt : ∀ x ∈ ps, x.block < W.heap.size) :
    DataW.Trod enc Tryz.prog W' 0 (fun b => decide (b < W.heap.size)) true 28 v d ps :=
  DataW.Trod.of_heap (w := { W' with tape := W.tape }) (w' := W') rfl (Below.trod (by kernel_rfl) (by kernel_rfl) (by decide +kernel) h (keep_below hk) hlt)
/-- A history by value, as the contract wants it. -/
theorem hist_ofB {W : World} {cs : Array Value} {d : DataW H} {ps : List MemPlace} (h : DataW.Trod enc Tryz.prog W 0 (fun _ => true) true 28 (.agg cs) d ps) (hw : ∀ n ∈ d.weights Tryz.prog 28, n ≤ reachBytes) :
    ∃ x, Big x ∧ Rel W noX (.agg (histC x)) (.agg cs) := by
  obtain ⟨fuel, hf⟩ := h
  obtain ⟨x, hlim, hx⟩ := rHist fuel _ _ hf hw
  exact ⟨x, hlim, .agg _ _ (by simpa [Value.cells] using hx.1) fun j h1 h2 => by simpa [Value.cells] using hx.2 j h1 (by simpa [Value.cells] using h2)⟩
end
end Go.Proofs.YtkoaoaogmlpocaaGreatDoor
/- The abstract logic, part 30: a map's entry that is made ahead of its value. Conditions: none (lemmas over any program). -/
set_option linter.unusedVariables false
set_option linter.unusedSimpArgs false
namespace Go.Ab
open Go
class HasMapE (h : List Res) (r : Nat) (i : outParam Nat) (es : outParam (List (Value × AV))) (j st : outParam Nat) : Prop where
  h : h[i]? = some (.mape r es j st)
instance HasMapE.head {r : Nat} {es : List (Value × AV)} {j st : Nat} {h : List Res} : HasMapE (.mape r es j st :: h) r 0 es j st := ⟨rfl⟩
instance HasMapE.tail {r i : Nat} {es : List (Value × AV)} {j st : Nat} {x : Res} {h : List Res} [k : HasMapE h r i es j st] : HasMapE (x :: h) r (i + 1) es j st := ⟨by simpa using k.h⟩
/-- The entries with one for a key. -/
def entM {K : Type} [DecidableEq K] (k : K) (z : AV) (es : List (K × AV)) : List (K × AV) := match lookM k es with
  | some _ => es
  | none => es ++ [(k, z)]
theorem lookM_app {K : Type} [DecidableEq K] (k : K) (z : AV) : ∀ es : List (K × AV), lookM k es = none → lookM k (es ++ [(k, z)]) = some z
  | [], _ => by simp [lookM]
  | p :: es, h => by
    simp only [lookM, List.cons_append] at h ⊢
    split at h
    · cases h
    · rename_i hn; rw [if_neg hn]; exact lookM_app k z es h
/-- An entry more with what stands for nothing: the same is found. -/
theorem lookM_ent {K : Type} [DecidableEq K] (k : K) (z : AV) (es : List (K × AV)) : (lookM k (entM k z es)).getD z = (lookM k es).getD z := by
  unfold entM
  cases h : lookM k es with
  | some a => simp [h]
  | none => simp [lookM_app k z es h]
section
variable {P : Program} {ro : Option Nat} {nt : Nat} {dst : Option Tmp} {ty : TypeId} {pos : String} {after : Array Edge} {guard : Option (Nat × Bool)} {x y z : Operand} {t : Fr} {h : List Res} {ds : List Nat} {next : St → Prop} {f : Operand → Option AV}
  {K : Type} [DecidableEq K] {enc : K → Value} {es : List (K × AV)} {kt et T : TypeId} {r i : Nat} {k : K} {av : AV}
theorem oe_mapEntry {d : Tmp} {kv : AV} {zv : Value} {h' : Res → List Res} (hlt : dok nt (some d) = true) (hx : ev t x = some (.v (.map (some r)))) (hy : ev t y = some kv) [hkv : KeyV kv (enc k)] [hm : HasMap h r i (encM enc es)] [hu : Und P T (.map kt et)] [hkt : KeyT P kt enc] [hz : ZerV P et zv]
    [hset : ∀ y, SetAt h i y (h' y)] (hk : ∀ (j st : Nat), (∀ a, (encM enc (entM k (.v zv) es)).modify j (fun p => (p.1, a)) = encM enc (updM k a es)) →
      next ⟨(d, .tup [(lookM k es).getD (.v zv), .v (.int .i64 st)]) :: t, h' (.mape r (encM enc (entM k (.v zv) es)) j st), ds⟩) :
    OE P ro nt ⟨some d, .mapEntry T x y, ty, pos, after, guard⟩ ⟨t, h, ds⟩ next := by
  intro X a w Kc Q hs hK
  refine ⟨about_true, ?_⟩
  obtain ⟨ents, clock, h1, h2, h3, h4, h5⟩ := hs.heap.holds _ (List.mem_of_getElem? hm.h)
  have hks := keys_of_holds h2 h3
  have hl' : es.length = ents.toList.length := by simpa [encM] using h2
  have hle : es.length = ents.size := by simpa using hl'
  have hfind := hkt.find w k ents.toList (es.map (·.1)) hks
  have hrun : ∃ ents' clock' j st v, (Instr.mapEntry T (a.eval x) (a.eval y)).run P w = .ok (.tuple #[v, .int .i64 (st : Nat)]) { w with heap := w.heap.setIfInBounds r (.map ents' clock') } ∧
      Rel w (OO h X) ((lookM k es).getD (.v zv)) v ∧ (∀ a, (encM enc (entM k (.v zv) es)).modify j (fun p => (p.1, a)) = encM enc (updM k a es)) ∧
      (encM enc (entM k (.v zv) es)).length = ents'.size ∧ (∀ i (h1 : i < (encM enc (entM k (.v zv) es)).length) (h2 : i < ents'.size), (encM enc (entM k (.v zv) es))[i].1 = ents'[i].key ∧ Rel w (OO h X) (encM enc (entM k (.v zv) es))[i].2 ents'[i].val) ∧
      (∀ i (h : i < ents'.size), ents'[i].born < clock') ∧ (∀ i j (hi : i < ents'.size) (hj : j < ents'.size), i < j → ents'[i].born < ents'[j].born) ∧ ∃ h : j < ents'.size, ents'[j].born = st := by
    rw [(hs.env.rel x _ hx).v_eq, hkv.h w _ _ (hs.env.rel y _ hy)]
    simp only [Instr.mapEntry, Sem.run_bind, run_underlying (h := hu), Result.andThen_ok, MapKept.run_getObj_map h1, hkt.chk, hfind]
    rcases fK_spec k es ents.toList 0 hl' with ⟨g, b, c⟩ | ⟨j, g1, g2, g, b, c, d⟩
    · rw [g]
      have he : entM k (.v zv) es = es ++ [(k, .v zv)] := by unfold entM; rw [b]
      rw [he]
      refine ⟨ents.push { key := enc k, val := zv, born := clock }, clock + 1, es.length, clock, zv, ?_, by rw [b]; exact .v _, fun a => ?_, by simp [encM, hle], fun i a1 a2 => ?_, fun i a1 => ?_, fun i j a1 a2 a3 => ?_, by simp [hle], ?_⟩
      · simp only [Sem.run_bind, run_zeroValue hz.h, Result.andThen_ok, MapKept.run_setObj_map _ h1, Sem.run_pure, goInt]
      · rw [c a]
        simp only [encM, List.map_append, List.map_cons, List.map_nil]
        have : es.length = (es.map fun p => (enc p.1, p.2)).length := by simp
        rw [this]
        have hmod : ∀ (l : List (Value × AV)) (p : Value × AV) (g : Value × AV → Value × AV), (l ++ [p]).modify l.length g = l ++ [g p] := by
          intro l p g
          induction l with
          | nil => rfl
          | cons q l ih => simp [ih]
        rw [hmod]
      · simp only [encM, List.map_append, List.map_cons, List.map_nil, List.getElem_append, Array.getElem_push]
        by_cases hi : i < ents.size
        · have : i < (List.map (fun p : K × AV => (enc p.1, p.2)) es).length := by simp; omega
          simp only [hi, this, dif_pos]
          exact h3 i (by simpa [encM] using this) hi
        · have h9 : ¬ i < (List.map (fun p : K × AV => (enc p.1, p.2)) es).length := by simp; omega
          simp only [hi, h9, dif_neg, not_false_eq_true, List.getElem_singleton]
          exact ⟨trivial, .v _⟩
      · rw [Array.getElem_push]
        split
        · have := h4 i (by assumption); omega
        · simp
      · simp only [Array.size_push] at a1 a2
        rw [Array.getElem_push, Array.getElem_push]
        split <;> split
        · exact h5 i j _ _ a3
        · have := h4 i (by assumption); simpa using this
        · omega
        · omega
      · simp [Array.getElem_push, hle]
    · have hj : j < ents.size := by simpa using g2
      have hkey : ents[j].key = enc k := by
        have := (h3 j (by simpa [encM] using g1) hj).1
        simp [encM] at this
        rw [← this, c]
      have he : entM k (.v zv) es = es := by unfold entM; rw [b]
      rw [g, he]
      have hgd : ((ents[j]?).map (·.key)).getD (enc k) = enc k := by
        rw [Array.getElem?_eq_getElem hj]; simp [hkey]
      have hsame : (ents.modify j fun e => { e with key := enc k }) = ents := by
        apply Array.ext
        · simp
        · intro q q1 q2
          rw [Array.getElem_modify]
          split
          · rename_i hjq; subst hjq
            have hk2 : ∀ e : MapEntry, e.key = enc k → ({ e with key := enc k } : MapEntry) = e := fun e he => by
              cases e; simp only at he; subst he; rfl
            exact hk2 _ hkey
          · rfl
      refine ⟨ents, clock, j, ents[j].born, ents[j].val, ?_, ?_, fun a => ?_, h2, h3, h4, h5, hj, rfl⟩
      · simp only [Sem.run_bind, Nat.zero_add, hgd, run_keyThatStays (P := P) (kt := kt), Result.andThen_ok, hsame, MapKept.run_setObj_map _ h1, Sem.run_pure, goInt]
        simp only [Array.getElem?_eq_getElem hj, Option.map_some, Option.getD_some]
        rfl
      · rw [b]
        have := (h3 j (by simpa [encM] using g1) hj).2
        simpa [encM] using this
      · rw [d a]
        refine List.ext_getElem (by simp [encM]) fun q q1 q2 => ?_
        simp only [encM, List.getElem_modify, List.getElem_map, List.getElem_set]
        split
        · rename_i hq; subst hq; rw [c]
        · rfl
  obtain ⟨ents', clock', j, st, v, e, hv, hmod, e1, e2, e3, e4, e5, e6⟩ := hrun
  rw [semAt_nd rfl]
  have e' : (execOp a.eval (⟨some d, .mapEntry T x y, ty, pos, after, guard⟩ : Oper)).run P w = .ok (.value (.tuple #[v, .int .i64 (st : Nat)])) { w with heap := w.heap.setIfInBounds r (.map ents' clock') } := run_v _ e
  rw [e']
  have hlt' : r < w.heap.size := (Array.getElem?_eq_some_iff.1 h1).1
  have hoth : ∀ b, b ≠ r → (w.heap.setIfInBounds r (.map ents' clock'))[b]? = w.heap[b]? := fun b hb => by rw [Array.getElem?_setIfInBounds_ne (Ne.symm hb)]
  have hrown : OO h X r := .inl (mem_owns.2 ⟨_, List.mem_of_getElem? hm.h, by simp [Res.own]⟩)
  have hkk : ∀ b, ¬ OO h X b → b < w.heap.size → (w.heap.setIfInBounds r (.map ents' clock'))[b]? = w.heap[b]? ∧ ¬ OO h X b := fun b hb hl => ⟨hoth b (fun q => hb (q ▸ hrown)), hb⟩
  have hholds : (Res.mape r (encM enc (entM k (.v zv) es)) j st).holds { w with heap := w.heap.setIfInBounds r (.map ents' clock') } (OO h X) :=
    ⟨ents', clock', by simp [hlt'], e1, fun i a1 a2 => ⟨(e2 i a1 a2).1, (e2 i a1 a2).2.keep (by simp) hkk⟩, e3, e4, e5, e6⟩
  have hh2 := hs.heap.set (w' := { w with heap := w.heap.setIfInBounds r (.map ents' clock') }) hm.h (y := .mape r (encM enc (entM k (.v zv) es)) j st) rfl (by simp) (fun b hb hne => hoth b (by simpa [Res.own] using hne)) hholds
  rw [(hset _).h] at hh2
  have hown : owns (h' (.mape r (encM enc (entM k (.v zv) es)) j st)) = owns h := by rw [← (hset _).h]; exact owns_set hm.h rfl
  have hkeep : Keep (owns h) w (owns (h' (.mape r (encM enc (entM k (.v zv) es)) j st))) { w with heap := w.heap.setIfInBounds r (.map ents' clock') } := ⟨by simp, fun b hb ho => ⟨hoth b (fun q => ho (q ▸ mem_owns.2 ⟨_, List.mem_of_getElem? hm.h, by simp [Res.own]⟩)), by rw [hown]; exact ho⟩, rfl, rfl⟩
  have hkoo := fun b hb hl => hkeep.oo (X := X) b hb hl
  refine hK _ _ _ (hk j st hmod) (Sim.put (s := ⟨t, h' (.mape r (encM enc (entM k (.v zv) es)) j st), ds⟩) ⟨hh2, hs.size, hs.fr.keep hkeep.size (fun b hb hl => hkoo b hb hl), hs.defs⟩ hlt (.tup _ _ rfl fun q q1 q2 => ?_)) hkeep
  match q, q1, q2 with
  | 0, _, _ => exact hv.keep hkeep.size (fun b hb hl => hkoo b hb hl)
  | 1, _, _ => exact .v _
  | q + 2, q1, _ => simp at q1; omega
theorem oe_entryStore {j st : Nat} {es' es2 : List (Value × AV)} {h' : List Res} (hx : ev t x = some (.v (.map (some r)))) (hy : ev t y = some (.v (.int .i64 st))) (hz : ev t z = some av) [hm : HasMapE h r i es' j st] (he : es'.modify j (fun p => (p.1, av)) = es2)
    [hset : SetAt h i (.map r es2) h'] (hk : next ⟨t, h', ds⟩) : OE P ro nt ⟨none, .entryStore T x y z, ty, pos, after, guard⟩ ⟨t, h, ds⟩ next := by
  refine oe_skip_run rfl rfl (fun X a w hs => ?_) hk
  obtain ⟨ents, clock, h1, h2, h3, h4, h5, hj, h6⟩ := hs.heap.holds _ (List.mem_of_getElem? hm.h)
  have hrv := hs.env.rel z _ hz
  subst he
  have hidx : ents.findIdx? (fun e => ((e.born : Nat) : Int) == ((st : Nat) : Int)) = some j := by
    rw [Array.findIdx?_eq_some_iff_getElem]
    refine ⟨hj, by simp [h6], fun q hq => ?_⟩
    have := h5 q j (by omega) hj hq
    simp; omega
  obtain ⟨ents', hents⟩ : ∃ e, e = ents.modify j (fun e => { e with val := a.eval z }) := ⟨_, rfl⟩
  have hsz : ents'.size = ents.size := by rw [hents]; simp
  have hrun : (Instr.entryStore T (a.eval x) (a.eval y) (a.eval z)).run P w = .ok () { w with heap := w.heap.setIfInBounds r (.map ents' clock) } := by
    rw [(hs.env.rel x _ hx).v_eq, (hs.env.rel y _ hy).v_eq]
    simp only [Instr.entryStore, Sem.run_bind, MapKept.run_getObj_map h1, Result.andThen_ok, asInt, asIntOf, Sem.run_pure, hidx, MapKept.run_setObj_map _ h1, hents]
  have hlt : r < w.heap.size := (Array.getElem?_eq_some_iff.1 h1).1
  have hoth : ∀ b, b ≠ r → (w.heap.setIfInBounds r (.map ents' clock))[b]? = w.heap[b]? := fun b hb => by rw [Array.getElem?_setIfInBounds_ne (Ne.symm hb)]
  have hrown : OO h X r := .inl (mem_owns.2 ⟨_, List.mem_of_getElem? hm.h, by simp [Res.own]⟩)
  have hkk : ∀ b, ¬ OO h X b → b < w.heap.size → (w.heap.setIfInBounds r (.map ents' clock))[b]? = w.heap[b]? ∧ ¬ OO h X b := fun b hb hl => ⟨hoth b (fun q => hb (q ▸ hrown)), hb⟩
  have hmapholds : (Res.map r (es'.modify j (fun p => (p.1, av)))).holds { w with heap := w.heap.setIfInBounds r (.map ents' clock) } (OO h X) := by
    refine ⟨ents', clock, by simp [hlt], by simp [hsz, h2], fun i a1 a2 => ?_, fun i a1 => ?_, fun i j' a1 a2 a3 => ?_⟩
    · have b1 : i < es'.length := by simpa using a1
      have b2 : i < ents.size := by omega
      have := h3 i b1 b2
      subst hents
      rw [List.getElem_modify, Array.getElem_modify]
      split
      · exact ⟨this.1, hrv.keep (by simp) hkk⟩
      · exact ⟨this.1, this.2.keep (by simp) hkk⟩
    · subst hents
      rw [Array.getElem_modify]
      have b2 : i < ents.size := by simpa using a1
      split <;> exact h4 i b2
    · subst hents
      have b1 : i < ents.size := by simpa using a1
      have b2 : j' < ents.size := by simpa using a2
      rw [Array.getElem_modify, Array.getElem_modify]
      split <;> split <;> exact h5 i j' b1 b2 a3
  have hh2 := hs.heap.set (w' := { w with heap := w.heap.setIfInBounds r (.map ents' clock) }) hm.h (y := .map r (es'.modify j (fun p => (p.1, av)))) rfl (by simp) (fun b hb hne => hoth b (by simpa [Res.own] using hne)) hmapholds
  rw [hset.h] at hh2
  have hown : owns h' = owns h := by rw [← hset.h]; exact owns_set hm.h rfl
  have hkeep : Keep (owns h) w (owns h') { w with heap := w.heap.setIfInBounds r (.map ents' clock) } := ⟨by simp, fun b hb ho => ⟨hoth b (fun q => ho (q ▸ mem_owns.2 ⟨_, List.mem_of_getElem? hm.h, by simp [Res.own]⟩)), by rw [hown]; exact ho⟩, rfl, rfl⟩
  exact ⟨_, run_u hrun, ⟨hh2, hs.size, hs.fr.keep hkeep.size (fun b hb hl => hkeep.oo b hb hl), hs.defs⟩, hkeep⟩
/-- Looked up while its entry is there ahead of its value. -/
theorem qr_lookup_e {kv : AV} {zv : Value} {j st : Nat} (hx : f x = some (.v (.map (some r)))) (hy : f y = some kv) [hkv : KeyV kv (enc k)] [hm : HasMapE h r i (encM enc (entM k (.v zv) es)) j st] [hu : Und P T (.map kt et)] [hkt : KeyT P kt enc] [hz : ZerV P et zv]
    (hl : (lookM k es).getD (.v zv) = av) : QR P h f ⟨dst, .lookup T x y false, ty, pos, after, guard⟩ av := fun X ρ w hev => by
  obtain ⟨ents, clock, h1, h2, h3, h4, h5, _⟩ := hev.heap.holds _ (List.mem_of_getElem? hm.h)
  have hks := keys_of_holds h2 h3
  have hl' : (entM k (.v zv) es).length = ents.toList.length := by simpa [encM] using h2
  have hfind := hkt.find w k ents.toList ((entM k (.v zv) es).map (·.1)) hks
  have key := lookM_ent k (.v zv) es
  rw [hl] at key
  have hrun : ∃ v, (Instr.lookup T (ρ x) (ρ y) false).run P w = .ok v w ∧ Rel w (OO h X) av v := by
    rw [(hev.rel x _ hx).v_eq, hkv.h w _ _ (hev.rel y _ hy)]
    simp only [Instr.lookup, Sem.run_bind, run_underlying (h := hu), Result.andThen_ok, MapKept.run_getObj_map h1, Sem.run_pure, hkt.chk, hfind]
    rcases fK_spec k (entM k (.v zv) es) ents.toList 0 hl' with ⟨a, b, c⟩ | ⟨j, g1, g2, a, b, c, d⟩
    · rw [b] at key
      refine ⟨zv, ?_, by rw [← key]; exact .v _⟩
      rw [a]; simp [run_zeroValue hz.h]
    · rw [b] at key
      refine ⟨(ents[j]'(by simpa using g2)).val, ?_, ?_⟩
      · rw [a]; simp
      · have := (h3 j (by simpa [encM] using g1) (by simpa using g2)).2
        rw [← key]; simpa [encM] using this
  obtain ⟨v, e, hr⟩ := hrun
  exact ⟨v, run_v _ e, hr⟩
end
end Go.Ab
/- Keys of maps that are three whole numbers. Conditions: as each lemma states. -/
set_option linter.unusedVariables false
set_option linter.unusedSimpArgs false
namespace Go.Ab
open Go
def int3K (p : Int × Int × Int) : Value := .agg #[.int .i64 p.1, .int .i64 p.2.1, .int .i64 p.2.2]
class Chk3 (P : Program) (kt : TypeId) : Prop where
  h : ∀ (e : Bool) (w : World) (a b c : Int), (Instr.checkKey e 10000 kt (.agg #[.int .i64 a, .int .i64 b, .int .i64 c])).run P w = .ok () w
instance KeyT.int3 {P : Program} {kt : TypeId} [he : EqInts P kt 3] [hc : Chk3 P kt] [hi : IsA P kt true] : KeyT P kt int3K where
  inj := fun a b h => by
    obtain ⟨a1, a2, a3⟩ := a; obtain ⟨b1, b2, b3⟩ := b
    simpa [int3K] using h
  stays := fun a => by simp [int3K, Instr.sameBits]
  chk := fun e w k => hc.h e w k.1 k.2.1 k.2.2
  find := fun w k l ks h => by
    obtain ⟨d, hd, hb⟩ := hi.h
    refine (congrArg (fun r => r) (run_findKey_eq (P := P) (w := w) (k := kt) (by rw [hd]; cases d <;> simp [aggB] at hb ⊢) _ l)).trans ?_
    refine findAsking_fK (fun w a b => ?_) k w l ks 0 h
    have := run_eqints (P := P) (T := kt) w (xs := [a.1, a.2.1, a.2.2]) (ys := [b.1, b.2.1, b.2.2]) rfl rfl
    simp only [int3K]
    refine this.trans ?_
    obtain ⟨a1, a2, a3⟩ := a; obtain ⟨b1, b2, b3⟩ := b
    congr 1
    by_cases h1 : a1 = b1 <;> by_cases h2 : a2 = b2 <;> by_cases h3 : a3 = b3 <;> simp [h1, h2, h3]
instance KeyV.int3 {a b c : Int} : KeyV (.agg [.v (.int .i64 a), .v (.int .i64 b), .v (.int .i64 c)]) (int3K (a, b, c)) := ⟨fun w O u r => by
  cases r with
  | agg _ cs hl hr =>
    simp at hl
    have h0 := (hr 0 (by simp) (by omega)).v_eq
    have h1 := (hr 1 (by simp) (by omega)).v_eq
    have h2 := (hr 2 (by simp) (by omega)).v_eq
    simp only [int3K]
    congr 1
    apply Array.ext
    · simp [← hl]
    · intro i hi hi2
      match i, hi, hi2 with
      | 0, _, _ => exact h0
      | 1, _, _ => exact h1
      | 2, _, _ => exact h2
      | i + 3, hi, hi2 => simp at hi2; omega⟩
end Go.Ab
/- Maps as rows of pairs: looked up, written, counted. Conditions: none (lemmas over any program). -/
set_option linter.unusedVariables false
set_option linter.unusedSimpArgs false
namespace Go.Ab
open Go
/-- A value that may be taken for another one. -/
class ZV (z : Value) (a : AV) : Prop where
  h : ∀ w O u, Rel w O (.v z) u → Rel w O a u
instance ZV.v {z : Value} : ZV z (.v z) := ⟨fun _ _ _ h => h⟩
instance ZV.agg2 {a b : Value} : ZV (.agg #[a, b]) (.agg [.v a, .v b]) := ⟨fun w O u h => by
  rw [h.v_eq]
  refine .agg _ _ rfl fun j h1 h2 => ?_
  match j, h1, h2 with
  | 0, _, _ => exact .v _
  | 1, _, _ => exact .v _
  | j + 2, h1, _ => simp at h1; omega⟩
theorem qr_weak {P : Program} {h : List Res} {f : Operand → Option AV} {o : Oper} {a b : AV} (hw : ∀ w O v, Rel w O a v → Rel w O b v) (q : QR P h f o a) : QR P h f o b := fun X ρ w he =>
  let ⟨v, e, r⟩ := q X ρ w he; ⟨v, e, hw _ _ _ r⟩
theorem qr_as {P : Program} {h : List Res} {f : Operand → Option AV} {o : Oper} {a b : AV} (q : QR P h f o a) (e : a = b) : QR P h f o b := e ▸ q
section
variable {P : Program} {ro : Option Nat} {nt : Nat} {dst : Option Tmp} {ty : TypeId} {pos : String} {after : Array Edge} {guard : Option (Nat × Bool)} {x y z : Operand} {t : Fr} {h h' : List Res} {ds : List Nat} {next : St → Prop} {f : Operand → Option AV}
  {K V : Type} [DecidableEq K] {enc : K → Value} {g : V → AV} {m : List (K × V)} {kt et T : TypeId} {r i : Nat} {k : K} {kv : AV}
theorem look_def {zv : Value} {d : V} [hz : ZV zv (g d)] {w : World} {O : Nat → Prop} {u : Value} (h : Rel w O ((lookM k (mapA g m)).getD (.v zv)) u) : Rel w O (g ((getT k m).getD d)) u := by
  rw [lookM_mapA] at h
  cases hg : getT k m with
  | some a => rw [hg] at h; exact h
  | none => rw [hg] at h; exact hz.h w O u h
theorem qr_lookT (d : V) {zv : Value} (hx : f x = some (.v (.map (some r)))) (hy : f y = some kv) [hkv : KeyV kv (enc k)] [hm : HasMap h r i (encM enc (mapA g m))] [hu : Und P T (.map kt et)] [hkt : KeyT P kt enc] [hz : ZerV P et zv] [hd : ZV zv (g d)] :
    QR P h f ⟨dst, .lookup T x y false, ty, pos, after, guard⟩ (g ((getT k m).getD d)) :=
  qr_weak (fun w O v hr => look_def hr) (qr_lookup hx hy rfl)
theorem qr_lookT2 (d : V) {zv : Value} {b : Bool} (hx : f x = some (.v (.map (some r)))) (hy : f y = some kv) [hkv : KeyV kv (enc k)] [hm : HasMap h r i (encM enc (mapA g m))] [hu : Und P T (.map kt et)] [hkt : KeyT P kt enc] [hz : ZerV P et zv] [hd : ZV zv (g d)]
    (hb : (getT k m).isSome = b) : QR P h f ⟨dst, .lookup T x y true, ty, pos, after, guard⟩ (.tup [g ((getT k m).getD d), .v (.bool b)]) :=
  qr_weak (fun w O v hr => by
    cases hr with
    | tup _ cs hl hr =>
      refine .tup _ _ (by simpa using hl) fun j h1 h2 => ?_
      match j, h1, h2 with
      | 0, _, h2 => exact look_def (hr 0 (by simp) h2)
      | 1, _, h2 => exact hr 1 (by simp) h2
      | j + 2, h1, _ => simp at h1; omega) (qr_lookup2 hx hy rfl (b := b) (by rw [lookM_mapA, Option.isSome_map]; exact hb))
theorem qr_lookTe (d : V) {zv : Value} {j st : Nat} (hx : f x = some (.v (.map (some r)))) (hy : f y = some kv) [hkv : KeyV kv (enc k)] [hm : HasMapE h r i (encM enc (entM k (.v zv) (mapA g m))) j st] [hu : Und P T (.map kt et)] [hkt : KeyT P kt enc] [hz : ZerV P et zv] [hd : ZV zv (g d)] :
    QR P h f ⟨dst, .lookup T x y false, ty, pos, after, guard⟩ (g ((getT k m).getD d)) :=
  qr_weak (fun w O v hr => look_def hr) (qr_lookup_e hx hy rfl)
theorem oe_mapUpdT {v : V} (hx : ev t x = some (.v (.map (some r)))) (hy : ev t y = some kv) (hz : ev t z = some (g v)) [hkv : KeyV kv (enc k)] [hm : HasMap h r i (encM enc (mapA g m))] [hu : Und P T (.map kt et)] [hkt : KeyT P kt enc]
    [hset : SetAt h i (.map r (encM enc (mapA g (putT k v m)))) h'] (hk : next ⟨t, h', ds⟩) : OE P ro nt ⟨none, .mapUpdate T x y z, ty, pos, after, guard⟩ ⟨t, h, ds⟩ next := by
  have : SetAt h i (.map r (encM enc (updM k (g v) (mapA g m)))) h' := by rw [updM_mapA]; exact hset
  exact oe_mapUpdate hx hy hz hk
theorem oe_mapEntT {d : Tmp} {zv : Value} {h' : Res → List Res} (hlt : dok nt (some d) = true) (hx : ev t x = some (.v (.map (some r)))) (hy : ev t y = some kv) [hkv : KeyV kv (enc k)] [hm : HasMap h r i (encM enc (mapA g m))] [hu : Und P T (.map kt et)] [hkt : KeyT P kt enc] [hz : ZerV P et zv]
    [hset : ∀ y, SetAt h i y (h' y)] (hk : ∀ (j st : Nat), (∀ v, (encM enc (entM k (.v zv) (mapA g m))).modify j (fun p => (p.1, g v)) = encM enc (mapA g (putT k v m))) →
      next ⟨(d, .tup [(lookM k (mapA g m)).getD (.v zv), .v (.int .i64 st)]) :: t, h' (.mape r (encM enc (entM k (.v zv) (mapA g m))) j st), ds⟩) :
    OE P ro nt ⟨some d, .mapEntry T x y, ty, pos, after, guard⟩ ⟨t, h, ds⟩ next :=
  oe_mapEntry hlt hx hy fun j st hj => hk j st fun v => by rw [hj (g v), updM_mapA]
theorem oe_entStT {v : V} {j st : Nat} {es' : List (Value × AV)} (hx : ev t x = some (.v (.map (some r)))) (hy : ev t y = some (.v (.int .i64 st))) (hz : ev t z = some (g v)) [hm : HasMapE h r i es' j st] (he : es'.modify j (fun p => (p.1, g v)) = encM enc (mapA g (putT k v m)))
    [hset : SetAt h i (.map r (encM enc (mapA g (putT k v m)))) h'] (hk : next ⟨t, h', ds⟩) : OE P ro nt ⟨none, .entryStore T x y z, ty, pos, after, guard⟩ ⟨t, h, ds⟩ next :=
  oe_entryStore hx hy hz he hk
theorem oe_q {d : Tmp} {op : Op} {av : AV} (hq : QR P h (ev t) ⟨some d, op, ty, pos, after, guard⟩ av) (hk : next ⟨(d, av) :: t, h, ds⟩) (hd : dok nt (some d) = true := by rfl) (hn : notDefer ⟨some d, op, ty, pos, after, guard⟩ = true := by rfl) :
    OE P ro nt ⟨some d, op, ty, pos, after, guard⟩ ⟨t, h, ds⟩ next := fun X a w K Q hs hK =>
  qv_of_qr hq hn X a w K Q hs.env fun v w' hr hh hkp => hK _ _ _ hk (Sim.put (s := ⟨t, h, ds⟩) ⟨hh, hs.size, hs.fr.keep hkp.size (fun b hb hl => hkp.oo b hb hl), hs.defs⟩ hd hr) hkp
theorem qr_len_map {tys : List TypeId} (hx : f x = some (.v (.map (some r)))) [hm : HasMap h r i (encM enc (mapA g m))] [hu : Und P T (.map kt et)] : QR P h f ⟨dst, .call ⟨.builtin .len, [x].toArray, (T :: tys).toArray⟩, ty, pos, after, guard⟩ (.v (.int .i64 m.length)) := fun X ρ w he => by
  obtain ⟨ents, clock, h1, h2, _⟩ := he.heap.holds _ (List.mem_of_getElem? hm.h)
  refine ⟨.int .i64 m.length, ?_, .v _⟩
  have hl : m.length = ents.size := by simpa [encM, mapA] using h2
  simp only [execOp, resolve, List.map_toArray, List.map_cons, List.map_nil, (he.rel x _ hx).v_eq, Sem.run_bind, Sem.run_pure, Result.andThen_ok, invoke, builtin, Builtin.len_, List.getElem?_toArray, List.getElem?_cons_zero, run_underlying (h := hu), MapKept.run_getObj_map h1, hl]
  rfl
end
end Go.Ab
/- What rules.look keeps, as resources. Conditions: none. -/
set_option linter.unusedVariables false
set_option linter.unusedSimpArgs false
set_option maxRecDepth 10000
namespace Go.Proofs
open Go Go.Ab
attribute [local irreducible] QR QV OE aops aw dsoup dsoupM dalloc dallocM thn inBlk jsoup jch lsoup
open Go.H
instance : Chk2 Tryz.prog 308 := ⟨fun e w a b => by kernel_rfl⟩
instance : Chk3 Tryz.prog 310 := ⟨fun e w a b c => by kernel_rfl⟩
abbrev mpv (r : Nat) : AV := .v (.map (some r))
abbrev nmp : AV := .v (.map none)
abbrev verA (v : Ver) : AV := .agg (verR v)
instance : ZV (.agg #[.int .i64 0, .int .i64 0]) (verA ⟨0, 0⟩) := ZV.agg2
abbrev lookN (h : Hist) : List AV := histC h ++ [nmp, nmp, nmp, nmp, nmp]
abbrev lookC (h : Hist) (r1 r2 r3 r4 r5 : Nat) : List AV := histC h ++ [mpv r1, mpv r2, mpv r3, mpv r4, mpv r5]
/-- What a look has, past so many events. -/
abbrev lookS (bl : Nat) (h : Hist) (p : List Ev) (r1 r2 r3 r4 r5 : Nat) (W : List Res) : List Res := .box bl 256 (lookC h r1 r2 r3 r4 r5) :: .map r1 (encM intK (mapA bv (begM p))) :: .map r2 (encM intK (mapA bv (ovrM p))) ::
  .map r3 (encM int2K (mapA iv (wroM p))) :: .map r4 (encM int2K (mapA verA (lasM p))) :: .map r5 (encM int3K (mapA bv (thrM p))) :: W
def placeV : Option Nat → AV
  | some i => .tup [iv i, bv true]
  | none => .tup [iv 0, bv false]
end Go.Proofs
/- The walks of slices.IndexFunc, ContainsFunc and history.all. Conditions: none. -/
set_option linter.unusedVariables false
set_option linter.unusedSimpArgs false
set_option maxRecDepth 10000
namespace Go.Proofs
open Go Go.Ab
attribute [local irreducible] QR QV OE aops aw dsoup dsoupM dalloc dallocM thn inBlk
open Go.H
theorem indexFuncInt {full : Bool} (l : List Int) (fv : AV) (p : Int → Bool) (G : List Res) (hp : ∀ a ∈ l, FCall Tryz.prog fv [iv a] G (fun r h' => h' = G ∧ r = bv (p a))) (hlen : l.length ≤ 4611686018427387904) : ACall Tryz.prog 77 [.list full 1 (l.map intR), fv] G (fun r h' => h' = G ∧ r = iv (fidx p 0 l)) := by
  refine acall_of_aw Tryz.func77 rfl rfl rfl ?_
  refine rn ?_
  refine aw_loop' (fun k : Nat => k ≤ l.length ∧ fidx p 0 l = fidx p k (l.drop k)) (fun k => ⟨[(8, iv k), (7, iv (l.map intR).length), (0, .list full 1 (l.map intR)), (1, fv)], G, []⟩) (fun k => l.length - k) 0 ⟨Nat.zero_le _, by simp⟩
    (ent_sub (.cons _ _ _ rfl (.cons _ _ _ rfl (.cons _ _ _ rfl (.cons _ _ _ rfl (.nil)))))) ?_
  rintro k ⟨hk, hnot⟩
  refine rn ?_
  refine aw_cond rfl (fun hc9 => ?_) (fun hc9 => ?_)
  · have hk2 : k < l.length := by simpa using hc9
    have hrow : (l.map intR)[k]? = some (intR l[k]) := by simp [hk2]
    have hd := List.drop_eq_getElem_cons hk2
    refine rn ?_
    refine qv rfl rfl (qv_call rfl rfl (hp l[k] (by simp))) ?_
    refine rn ?_
    refine aw_cond rfl (fun hc16 => ?_) (fun hc16 => ?_)
    · refine rn ?_
      exact retq (.cons _ _ _ _ (.tmp _ _ rfl) .nil) (.refl _ _) ⟨rfl, by rw [hnot, hd, fidx, if_pos hc16]; rfl⟩
    · refine rn ?_
      exact ⟨k + 1, ⟨by omega, by rw [hnot, hd, fidx, if_neg (by simp [hc16])]⟩, (ent_sub (.cons _ _ _ rfl (.cons _ _ _ rfl (.cons _ _ _ rfl (.cons _ _ _ rfl (.nil)))))), by omega⟩
  · have hk3 : k = l.length := by
      have : l.length ≤ k := by simpa using hc9
      omega
    refine rn ?_
    exact retq (.cons _ _ _ _ (.tmp _ _ rfl) .nil) (.refl _ _) ⟨rfl, by rw [hnot, hk3, List.drop_length, fidx]; rfl⟩
theorem containsFuncInt {full : Bool} (l : List Int) (fv : AV) (p : Int → Bool) (G : List Res) (hp : ∀ a ∈ l, FCall Tryz.prog fv [iv a] G (fun r h' => h' = G ∧ r = bv (p a))) (hlen : l.length ≤ 4611686018427387904) : ACall Tryz.prog 200 [.list full 1 (l.map intR), fv] G (fun r h' => h' = G ∧ r = bv (l.any p)) := by
  refine acall_of_aw Tryz.func200 rfl rfl rfl ?_
  refine rn ?_
  refine qv rfl rfl (qv_call rfl rfl (FCall.of_fun (indexFuncInt l _ p G hp hlen))) ?_
  refine rn ?_
  exact retq (.cons _ _ _ _ (.tmp _ _ rfl) .nil) (.refl _ _) ⟨rfl, by simp only [← fidx_ge p l 0]; rfl⟩
theorem allNotInt (a : Int) (fv : AV) (v : Bool) (b : Nat) (G : List Res) (hp : FCall Tryz.prog fv [iv a] G (fun r h' => h' = G ∧ r = bv v)) : ACall Tryz.prog 201 [iv a, .v (.pointer (some ⟨b, 0, none⟩))] (.box b 131 [fv] :: G) (fun r h' => h' = .box b 131 [fv] :: G ∧ r = bv (!v)) := by
  refine acall_of_aw Tryz.func201 rfl rfl rfl ?_
  refine rn ?_
  refine qv rfl rfl (qv_call rfl rfl (FCall.quiet (R := fun x => x = bv v) (h2 := [_]) (List.perm_append_comm (l₁ := [_])) hp)) ?_
  refine rn ?_
  exact retq (.cons _ _ _ _ (.tmp _ _ rfl) .nil) (.refl _ _) ⟨rfl, rfl⟩
theorem allInt {full : Bool} (l : List Int) (fv : AV) (p : Int → Bool) (G : List Res) (hone : fv.cellsOf = some [fv]) (hp : ∀ a ∈ l, FCall Tryz.prog fv [iv a] G (fun r h' => h' = G ∧ r = bv (p a))) (hlen : l.length ≤ 4611686018427387904) : ACall Tryz.prog 174 [.list full 1 (l.map intR), fv] G (fun r h' => h' = G ∧ r = bv (l.all p)) := by
  refine acall_of_aw Tryz.func174 rfl rfl rfl ?_
  refine rn ?_
  refine aops_e rfl (oe_box rfl hone rfl fun b3 => ?_)
  refine rn ?_
  refine qv rfl rfl (qv_call rfl rfl (FCall.of_fun (containsFuncInt l _ (fun a => !p a) (.box b3 131 [fv] :: G) (fun a ha => FCall.of_acall (fs := []) (cs := [.v (.pointer (some ⟨b3, 0, none⟩))]) (allNotInt a fv (p a) b3 G (hp a ha))) hlen))) ?_
  refine rn ?_
  exact retq (.cons _ _ _ _ (.tmp _ _ rfl) .nil) (.drop1 _ _ _) ⟨rfl, by simp only [← any_not p l]; rfl⟩
theorem indexFuncEv {full : Bool} (l : List Ev) (fv : AV) (p : Ev → Bool) (G : List Res) (hp : ∀ a ∈ l, FCall Tryz.prog fv [.agg (evR a)] G (fun r h' => h' = G ∧ r = bv (p a))) (hlen : l.length ≤ 4611686018427387904) : ACall Tryz.prog 231 [.list full 9 (l.map evR), fv] G (fun r h' => h' = G ∧ r = iv (fidx p 0 l)) := by
  refine acall_of_aw Tryz.func231 rfl rfl rfl ?_
  refine rn ?_
  refine aw_loop' (fun k : Nat => k ≤ l.length ∧ fidx p 0 l = fidx p k (l.drop k)) (fun k => ⟨[(8, iv k), (7, iv (l.map evR).length), (0, .list full 9 (l.map evR)), (1, fv)], G, []⟩) (fun k => l.length - k) 0 ⟨Nat.zero_le _, by simp⟩
    (ent_sub (.cons _ _ _ rfl (.cons _ _ _ rfl (.cons _ _ _ rfl (.cons _ _ _ rfl (.nil)))))) ?_
  rintro k ⟨hk, hnot⟩
  refine rn ?_
  refine aw_cond rfl (fun hc9 => ?_) (fun hc9 => ?_)
  · have hk2 : k < l.length := by simpa using hc9
    have hrow : (l.map evR)[k]? = some (evR l[k]) := by simp [hk2]
    have hd := List.drop_eq_getElem_cons hk2
    refine rn ?_
    refine qv rfl rfl (qv_call rfl rfl (hp l[k] (by simp))) ?_
    refine rn ?_
    refine aw_cond rfl (fun hc16 => ?_) (fun hc16 => ?_)
    · refine rn ?_
      exact retq (.cons _ _ _ _ (.tmp _ _ rfl) .nil) (.refl _ _) ⟨rfl, by rw [hnot, hd, fidx, if_pos hc16]; rfl⟩
    · refine rn ?_
      exact ⟨k + 1, ⟨by omega, by rw [hnot, hd, fidx, if_neg (by simp [hc16])]⟩, (ent_sub (.cons _ _ _ rfl (.cons _ _ _ rfl (.cons _ _ _ rfl (.cons _ _ _ rfl (.nil)))))), by omega⟩
  · have hk3 : k = l.length := by
      have : l.length ≤ k := by simpa using hc9
      omega
    refine rn ?_
    exact retq (.cons _ _ _ _ (.tmp _ _ rfl) .nil) (.refl _ _) ⟨rfl, by rw [hnot, hk3, List.drop_length, fidx]; rfl⟩
theorem containsFuncEv {full : Bool} (l : List Ev) (fv : AV) (p : Ev → Bool) (G : List Res) (hp : ∀ a ∈ l, FCall Tryz.prog fv [.agg (evR a)] G (fun r h' => h' = G ∧ r = bv (p a))) (hlen : l.length ≤ 4611686018427387904) : ACall Tryz.prog 202 [.list full 9 (l.map evR), fv] G (fun r h' => h' = G ∧ r = bv (l.any p)) := by
  refine acall_of_aw Tryz.func202 rfl rfl rfl ?_
  refine rn ?_
  refine qv rfl rfl (qv_call rfl rfl (FCall.of_fun (indexFuncEv l _ p G hp hlen))) ?_
  refine rn ?_
  exact retq (.cons _ _ _ _ (.tmp _ _ rfl) .nil) (.refl _ _) ⟨rfl, by simp only [← fidx_ge p l 0]; rfl⟩
theorem allNotEv (a : Ev) (fv : AV) (v : Bool) (b : Nat) (G : List Res) (hp : FCall Tryz.prog fv [.agg (evR a)] G (fun r h' => h' = G ∧ r = bv v)) : ACall Tryz.prog 203 [.agg (evR a), .v (.pointer (some ⟨b, 0, none⟩))] (.box b 237 [fv] :: G) (fun r h' => h' = .box b 237 [fv] :: G ∧ r = bv (!v)) := by
  refine acall_of_aw Tryz.func203 rfl rfl rfl ?_
  refine rn ?_
  refine aops_e rfl (oe_box rfl rfl rfl fun b2 => ?_)
  refine rn ?_
  refine qv rfl rfl (qv_call rfl rfl (FCall.quiet (R := fun x => x = bv v) (h2 := [_, _]) (List.perm_append_comm (l₁ := [_, _])) hp)) ?_
  refine rn ?_
  exact retq (.cons _ _ _ _ (.tmp _ _ rfl) .nil) (.drop1 _ _ _) ⟨rfl, rfl⟩
theorem allEv {full : Bool} (l : List Ev) (fv : AV) (p : Ev → Bool) (G : List Res) (hone : fv.cellsOf = some [fv]) (hp : ∀ a ∈ l, FCall Tryz.prog fv [.agg (evR a)] G (fun r h' => h' = G ∧ r = bv (p a))) (hlen : l.length ≤ 4611686018427387904) : ACall Tryz.prog 177 [.list full 9 (l.map evR), fv] G (fun r h' => h' = G ∧ r = bv (l.all p)) := by
  refine acall_of_aw Tryz.func177 rfl rfl rfl ?_
  refine rn ?_
  refine aops_e rfl (oe_box rfl hone rfl fun b3 => ?_)
  refine rn ?_
  refine qv rfl rfl (qv_call rfl rfl (FCall.of_fun (containsFuncEv l _ (fun a => !p a) (.box b3 237 [fv] :: G) (fun a ha => FCall.of_acall (fs := []) (cs := [.v (.pointer (some ⟨b3, 0, none⟩))]) (allNotEv a fv (p a) b3 G (hp a ha))) hlen))) ?_
  refine rn ?_
  exact retq (.cons _ _ _ _ (.tmp _ _ rfl) .nil) (.drop1 _ _ _) ⟨rfl, by simp only [← any_not p l]; rfl⟩
theorem indexFuncOrd {full : Bool} (l : List Ord) (fv : AV) (p : Ord → Bool) (G : List Res) (hp : ∀ a ∈ l, FCall Tryz.prog fv [.agg (ordR a)] G (fun r h' => h' = G ∧ r = bv (p a))) (hlen : l.length ≤ 4611686018427387904) : ACall Tryz.prog 141 [.list full 2 (l.map ordR), fv] G (fun r h' => h' = G ∧ r = iv (fidx p 0 l)) := by
  refine acall_of_aw Tryz.func141 rfl rfl rfl ?_
  refine rn ?_
  refine aw_loop' (fun k : Nat => k ≤ l.length ∧ fidx p 0 l = fidx p k (l.drop k)) (fun k => ⟨[(8, iv k), (7, iv (l.map ordR).length), (0, .list full 2 (l.map ordR)), (1, fv)], G, []⟩) (fun k => l.length - k) 0 ⟨Nat.zero_le _, by simp⟩
    (ent_sub (.cons _ _ _ rfl (.cons _ _ _ rfl (.cons _ _ _ rfl (.cons _ _ _ rfl (.nil)))))) ?_
  rintro k ⟨hk, hnot⟩
  refine rn ?_
  refine aw_cond rfl (fun hc9 => ?_) (fun hc9 => ?_)
  · have hk2 : k < l.length := by simpa using hc9
    have hrow : (l.map ordR)[k]? = some (ordR l[k]) := by simp [hk2]
    have hd := List.drop_eq_getElem_cons hk2
    refine rn ?_
    refine qv rfl rfl (qv_call rfl rfl (hp l[k] (by simp))) ?_
    refine rn ?_
    refine aw_cond rfl (fun hc16 => ?_) (fun hc16 => ?_)
    · refine rn ?_
      exact retq (.cons _ _ _ _ (.tmp _ _ rfl) .nil) (.refl _ _) ⟨rfl, by rw [hnot, hd, fidx, if_pos hc16]; rfl⟩
    · refine rn ?_
      exact ⟨k + 1, ⟨by omega, by rw [hnot, hd, fidx, if_neg (by simp [hc16])]⟩, (ent_sub (.cons _ _ _ rfl (.cons _ _ _ rfl (.cons _ _ _ rfl (.cons _ _ _ rfl (.nil)))))), by omega⟩
  · have hk3 : k = l.length := by
      have : l.length ≤ k := by simpa using hc9
      omega
    refine rn ?_
    exact retq (.cons _ _ _ _ (.tmp _ _ rfl) .nil) (.refl _ _) ⟨rfl, by rw [hnot, hk3, List.drop_length, fidx]; rfl⟩
theorem containsFuncOrd {full : Bool} (l : List Ord) (fv : AV) (p : Ord → Bool) (G : List Res) (hp : ∀ a ∈ l, FCall Tryz.prog fv [.agg (ordR a)] G (fun r h' => h' = G ∧ r = bv (p a))) (hlen : l.length ≤ 4611686018427387904) : ACall Tryz.prog 214 [.list full 2 (l.map ordR), fv] G (fun r h' => h' = G ∧ r = bv (l.any p)) := by
  refine acall_of_aw Tryz.func214 rfl rfl rfl ?_
  refine rn ?_
  refine qv rfl rfl (qv_call rfl rfl (FCall.of_fun (indexFuncOrd l _ p G hp hlen))) ?_
  refine rn ?_
  exact retq (.cons _ _ _ _ (.tmp _ _ rfl) .nil) (.refl _ _) ⟨rfl, by simp only [← fidx_ge p l 0]; rfl⟩
theorem allNotOrd (a : Ord) (fv : AV) (v : Bool) (b : Nat) (G : List Res) (hp : FCall Tryz.prog fv [.agg (ordR a)] G (fun r h' => h' = G ∧ r = bv v)) : ACall Tryz.prog 215 [.agg (ordR a), .v (.pointer (some ⟨b, 0, none⟩))] (.box b 205 [fv] :: G) (fun r h' => h' = .box b 205 [fv] :: G ∧ r = bv (!v)) := by
  refine acall_of_aw Tryz.func215 rfl rfl rfl ?_
  refine rn ?_
  refine aops_e rfl (oe_box rfl rfl rfl fun b2 => ?_)
  refine rn ?_
  refine qv rfl rfl (qv_call rfl rfl (FCall.quiet (R := fun x => x = bv v) (h2 := [_, _]) (List.perm_append_comm (l₁ := [_, _])) hp)) ?_
  refine rn ?_
  exact retq (.cons _ _ _ _ (.tmp _ _ rfl) .nil) (.drop1 _ _ _) ⟨rfl, rfl⟩
theorem allOrd {full : Bool} (l : List Ord) (fv : AV) (p : Ord → Bool) (G : List Res) (hone : fv.cellsOf = some [fv]) (hp : ∀ a ∈ l, FCall Tryz.prog fv [.agg (ordR a)] G (fun r h' => h' = G ∧ r = bv (p a))) (hlen : l.length ≤ 4611686018427387904) : ACall Tryz.prog 180 [.list full 2 (l.map ordR), fv] G (fun r h' => h' = G ∧ r = bv (l.all p)) := by
  refine acall_of_aw Tryz.func180 rfl rfl rfl ?_
  refine rn ?_
  refine aops_e rfl (oe_box rfl hone rfl fun b3 => ?_)
  refine rn ?_
  refine qv rfl rfl (qv_call rfl rfl (FCall.of_fun (containsFuncOrd l _ (fun a => !p a) (.box b3 205 [fv] :: G) (fun a ha => FCall.of_acall (fs := []) (cs := [.v (.pointer (some ⟨b3, 0, none⟩))]) (allNotOrd a fv (p a) b3 G (hp a ha))) hlen))) ?_
  refine rn ?_
  exact retq (.cons _ _ _ _ (.tmp _ _ rfl) .nil) (.drop1 _ _ _) ⟨rfl, by simp only [← any_not p l]; rfl⟩
theorem indexFuncMat {full : Bool} (l : List Mat) (fv : AV) (p : Mat → Bool) (G : List Res) (hp : ∀ a ∈ l, FCall Tryz.prog fv [.agg (matR a)] G (fun r h' => h' = G ∧ r = bv (p a))) (hlen : l.length ≤ 4611686018427387904) : ACall Tryz.prog 235 [.list full 4 (l.map matR), fv] G (fun r h' => h' = G ∧ r = iv (fidx p 0 l)) := by
  refine acall_of_aw Tryz.func235 rfl rfl rfl ?_
  refine rn ?_
  refine aw_loop' (fun k : Nat => k ≤ l.length ∧ fidx p 0 l = fidx p k (l.drop k)) (fun k => ⟨[(8, iv k), (7, iv (l.map matR).length), (0, .list full 4 (l.map matR)), (1, fv)], G, []⟩) (fun k => l.length - k) 0 ⟨Nat.zero_le _, by simp⟩
    (ent_sub (.cons _ _ _ rfl (.cons _ _ _ rfl (.cons _ _ _ rfl (.cons _ _ _ rfl (.nil)))))) ?_
  rintro k ⟨hk, hnot⟩
  refine rn ?_
  refine aw_cond rfl (fun hc9 => ?_) (fun hc9 => ?_)
  · have hk2 : k < l.length := by simpa using hc9
    have hrow : (l.map matR)[k]? = some (matR l[k]) := by simp [hk2]
    have hd := List.drop_eq_getElem_cons hk2
    refine rn ?_
    refine qv rfl rfl (qv_call rfl rfl (hp l[k] (by simp))) ?_
    refine rn ?_
    refine aw_cond rfl (fun hc16 => ?_) (fun hc16 => ?_)
    · refine rn ?_
      exact retq (.cons _ _ _ _ (.tmp _ _ rfl) .nil) (.refl _ _) ⟨rfl, by rw [hnot, hd, fidx, if_pos hc16]; rfl⟩
    · refine rn ?_
      exact ⟨k + 1, ⟨by omega, by rw [hnot, hd, fidx, if_neg (by simp [hc16])]⟩, (ent_sub (.cons _ _ _ rfl (.cons _ _ _ rfl (.cons _ _ _ rfl (.cons _ _ _ rfl (.nil)))))), by omega⟩
  · have hk3 : k = l.length := by
      have : l.length ≤ k := by simpa using hc9
      omega
    refine rn ?_
    exact retq (.cons _ _ _ _ (.tmp _ _ rfl) .nil) (.refl _ _) ⟨rfl, by rw [hnot, hk3, List.drop_length, fidx]; rfl⟩
theorem containsFuncMat {full : Bool} (l : List Mat) (fv : AV) (p : Mat → Bool) (G : List Res) (hp : ∀ a ∈ l, FCall Tryz.prog fv [.agg (matR a)] G (fun r h' => h' = G ∧ r = bv (p a))) (hlen : l.length ≤ 4611686018427387904) : ACall Tryz.prog 216 [.list full 4 (l.map matR), fv] G (fun r h' => h' = G ∧ r = bv (l.any p)) := by
  refine acall_of_aw Tryz.func216 rfl rfl rfl ?_
  refine rn ?_
  refine qv rfl rfl (qv_call rfl rfl (FCall.of_fun (indexFuncMat l _ p G hp hlen))) ?_
  refine rn ?_
  exact retq (.cons _ _ _ _ (.tmp _ _ rfl) .nil) (.refl _ _) ⟨rfl, by simp only [← fidx_ge p l 0]; rfl⟩
theorem allNotMat (a : Mat) (fv : AV) (v : Bool) (b : Nat) (G : List Res) (hp : FCall Tryz.prog fv [.agg (matR a)] G (fun r h' => h' = G ∧ r = bv v)) : ACall Tryz.prog 217 [.agg (matR a), .v (.pointer (some ⟨b, 0, none⟩))] (.box b 240 [fv] :: G) (fun r h' => h' = .box b 240 [fv] :: G ∧ r = bv (!v)) := by
  refine acall_of_aw Tryz.func217 rfl rfl rfl ?_
  refine rn ?_
  refine aops_e rfl (oe_box rfl rfl rfl fun b2 => ?_)
  refine rn ?_
  refine qv rfl rfl (qv_call rfl rfl (FCall.quiet (R := fun x => x = bv v) (h2 := [_, _]) (List.perm_append_comm (l₁ := [_, _])) hp)) ?_
  refine rn ?_
  exact retq (.cons _ _ _ _ (.tmp _ _ rfl) .nil) (.drop1 _ _ _) ⟨rfl, rfl⟩
theorem allMat {full : Bool} (l : List Mat) (fv : AV) (p : Mat → Bool) (G : List Res) (hone : fv.cellsOf = some [fv]) (hp : ∀ a ∈ l, FCall Tryz.prog fv [.agg (matR a)] G (fun r h' => h' = G ∧ r = bv (p a))) (hlen : l.length ≤ 4611686018427387904) : ACall Tryz.prog 182 [.list full 4 (l.map matR), fv] G (fun r h' => h' = G ∧ r = bv (l.all p)) := by
  refine acall_of_aw Tryz.func182 rfl rfl rfl ?_
  refine rn ?_
  refine aops_e rfl (oe_box rfl hone rfl fun b3 => ?_)
  refine rn ?_
  refine qv rfl rfl (qv_call rfl rfl (FCall.of_fun (containsFuncMat l _ (fun a => !p a) (.box b3 240 [fv] :: G) (fun a ha => FCall.of_acall (fs := []) (cs := [.v (.pointer (some ⟨b3, 0, none⟩))]) (allNotMat a fv (p a) b3 G (hp a ha))) hlen))) ?_
  refine rn ?_
  exact retq (.cons _ _ _ _ (.tmp _ _ rfl) .nil) (.drop1 _ _ _) ⟨rfl, by simp only [← any_not p l]; rfl⟩
theorem indexFuncWan {full : Bool} (l : List Wan) (fv : AV) (p : Wan → Bool) (G : List Res) (hp : ∀ a ∈ l, FCall Tryz.prog fv [.agg (wanR a)] G (fun r h' => h' = G ∧ r = bv (p a))) (hlen : l.length ≤ 4611686018427387904) : ACall Tryz.prog 236 [.list full 2 (l.map wanR), fv] G (fun r h' => h' = G ∧ r = iv (fidx p 0 l)) := by
  refine acall_of_aw Tryz.func236 rfl rfl rfl ?_
  refine rn ?_
  refine aw_loop' (fun k : Nat => k ≤ l.length ∧ fidx p 0 l = fidx p k (l.drop k)) (fun k => ⟨[(8, iv k), (7, iv (l.map wanR).length), (0, .list full 2 (l.map wanR)), (1, fv)], G, []⟩) (fun k => l.length - k) 0 ⟨Nat.zero_le _, by simp⟩
    (ent_sub (.cons _ _ _ rfl (.cons _ _ _ rfl (.cons _ _ _ rfl (.cons _ _ _ rfl (.nil)))))) ?_
  rintro k ⟨hk, hnot⟩
  refine rn ?_
  refine aw_cond rfl (fun hc9 => ?_) (fun hc9 => ?_)
  · have hk2 : k < l.length := by simpa using hc9
    have hrow : (l.map wanR)[k]? = some (wanR l[k]) := by simp [hk2]
    have hd := List.drop_eq_getElem_cons hk2
    refine rn ?_
    refine qv rfl rfl (qv_call rfl rfl (hp l[k] (by simp))) ?_
    refine rn ?_
    refine aw_cond rfl (fun hc16 => ?_) (fun hc16 => ?_)
    · refine rn ?_
      exact retq (.cons _ _ _ _ (.tmp _ _ rfl) .nil) (.refl _ _) ⟨rfl, by rw [hnot, hd, fidx, if_pos hc16]; rfl⟩
    · refine rn ?_
      exact ⟨k + 1, ⟨by omega, by rw [hnot, hd, fidx, if_neg (by simp [hc16])]⟩, (ent_sub (.cons _ _ _ rfl (.cons _ _ _ rfl (.cons _ _ _ rfl (.cons _ _ _ rfl (.nil)))))), by omega⟩
  · have hk3 : k = l.length := by
      have : l.length ≤ k := by simpa using hc9
      omega
    refine rn ?_
    exact retq (.cons _ _ _ _ (.tmp _ _ rfl) .nil) (.refl _ _) ⟨rfl, by rw [hnot, hk3, List.drop_length, fidx]; rfl⟩
theorem containsFuncWan {full : Bool} (l : List Wan) (fv : AV) (p : Wan → Bool) (G : List Res) (hp : ∀ a ∈ l, FCall Tryz.prog fv [.agg (wanR a)] G (fun r h' => h' = G ∧ r = bv (p a))) (hlen : l.length ≤ 4611686018427387904) : ACall Tryz.prog 218 [.list full 2 (l.map wanR), fv] G (fun r h' => h' = G ∧ r = bv (l.any p)) := by
  refine acall_of_aw Tryz.func218 rfl rfl rfl ?_
  refine rn ?_
  refine qv rfl rfl (qv_call rfl rfl (FCall.of_fun (indexFuncWan l _ p G hp hlen))) ?_
  refine rn ?_
  exact retq (.cons _ _ _ _ (.tmp _ _ rfl) .nil) (.refl _ _) ⟨rfl, by simp only [← fidx_ge p l 0]; rfl⟩
theorem allNotWan (a : Wan) (fv : AV) (v : Bool) (b : Nat) (G : List Res) (hp : FCall Tryz.prog fv [.agg (wanR a)] G (fun r h' => h' = G ∧ r = bv v)) : ACall Tryz.prog 219 [.agg (wanR a), .v (.pointer (some ⟨b, 0, none⟩))] (.box b 242 [fv] :: G) (fun r h' => h' = .box b 242 [fv] :: G ∧ r = bv (!v)) := by
  refine acall_of_aw Tryz.func219 rfl rfl rfl ?_
  refine rn ?_
  refine aops_e rfl (oe_box rfl rfl rfl fun b2 => ?_)
  refine rn ?_
  refine qv rfl rfl (qv_call rfl rfl (FCall.quiet (R := fun x => x = bv v) (h2 := [_, _]) (List.perm_append_comm (l₁ := [_, _])) hp)) ?_
  refine rn ?_
  exact retq (.cons _ _ _ _ (.tmp _ _ rfl) .nil) (.drop1 _ _ _) ⟨rfl, rfl⟩
theorem allWan {full : Bool} (l : List Wan) (fv : AV) (p : Wan → Bool) (G : List Res) (hone : fv.cellsOf = some [fv]) (hp : ∀ a ∈ l, FCall Tryz.prog fv [.agg (wanR a)] G (fun r h' => h' = G ∧ r = bv (p a))) (hlen : l.length ≤ 4611686018427387904) : ACall Tryz.prog 184 [.list full 2 (l.map wanR), fv] G (fun r h' => h' = G ∧ r = bv (l.all p)) := by
  refine acall_of_aw Tryz.func184 rfl rfl rfl ?_
  refine rn ?_
  refine aops_e rfl (oe_box rfl hone rfl fun b3 => ?_)
  refine rn ?_
  refine qv rfl rfl (qv_call rfl rfl (FCall.of_fun (containsFuncWan l _ (fun a => !p a) (.box b3 242 [fv] :: G) (fun a ha => FCall.of_acall (fs := []) (cs := [.v (.pointer (some ⟨b3, 0, none⟩))]) (allNotWan a fv (p a) b3 G (hp a ha))) hlen))) ?_
  refine rn ?_
  exact retq (.cons _ _ _ _ (.tmp _ _ rfl) .nil) (.drop1 _ _ _) ⟨rfl, by simp only [← any_not p l]; rfl⟩
theorem indexFuncSeen {full : Bool} (l : List Seen) (fv : AV) (p : Seen → Bool) (G : List Res) (hp : ∀ a ∈ l, FCall Tryz.prog fv [.agg (seenR a)] G (fun r h' => h' = G ∧ r = bv (p a))) (hlen : l.length ≤ 4611686018427387904) : ACall Tryz.prog 242 [.list full 3 (l.map seenR), fv] G (fun r h' => h' = G ∧ r = iv (fidx p 0 l)) := by
  refine acall_of_aw Tryz.func242 rfl rfl rfl ?_
  refine rn ?_
  refine aw_loop' (fun k : Nat => k ≤ l.length ∧ fidx p 0 l = fidx p k (l.drop k)) (fun k => ⟨[(8, iv k), (7, iv (l.map seenR).length), (0, .list full 3 (l.map seenR)), (1, fv)], G, []⟩) (fun k => l.length - k) 0 ⟨Nat.zero_le _, by simp⟩
    (ent_sub (.cons _ _ _ rfl (.cons _ _ _ rfl (.cons _ _ _ rfl (.cons _ _ _ rfl (.nil)))))) ?_
  rintro k ⟨hk, hnot⟩
  refine rn ?_
  refine aw_cond rfl (fun hc9 => ?_) (fun hc9 => ?_)
  · have hk2 : k < l.length := by simpa using hc9
    have hrow : (l.map seenR)[k]? = some (seenR l[k]) := by simp [hk2]
    have hd := List.drop_eq_getElem_cons hk2
    refine rn ?_
    refine qv rfl rfl (qv_call rfl rfl (hp l[k] (by simp))) ?_
    refine rn ?_
    refine aw_cond rfl (fun hc16 => ?_) (fun hc16 => ?_)
    · refine rn ?_
      exact retq (.cons _ _ _ _ (.tmp _ _ rfl) .nil) (.refl _ _) ⟨rfl, by rw [hnot, hd, fidx, if_pos hc16]; rfl⟩
    · refine rn ?_
      exact ⟨k + 1, ⟨by omega, by rw [hnot, hd, fidx, if_neg (by simp [hc16])]⟩, (ent_sub (.cons _ _ _ rfl (.cons _ _ _ rfl (.cons _ _ _ rfl (.cons _ _ _ rfl (.nil)))))), by omega⟩
  · have hk3 : k = l.length := by
      have : l.length ≤ k := by simpa using hc9
      omega
    refine rn ?_
    exact retq (.cons _ _ _ _ (.tmp _ _ rfl) .nil) (.refl _ _) ⟨rfl, by rw [hnot, hk3, List.drop_length, fidx]; rfl⟩
theorem containsFuncSeen {full : Bool} (l : List Seen) (fv : AV) (p : Seen → Bool) (G : List Res) (hp : ∀ a ∈ l, FCall Tryz.prog fv [.agg (seenR a)] G (fun r h' => h' = G ∧ r = bv (p a))) (hlen : l.length ≤ 4611686018427387904) : ACall Tryz.prog 232 [.list full 3 (l.map seenR), fv] G (fun r h' => h' = G ∧ r = bv (l.any p)) := by
  refine acall_of_aw Tryz.func232 rfl rfl rfl ?_
  refine rn ?_
  refine qv rfl rfl (qv_call rfl rfl (FCall.of_fun (indexFuncSeen l _ p G hp hlen))) ?_
  refine rn ?_
  exact retq (.cons _ _ _ _ (.tmp _ _ rfl) .nil) (.refl _ _) ⟨rfl, by simp only [← fidx_ge p l 0]; rfl⟩
theorem allNotSeen (a : Seen) (fv : AV) (v : Bool) (b : Nat) (G : List Res) (hp : FCall Tryz.prog fv [.agg (seenR a)] G (fun r h' => h' = G ∧ r = bv v)) : ACall Tryz.prog 233 [.agg (seenR a), .v (.pointer (some ⟨b, 0, none⟩))] (.box b 169 [fv] :: G) (fun r h' => h' = .box b 169 [fv] :: G ∧ r = bv (!v)) := by
  refine acall_of_aw Tryz.func233 rfl rfl rfl ?_
  refine rn ?_
  refine aops_e rfl (oe_box rfl rfl rfl fun b2 => ?_)
  refine rn ?_
  refine qv rfl rfl (qv_call rfl rfl (FCall.quiet (R := fun x => x = bv v) (h2 := [_, _]) (List.perm_append_comm (l₁ := [_, _])) hp)) ?_
  refine rn ?_
  exact retq (.cons _ _ _ _ (.tmp _ _ rfl) .nil) (.drop1 _ _ _) ⟨rfl, rfl⟩
theorem allSeen {full : Bool} (l : List Seen) (fv : AV) (p : Seen → Bool) (G : List Res) (hone : fv.cellsOf = some [fv]) (hp : ∀ a ∈ l, FCall Tryz.prog fv [.agg (seenR a)] G (fun r h' => h' = G ∧ r = bv (p a))) (hlen : l.length ≤ 4611686018427387904) : ACall Tryz.prog 210 [.list full 3 (l.map seenR), fv] G (fun r h' => h' = G ∧ r = bv (l.all p)) := by
  refine acall_of_aw Tryz.func210 rfl rfl rfl ?_
  refine rn ?_
  refine aops_e rfl (oe_box rfl hone rfl fun b3 => ?_)
  refine rn ?_
  refine qv rfl rfl (qv_call rfl rfl (FCall.of_fun (containsFuncSeen l _ (fun a => !p a) (.box b3 169 [fv] :: G) (fun a ha => FCall.of_acall (fs := []) (cs := [.v (.pointer (some ⟨b3, 0, none⟩))]) (allNotSeen a fv (p a) b3 G (hp a ha))) hlen))) ?_
  refine rn ?_
  exact retq (.cons _ _ _ _ (.tmp _ _ rfl) .nil) (.drop1 _ _ _) ⟨rfl, by simp only [← any_not p l]; rfl⟩
end Go.Proofs
/- The walks of the rules' small functions. Conditions: none. -/
set_option linter.unusedVariables false
set_option linter.unusedSimpArgs false
set_option maxRecDepth 10000
namespace Go.Proofs
open Go Go.Ab
attribute [local irreducible] QR QV OE aops aw dsoup dsoupM dalloc dallocM thn inBlk jsoup jch lsoup
open Go.H
theorem rSeen (e : Ev) : ACall Tryz.prog 275 [.agg (evR e)] [] (fun r h' => h' = [] ∧ r = seensA (seenOf e)) := by
  refine acall_of_aw Tryz.func275 rfl rfl rfl ?_
  refine rn ?_
  refine aops_e rfl (oe_box rfl rfl rfl fun b1 => ?_)
  refine rn ?_
  refine aw_cond rfl (fun hc5 => ?_) (fun hc5 => ?_)
  · refine rn ?_
    refine qv rfl rfl (qv_buildSlice rfl rfl) ?_
    refine rn ?_
    exact retq (.cons _ _ _ _ (.tmp _ _ rfl) .nil) (.trans (.drop [_] _ _) (.le Sb.unfull.le)) ⟨rfl, by rw [seenOf, if_pos (by simpa using hc5)]; rfl⟩
  · refine rn ?_
    refine rq 1 ?_
    exact ⟨rfl, by rw [seenOf, if_neg (by simpa using hc5)]; rfl⟩
theorem rBegin1 (e : Ev) (bl bp : Nat) (h : Hist) (p : List Ev) (r1 r2 r3 r4 r5 : Nat) : ACall Tryz.prog 271 [.agg (evR e), .v (.pointer (some ⟨bp, 0, none⟩))] (lookS bl h p r1 r2 r3 r4 r5 [.box bp 251 [.v (.pointer (some ⟨bl, 0, none⟩))]]) (fun r h' => h' = (lookS bl h p r1 r2 r3 r4 r5 [.box bp 251 [.v (.pointer (some ⟨bl, 0, none⟩))]]) ∧ r = bv (wrongP 1 e p)) := by
  refine acall_of_aw Tryz.func271 rfl rfl rfl ?_
  refine rn ?_
  refine aops_e rfl (oe_box rfl rfl rfl fun b2 => ?_)
  refine rn ?_
  refine aw_draw 10 rfl ?_
  refine dq rfl rfl qrA ?_
  refine dq rfl rfl qrA ?_
  refine dq rfl rfl qrA ?_
  refine dq rfl rfl qrA ?_
  refine dq rfl rfl qrA ?_
  refine dq rfl rfl qrA ?_
  refine dq rfl rfl (qr_lookT (enc := intK) (k := e.t) false rfl rfl) ?_
  refine rn ?_
  refine rq 1 ?_
  exact ⟨rfl, congrArg bv (by rw [begM_get]; simp only [wrongP]; cases begunB p e.t <;> rfl)⟩
theorem rEnd1 (e : Ev) (bl bp : Nat) (h : Hist) (p : List Ev) (r1 r2 r3 r4 r5 : Nat) : ACall Tryz.prog 272 [.agg (evR e), .v (.pointer (some ⟨bp, 0, none⟩))] (lookS bl h p r1 r2 r3 r4 r5 [.box bp 251 [.v (.pointer (some ⟨bl, 0, none⟩))]]) (fun r h' => h' = (lookS bl h p r1 r2 r3 r4 r5 [.box bp 251 [.v (.pointer (some ⟨bl, 0, none⟩))]]) ∧ r = bv (wrongP 2 e p)) := by
  refine acall_of_aw Tryz.func272 rfl rfl rfl ?_
  refine rn ?_
  refine aops_e rfl (oe_box rfl rfl rfl fun b2 => ?_)
  refine rn ?_
  refine aw_draw 6 rfl ?_
  refine rn2 ?_
  refine qq rfl rfl (qr_lookT (enc := intK) (k := e.t) false rfl rfl) ?_
  refine rn ?_
  refine rq 1 ?_
  exact ⟨rfl, congrArg bv (by rw [ovrM_get]; simp only [wrongP]; cases overB p e.t <;> rfl)⟩
theorem rCount1 (e : Ev) (bl bp : Nat) (h : Hist) (p : List Ev) (r1 r2 r3 r4 r5 : Nat) (hl : p.length ≤ 1000000) : ACall Tryz.prog 273 [.agg (evR e), .v (.pointer (some ⟨bp, 0, none⟩))] (lookS bl h p r1 r2 r3 r4 r5 [.box bp 251 [.v (.pointer (some ⟨bl, 0, none⟩))]]) (fun r h' => h' = (lookS bl h p r1 r2 r3 r4 r5 [.box bp 251 [.v (.pointer (some ⟨bl, 0, none⟩))]]) ∧ r = bv (wrongP 3 e p)) := by
  refine acall_of_aw Tryz.func273 rfl rfl rfl ?_
  have hw := wroteL_le p e.t e.o
  refine rn ?_
  refine aops_e rfl (oe_box rfl rfl rfl fun b2 => ?_)
  refine rn ?_
  refine aw_draw 18 rfl ?_
  refine rn ?_
  refine dsplit (fun hg1_3 => ?_) (fun hg1_3 => ?_)
  · refine dq rfl rfl qrA ?_
    refine dq rfl rfl qrA ?_
    refine dq rfl rfl qrA ?_
    refine dq rfl rfl qrA ?_
    refine dq rfl rfl qrA ?_
    refine dq rfl rfl qrA ?_
    refine dq rfl rfl qrA ?_
    refine dq rfl rfl qrA ?_
    refine dq rfl rfl qrA ?_
    refine dq rfl rfl qrA ?_
    refine dq rfl rfl qrA ?_
    refine dq rfl rfl (qr_build (out := [iv e.t, iv e.o]) rfl (by rfl)) ?_
    refine dq rfl rfl (qr_lookT (enc := int2K) (k := (e.t, e.o)) 0 rfl rfl) ?_
    refine dq rfl rfl (qr_ari rfl rfl rfl (by rw [wroM_get]; omega)) ?_
    refine rn ?_
    refine rq 1 ?_
    exact ⟨rfl, congrArg bv (by simp only [wrongP]; rw [← wroM_get]; simp_all [bne])⟩
  · refine rn ?_
    refine rq 1 ?_
    exact ⟨rfl, congrArg bv (by simp only [wrongP]; rw [← wroM_get]; simp_all [bne])⟩
theorem rWritten11 (s : Seen) (bl bp : Nat) (h : Hist) (p : List Ev) (r1 r2 r3 r4 r5 : Nat) : ACall Tryz.prog 276 [.agg (seenR s), .v (.pointer (some ⟨bp, 0, none⟩))] (lookS bl h p r1 r2 r3 r4 r5 [.box bp 251 [.v (.pointer (some ⟨bl, 0, none⟩))]]) (fun r h' => h' = (lookS bl h p r1 r2 r3 r4 r5 [.box bp 251 [.v (.pointer (some ⟨bl, 0, none⟩))]]) ∧ r = bv (decide (s.v.k > 0) && !thereB p s.o s.v)) := by
  refine acall_of_aw Tryz.func276 rfl rfl rfl ?_
  refine rn ?_
  refine aops_e rfl (oe_box rfl rfl rfl fun b2 => ?_)
  refine rn ?_
  refine aw_draw 14 rfl ?_
  refine rn ?_
  refine dsplit (fun hg1_4 => ?_) (fun hg1_4 => ?_)
  · refine dq rfl rfl qrA ?_
    refine dq rfl rfl qrA ?_
    refine dq rfl rfl qrA ?_
    refine dq rfl rfl qrA ?_
    refine dq rfl rfl qrA ?_
    refine dq rfl rfl qrA ?_
    refine dq rfl rfl qrA ?_
    refine dq rfl rfl qrA ?_
    refine dq rfl rfl (qr_build (out := [iv s.o, iv s.v.t, iv s.v.k]) rfl (by rfl)) ?_
    refine rn2 ?_
    refine qq rfl rfl (qr_lookT (enc := int3K) (k := (s.o, s.v.t, s.v.k)) false rfl rfl) ?_
    refine rn ?_
    refine rq 1 ?_
    exact ⟨rfl, congrArg bv (by first | (rw [thrM_get]; cases thereB p s.o s.v <;> simp_all; done) | (simp_all; done) | (simp_all <;> (intros; omega)))⟩
  · refine rn ?_
    refine rq 1 ?_
    exact ⟨rfl, congrArg bv (by first | (rw [thrM_get]; cases thereB p s.o s.v <;> simp_all; done) | (simp_all; done) | (simp_all <;> (intros; omega)))⟩
theorem rWritten1 (e : Ev) (bl bp : Nat) (h : Hist) (p : List Ev) (r1 r2 r3 r4 r5 : Nat) (hl : e.scan.length ≤ 4611686018427387904) : ACall Tryz.prog 274 [.agg (evR e), .v (.pointer (some ⟨bp, 0, none⟩))] (lookS bl h p r1 r2 r3 r4 r5 [.box bp 251 [.v (.pointer (some ⟨bl, 0, none⟩))]]) (fun r h' => h' = (lookS bl h p r1 r2 r3 r4 r5 [.box bp 251 [.v (.pointer (some ⟨bl, 0, none⟩))]]) ∧ r = bv (wrongP 4 e p)) := by
  refine acall_of_aw Tryz.func274 rfl rfl rfl ?_
  refine rn ?_
  refine aops_e rfl (oe_box rfl rfl rfl fun b2 => ?_)
  refine rn ?_
  refine qv rfl rfl (qv_call rfl rfl (pcall (rSeen _) (Sbs.refl _))) ?_
  refine rn ?_
  refine qv rfl rfl (qv_call rfl rfl (FCall.quiet (R := fun r => r = bv _) (h2 := [_]) (List.perm_append_comm (l₁ := [_])) (FCall.of_fun (containsFuncSeen (seenOf e) _ _ (lookS bl h p r1 r2 r3 r4 r5 [.box bp 251 [.v (.pointer (some ⟨bl, 0, none⟩))]]) (fun s _ => FCall.of_acall (fs := []) (cs := [.v (.pointer (some ⟨bp, 0, none⟩))]) (rWritten11 s bl bp h p r1 r2 r3 r4 r5)) (seenOf_len hl))))) ?_
  refine rn ?_
  refine rq 1 ?_
  exact ⟨rfl, rfl⟩
theorem rOwn11 (s : Seen) (e : Ev) (be : Nat) (bl bp : Nat) (h : Hist) (p : List Ev) (r1 r2 r3 r4 r5 : Nat) : ACall Tryz.prog 278 [.agg (seenR s), .v (.pointer (some ⟨bp, 0, none⟩)), .v (.pointer (some ⟨be, 0, none⟩))] (.box be 56 (evR e) :: (lookS bl h p r1 r2 r3 r4 r5 [.box bp 251 [.v (.pointer (some ⟨bl, 0, none⟩))]])) (fun r h' => h' = (.box be 56 (evR e) :: (lookS bl h p r1 r2 r3 r4 r5 [.box bp 251 [.v (.pointer (some ⟨bl, 0, none⟩))]])) ∧ r = bv (match lastV p e.t s.o with | some v => v != s.v | none => false)) := by
  refine acall_of_aw Tryz.func278 rfl rfl rfl ?_
  refine rn ?_
  refine aops_e rfl (oe_box rfl rfl rfl fun b3 => ?_)
  refine rn0 ?_
  refine aw_seq ?_
  refine aw_drawX 15 [13, 14] [] (fun he => he = .box b3 59 (seenR s) :: (.box be 56 (evR e) :: (lookS bl h p r1 r2 r3 r4 r5 [.box bp 251 [.v (.pointer (some ⟨bl, 0, none⟩))]])) ∨ ∃ b c, he = .box b 38 c :: .box b3 59 (seenR s) :: (.box be 56 (evR e) :: (lookS bl h p r1 r2 r3 r4 r5 [.box bp 251 [.v (.pointer (some ⟨bl, 0, none⟩))]]))) rfl rfl (.inl rfl) ?_
  refine jq rfl (fun he hC => by rcases hC with rfl | ⟨b, c, rfl⟩ <;> exact qrA) ?_
  refine jq rfl (fun he hC => by rcases hC with rfl | ⟨b, c, rfl⟩ <;> exact qrA) ?_
  refine jq rfl (fun he hC => by rcases hC with rfl | ⟨b, c, rfl⟩ <;> exact qrA) ?_
  refine jq rfl (fun he hC => by rcases hC with rfl | ⟨b, c, rfl⟩ <;> exact qrA) ?_
  refine jq rfl (fun he hC => by rcases hC with rfl | ⟨b, c, rfl⟩ <;> exact qrA) ?_
  refine jq rfl (fun he hC => by rcases hC with rfl | ⟨b, c, rfl⟩ <;> exact qrA) ?_
  refine jq rfl (fun he hC => by rcases hC with rfl | ⟨b, c, rfl⟩ <;> exact qrA) ?_
  refine jq rfl (fun he hC => by rcases hC with rfl | ⟨b, c, rfl⟩ <;> exact qrA) ?_
  refine jq rfl (fun he hC => by rcases hC with rfl | ⟨b, c, rfl⟩ <;> exact (by exact qr_build (out := [iv e.t, iv s.o]) rfl (by rfl))) ?_
  refine jq rfl (fun he hC => by rcases hC with rfl | ⟨b, c, rfl⟩ <;> exact (by exact qr_lookT2 (enc := int2K) (k := (e.t, s.o)) (⟨0, 0⟩ : Ver) rfl rfl rfl)) ?_
  refine jq rfl (fun he hC => by rcases hC with rfl | ⟨b, c, rfl⟩ <;> exact qrA) ?_
  refine jq rfl (fun he hC => by rcases hC with rfl | ⟨b, c, rfl⟩ <;> exact qrA) ?_
  refine jq rfl (fun he hC => by rcases hC with rfl | ⟨b, c, rfl⟩ <;> exact qrA) ?_
  refine je rfl ?_
  refine je rfl ?_
  refine jnil ?_
  refine jce rfl fun u => ?_
  refine oe_alloc rfl fun b5 => ⟨_, _, rfl, .inr ⟨_, _, rfl⟩, ?_⟩
  refine jce rfl fun u => ?_
  refine oe_store_all rfl rfl rfl ⟨.any, _, rfl, .inr ⟨_, _, rfl⟩, ?_⟩
  refine jcn ?_
  refine ln ?_
  refine rn ?_
  refine asplit (fun hg2_1 => ?_) (fun hg2_1 => ?_)
  · refine rn ?_
    refine rq 2 ?_
    exact ⟨rfl, congrArg bv (by rw [lasM_get] at hg2_1; (try rw [lasM_get]); cases hv : lastV p e.t s.o <;> simp_all [verR, bne, ver_beq])⟩
  · refine rn ?_
    refine rq 2 ?_
    exact ⟨rfl, congrArg bv (by rw [lasM_get] at hg2_1; (try rw [lasM_get]); cases hv : lastV p e.t s.o <;> simp_all [verR, bne, ver_beq])⟩
theorem rOwn1 (e : Ev) (bl bp : Nat) (h : Hist) (p : List Ev) (r1 r2 r3 r4 r5 : Nat) (hl : e.scan.length ≤ 4611686018427387904) : ACall Tryz.prog 277 [.agg (evR e), .v (.pointer (some ⟨bp, 0, none⟩))] (lookS bl h p r1 r2 r3 r4 r5 [.box bp 251 [.v (.pointer (some ⟨bl, 0, none⟩))]]) (fun r h' => h' = (lookS bl h p r1 r2 r3 r4 r5 [.box bp 251 [.v (.pointer (some ⟨bl, 0, none⟩))]]) ∧ r = bv (wrongP 5 e p)) := by
  refine acall_of_aw Tryz.func277 rfl rfl rfl ?_
  refine rn ?_
  refine aops_e rfl (oe_box rfl rfl rfl fun b2 => ?_)
  refine rn ?_
  refine qv rfl rfl (qv_call rfl rfl (pcall (rSeen _) (Sbs.refl _))) ?_
  refine rn ?_
  refine qv rfl rfl (qv_call rfl rfl (FCall.of_fun (containsFuncSeen (seenOf e) _ _ (.box b2 56 (evR e) :: (lookS bl h p r1 r2 r3 r4 r5 [.box bp 251 [.v (.pointer (some ⟨bl, 0, none⟩))]])) (fun s _ => FCall.of_acall (fs := []) (cs := [.v (.pointer (some ⟨bp, 0, none⟩)), .v (.pointer (some ⟨b2, 0, none⟩))]) (rOwn11 s e b2 bl bp h p r1 r2 r3 r4 r5)) (seenOf_len hl)))) ?_
  refine rn ?_
  refine rq 1 ?_
  exact ⟨rfl, rfl⟩
theorem rScan1 (e : Ev) (hl : e.scan.length ≤ 4611686018427387904) : ACall Tryz.prog 279 [.agg (evR e)] [] (fun r h' => h' = [] ∧ r = bv (wrongP 6 e [])) := by
  refine acall_of_aw Tryz.func279 rfl rfl rfl ?_
  refine rn ?_
  refine aops_e rfl (oe_box rfl rfl rfl fun b1 => ?_)
  refine rn ?_
  refine aw_scope ?_
  refine rn ?_
  refine aops_e rfl (oe_makeMap (enc := intK) rfl fun b6 => ?_)
  refine rn ?_
  refine aw_range e.scan.length (fun k => ((e.scan.take k).map Seen.o).Nodup) (fun k => ⟨[(10, iv k), (1, .v (.pointer (some ⟨b1, 0, none⟩))), (3, .v (.map (some b6))), (8, seensA e.scan), (9, iv (e.scan.map seenR).length)], [.map b6 (encM intK (mapA bv (metT (e.scan.take k)))), .box b1 56 (evR e)], []⟩) (by simp) es ?_
  intro k lk nk
  refine rn ?_
  refine aw_cond rfl (fun hc11 => ?_) (fun hc11 => ?_)
  · have hk := ltMap hc11
    have rk := atRow (f := seenR) hk
    refine rn ?_
    refine aops_e rfl (oe_alloc rfl fun b5 => ?_)
    first | refine aops_e rfl (oe_store_all rfl rfl rfl ?_) | refine aops_e rfl (oe_store rfl rfl rfl rfl (Nat.le_of_ble_eq_true rfl) ?_)
    refine aops_nil (thn_n ?_)
    refine aw_seq ?_
    refine aw_seq (aw_region ?_)
    refine q1 ?_
    refine q1 ?_
    refine q1 ?_
    refine qq rfl rfl (qr_lookT (enc := intK) (k := e.scan[k].o) false rfl rfl) ?_
    refine rn ?_
    refine aw_cond rfl (fun hc17 => ?_) (fun hc17 => ?_)
    · refine aw_exit ?_
      refine thn_e ?_
      refine inBlk_miss rfl ?_
      refine thn_e ?_
      refine thn_e ?_
      refine inBlk_hit ?_
      refine thn_n ?_
      refine aw_seq (aw_region ?_)
      refine q1 ?_
      refine qq rfl rfl (qr_len_map (enc := intK) rfl) ?_
      refine rn ?_
      refine ⟨fun l h => (by cases h), ?_⟩
      first | (refine rq 3 ?_; exact ⟨rfl, congrArg bv (scan_w hk nk (by simpa using hc17))⟩) | (refine rq 2 ?_; exact ⟨rfl, congrArg bv (scan_e nk)⟩)
    · have hx := met_no (by simpa using hc17)
      refine rn ?_
      refine aops_e rfl (oe_mapUpdT (g := bv) (enc := intK) (k := e.scan[k].o) (v := true) rfl rfl rfl ?_)
      refine rn ?_
      exact ⟨hk, met_next hk nk hx, by rw [met_put hk]; exact eA⟩
  · have qk := geMap hc11 lk
    subst qk
    refine aw_exit ?_
    refine thn_e ?_
    refine thn_e ?_
    refine inBlk_hit ?_
    refine thn_n ?_
    refine aw_seq (aw_region ?_)
    refine q1 ?_
    refine qq rfl rfl (qr_len_map (enc := intK) rfl) ?_
    refine rn ?_
    refine ⟨fun l h => (by cases h), ?_⟩
    first | (refine rq 3 ?_; exact ⟨rfl, congrArg bv (scan_w hk nk (by simpa using hc17))⟩) | (refine rq 2 ?_; exact ⟨rfl, congrArg bv (scan_e nk)⟩)
end Go.Proofs
/- Five maps made in any order, and put one after another into a variable. Conditions: as each lemma states. -/
set_option linter.unusedVariables false
namespace Go.Ab
open Go
def isM (i : Nat) : Bool := Nat.blt i 10
def mkE (L : List Nat) (ρ : Nat → Nat) : Fr := (L.filter isM).map fun i => (i + 6, .v (.map (some (ρ i))))
def mkH (L : List Nat) (ρ : Nat → Nat) : List Res := (L.filter isM).map fun i => .map (ρ i) []
def cel (L : List Nat) (ρ : Nat → Nat) (s m : Nat) : AV := if s ∈ L then .v (.map (some (ρ m))) else .v (.map none)
def cels (L : List Nat) (ρ : Nat → Nat) : List AV := [cel L ρ 12 5, cel L ρ 15 6, cel L ρ 18 7, cel L ρ 21 8, .v (.map none)]
def eff5 : List Nat := [5, 6, 7, 8, 9, 12, 15, 18, 21]
def J5 (bl : Nat) (T : TypeId) (c0 : List AV) (R : List Res) (L : List Nat) (ee : Fr) (he : List Res) : Prop :=
  L.Nodup ∧ (∀ i ∈ L, i ∈ eff5) ∧ ((12 ∈ L → 5 ∈ L) ∧ (15 ∈ L → 6 ∈ L) ∧ (18 ∈ L → 7 ∈ L) ∧ (21 ∈ L → 8 ∈ L)) ∧ ∃ ρ, ee = mkE L ρ ∧ he = mkH L ρ ++ .box bl T (c0 ++ cels L ρ) :: R
theorem J5.start {bl : Nat} {T : TypeId} {c0 : List AV} {R : List Res} : J5 bl T c0 R [] [] (.box bl T (c0 ++ [.v (.map none), .v (.map none), .v (.map none), .v (.map none), .v (.map none)]) :: R) :=
  ⟨.nil, fun i h => by simp at h, ⟨fun h => by simp at h, fun h => by simp at h, fun h => by simp at h, fun h => by simp at h⟩, fun _ => 0, rfl, by simp [mkH, cels, cel]⟩
theorem mk_congr {L : List Nat} {ρ ρ' : Nat → Nat} (h : ∀ i ∈ L, ρ i = ρ' i) : mkE L ρ = mkE L ρ' ∧ mkH L ρ = mkH L ρ' :=
  ⟨List.map_congr_left fun i hi => by rw [h i (List.mem_filter.1 hi).1], List.map_congr_left fun i hi => by rw [h i (List.mem_filter.1 hi).1]⟩
theorem J5.make {bl : Nat} {T : TypeId} {c0 : List AV} {R : List Res} {L : List Nat} {ee : Fr} {he : List Res} {i : Nat} (h : J5 bl T c0 R L ee he) (hi : i ∉ L) (hm : isM i = true) (hie : i ∈ eff5) (r : Nat) : J5 bl T c0 R (i :: L) ((i + 6, .v (.map (some r))) :: ee) (.map r [] :: he) := by
  obtain ⟨h1, h2, ⟨p1, p2, p3, p4⟩, ρ, rfl, rfl⟩ := h
  have hlt : i < 10 := Nat.le_of_ble_eq_true hm
  have hne : ∀ j ∈ L, ρ j = (fun j => if j = i then r else ρ j) j := fun j hj => by
    have : j ≠ i := fun e => hi (e ▸ hj)
    simp [this]
  obtain ⟨e1, e2⟩ := mk_congr hne
  refine ⟨List.nodup_cons.2 ⟨hi, h1⟩, fun j hj => (List.mem_cons.1 hj).elim (fun e => e ▸ hie) (h2 j), ⟨?_, ?_, ?_, ?_⟩, fun j => if j = i then r else ρ j, ?_, ?_⟩
  iterate 4 (· intro hx; rcases List.mem_cons.1 hx with e | hx; omega; first | exact List.mem_cons_of_mem _ (p1 hx) | exact List.mem_cons_of_mem _ (p2 hx) | exact List.mem_cons_of_mem _ (p3 hx) | exact List.mem_cons_of_mem _ (p4 hx))
  · rw [e1]; simp [mkE, List.filter_cons, hm]
  · have hc : ∀ s m, 10 ≤ s → (s ∈ L → m ∈ L) → cel L ρ s m = cel (i :: L) (fun j => if j = i then r else ρ j) s m := fun s m hs hsm => by
      unfold cel
      by_cases hx : s ∈ L
      · rw [if_pos hx, if_pos (List.mem_cons_of_mem _ hx), ← hne m (hsm hx)]
      · rw [if_neg hx, if_neg (fun q => (List.mem_cons.1 q).elim (by omega) hx)]
    rw [e2]
    have : cels L ρ = cels (i :: L) (fun j => if j = i then r else ρ j) := by
      unfold cels
      rw [hc 12 5 (by omega) p1, hc 15 6 (by omega) p2, hc 18 7 (by omega) p3, hc 21 8 (by omega) p4]
    rw [this]; simp [mkH, List.filter_cons, hm]
theorem mkE_get {ρ : Nat → Nat} {m : Nat} (hm : isM m = true) : ∀ {L : List Nat}, m ∈ L → lk (mkE L ρ) (m + 6) = some (.v (.map (some (ρ m))))
  | [], h => by simp at h
  | j :: L, h => by
    unfold mkE
    rw [List.filter_cons]
    by_cases hj : isM j = true
    · rw [if_pos hj, List.map_cons, lk]
      by_cases e : j = m
      · subst e; simp
      · have : Nat.beq (j + 6) (m + 6) = false := by
          cases hb : Nat.beq (j + 6) (m + 6) with
          | false => rfl
          | true => have := Nat.eq_of_beq_eq_true hb; omega
        rw [this]
        exact mkE_get hm ((List.mem_cons.1 h).resolve_left (fun q => e q.symm))
    · rw [if_neg hj]
      refine mkE_get hm ((List.mem_cons.1 h).resolve_left (fun q => hj (q ▸ hm)))
theorem mkE_none {ρ : Nat → Nat} {d : Nat} (hd : d < 6) : ∀ {L : List Nat}, lk (mkE L ρ) d = none
  | [] => rfl
  | j :: L => by
    unfold mkE
    rw [List.filter_cons]
    split
    · rw [List.map_cons, lk]
      have : Nat.beq (j + 6) d = false := by
        cases hb : Nat.beq (j + 6) d with
        | false => rfl
        | true => have := Nat.eq_of_beq_eq_true hb; omega
      rw [this]; exact mkE_none hd
    · exact mkE_none hd
theorem lk_et {E ee t : Fr} {d : Nat} {a : AV} (h1 : lk E d = none) (h2 : lk ee d = none) (h3 : lk t d = some a) : lk ((E ++ ee) ++ t) d = some a := by
  rw [lk_append, lk_append, h1]; simp only; rw [h2]; exact h3
theorem lk_em {E ee t : Fr} {d : Nat} {a : AV} (h1 : lk E d = none) (h2 : lk ee d = some a) : lk ((E ++ ee) ++ t) d = some a := by
  rw [lk_append, lk_append, h1]; simp only; rw [h2]
theorem lk_ee {A ee B : Fr} {ds : List Tmp} {d : Nat} {a : AV} (h1 : lk A d = none) (h2 : ds.any (Nat.beq d) = true) (h3 : lk ee d = some a) : lk (A ++ (fltP ds ee ++ B)) d = some a := by
  rw [lk_append, h1]
  simp only
  rw [lk_append, fltP, lk_flt (q := fun d => ds.any (Nat.beq d)) h2, h3]
section
variable {bl : Nat} {T : TypeId} {c0 : List AV} {R : List Res} {L : List Nat} {ρ : Nat → Nat}
theorem box5 : HasBox (mkH L ρ ++ .box bl T (c0 ++ cels L ρ) :: R) bl (mkH L ρ).length T (c0 ++ cels L ρ) := ⟨by simp⟩
theorem set5 (x : Res) : SetAt (mkH L ρ ++ .box bl T (c0 ++ cels L ρ) :: R) (mkH L ρ).length x (mkH L ρ ++ x :: R) := ⟨by simp⟩
theorem J5.put {s m : Nat} {cs' : List AV} (h : J5 bl T c0 R L (mkE L ρ) (mkH L ρ ++ .box bl T (c0 ++ cels L ρ) :: R)) (hs : s ∉ L) (hse : s ∈ eff5) (hsm : isM s = false) (hmL : (s, m) ∈ [(12, 5), (15, 6), (18, 7), (21, 8)]) (hm : m ∈ L)
    (hc : cs' = c0 ++ (cels L ρ).set ((m - 5)) (.v (.map (some (ρ m))))) : J5 bl T c0 R (s :: L) (mkE L ρ) (mkH L ρ ++ .box bl T cs' :: R) := by
  obtain ⟨h1, h2, ⟨p1, p2, p3, p4⟩, _⟩ := h
  refine ⟨List.nodup_cons.2 ⟨hs, h1⟩, fun j hj => (List.mem_cons.1 hj).elim (fun e => e ▸ hse) (h2 j), ⟨fun q => ?_, fun q => ?_, fun q => ?_, fun q => ?_⟩, ρ, ?_, ?_⟩
  iterate 4 (· rcases List.mem_cons.1 q with e | q; (subst e; simp at hmL; subst hmL; exact List.mem_cons_of_mem _ hm); first | exact List.mem_cons_of_mem _ (p1 q) | exact List.mem_cons_of_mem _ (p2 q) | exact List.mem_cons_of_mem _ (p3 q) | exact List.mem_cons_of_mem _ (p4 q))
  · simp [mkE, List.filter_cons, hsm]
  · have e1 : mkH (s :: L) ρ = mkH L ρ := by simp [mkH, List.filter_cons, hsm]
    rw [e1, hc]
    have : (cels L ρ).set (m - 5) (.v (.map (some (ρ m)))) = cels (s :: L) ρ := by
      simp only [List.mem_cons, Prod.mk.injEq, List.not_mem_nil, or_false] at hmL
      rcases hmL with ⟨rfl, rfl⟩ | ⟨rfl, rfl⟩ | ⟨rfl, rfl⟩ | ⟨rfl, rfl⟩ <;> simp [cels, cel]
    rw [this]
theorem J5.last (h : J5 bl T c0 R L (mkE L ρ) (mkH L ρ ++ .box bl T (c0 ++ cels L ρ) :: R)) (ha : ∀ i, i ∈ eff5 → i ∈ L) :
    (mkH L ρ ++ .box bl T (c0 ++ cels L ρ) :: R).Perm (.box bl T (c0 ++ [.v (.map (some (ρ 5))), .v (.map (some (ρ 6))), .v (.map (some (ρ 7))), .v (.map (some (ρ 8))), .v (.map none)]) :: .map (ρ 5) [] :: .map (ρ 6) [] :: .map (ρ 7) [] :: .map (ρ 8) [] :: .map (ρ 9) [] :: R) := by
  have hp : (L.filter isM).Perm [5, 6, 7, 8, 9] := by
    rw [List.perm_ext_iff_of_nodup (h.1.filter _) (by decide)]
    intro a
    rw [List.mem_filter]
    constructor
    · rintro ⟨q1, q2⟩
      have := h.2.1 a q1
      have q3 : a < 10 := Nat.le_of_ble_eq_true q2
      simp [eff5] at this ⊢; omega
    · intro q
      have : a ∈ eff5 := by simp [eff5] at q ⊢; omega
      refine ⟨ha a this, ?_⟩
      simp at q; rcases q with rfl | rfl | rfl | rfl | rfl <;> rfl
  have hcs : cels L ρ = [.v (.map (some (ρ 5))), .v (.map (some (ρ 6))), .v (.map (some (ρ 7))), .v (.map (some (ρ 8))), .v (.map none)] := by
    simp [cels, cel, ha 12 (by simp [eff5]), ha 15 (by simp [eff5]), ha 18 (by simp [eff5]), ha 21 (by simp [eff5])]
  rw [hcs]
  have := hp.map (fun i => Res.map (ρ i) [])
  exact (this.append_right _).trans (List.perm_middle (l₁ := [Res.map (ρ 5) [], Res.map (ρ 6) [], Res.map (ρ 7) [], Res.map (ρ 8) [], Res.map (ρ 9) []]))
end
end Go.Ab
/- The walk of the events gone through. Conditions: none. -/
set_option linter.unusedVariables false
set_option linter.unusedSimpArgs false
set_option maxRecDepth 10000
namespace Go.Proofs
open Go Go.Ab
attribute [local irreducible] QR QV OE aops aw dsoup dsoupM dalloc dallocM thn inBlk jsoup jch lsoup
open Go.H
set_option maxHeartbeats 4000000 in
theorem rEvents1 (h : Hist) (la : h.evs.length ≤ 1000000) (y : AV) (bl b1 : Nat) (w : Nat → Ev → Bool) (I F : Nat → List Res) (hy : ∀ k (hk : k < h.evs.length) r1 r2 r3 r4 r5, FCall Tryz.prog y [iv k, .agg (evR h.evs[k])] (lookS bl h (h.evs.take k) r1 r2 r3 r4 r5 (.box b1 251 [.v (.pointer (some ⟨bl, 0, none⟩))] :: I k)) (fun r h' => r = bv (!w k h.evs[k]) ∧ h' = lookS bl h (h.evs.take k) r1 r2 r3 r4 r5 (.box b1 251 [.v (.pointer (some ⟨bl, 0, none⟩))] :: bif w k h.evs[k] then F k else I (k + 1)))) : ACall Tryz.prog 297 [y, .v (.pointer (some ⟨b1, 0, none⟩))] (.box bl 256 (lookN h) :: .box b1 251 [.v (.pointer (some ⟨bl, 0, none⟩))] :: I 0) (fun r h' => h' = match rowF w 0 h.evs with | some k => F k | none => I h.evs.length) := by
  refine acall_of_aw Tryz.func297 rfl rfl rfl ?_
  refine aw_seq ?_
  refine aw_drawJ 22 eff5 [] (fun he => HasB he b1 251 [.v (.pointer (some ⟨bl, 0, none⟩))]) rfl ?_
  refine jq rfl (fun he hC => by haveI := hC; exact qrA) ?_
  refine jq rfl (fun he hC => by haveI := hC; exact qrA) ?_
  refine jq rfl (fun he hC => by haveI := hC; exact qrA) ?_
  refine jq rfl (fun he hC => by haveI := hC; exact qrA) ?_
  refine jq rfl (fun he hC => by haveI := hC; exact qrA) ?_
  refine je rfl ?_
  refine je rfl ?_
  refine je rfl ?_
  refine je rfl ?_
  refine je rfl ?_
  refine jq rfl (fun he hC => by haveI := hC; exact qrA) ?_
  refine jq rfl (fun he hC => by haveI := hC; exact qrA) ?_
  refine je rfl ?_
  refine jq rfl (fun he hC => by haveI := hC; exact qrA) ?_
  refine jq rfl (fun he hC => by haveI := hC; exact qrA) ?_
  refine je rfl ?_
  refine jq rfl (fun he hC => by haveI := hC; exact qrA) ?_
  refine jq rfl (fun he hC => by haveI := hC; exact qrA) ?_
  refine je rfl ?_
  refine jq rfl (fun he hC => by haveI := hC; exact qrA) ?_
  refine jq rfl (fun he hC => by haveI := hC; exact qrA) ?_
  refine je rfl ?_
  refine jnil ?_
  refine ⟨J5 bl 256 (histC h) (.box b1 251 [.v (.pointer (some ⟨bl, 0, none⟩))] :: I 0), .start, fun L ee he hJ => ?_, fun L ee he hJ i o hie hiL ho hpre u => ?_, fun L ee he hJ hall => ?_⟩
  · obtain ⟨_, _, _, ρ, _, rfl⟩ := hJ
    exact ⟨.inl (by simp)⟩
  · simp only [eff5, List.mem_cons, List.not_mem_nil, or_false] at hie
    rcases hie with rfl | rfl | rfl | rfl | rfl | rfl | rfl | rfl | rfl
    · obtain rfl := Option.some.inj ho
      exact oe_makeMap (enc := intK) rfl fun r => ⟨_, _, rfl, hJ.make hiL rfl (by decide) r⟩
    · obtain rfl := Option.some.inj ho
      exact oe_makeMap (enc := intK) rfl fun r => ⟨_, _, rfl, hJ.make hiL rfl (by decide) r⟩
    · obtain rfl := Option.some.inj ho
      exact oe_makeMap (enc := intK) rfl fun r => ⟨_, _, rfl, hJ.make hiL rfl (by decide) r⟩
    · obtain rfl := Option.some.inj ho
      exact oe_makeMap (enc := intK) rfl fun r => ⟨_, _, rfl, hJ.make hiL rfl (by decide) r⟩
    · obtain rfl := Option.some.inj ho
      exact oe_makeMap (enc := intK) rfl fun r => ⟨_, _, rfl, hJ.make hiL rfl (by decide) r⟩
    · obtain rfl := Option.some.inj ho
      have hJ2 := hJ
      obtain ⟨_, _, _, ρ, rfl, rfl⟩ := hJ2
      have hm : 5 ∈ L := hpre 5 (mem?_iff.1 rfl) (by decide)
      haveI := box5 (bl := bl) (T := 256) (c0 := histC h) (R := (.box b1 251 [.v (.pointer (some ⟨bl, 0, none⟩))] :: I 0)) (L := L) (ρ := ρ)
      haveI := fun x => set5 (bl := bl) (T := 256) (c0 := histC h) (R := (.box b1 251 [.v (.pointer (some ⟨bl, 0, none⟩))] :: I 0)) (L := L) (ρ := ρ) x
      exact oe_store (b := bl) (off := 8) (n := 1) rfl (lk_ee rfl rfl (mkE_get rfl hm)) rfl rfl (Nat.le_of_ble_eq_true rfl) ⟨.any, _, rfl, hJ.put hiL (by decide) rfl (by decide) hm rfl⟩
    · obtain rfl := Option.some.inj ho
      have hJ2 := hJ
      obtain ⟨_, _, _, ρ, rfl, rfl⟩ := hJ2
      have hm : 6 ∈ L := hpre 6 (mem?_iff.1 rfl) (by decide)
      haveI := box5 (bl := bl) (T := 256) (c0 := histC h) (R := (.box b1 251 [.v (.pointer (some ⟨bl, 0, none⟩))] :: I 0)) (L := L) (ρ := ρ)
      haveI := fun x => set5 (bl := bl) (T := 256) (c0 := histC h) (R := (.box b1 251 [.v (.pointer (some ⟨bl, 0, none⟩))] :: I 0)) (L := L) (ρ := ρ) x
      exact oe_store (b := bl) (off := 9) (n := 1) rfl (lk_ee rfl rfl (mkE_get rfl hm)) rfl rfl (Nat.le_of_ble_eq_true rfl) ⟨.any, _, rfl, hJ.put hiL (by decide) rfl (by decide) hm rfl⟩
    · obtain rfl := Option.some.inj ho
      have hJ2 := hJ
      obtain ⟨_, _, _, ρ, rfl, rfl⟩ := hJ2
      have hm : 7 ∈ L := hpre 7 (mem?_iff.1 rfl) (by decide)
      haveI := box5 (bl := bl) (T := 256) (c0 := histC h) (R := (.box b1 251 [.v (.pointer (some ⟨bl, 0, none⟩))] :: I 0)) (L := L) (ρ := ρ)
      haveI := fun x => set5 (bl := bl) (T := 256) (c0 := histC h) (R := (.box b1 251 [.v (.pointer (some ⟨bl, 0, none⟩))] :: I 0)) (L := L) (ρ := ρ) x
      exact oe_store (b := bl) (off := 10) (n := 1) rfl (lk_ee rfl rfl (mkE_get rfl hm)) rfl rfl (Nat.le_of_ble_eq_true rfl) ⟨.any, _, rfl, hJ.put hiL (by decide) rfl (by decide) hm rfl⟩
    · obtain rfl := Option.some.inj ho
      have hJ2 := hJ
      obtain ⟨_, _, _, ρ, rfl, rfl⟩ := hJ2
      have hm : 8 ∈ L := hpre 8 (mem?_iff.1 rfl) (by decide)
      haveI := box5 (bl := bl) (T := 256) (c0 := histC h) (R := (.box b1 251 [.v (.pointer (some ⟨bl, 0, none⟩))] :: I 0)) (L := L) (ρ := ρ)
      haveI := fun x => set5 (bl := bl) (T := 256) (c0 := histC h) (R := (.box b1 251 [.v (.pointer (some ⟨bl, 0, none⟩))] :: I 0)) (L := L) (ρ := ρ) x
      exact oe_store (b := bl) (off := 11) (n := 1) rfl (lk_ee rfl rfl (mkE_get rfl hm)) rfl rfl (Nat.le_of_ble_eq_true rfl) ⟨.any, _, rfl, hJ.put hiL (by decide) rfl (by decide) hm rfl⟩
  have hJ2 := hJ
  obtain ⟨_, _, _, ρ, rfl, rfl⟩ := hJ2
  have hal : ∀ i, i ∈ eff5 → i ∈ L := fun i hi => hall i hi (by simp [eff5] at hi; omega)
  refine ln ?_
  refine aops_ent (s' := ⟨[(0, y), (1, .v (.pointer (some ⟨b1, 0, none⟩))), (10, .v (.pointer (some ⟨bl, 0, none⟩))), (15, mpv (ρ 9))], .box bl 256 (histC h ++ [mpv (ρ 5), mpv (ρ 6), mpv (ρ 7), mpv (ρ 8), nmp]) :: .map (ρ 5) [] :: .map (ρ 6) [] :: .map (ρ 7) [] :: .map (ρ 8) [] :: .map (ρ 9) [] :: (.box b1 251 [.v (.pointer (some ⟨bl, 0, none⟩))] :: I 0), []⟩) (ent_trans (ent_perm (hJ.last hal)) (ent_sub (.cons _ _ _ (lk_et rfl (mkE_none (by decide)) rfl) (.cons _ _ _ (lk_et rfl (mkE_none (by decide)) rfl) (.cons _ _ _ rfl (.cons _ _ _ (lk_em rfl (mkE_get (m := 9) rfl (hal 9 (by decide)))) .nil)))))) ?_
  generalize ρ 5 = r1
  generalize ρ 6 = r2
  generalize ρ 7 = r3
  generalize ρ 8 = r4
  generalize ρ 9 = r5
  refine rn ?_
  refine aw_range h.evs.length (fun k => rowF w 0 h.evs = rowF w k (h.evs.drop k)) (fun k => ⟨[(32, iv k), (0, y), (1, .v (.pointer (some ⟨b1, 0, none⟩))), (30, evsA h.evs), (31, iv (h.evs.map evR).length)], (lookS bl h (h.evs.take k) r1 r2 r3 r4 r5 (.box b1 251 [.v (.pointer (some ⟨bl, 0, none⟩))] :: I k)), []⟩) (by simp) es ?_
  intro k lk zk
  have hwl := fun e : Ev => wroteL_le (h.evs.take k) e.t e.o
  have hle : (h.evs.take k).length ≤ h.evs.length := by simp; omega
  refine rn ?_
  refine aw_cond rfl (fun hc33 => ?_) (fun hc33 => ?_)
  · have hk := ltMap hc33
    have rk := atRow (f := evR) hk
    refine rn ?_
    refine aops_e rfl (oe_alloc rfl fun b4 => ?_)
    refine rn ?_
    refine aops_e rfl (oe_call rfl rfl (FCall.fr1 (hy k hk r1 r2 r3 r4 r5)) rfl ?_)
    rintro _ _ ⟨_, rfl, rfl, rfl⟩
    refine rn ?_
    refine aw_cond rfl (fun hc41 => ?_) (fun hc41 => ?_)
    · have hw : w k h.evs[k] = true := by simpa using hc41
      rw [hw]
      refine rn ?_
      exact retq .nil (.drop [_, _, _, _, _, _, _, _] _ _) (by rw [rowF_stop hk zk hw])
    · have hw : w k h.evs[k] = false := by simpa using hc41
      rw [hw]
      refine rn ?_
      refine aw_cond rfl (fun hc44 => ?_) (fun hc44 => ?_)
      · refine aw_draw 6 rfl ?_
        refine rn ?_
        refine aops_e rfl (oe_mapUpdT (g := bv) (enc := intK) (k := h.evs[k].t) (v := true) rfl rfl rfl ?_)
        refine rn ?_
        have et := List.take_succ_eq_append_getElem hk
        exact ⟨hk, rowF_step hk zk hw, by rw [et]; simp only [lookS, begM_snoc, ovrM_snoc, wroM_snoc, lasM_snoc, thrM_snoc, kTO, kOV]; first | (rw [if_pos (by simp_all), if_neg (by simp_all), if_neg (by simp_all), if_neg (by simp_all), if_neg (by simp_all)]; exact eA) | (rw [if_neg (by simp_all), if_pos (by simp_all), if_neg (by simp_all), if_neg (by simp_all), if_neg (by simp_all)]; exact eA) | (rw [if_neg (by simp_all), if_neg (by simp_all), if_pos (by simp_all), if_pos (by simp_all), if_pos (by simp_all)]; exact eA) | (rw [if_neg (by simp_all), if_neg (by simp_all), if_neg (by simp_all), if_neg (by simp_all), if_neg (by simp_all)]; exact eA)⟩
      · refine rn ?_
        refine aw_cond rfl (fun hc52 => ?_) (fun hc52 => ?_)
        · refine rn ?_
          refine aw_cond rfl (fun hc52 => ?_) (fun hc52 => ?_)
          · refine aw_draw 6 rfl ?_
            refine rn ?_
            refine aops_e rfl (oe_mapUpdT (g := bv) (enc := intK) (k := h.evs[k].t) (v := true) rfl rfl rfl ?_)
            refine rn ?_
            have et := List.take_succ_eq_append_getElem hk
            exact ⟨hk, rowF_step hk zk hw, by rw [et]; simp only [lookS, begM_snoc, ovrM_snoc, wroM_snoc, lasM_snoc, thrM_snoc, kTO, kOV]; first | (rw [if_pos (by simp_all), if_neg (by simp_all), if_neg (by simp_all), if_neg (by simp_all), if_neg (by simp_all)]; exact eA) | (rw [if_neg (by simp_all), if_pos (by simp_all), if_neg (by simp_all), if_neg (by simp_all), if_neg (by simp_all)]; exact eA) | (rw [if_neg (by simp_all), if_neg (by simp_all), if_pos (by simp_all), if_pos (by simp_all), if_pos (by simp_all)]; exact eA) | (rw [if_neg (by simp_all), if_neg (by simp_all), if_neg (by simp_all), if_neg (by simp_all), if_neg (by simp_all)]; exact eA)⟩
          · first | cases hc52 | exact absurd hc52 (by decide) | (exfalso; simp_all; done)
        · refine rn ?_
          refine aw_cond rfl (fun hc52 => ?_) (fun hc52 => ?_)
          · refine aw_draw 6 rfl ?_
            refine rn ?_
            refine aops_e rfl (oe_mapUpdT (g := bv) (enc := intK) (k := h.evs[k].t) (v := true) rfl rfl rfl ?_)
            refine rn ?_
            have et := List.take_succ_eq_append_getElem hk
            exact ⟨hk, rowF_step hk zk hw, by rw [et]; simp only [lookS, begM_snoc, ovrM_snoc, wroM_snoc, lasM_snoc, thrM_snoc, kTO, kOV]; first | (rw [if_pos (by simp_all), if_neg (by simp_all), if_neg (by simp_all), if_neg (by simp_all), if_neg (by simp_all)]; exact eA) | (rw [if_neg (by simp_all), if_pos (by simp_all), if_neg (by simp_all), if_neg (by simp_all), if_neg (by simp_all)]; exact eA) | (rw [if_neg (by simp_all), if_neg (by simp_all), if_pos (by simp_all), if_pos (by simp_all), if_pos (by simp_all)]; exact eA) | (rw [if_neg (by simp_all), if_neg (by simp_all), if_neg (by simp_all), if_neg (by simp_all), if_neg (by simp_all)]; exact eA)⟩
          · refine rn ?_
            refine aw_cond rfl (fun hc61 => ?_) (fun hc61 => ?_)
            · refine aw_seq (aw_region ?_)
              refine q1 ?_
              refine q1 ?_
              refine q1 ?_
              refine q1 ?_
              refine qq rfl rfl (qr_build (out := [iv h.evs[k].t, iv h.evs[k].o]) rfl (by rfl)) ?_
              refine aops_e rfl (oe_alloc rfl fun b5 => ?_)
              refine rn0 ?_
              refine aw_seq ?_
              refine aw_drawX 9 [7] [8] (fun he => he = .box b5 308 [iv h.evs[k].t, iv h.evs[k].o] :: .box b4 56 (evR h.evs[k]) :: .box bl 256 (lookC h r1 r2 r3 r4 r5) :: .map r1 (encM intK (mapA bv (begM (h.evs.take k)))) :: .map r2 (encM intK (mapA bv (ovrM (h.evs.take k)))) :: .map r3 (encM int2K (mapA iv (wroM (h.evs.take k)))) :: .map r4 (encM int2K (mapA verA (lasM (h.evs.take k)))) :: .map r5 (encM int3K (mapA bv (thrM (h.evs.take k)))) :: .box b1 251 [.v (.pointer (some ⟨bl, 0, none⟩))] :: I (k + 1) ∨ ∃ j st, he = .box b5 308 [iv h.evs[k].t, iv h.evs[k].o] :: .box b4 56 (evR h.evs[k]) :: .box bl 256 (lookC h r1 r2 r3 r4 r5) :: .map r1 (encM intK (mapA bv (begM (h.evs.take k)))) :: .map r2 (encM intK (mapA bv (ovrM (h.evs.take k)))) :: .mape r3 (encM int2K (entM (h.evs[k].t, h.evs[k].o) (iv 0) (mapA iv (wroM (h.evs.take k))))) j st :: .map r4 (encM int2K (mapA verA (lasM (h.evs.take k)))) :: .map r5 (encM int3K (mapA bv (thrM (h.evs.take k)))) :: .box b1 251 [.v (.pointer (some ⟨bl, 0, none⟩))] :: I (k + 1)) rfl rfl (.inl rfl) ?_
              refine jq rfl (fun he hC => by rcases hC with rfl | ⟨j, st, rfl⟩ <;> exact qrA) ?_
              refine jq rfl (fun he hC => by rcases hC with rfl | ⟨j, st, rfl⟩ <;> exact qrA) ?_
              refine jq rfl (fun he hC => by rcases hC with rfl | ⟨j, st, rfl⟩ <;> exact qrA) ?_
              refine jq rfl (fun he hC => by rcases hC with rfl | ⟨j, st, rfl⟩ <;> exact qrA) ?_
              refine jq rfl (fun he hC => by rcases hC with rfl | ⟨j, st, rfl⟩ <;> exact qrA) ?_
              refine jq rfl (fun he hC => by rcases hC with rfl | ⟨j, st, rfl⟩ <;> exact (by first | exact qr_lookT (enc := int2K) (k := (h.evs[k].t, h.evs[k].o)) (0 : Int) rfl rfl | exact qr_lookTe (enc := int2K) (k := (h.evs[k].t, h.evs[k].o)) (0 : Int) rfl rfl)) ?_
              refine jq rfl (fun he hC => by rcases hC with rfl | ⟨j, st, rfl⟩ <;> exact (by exact qr_ari rfl rfl rfl (by rw [wroM_get]; have := wroteL_le (h.evs.take k) h.evs[k].t h.evs[k].o; omega))) ?_
              refine je rfl ?_
              refine je rfl ?_
              refine jnil ?_
              refine jce rfl fun u => ?_
              refine oe_mapEntT (enc := int2K) (k := (h.evs[k].t, h.evs[k].o)) rfl rfl rfl fun j st hj => ⟨_, _, rfl, .inr ⟨_, _, rfl⟩, ?_⟩
              refine jcn ?_
              refine lq rfl rfl (by exact qrA) ?_
              refine ln ?_
              refine aops_e rfl (oe_entStT (g := iv) (enc := int2K) (k := (h.evs[k].t, h.evs[k].o)) (v := ((getT (h.evs[k].t, h.evs[k].o) (wroM (h.evs.take k))).getD 0 + 1)) rfl rfl rfl (hj _) ?_)
              refine rn0 ?_
              refine aw_drawX 19 [16, 17, 18] [] (fun he => ∃ x : Res, he = .box b5 308 [iv h.evs[k].t, iv h.evs[k].o] :: .box b4 56 (evR h.evs[k]) :: .box bl 256 (lookC h r1 r2 r3 r4 r5) :: .map r1 (encM intK (mapA bv (begM (h.evs.take k)))) :: .map r2 (encM intK (mapA bv (ovrM (h.evs.take k)))) :: .map r3 (encM int2K (mapA iv (putT (h.evs[k].t, h.evs[k].o) ((getT (h.evs[k].t, h.evs[k].o) (wroM (h.evs.take k))).getD 0 + 1) (wroM (h.evs.take k))))) :: x :: .map r5 (encM int3K (mapA bv (thrM (h.evs.take k)))) :: .box b1 251 [.v (.pointer (some ⟨bl, 0, none⟩))] :: I (k + 1)) rfl rfl ⟨_, rfl⟩ ?_
              refine jq rfl (fun he hC => by obtain ⟨x, rfl⟩ := hC <;> exact qrA) ?_
              refine jq rfl (fun he hC => by obtain ⟨x, rfl⟩ := hC <;> exact qrA) ?_
              refine jq rfl (fun he hC => by obtain ⟨x, rfl⟩ := hC <;> exact qrA) ?_
              refine jq rfl (fun he hC => by obtain ⟨x, rfl⟩ := hC <;> exact qrA) ?_
              refine jq rfl (fun he hC => by obtain ⟨x, rfl⟩ := hC <;> exact qrA) ?_
              refine jq rfl (fun he hC => by obtain ⟨x, rfl⟩ := hC <;> exact qrA) ?_
              refine jq rfl (fun he hC => by obtain ⟨x, rfl⟩ := hC <;> exact qrA) ?_
              refine jq rfl (fun he hC => by obtain ⟨x, rfl⟩ := hC <;> exact qrA) ?_
              refine jq rfl (fun he hC => by obtain ⟨x, rfl⟩ := hC <;> exact qrA) ?_
              refine jq rfl (fun he hC => by obtain ⟨x, rfl⟩ := hC <;> exact qrA) ?_
              refine jq rfl (fun he hC => by obtain ⟨x, rfl⟩ := hC <;> exact qrA) ?_
              refine jq rfl (fun he hC => by obtain ⟨x, rfl⟩ := hC <;> exact qrA) ?_
              refine jq rfl (fun he hC => by obtain ⟨x, rfl⟩ := hC <;> exact qrA) ?_
              refine jq (av := .agg [iv h.evs[k].o, iv h.evs[k].v.t, iv h.evs[k].v.k]) rfl (fun he hC => by obtain ⟨x, rfl⟩ := hC <;> exact (by exact qr_build (out := [iv (h.evs[k]'hk).o, iv (h.evs[k]'hk).v.t, iv (h.evs[k]'hk).v.k]) rfl (by rfl))) ?_
              refine jq rfl (fun he hC => by obtain ⟨x, rfl⟩ := hC <;> exact qrA) ?_
              refine jq rfl (fun he hC => by obtain ⟨x, rfl⟩ := hC <;> exact qrA) ?_
              refine je rfl ?_
              refine je rfl ?_
              refine je rfl ?_
              refine jnil ?_
              refine jce rfl fun u => ?_
              refine oe_mapEntT (enc := int2K) (k := (h.evs[k].t, h.evs[k].o)) rfl rfl rfl fun j st hj => ⟨_, _, rfl, ⟨_, rfl⟩, ?_⟩
              refine jce rfl fun u => ?_
              refine oe_q qrA ⟨_, _, rfl, ⟨_, rfl⟩, ?_⟩
              refine jce rfl fun u => ?_
              refine oe_entStT (g := verA) (enc := int2K) (k := (h.evs[k].t, h.evs[k].o)) (v := h.evs[k].v) rfl rfl rfl (hj _) ⟨.any, _, rfl, ⟨_, rfl⟩, ?_⟩
              refine jcn ?_
              refine ln ?_
              refine aops_e rfl (oe_mapEntT (enc := int3K) (k := (h.evs[k].o, h.evs[k].v.t, h.evs[k].v.k)) rfl rfl rfl fun j2 st2 hj2 => ?_)
              refine rn ?_
              refine aops_e rfl (oe_entStT (g := bv) (enc := int3K) (k := (h.evs[k].o, h.evs[k].v.t, h.evs[k].v.k)) (v := true) rfl rfl rfl (hj2 _) ?_)
              refine rn ?_
              have et := List.take_succ_eq_append_getElem hk
              exact ⟨hk, rowF_step hk zk hw, by rw [et]; simp only [lookS, begM_snoc, ovrM_snoc, wroM_snoc, lasM_snoc, thrM_snoc, kTO, kOV]; first | (rw [if_pos (by simp_all), if_neg (by simp_all), if_neg (by simp_all), if_neg (by simp_all), if_neg (by simp_all)]; exact eA) | (rw [if_neg (by simp_all), if_pos (by simp_all), if_neg (by simp_all), if_neg (by simp_all), if_neg (by simp_all)]; exact eA) | (rw [if_neg (by simp_all), if_neg (by simp_all), if_pos (by simp_all), if_pos (by simp_all), if_pos (by simp_all)]; exact eA) | (rw [if_neg (by simp_all), if_neg (by simp_all), if_neg (by simp_all), if_neg (by simp_all), if_neg (by simp_all)]; exact eA)⟩
            · refine rn ?_
              have et := List.take_succ_eq_append_getElem hk
              exact ⟨hk, rowF_step hk zk hw, by rw [et]; simp only [lookS, begM_snoc, ovrM_snoc, wroM_snoc, lasM_snoc, thrM_snoc, kTO, kOV]; first | (rw [if_pos (by simp_all), if_neg (by simp_all), if_neg (by simp_all), if_neg (by simp_all), if_neg (by simp_all)]; exact eA) | (rw [if_neg (by simp_all), if_pos (by simp_all), if_neg (by simp_all), if_neg (by simp_all), if_neg (by simp_all)]; exact eA) | (rw [if_neg (by simp_all), if_neg (by simp_all), if_pos (by simp_all), if_pos (by simp_all), if_pos (by simp_all)]; exact eA) | (rw [if_neg (by simp_all), if_neg (by simp_all), if_neg (by simp_all), if_neg (by simp_all), if_neg (by simp_all)]; exact eA)⟩
  · have qk := geMap hc33 lk
    refine rn ?_
    exact retq_n .nil (.drop [_, _, _, _, _, _, _] _ _) (by rw [rowF_end qk zk, qk])
end Go.Proofs
/- Rounds whose variables are new memory. Conditions: none (lemmas over any program). -/
set_option linter.unusedVariables false
set_option linter.unusedSimpArgs false
namespace Go.Ab
open Go
/-- A round of a loop over a function, called as yield; what its variables take is new memory. -/
theorem fcall_yield2 {P : Program} {l : Nat} {pend : Option Code} {fn : FuncId} {nt : Nat} {t : Fr} {ps : List Tmp} {asn body : Code} {dd : Nat} {args : List AV} {h : List Res} {R : AV → List Res → Prop} (hps : Nat.beq ps.length args.length = true) (hpn : (ps.all fun p => Nat.blt p nt) = true)
    (hb : aw P (some l) nt asn (thn (fun s => ∃ t' h2, Ent nt s ⟨t', .loop l .ready pend fn nt t ps.toArray asn body dd :: h2, []⟩ ∧ aw P (some l) nt body (RoundQ l pend fn nt t ps.toArray asn body dd R) ⟨t', .loop l .busy pend fn nt t ps.toArray asn body dd :: h2, []⟩) (fun _ _ => False))
      ⟨zipFr ps args t, .loop l .ready pend fn nt t ps.toArray asn body dd :: h, []⟩) : FCall P (yv l) args (.loop l .ready pend fn nt t ps.toArray asn body dd :: h) R := by
  intro X w v vs hh hv ha
  rw [hv.v_eq]
  obtain ⟨tmps, hl, hsz, hfr⟩ := loop_at hh
  have hlen : ps.length = vs.length := by rw [Nat.eq_of_beq_eq_true hps]; exact ha.length
  have hrun : (callV (.func (.yield l) #[] #[]) vs.toArray).run P w = .ok (.round l fn ((ps.zip vs).foldl (fun tmps (x : Tmp × Value) => tmps.setIfInBounds x.1 x.2) tmps) asn body) w := by
    simp only [callV, Deferred.ofValue, Sem.run_bind, Sem.run_pure, Result.andThen_ok, invoke, Instr.yield, run_getLoop hl]
    simp only [Array.append_eq_append, Array.empty_append, List.size_toArray]
    rw [if_neg (by omega)]
    simp only [Sem.run_pure]
    congr 2
    rw [← Array.foldl_toList]
    simp
  rw [hrun]
  have hpn' : ∀ p ∈ ps, p < tmps.size := fun p hp => by have := List.all_eq_true.1 hpn p hp; rw [hsz]; exact Nat.le_of_ble_eq_true this
  obtain ⟨z1, z2⟩ := zip_rel hpn' ha hfr
  refine roundIn_of_wpIn (F := FW none) trivial ?_
  refine wpIn_mono (hb X { tmps := (ps.zip vs).foldl (fun tmps (x : Tmp × Value) => tmps.setIfInBounds x.1 x.2) tmps, defers := [] } w ⟨hh, by rw [z2, hsz], z1, rfl⟩) ?_
  rintro e a1 w1 ⟨s1, q1, r1, k1⟩
  cases e with
  | normal =>
    obtain ⟨t', h2, hent, hbody⟩ := q1
    have r1' := hent.2 X a1 w1 r1
    have k1' : Keep (owns (.loop l .ready pend fn nt t ps.toArray asn body dd :: h)) w (owns (.loop l .ready pend fn nt t ps.toArray asn body dd :: h2)) w1 := ⟨k1.size, fun b hb ho => ⟨(k1.same b hb ho).1, fun hm => (k1.same b hb ho).2 (hent.1 b hm)⟩, k1.env⟩
    obtain ⟨tmps1, hl1, hsz1, hfr1⟩ := loop_at r1'.heap
    obtain ⟨w2, g1, g2, g3, g4, g5⟩ := loop_set (P := P) (st' := .busy) (pend' := pend) r1'.heap hl1
    refine ⟨w2, ?_, ?_⟩
    · simp only [Instr.beginRound, Sem.run_bind, run_getLoop hl1, Result.andThen_ok, g1, Sem.run_pure]
    · have hsim : Sim X nt ⟨t', .loop l .busy pend fn nt t ps.toArray asn body dd :: h2, []⟩ a1 w2 := ⟨g2, r1'.size, r1'.fr.keep g3.size g4, r1'.defs⟩
      refine wpIn_mono (hbody X a1 w2 hsim) ?_
      rintro e2 a3 w3 ⟨s3, ⟨h1, hp, hR⟩, r3, k3⟩
      have hh3 := r3.heap.perm hp
      obtain ⟨tmps3, hl3, hsz3, hfr3⟩ := loop_at hh3
      have fin : ∀ (jump : Option Code), (∀ b : Bool, b = jump.isNone → R (.v (.bool b)) (.loop l (if jump.isNone then .ready else .done) jump fn nt t ps.toArray asn body dd :: h1)) →
          ∃ v w', (Instr.endRound l jump).run P w3 = .ok v w' ∧ CPost X w (.loop l .ready pend fn nt t ps.toArray asn body dd :: h) R (.returned v) w' := by
        intro jump hRj
        obtain ⟨w4, f1, f2, f3, f4, f5⟩ := loop_set (P := P) (st' := if jump.isNone then .ready else .done) (pend' := jump) hh3 hl3
        refine ⟨.bool jump.isNone, w4, ?_, .bool jump.isNone, .v (.bool jump.isNone), _, rfl, hRj _ rfl, .v _, f2, ?_⟩
        · simp only [Instr.endRound, Sem.run_bind, run_getLoop hl3, Result.andThen_ok, f1, Sem.run_pure]
        · exact (k1'.trans g3).trans ((k3.perm_right hp).trans f3)
      cases e2 with
      | normal => exact fin none fun b hb => by subst hb; exact hR
      | ret => exact fin (some .ret) fun b hb => by subst hb; exact hR
      | exit id => exact fin (some (.exit id)) fun b hb => by subst hb; exact hR
      | goto g => exact hR.elim
      | panic ch => exact hR.elim
      | outgrown => exact hR.elim
  | exit id => exact q1.elim
  | goto g => exact q1.elim
  | ret => exact q1.elim
  | panic ch => exact q1.elim
  | outgrown => exact q1.elim
theorem fcall_yl2 {P : Program} {l : Nat} {pend : Option Code} {fn : FuncId} {nt : Nat} {t : Fr} {ps : List Tmp} {asn body : Code} {dd : Nat} {args : List AV} {h : List Res} {R : AV → List Res → Prop} {lp : LP} (hlp : lp = fun st pend => .loop l st pend fn nt t ps.toArray asn body dd)
    (hps : Nat.beq ps.length args.length = true) (hpn : (ps.all fun p => Nat.blt p nt) = true)
    (hb : aw P (some l) nt asn (thn (fun s => ∃ t' h2, Ent nt s ⟨t', lp .ready pend :: h2, []⟩ ∧ aw P (some l) nt body (RoundL lp pend R) ⟨t', lp .busy pend :: h2, []⟩) (fun _ _ => False))
      ⟨zipFr ps args t, lp .ready pend :: h, []⟩) : FCall P (yv l) args (lp .ready pend :: h) R := by
  subst hlp
  exact fcall_yield2 hps hpn hb
end Go.Ab
/- The walks of rules.look's events and at. Conditions: none. -/
set_option linter.unusedVariables false
set_option linter.unusedSimpArgs false
set_option maxRecDepth 10000
namespace Go.Proofs
open Go Go.Ab
attribute [local irreducible] QR QV OE aops aw dsoup dsoupM dalloc dallocM thn inBlk jsoup jch lsoup
open Go.H
theorem rEvents (bl : Nat) (W : List Res) : ACall Tryz.prog 295 [.v (.pointer (some ⟨bl, 0, none⟩))] W (fun r h' => ∃ b1, h' = .box b1 251 [.v (.pointer (some ⟨bl, 0, none⟩))] :: W ∧ r = .fn (.func 297) [] [.v (.pointer (some ⟨b1, 0, none⟩))]) := by
  refine acall_of_aw Tryz.func295 rfl rfl rfl ?_
  refine rn ?_
  refine aops_e rfl (oe_box rfl rfl rfl fun b1 => ?_)
  refine rn ?_
  exact retq (.cons _ _ _ _ (.tmp _ _ rfl) .nil) (.refl _ _) ⟨_, rfl, rfl⟩
set_option maxHeartbeats 4000000 in
theorem rAt (h : Hist) (la : h.evs.length ≤ 1000000) (bl : Nat) (fv : AV) (hone : fv.cellsOf = some [fv]) (W : List Res) (w : Nat → Ev → Bool) (hp : ∀ k (hk : k < h.evs.length) r1 r2 r3 r4 r5, FCall Tryz.prog fv [.agg (evR h.evs[k])] (lookS bl h (h.evs.take k) r1 r2 r3 r4 r5 W) (fun r h' => h' = lookS bl h (h.evs.take k) r1 r2 r3 r4 r5 W ∧ r = bv (w k h.evs[k]))) : ACall Tryz.prog 270 [.v (.pointer (some ⟨bl, 0, none⟩)), fv] (.box bl 256 (lookN h) :: W) (fun r h' => h' = W ∧ r = placeV (rowF w 0 h.evs)) := by
  refine acall_of_aw Tryz.func270 rfl rfl rfl ?_
  refine rn ?_
  refine aops_e rfl (oe_box rfl hone rfl fun b3 => ?_)
  refine aops_e rfl (oe_alloc rfl fun b4 => ?_)
  refine aops_e rfl (oe_alloc rfl fun b5 => ?_)
  refine rn ?_
  refine aops_e rfl (oe_call rfl rfl (FCall.of_fun (rEvents bl _)) rfl ?_)
  rintro _ _ ⟨b1, rfl, rfl⟩
  refine rn ?_
  refine aw_rf (fun pend h'' => (pend = none ∧ rowF w 0 h.evs = none ∧ h'' = .box b5 4 [bv false] :: .box b4 3 [iv 0] :: .box b3 237 [fv] :: W) ∨ (pend = some .ret ∧ ∃ k : Nat, rowF w 0 h.evs = some k ∧ h'' = .box b5 4 [bv true] :: .box b4 3 [iv (k : Nat)] :: .box b3 237 [fv] :: W)) rfl (fun fn l q lp hlp => ?_) (fun q h'' hK => ?_) (fun q h'' c hK => ?_)
  · suffices hy : ∀ k (hk : k < h.evs.length) r1 r2 r3 r4 r5, FCall Tryz.prog (yv l) [iv k, .agg (evR h.evs[k])] (lookS bl h (h.evs.take k) r1 r2 r3 r4 r5 (.box b1 251 [.v (.pointer (some ⟨bl, 0, none⟩))] :: (fun _ => lp .ready none :: .defs q :: .box b5 4 [bv false] :: .box b4 3 [iv 0] :: .box b3 237 [fv] :: W) k)) (fun r h' => r = bv (!w k h.evs[k]) ∧ h' = lookS bl h (h.evs.take k) r1 r2 r3 r4 r5 (.box b1 251 [.v (.pointer (some ⟨bl, 0, none⟩))] :: bif w k h.evs[k] then (fun k => lp .done (some .ret) :: .defs q :: .box b5 4 [bv true] :: .box b4 3 [iv (k : Nat)] :: .box b3 237 [fv] :: W) k else (fun _ => lp .ready none :: .defs q :: .box b5 4 [bv false] :: .box b4 3 [iv 0] :: .box b3 237 [fv] :: W) (k + 1))) by
      refine ACall.mono (ACall.perm ((pt6 _ _ _ _ _ _ _ _).trans (.cons _ (pt2 _ _ _ _))) (rEvents1 h la (yv l) bl b1 w (fun _ => lp .ready none :: .defs q :: .box b5 4 [bv false] :: .box b4 3 [iv 0] :: .box b3 237 [fv] :: W) (fun k => lp .done (some .ret) :: .defs q :: .box b5 4 [bv true] :: .box b4 3 [iv (k : Nat)] :: .box b3 237 [fv] :: W) hy)) ?_
      rintro _ _ rfl
      cases hr : rowF w 0 h.evs with
      | none => exact ⟨none, .ready, _, .refl _, by simp, .inl ⟨rfl, rfl, rfl⟩⟩
      | some k => exact ⟨_, _, _, .refl _, by simp, .inr ⟨rfl, k, rfl, rfl⟩⟩
    intro k hk r1 r2 r3 r4 r5
    refine FCall.perm (pt7 _ _ _ _ _ _ _ _ _) (FCall.permR ?_)
    refine fcall_yl2 hlp rfl rfl ?_
    refine rn ?_
    refine aops_e rfl (oe_alloc rfl fun b7 => ?_)
    refine rn ?_
    refine ⟨[(6, iv k), (7, .v (.pointer (some ⟨b7, 0, none⟩))), (3, .v (.pointer (some ⟨b3, 0, none⟩))), (4, .v (.pointer (some ⟨b4, 0, none⟩))), (5, .v (.pointer (some ⟨b5, 0, none⟩)))], .box b7 56 (evR h.evs[k]) :: lookS bl h (h.evs.take k) r1 r2 r3 r4 r5 (.box b1 251 [.v (.pointer (some ⟨bl, 0, none⟩))] :: .defs q :: .box b5 4 [bv false] :: .box b4 3 [iv 0] :: .box b3 237 [fv] :: W), ent_trans (ent_perm (pt1 _ _ _)) es, ?_⟩
    refine rn ?_
    refine qv rfl rfl (qv_call rfl rfl (FCall.qt (h2 := [_, _, _, _, _, _, _]) (hp k hk r1 r2 r3 r4 r5) (List.Perm.trans (.cons _ (.cons _ ((pt6 _ _ _ _ _ _ _ _).trans (.cons _ ((pt6 _ _ _ _ _ _ _ _).trans (.cons _ ((pt6 _ _ _ _ _ _ _ _).trans (.cons _ ((pt6 _ _ _ _ _ _ _ _).trans (.cons _ (pt6 _ _ _ _ _ _ _ _))))))))))) (perm_swap [_, _, _, _, _, _, _] _)))) ?_
    refine rn ?_
    refine aw_cond rfl (fun hc14 => ?_) (fun hc14 => ?_)
    · have hw : w k h.evs[k] = true := by simpa using hc14
      refine aw_ent (s' := ⟨[(6, iv k), (4, .v (.pointer (some ⟨b4, 0, none⟩))), (5, .v (.pointer (some ⟨b5, 0, none⟩)))], lp .busy none :: lookS bl h (h.evs.take k) r1 r2 r3 r4 r5 (.box b1 251 [.v (.pointer (some ⟨bl, 0, none⟩))] :: .defs q :: .box b5 4 [bv false] :: .box b4 3 [iv 0] :: .box b3 237 [fv] :: W), []⟩) (eD 1) ?_
      refine rn ?_
      exact round_r (.refl _) ⟨_, ((pt1 _ _ _).trans (.cons _ ((pt1 _ _ _).trans (.cons _ ((pt1 _ _ _).trans (.cons _ ((pt1 _ _ _).trans (.cons _ ((pt1 _ _ _).trans (.cons _ ((pt1 _ _ _).trans (.cons _ (pt1 _ _ _))))))))))))), by rw [hw]; rfl, by rw [hw]; rfl⟩
    · have hw : w k h.evs[k] = false := by simpa using hc14
      refine aw_ent (s' := ⟨[(6, iv k), (4, .v (.pointer (some ⟨b4, 0, none⟩))), (5, .v (.pointer (some ⟨b5, 0, none⟩)))], lp .busy none :: lookS bl h (h.evs.take k) r1 r2 r3 r4 r5 (.box b1 251 [.v (.pointer (some ⟨bl, 0, none⟩))] :: .defs q :: .box b5 4 [bv false] :: .box b4 3 [iv 0] :: .box b3 237 [fv] :: W), []⟩) (eD 1) ?_
      refine rn ?_
      exact round_n (.refl _) ⟨_, ((pt1 _ _ _).trans (.cons _ ((pt1 _ _ _).trans (.cons _ ((pt1 _ _ _).trans (.cons _ ((pt1 _ _ _).trans (.cons _ ((pt1 _ _ _).trans (.cons _ ((pt1 _ _ _).trans (.cons _ (pt1 _ _ _))))))))))))), by rw [hw]; rfl, by rw [hw]; rfl⟩
  · obtain ⟨_, hr, rfl⟩ | ⟨hc, _⟩ := hK
    rotate_left
    · cases hc
    refine rn ?_
    exact retqd (.refl _) (.cons _ _ _ _ (.one _ _ _ _ _ _ _ rfl inferInstance inferInstance rfl) (.cons _ _ _ _ (.one _ _ _ _ _ _ _ rfl inferInstance inferInstance rfl) .nil)) (.drop [_, _, _] _ _) ⟨rfl, by rw [hr]; rfl⟩
  · obtain ⟨hc, _⟩ | ⟨hc, k, hr, rfl⟩ := hK
    · cases hc
    obtain rfl : c = .ret := by simpa using hc
    refine rn ?_
    exact retqd (.refl _) (.cons _ _ _ _ (.one _ _ _ _ _ _ _ rfl inferInstance inferInstance rfl) (.cons _ _ _ _ (.one _ _ _ _ _ _ _ rfl inferInstance inferInstance rfl) .nil)) (.drop [_, _, _] _ _) ⟨rfl, by rw [hr]; rfl⟩
end Go.Proofs
/- The walks of the rules of events. Conditions: none. -/
set_option linter.unusedVariables false
set_option linter.unusedSimpArgs false
set_option maxRecDepth 10000
namespace Go.Proofs
open Go Go.Ab
attribute [local irreducible] QR QV OE aops aw dsoup dsoupM dalloc dallocM thn inBlk jsoup jch lsoup
open Go.H
theorem place_ib (o : Option Nat) : ∃ i b, placeV o = .tup [iv i, bv b] := by
  cases o with
  | none => exact ⟨_, _, rfl⟩
  | some i => exact ⟨_, _, rfl⟩
theorem rBegin (h : Hist) (la : Lim 3000 h) (bl : Nat) (G : List Res) : ACall Tryz.prog 259 [.v (.pointer (some ⟨bl, 0, none⟩))] (.box bl 256 (lookN h) :: G) (fun r h' => h' = G ∧ r = placeV (placeP h 1)) := by
  refine acall_of_aw Tryz.func259 rfl rfl rfl ?_
  refine rn ?_
  refine aops_e rfl (oe_box rfl rfl rfl fun b1 => ?_)
  refine rn ?_
  refine aops_e rfl (oe_call rfl rfl (FCall.perm (pt1 _ _ _) (FCall.of_fun (rAt h (Nat.le_trans la.evs (by decide)) bl (.fn (.func 271) [] [.v (.pointer (some ⟨b1, 0, none⟩))]) rfl (.box b1 251 [.v (.pointer (some ⟨bl, 0, none⟩))] :: G) (fun k e => wrongP 1 e (h.evs.take k)) (fun k hk r1 r2 r3 r4 r5 => FCall.qt (h2 := G) (FCall.of_acall (fs := []) (cs := [.v (.pointer (some ⟨b1, 0, none⟩))]) (rBegin1 _ bl b1 h _ r1 r2 r3 r4 r5)) (.refl _))))) rfl ?_)
  rintro _ _ ⟨rfl, rfl⟩
  obtain ⟨pi, pb, hpv⟩ : ∃ i b, placeV (rowF (fun k e => wrongP 1 e (h.evs.take k)) 0 h.evs) = .tup [iv i, bv b] := place_ib _
  rw [hpv]
  refine rn ?_
  refine rq 1 ?_
  exact ⟨rfl, hpv.symm⟩
theorem rEnd (h : Hist) (la : Lim 3000 h) (bl : Nat) (G : List Res) : ACall Tryz.prog 261 [.v (.pointer (some ⟨bl, 0, none⟩))] (.box bl 256 (lookN h) :: G) (fun r h' => h' = G ∧ r = placeV (placeP h 2)) := by
  refine acall_of_aw Tryz.func261 rfl rfl rfl ?_
  refine rn ?_
  refine aops_e rfl (oe_box rfl rfl rfl fun b1 => ?_)
  refine rn ?_
  refine aops_e rfl (oe_call rfl rfl (FCall.perm (pt1 _ _ _) (FCall.of_fun (rAt h (Nat.le_trans la.evs (by decide)) bl (.fn (.func 272) [] [.v (.pointer (some ⟨b1, 0, none⟩))]) rfl (.box b1 251 [.v (.pointer (some ⟨bl, 0, none⟩))] :: G) (fun k e => wrongP 2 e (h.evs.take k)) (fun k hk r1 r2 r3 r4 r5 => FCall.qt (h2 := G) (FCall.of_acall (fs := []) (cs := [.v (.pointer (some ⟨b1, 0, none⟩))]) (rEnd1 _ bl b1 h _ r1 r2 r3 r4 r5)) (.refl _))))) rfl ?_)
  rintro _ _ ⟨rfl, rfl⟩
  obtain ⟨pi, pb, hpv⟩ : ∃ i b, placeV (rowF (fun k e => wrongP 2 e (h.evs.take k)) 0 h.evs) = .tup [iv i, bv b] := place_ib _
  rw [hpv]
  refine rn ?_
  refine rq 1 ?_
  exact ⟨rfl, hpv.symm⟩
theorem rCount (h : Hist) (la : Lim 3000 h) (bl : Nat) (G : List Res) : ACall Tryz.prog 262 [.v (.pointer (some ⟨bl, 0, none⟩))] (.box bl 256 (lookN h) :: G) (fun r h' => h' = G ∧ r = placeV (placeP h 3)) := by
  refine acall_of_aw Tryz.func262 rfl rfl rfl ?_
  refine rn ?_
  refine aops_e rfl (oe_box rfl rfl rfl fun b1 => ?_)
  refine rn ?_
  refine aops_e rfl (oe_call rfl rfl (FCall.perm (pt1 _ _ _) (FCall.of_fun (rAt h (Nat.le_trans la.evs (by decide)) bl (.fn (.func 273) [] [.v (.pointer (some ⟨b1, 0, none⟩))]) rfl (.box b1 251 [.v (.pointer (some ⟨bl, 0, none⟩))] :: G) (fun k e => wrongP 3 e (h.evs.take k)) (fun k hk r1 r2 r3 r4 r5 => FCall.qt (h2 := G) (FCall.of_acall (fs := []) (cs := [.v (.pointer (some ⟨b1, 0, none⟩))]) (rCount1 _ bl b1 h _ r1 r2 r3 r4 r5 (by have := la.evs; simp; omega))) (.refl _))))) rfl ?_)
  rintro _ _ ⟨rfl, rfl⟩
  obtain ⟨pi, pb, hpv⟩ : ∃ i b, placeV (rowF (fun k e => wrongP 3 e (h.evs.take k)) 0 h.evs) = .tup [iv i, bv b] := place_ib _
  rw [hpv]
  refine rn ?_
  refine rq 1 ?_
  exact ⟨rfl, hpv.symm⟩
theorem rWritten (h : Hist) (la : Lim 3000 h) (bl : Nat) (G : List Res) : ACall Tryz.prog 263 [.v (.pointer (some ⟨bl, 0, none⟩))] (.box bl 256 (lookN h) :: G) (fun r h' => h' = G ∧ r = placeV (placeP h 4)) := by
  refine acall_of_aw Tryz.func263 rfl rfl rfl ?_
  refine rn ?_
  refine aops_e rfl (oe_box rfl rfl rfl fun b1 => ?_)
  refine rn ?_
  refine aops_e rfl (oe_call rfl rfl (FCall.perm (pt1 _ _ _) (FCall.of_fun (rAt h (Nat.le_trans la.evs (by decide)) bl (.fn (.func 274) [] [.v (.pointer (some ⟨b1, 0, none⟩))]) rfl (.box b1 251 [.v (.pointer (some ⟨bl, 0, none⟩))] :: G) (fun k e => wrongP 4 e (h.evs.take k)) (fun k hk r1 r2 r3 r4 r5 => FCall.qt (h2 := G) (FCall.of_acall (fs := []) (cs := [.v (.pointer (some ⟨b1, 0, none⟩))]) (rWritten1 _ bl b1 h _ r1 r2 r3 r4 r5 (Nat.le_trans (la.scans _ (List.getElem_mem hk)) (by decide)))) (.refl _))))) rfl ?_)
  rintro _ _ ⟨rfl, rfl⟩
  obtain ⟨pi, pb, hpv⟩ : ∃ i b, placeV (rowF (fun k e => wrongP 4 e (h.evs.take k)) 0 h.evs) = .tup [iv i, bv b] := place_ib _
  rw [hpv]
  refine rn ?_
  refine rq 1 ?_
  exact ⟨rfl, hpv.symm⟩
theorem rOwn (h : Hist) (la : Lim 3000 h) (bl : Nat) (G : List Res) : ACall Tryz.prog 264 [.v (.pointer (some ⟨bl, 0, none⟩))] (.box bl 256 (lookN h) :: G) (fun r h' => h' = G ∧ r = placeV (placeP h 5)) := by
  refine acall_of_aw Tryz.func264 rfl rfl rfl ?_
  refine rn ?_
  refine aops_e rfl (oe_box rfl rfl rfl fun b1 => ?_)
  refine rn ?_
  refine aops_e rfl (oe_call rfl rfl (FCall.perm (pt1 _ _ _) (FCall.of_fun (rAt h (Nat.le_trans la.evs (by decide)) bl (.fn (.func 277) [] [.v (.pointer (some ⟨b1, 0, none⟩))]) rfl (.box b1 251 [.v (.pointer (some ⟨bl, 0, none⟩))] :: G) (fun k e => wrongP 5 e (h.evs.take k)) (fun k hk r1 r2 r3 r4 r5 => FCall.qt (h2 := G) (FCall.of_acall (fs := []) (cs := [.v (.pointer (some ⟨b1, 0, none⟩))]) (rOwn1 _ bl b1 h _ r1 r2 r3 r4 r5 (Nat.le_trans (la.scans _ (List.getElem_mem hk)) (by decide)))) (.refl _))))) rfl ?_)
  rintro _ _ ⟨rfl, rfl⟩
  obtain ⟨pi, pb, hpv⟩ : ∃ i b, placeV (rowF (fun k e => wrongP 5 e (h.evs.take k)) 0 h.evs) = .tup [iv i, bv b] := place_ib _
  rw [hpv]
  refine rn ?_
  refine rq 1 ?_
  exact ⟨rfl, hpv.symm⟩
theorem rScan (h : Hist) (la : Lim 3000 h) (bl : Nat) (G : List Res) : ACall Tryz.prog 265 [.v (.pointer (some ⟨bl, 0, none⟩))] (.box bl 256 (lookN h) :: G) (fun r h' => h' = G ∧ r = placeV (placeP h 6)) := by
  refine acall_of_aw Tryz.func265 rfl rfl rfl ?_
  refine rn ?_
  refine aops_e rfl (oe_call rfl rfl (id (FCall.of_fun (rAt h (Nat.le_trans la.evs (by decide)) bl (.fn (.func 279) [] []) rfl (G) (fun k e => wrongP 6 e (h.evs.take k)) (fun k hk r1 r2 r3 r4 r5 => FCall.pure (R := fun r => r = bv _) (FCall.of_acall (fs := []) (cs := []) (rScan1 _ (Nat.le_trans (la.scans _ (List.getElem_mem hk)) (by decide)))))))) rfl ?_)
  rintro _ _ ⟨rfl, rfl⟩
  obtain ⟨pi, pb, hpv⟩ : ∃ i b, placeV (rowF (fun k e => wrongP 6 e (h.evs.take k)) 0 h.evs) = .tup [iv i, bv b] := place_ib _
  rw [hpv]
  refine rn ?_
  refine rq 0 ?_
  exact ⟨rfl, hpv.symm⟩
end Go.Proofs
/- The kit's contract of slices.Sort over this program. Conditions: none. -/
set_option linter.unusedVariables false
namespace Go.Proofs
open Go Go.Ab Go.Shelf
def sortRen : Go.Shelf.Ren := ⟨fun | 125 => 121 | 128 => 157 | 129 => 158 | 189 => 75 | 215 => 136 | 216 => 106 | 257 => 120 | 294 => 149 | 295 => 150 | 296 => 151 | 297 => 152 | 298 => 153 | 299 => 154 | 300 => 155 | 301 => 156 | 328 => 189 | 329 => 190 | 330 => 191 | 331 => 192 | 332 => 193 | 343 => 220 | n => n, fun | 0 => 0 | 3 => 3 | 4 => 4 | 5 => 5 | 9 => 9 | 28 => 29 | 46 => 178 | 51 => 217 | 53 => 219 | 131 => 60 | 182 => 210 | 183 => 211 | 218 => 257 | 222 => 199 | 228 => 270 | 229 => 271 | n => n, fun n => n⟩
theorem sortLays : Lays.n189 Tryz.prog sortRen := {
  mixed := by kernel_rfl
  f125 := Tryz.func121.trans (congrArg some (by kernel_rfl))
  f128 := Tryz.func157.trans (congrArg some (by kernel_rfl))
  f129 := Tryz.func158.trans (congrArg some (by kernel_rfl))
  f189 := Tryz.func75.trans (congrArg some (by kernel_rfl))
  f215 := Tryz.func136.trans (congrArg some (by kernel_rfl))
  f216 := Tryz.func106.trans (congrArg some (by kernel_rfl))
  f257 := Tryz.func120.trans (congrArg some (by kernel_rfl))
  f294 := Tryz.func149.trans (congrArg some (by kernel_rfl))
  f295 := Tryz.func150.trans (congrArg some (by kernel_rfl))
  f296 := Tryz.func151.trans (congrArg some (by kernel_rfl))
  f297 := Tryz.func152.trans (congrArg some (by kernel_rfl))
  f298 := Tryz.func153.trans (congrArg some (by kernel_rfl))
  f299 := Tryz.func154.trans (congrArg some (by kernel_rfl))
  f300 := Tryz.func155.trans (congrArg some (by kernel_rfl))
  f301 := Tryz.func156.trans (congrArg some (by kernel_rfl))
  f328 := Tryz.func189.trans (congrArg some (by kernel_rfl))
  f329 := Tryz.func190.trans (congrArg some (by kernel_rfl))
  f330 := Tryz.func191.trans (congrArg some (by kernel_rfl))
  f331 := Tryz.func192.trans (congrArg some (by kernel_rfl))
  f332 := Tryz.func193.trans (congrArg some (by kernel_rfl))
  f343 := Tryz.func220.trans (congrArg some (by kernel_rfl))
  t0 := Tryz.underlying0
  a0 := Tryz.isAgg0
  z0 := Tryz.sizeOf0
  v0 := Tryz.zeroValue0
  t3 := Tryz.underlying3
  a3 := Tryz.isAgg3
  z3 := Tryz.sizeOf3
  v3 := Tryz.zeroValue3
  t4 := Tryz.underlying4
  a4 := Tryz.isAgg4
  z4 := Tryz.sizeOf4
  v4 := Tryz.zeroValue4
  t5 := Tryz.underlying5
  a5 := Tryz.isAgg5
  z5 := Tryz.sizeOf5
  v5 := Tryz.zeroValue5
  t9 := Tryz.underlying9
  a9 := Tryz.isAgg9
  z9 := Tryz.sizeOf9
  v9 := Tryz.zeroValue9
  t28 := Tryz.underlying29
  a28 := Tryz.isAgg29
  z28 := Tryz.sizeOf29
  v28 := Tryz.zeroValue29
  t46 := Tryz.underlying178
  a46 := Tryz.isAgg178
  z46 := Tryz.sizeOf178
  v46 := Tryz.zeroValue178
  t51 := Tryz.underlying217
  a51 := Tryz.isAgg217
  z51 := Tryz.sizeOf217
  v51 := Tryz.zeroValue217
  t53 := Tryz.underlying219
  a53 := Tryz.isAgg219
  z53 := Tryz.sizeOf219
  v53 := Tryz.zeroValue219
  t131 := Tryz.underlying60
  a131 := Tryz.isAgg60
  z131 := Tryz.sizeOf60
  v131 := Tryz.zeroValue60
  t182 := Tryz.underlying210
  a182 := Tryz.isAgg210
  z182 := Tryz.sizeOf210
  v182 := Tryz.zeroValue210
  t183 := Tryz.underlying211
  a183 := Tryz.isAgg211
  z183 := Tryz.sizeOf211
  v183 := Tryz.zeroValue211
  t218 := Tryz.underlying257
  a218 := Tryz.isAgg257
  z218 := Tryz.sizeOf257
  v218 := Tryz.zeroValue257
  t222 := Tryz.underlying199
  a222 := Tryz.isAgg199
  z222 := Tryz.sizeOf199
  v222 := Tryz.zeroValue199
  t228 := Tryz.underlying270
  a228 := Tryz.isAgg270
  z228 := Tryz.sizeOf270
  v228 := Tryz.zeroValue270
  t229 := Tryz.underlying271
  a229 := Tryz.isAgg271
  z229 := Tryz.sizeOf271
  v229 := Tryz.zeroValue271 }
def compRen : Go.Shelf.Ren := ⟨fun | 20 => 145 | n => n, fun | 0 => 0 | 3 => 3 | 4 => 4 | 22 => 29 | n => n, fun n => n⟩
theorem compLays : Lays2.n20 Tryz.prog compRen := {
  mixed := by kernel_rfl
  f20 := Tryz.func145.trans (congrArg some (by kernel_rfl))
  i3 := by kernel_rfl
  t0 := Tryz.underlying0
  a0 := Tryz.isAgg0
  z0 := Tryz.sizeOf0
  v0 := Tryz.zeroValue0
  t3 := Tryz.underlying3
  a3 := Tryz.isAgg3
  z3 := Tryz.sizeOf3
  v3 := Tryz.zeroValue3
  t4 := Tryz.underlying4
  a4 := Tryz.isAgg4
  z4 := Tryz.sizeOf4
  v4 := Tryz.zeroValue4
  t22 := Tryz.underlying29
  a22 := Tryz.isAgg29
  z22 := Tryz.sizeOf29
  v22 := Tryz.zeroValue29 }
end Go.Proofs
/- The walks of slices.EqualFunc and slices.Clone. Conditions: none. -/
set_option linter.unusedVariables false
set_option linter.unusedSimpArgs false
set_option maxRecDepth 10000
namespace Go.Proofs
open Go Go.Ab
attribute [local irreducible] QR QV OE aops aw dsoup dsoupM dalloc dallocM thn inBlk
open Go.H
theorem cloneRowIntB {f : Bool} (rows : List (List AV)) (hl : rows.length * 8 ≤ 140737488355328) (hone : ∀ r ∈ rows, r.all AV.one = true) : ACall Tryz.prog 58 [.list f 1 rows] [] (fun r h' => ∃ s, h' = [.row s 1 3 rows] ∧ r = .v s) := by
  refine acall_of_aw Tryz.func58 rfl rfl rfl ?_
  refine rn ?_
  refine aops_e rfl (oe_eqnil rfl rfl rfl fun b4 hb4 => ?_)
  refine rn ?_
  refine aw_cond rfl (fun hc4 => ?_) (fun hc4 => ?_)
  · refine rn ?_
    have h0 := hb4 hc4
    subst h0
    exact retq (.cons _ _ _ _ (.tmp _ _ rfl) .nil) (vent_nilrow 1 3 _) ⟨_, rfl, rfl⟩
  · refine rn ?_
    refine aops_e rfl (oe_buildRow rfl rfl rfl fun s5 => ?_)
    refine rn ?_
    refine aops_e rfl (oe_append_rowB rfl rfl (by simp only [List.length_nil]; omega) rfl (fun s7 => ?_) hone (by simpa using hl))
    refine rn ?_
    exact retq (.cons _ _ _ _ (.tmp _ _ rfl) .nil) (.refl _ _) ⟨_, by rw [List.nil_append], rfl⟩
theorem cloneRowInt {f : Bool} (rows : List (List AV)) (hl : rows.length ≤ 1099511627776) (hone : ∀ r ∈ rows, r.all AV.one = true) : ACall Tryz.prog 58 [.list f 1 rows] [] (fun r h' => ∃ s, h' = [.row s 1 3 rows] ∧ r = .v s) := cloneRowIntB rows (by omega) hone
theorem cloneRowEv {f : Bool} (rows : List (List AV)) (hl : rows.length ≤ 1099511627776) (hone : ∀ r ∈ rows, r.all AV.one = true) : ACall Tryz.prog 90 [.list f 9 rows] [] (fun r h' => ∃ s, h' = [.row s 9 56 rows] ∧ r = .v s) := by
  refine acall_of_aw Tryz.func90 rfl rfl rfl ?_
  refine rn ?_
  refine aops_e rfl (oe_eqnil rfl rfl rfl fun b4 hb4 => ?_)
  refine rn ?_
  refine aw_cond rfl (fun hc4 => ?_) (fun hc4 => ?_)
  · refine rn ?_
    have h0 := hb4 hc4
    subst h0
    exact retq (.cons _ _ _ _ (.tmp _ _ rfl) .nil) (vent_nilrow 9 56 _) ⟨_, rfl, rfl⟩
  · refine rn ?_
    refine aops_e rfl (oe_buildRow rfl rfl rfl fun s5 => ?_)
    refine rn ?_
    refine aops_e rfl (oe_append_row rfl rfl (by simpa using hl) rfl (fun s7 => ?_) hone)
    refine rn ?_
    exact retq (.cons _ _ _ _ (.tmp _ _ rfl) .nil) (.refl _ _) ⟨_, by rw [List.nil_append], rfl⟩
theorem cloneRowOrdB {f : Bool} (rows : List (List AV)) (hl : rows.length * 32 ≤ 140737488355328) (hone : ∀ r ∈ rows, r.all AV.one = true) : ACall Tryz.prog 91 [.list f 2 rows] [] (fun r h' => ∃ s, h' = [.row s 2 101 rows] ∧ r = .v s) := by
  refine acall_of_aw Tryz.func91 rfl rfl rfl ?_
  refine rn ?_
  refine aops_e rfl (oe_eqnil rfl rfl rfl fun b4 hb4 => ?_)
  refine rn ?_
  refine aw_cond rfl (fun hc4 => ?_) (fun hc4 => ?_)
  · refine rn ?_
    have h0 := hb4 hc4
    subst h0
    exact retq (.cons _ _ _ _ (.tmp _ _ rfl) .nil) (vent_nilrow 2 101 _) ⟨_, rfl, rfl⟩
  · refine rn ?_
    refine aops_e rfl (oe_buildRow rfl rfl rfl fun s5 => ?_)
    refine rn ?_
    refine aops_e rfl (oe_append_rowB rfl rfl (by simp only [List.length_nil]; omega) rfl (fun s7 => ?_) hone (by simpa using hl))
    refine rn ?_
    exact retq (.cons _ _ _ _ (.tmp _ _ rfl) .nil) (.refl _ _) ⟨_, by rw [List.nil_append], rfl⟩
end Go.Proofs
/- The walk of rules.look's writers. Conditions: none. -/
set_option linter.unusedVariables false
set_option linter.unusedSimpArgs false
set_option maxRecDepth 10000
namespace Go.Proofs
open Go Go.Ab
attribute [local irreducible] QR QV OE aops aw dsoup dsoupM dalloc dallocM thn inBlk jsoup jch lsoup
open Go.H
theorem sortI (s : SV) (xs : List Int) (hs : xs.length < 4611686018427387904) : ACall Tryz.prog 75 [.v s.v] [.row s.v 1 3 (xs.map intR)] (fun r h' => h' = [.row s.v 1 3 ((srt xs).map intR)] ∧ r = .v (.tuple #[])) :=
  acall_sort sortLays s 3 xs hs
theorem compI (s : SV) (xs : List Int) (hs : xs.length ≤ 4611686018427387904) : ACall Tryz.prog 145 [.v s.v] [.row s.v 1 3 (xs.map intR)] (fun r h' => ∃ s' : SV, h' = [.row s'.v 1 3 ((cmpct xs).map intR)] ∧ r = .v s'.v) := by
  rw [← compact_eq]; exact acall_compact compLays s 3 xs hs
theorem rWriters (h : Hist) (la : Lim 3000 h) (bl : Nat) (x : Int) (G : List Res) : ACall Tryz.prog 282 [.v (.pointer (some ⟨bl, 0, none⟩)), iv x] (.box bl 256 (lookN h) :: G) (fun r h' => h' = .box bl 256 (lookN h) :: G ∧ r = intsA (writersP h.evs x)) := by
  refine acall_of_aw Tryz.func282 rfl rfl rfl ?_
  have be := la.evs
  refine rn ?_
  refine aops_e rfl (oe_makeMap (enc := intK) rfl fun bm => ?_)
  refine rn ?_
  refine aw_range h.evs.length (fun k => True) (fun k => ⟨[(18, iv k), (0, .v (.pointer (some ⟨bl, 0, none⟩))), (1, iv x), (5, .v (.map (some bm))), (16, evsA h.evs), (17, iv (h.evs.map evR).length)], .map bm (encM intK (mapA bv (donT (h.evs.take k)))) :: .box bl 256 (lookN h) :: G, []⟩) trivial es ?_
  intro k lk _
  refine rn ?_
  refine aw_cond rfl (fun hc19 => ?_) (fun hc19 => ?_)
  · have hk := ltMap hc19
    have rk := atRow (f := evR) hk
    refine rn ?_
    refine aops_e rfl (oe_alloc rfl fun b7 => ?_)
    first | refine aops_e rfl (oe_store_all rfl rfl rfl ?_) | refine aops_e rfl (oe_store rfl rfl rfl rfl (Nat.le_of_ble_eq_true rfl) ?_)
    refine aops_nil (thn_n ?_)
    refine aw_region ?_
    refine q1 ?_
    refine q1 ?_
    refine q1 ?_
    refine q1 ?_
    refine q1 ?_
    refine q1 ?_
    refine qq rfl rfl (qr_lookT (enc := intK) (k := h.evs[k].t) false rfl rfl) ?_
    refine rn ?_
    refine asplit (fun hg5_7 => ?_) (fun hg5_7 => ?_)
    · refine rn ?_
      refine aops_e rfl (oe_mapUpdT (g := bv) (enc := intK) (k := h.evs[k].t) rfl rfl rfl ?_)
      refine rn ?_
      exact ⟨hk, trivial, by first | (rw [donT_next hk, hg5_7, Bool.true_or]; exact eA) | (rw [donT_next hk, hg5_7, Bool.false_or]; exact eA)⟩
    · refine rn ?_
      refine aops_e rfl (oe_mapUpdT (g := bv) (enc := intK) (k := h.evs[k].t) rfl rfl rfl ?_)
      refine rn ?_
      exact ⟨hk, trivial, by first | (rw [donT_next hk, hg5_7, Bool.true_or]; exact eA) | (rw [donT_next hk, hg5_7, Bool.false_or]; exact eA)⟩
  · have qk := geMap hc19 lk
    subst qk
    rw [List.take_length]
    refine rn ?_
    refine aw_rng1 h.evs.length (fun k s => ⟨[(41, iv k), (8, .v s.v), (1, iv x), (5, .v (.map (some bm))), (39, evsA h.evs), (40, iv (h.evs.map evR).length)], .row s.v 1 3 ((((h.evs.take k).filter (wrB h.evs x)).map Ev.t).map intR) :: .map bm (encM intK (mapA bv (donT h.evs))) :: .box bl 256 (lookN h) :: G, []⟩) ⟨none, 0, 0⟩ (ent_trans (ent_nilrow 1 3) es) ?_
    intro k s lk
    refine rn ?_
    refine aw_cond rfl (fun hc42 => ?_) (fun hc42 => ?_)
    · have hk := ltMap hc42
      have rk := atRow (f := evR) hk
      refine rn ?_
      refine aops_e rfl (oe_alloc rfl fun b10 => ?_)
      refine rn ?_
      refine asplit (fun hg11_3 => ?_) (fun hg11_3 => ?_)
      · refine rn ?_
        refine asplit (fun hg11_9 => ?_) (fun hg11_9 => ?_)
        · refine q1 ?_
          refine q1 ?_
          refine q1 ?_
          refine qq rfl rfl (qr_lookT (enc := intK) (k := h.evs[k].t) false rfl rfl) ?_
          refine rn ?_
          refine aw_cond rfl (fun hc59 => ?_) (fun hc59 => ?_)
          · have hx : wrB h.evs x h.evs[k] = true := by unfold wrB; rw [← donT_get]; simp_all
            refine rn ?_
            refine qv rfl rfl (qv_buildSlice rfl rfl) ?_
            refine aops_e rfl (oe_append_row rfl rfl (by simp only [List.length_map, List.length_cons, List.length_nil]; have := flt_le (l := h.evs) (k := k) (p := wrB h.evs x); omega) rfl (fun s64 => ?_) (one_int [h.evs[k].t]))
            refine aops_slice s64 fun sv hsv => ?_
            subst hsv
            refine rn ?_
            exact ⟨hk, sv, by rw [flt_t hk hx, List.map_append, List.map_append]; exact eA⟩
          · have hx : wrB h.evs x h.evs[k] = false := by unfold wrB; rw [← donT_get]; simp_all
            refine rn ?_
            exact ⟨hk, s, by rw [flt_f hk hx]; exact eA⟩
        · refine rn ?_
          refine aw_cf rfl ?_
          have hx : wrB h.evs x h.evs[k] = false := by unfold wrB; rw [← donT_get]; simp_all
          refine rn ?_
          exact ⟨hk, s, by rw [flt_f hk hx]; exact eA⟩
      · refine rn ?_
        refine aw_cf rfl ?_
        have hx : wrB h.evs x h.evs[k] = false := by unfold wrB; rw [← donT_get]; simp_all
        refine rn ?_
        exact ⟨hk, s, by rw [flt_f hk hx]; exact eA⟩
    · have qk := geMap hc42 lk
      subst qk
      refine rn ?_
      refine aops_e rfl (oe_call rfl rfl (fcall_row0 (FCall.of_fun (sortI s _ (by have := flt_le (l := h.evs) (k := h.evs.length) (p := wrB h.evs x); rw [List.length_map]; omega)))) rfl ?_)
      rintro _ _ ⟨rfl, rfl⟩
      refine rn ?_
      refine aops_e rfl (oe_call rfl rfl (fcall_row (FCall.of_fun (compI s _ (by rw [(srt_perm _).length_eq, List.length_map]; have := flt_le (l := h.evs) (k := h.evs.length) (p := wrB h.evs x); omega)))) rfl ?_)
      rintro _ _ ⟨s', rfl, rfl⟩
      refine rn ?_
      exact retq (.cons _ _ _ _ (.tmp _ _ rfl) .nil) (.trans vent_freeze (.drop1 _ _ _)) ⟨rfl, by rw [List.take_length]; rfl⟩
end Go.Proofs
/- The walks of slices.Contains, once and row. Conditions: none. -/
set_option linter.unusedVariables false
set_option linter.unusedSimpArgs false
set_option maxRecDepth 10000
namespace Go.Proofs
open Go Go.Ab
attribute [local irreducible] QR QV OE aops aw dsoup dsoupM dalloc dallocM thn inBlk jsoup jch lsoup
open Go.H
theorem indexI {f : Bool} (l : List Int) (n : Int) (hl : l.length ≤ 4611686018427387904) : ACall Tryz.prog 80 [.list f 1 (l.map intR), iv n] [] (fun r h' => h' = [] ∧ r = iv (fidx (fun a => a == n) 0 l)) := by
  refine acall_of_aw Tryz.func80 rfl rfl rfl ?_
  refine rn ?_
  refine aw_rng (l.length) (fun k : Nat => fidx (fun a => a == n) 0 l = fidx (fun a => a == n) k (l.drop k)) (fun k => [(8, iv k)]) [(0, _), (1, _), (7, _)] (by simp) ?_
  intro k lk zk
  refine rn ?_
  refine aw_cond rfl (fun hc9 => ?_) (fun hc9 => ?_)
  · have hk := ltMap hc9
    have rk := atRow (f := intR) hk
    refine rn ?_
    refine aw_cond rfl (fun hc16 => ?_) (fun hc16 => ?_)
    · refine rn ?_
      refine rq 0 ?_
      exact ⟨rfl, congrArg iv (by rw [zk, List.drop_eq_getElem_cons hk, fidx, if_pos (by rw [beq_iff_eq] at hc16 ⊢; exact hc16.symm)])⟩
    · refine rn ?_
      exact ⟨hk, by rw [zk, List.drop_eq_getElem_cons hk, fidx, if_neg (fun q => by rw [beq_iff_eq] at q; rw [q] at hc16; simp at hc16)], eA⟩
  · have qk := geMap hc9 lk
    refine rn ?_
    refine rq 0 ?_
    exact ⟨rfl, congrArg iv (by rw [zk, qk, List.drop_length]; rfl)⟩
theorem containsI {f : Bool} (l : List Int) (n : Int) (hl : l.length ≤ 4611686018427387904) : ACall Tryz.prog 28 [.list f 1 (l.map intR), iv n] [] (fun r h' => h' = [] ∧ r = bv (l.contains n)) := by
  refine acall_of_aw Tryz.func28 rfl rfl rfl ?_
  refine rn ?_
  refine qv rfl rfl (qv_call rfl rfl (pcall (indexI _ _ hl) (Sbs.refl _))) ?_
  refine rn ?_
  refine rq 0 ?_
  exact ⟨rfl, congrArg bv (by rw [fidx_ge, contains_any])⟩
theorem rOnce1 (f : List Int) (t : Int) (b : Nat) (G : List Res) (hl : f.length ≤ 4611686018427387904) : ACall Tryz.prog 296 [iv t, .v (.pointer (some ⟨b, 0, none⟩))] (.box b 29 [intsA f] :: G) (fun r h' => h' = .box b 29 [intsA f] :: G ∧ r = bv (!f.contains t)) := by
  refine acall_of_aw Tryz.func296 rfl rfl rfl ?_
  refine rn ?_
  refine qv rfl rfl (qv_call rfl rfl (pcall (containsI _ _ hl) (Sbs.refl _))) ?_
  refine rn ?_
  refine rq 0 ?_
  exact ⟨rfl, rfl⟩
theorem rOnce (ts f : List Int) (hl : ts.length ≤ 1000000) (hf : f.length ≤ 4611686018427387904) : ACall Tryz.prog 284 [intsA ts, intsA f] [] (fun r h' => h' = [] ∧ r = bv (onceP ts f)) := by
  refine acall_of_aw Tryz.func284 rfl rfl rfl ?_
  have hl' : ts.length ≤ 4611686018427387904 := Nat.le_trans hl (by decide)
  refine rn ?_
  refine aops_e rfl (oe_box rfl rfl rfl fun b3 => ?_)
  refine rn ?_
  refine aops_e rfl (oe_call rfl rfl (FCall.new (FCall.of_fun (cloneRowInt (ts.map intR) (by simp; omega) (fun r hr => by obtain ⟨n, _, rfl⟩ := List.mem_map.1 hr; rfl)))) rfl ?_)
  rintro _ _ ⟨_, ⟨s, rfl, rfl⟩, rfl⟩
  show aops _ _ _ _ _ _ ⟨_, .row s 1 3 (ts.map intR) :: [.box b3 29 [intsA f]], _⟩
  refine aops_slice s fun sv hsv => ?_
  subst hsv
  refine rn ?_
  refine aops_e rfl (oe_call rfl rfl (fcall_row0 (FCall.of_fun (sortI sv ts (by omega)))) rfl ?_)
  rintro _ _ ⟨rfl, rfl⟩
  refine rn ?_
  refine aops_e rfl (oe_call rfl rfl (fcall_row (FCall.of_fun (compI sv (srt ts) (by rw [(srt_perm _).length_eq]; omega)))) rfl ?_)
  rintro _ _ ⟨s', rfl, rfl⟩
  refine rn ?_
  refine asplit (fun hg3_6 => ?_) (fun hg3_6 => ?_)
  · refine rn ?_
    refine qv rfl rfl (qv_call rfl rfl (FCall.of_fun (containsFuncInt ts _ _ [.row s'.v 1 3 ((cmpct (srt ts)).map intR), .box b3 29 [intsA f]] (fun t _ => FCall.qt (h2 := [_]) (FCall.of_acall (fs := []) (cs := [.v (.pointer (some ⟨b3, 0, none⟩))]) (rOnce1 f t b3 [] hf)) (perm_swap [_] [_])) hl'))) ?_
    refine rn ?_
    refine rq 2 ?_
    exact ⟨rfl, congrArg bv (by unfold onceP; by_cases e : (cmpct (srt ts)).length = ts.length <;> first | (simp_all; done) | (exfalso; simp at hg3_6; omega))⟩
  · refine rn ?_
    refine rq 2 ?_
    exact ⟨rfl, congrArg bv (by unfold onceP; by_cases e : (cmpct (srt ts)).length = ts.length <;> first | (simp_all; done) | (exfalso; simp at hg3_6; omega))⟩
theorem rRowOrd {f : Bool} (l : List H.Ord) (fv : AV) (w : Nat → H.Ord → Bool) (G : List Res) (hp : ∀ k (hk : k < l.length), FCall Tryz.prog fv [iv k, .agg (ordR l[k])] G (fun r h' => h' = G ∧ r = bv (w k l[k]))) (hl : l.length ≤ 1000000) : ACall Tryz.prog 280 [.list f 2 (l.map ordR), fv] G (fun r h' => h' = G ∧ r = placeV (rowF w 0 l)) := by
  refine acall_of_aw Tryz.func280 rfl rfl rfl ?_
  refine rn ?_
  refine aw_range l.length (fun k => rowF w 0 l = rowF w k (l.drop k)) (fun k => ⟨[(10, iv k), (1, fv), (8, .list f 2 (l.map ordR)), (9, iv (l.map ordR).length)], G, []⟩) (by simp) es ?_
  intro k lk zk
  refine rn ?_
  refine aw_cond rfl (fun hc11 => ?_) (fun hc11 => ?_)
  · have hk := ltMap hc11
    have rk := atRow (f := ordR) hk
    refine rn ?_
    refine aops_e rfl (oe_alloc rfl fun b7 => ?_)
    refine rn ?_
    refine qv rfl rfl (qv_call rfl rfl (FCall.qt (h2 := [_]) (hp k hk) (perm_swap [_] _))) ?_
    refine rn ?_
    refine aw_cond rfl (fun hc18 => ?_) (fun hc18 => ?_)
    · refine rn ?_
      refine rq 1 ?_
      exact ⟨rfl, by rw [rowF_stop hk zk (by simpa using hc18)]; rfl⟩
    · refine rn ?_
      exact ⟨hk, rowF_step hk zk (by simpa using hc18), eA⟩
  · have qk := geMap hc11 lk
    refine rn ?_
    refine rq 0 ?_
    exact ⟨rfl, by rw [rowF_end qk zk]; rfl⟩
theorem rRowStr {f : Bool} (l : List ByteArray) (fv : AV) (w : Nat → ByteArray → Bool) (G : List Res) (hp : ∀ k (hk : k < l.length), FCall Tryz.prog fv [iv k, sv l[k]] G (fun r h' => h' = G ∧ r = bv (w k l[k]))) (hl : l.length ≤ 1000000) : ACall Tryz.prog 285 [.list f 1 (l.map strR), fv] G (fun r h' => h' = G ∧ r = placeV (rowF w 0 l)) := by
  refine acall_of_aw Tryz.func285 rfl rfl rfl ?_
  refine rn ?_
  refine aw_range l.length (fun k => rowF w 0 l = rowF w k (l.drop k)) (fun k => ⟨[(10, iv k), (1, fv), (8, .list f 1 (l.map strR)), (9, iv (l.map strR).length)], G, []⟩) (by simp) es ?_
  intro k lk zk
  refine rn ?_
  refine aw_cond rfl (fun hc11 => ?_) (fun hc11 => ?_)
  · have hk := ltMap hc11
    have rk := atRow (f := strR) hk
    refine rn ?_
    refine qv rfl rfl (qv_call rfl rfl (hp k hk)) ?_
    refine rn ?_
    refine aw_cond rfl (fun hc18 => ?_) (fun hc18 => ?_)
    · refine rn ?_
      refine rq 0 ?_
      exact ⟨rfl, by rw [rowF_stop hk zk (by simpa using hc18)]; rfl⟩
    · refine rn ?_
      exact ⟨hk, rowF_step hk zk (by simpa using hc18), eA⟩
  · have qk := geMap hc11 lk
    refine rn ?_
    refine rq 0 ?_
    exact ⟨rfl, by rw [rowF_end qk zk]; rfl⟩
theorem rRowMat {f : Bool} (l : List Mat) (fv : AV) (w : Nat → Mat → Bool) (G : List Res) (hp : ∀ k (hk : k < l.length), FCall Tryz.prog fv [iv k, .agg (matR l[k])] G (fun r h' => h' = G ∧ r = bv (w k l[k]))) (hl : l.length ≤ 1000000) : ACall Tryz.prog 288 [.list f 4 (l.map matR), fv] G (fun r h' => h' = G ∧ r = placeV (rowF w 0 l)) := by
  refine acall_of_aw Tryz.func288 rfl rfl rfl ?_
  refine rn ?_
  refine aw_range l.length (fun k => rowF w 0 l = rowF w k (l.drop k)) (fun k => ⟨[(10, iv k), (1, fv), (8, .list f 4 (l.map matR)), (9, iv (l.map matR).length)], G, []⟩) (by simp) es ?_
  intro k lk zk
  refine rn ?_
  refine aw_cond rfl (fun hc11 => ?_) (fun hc11 => ?_)
  · have hk := ltMap hc11
    have rk := atRow (f := matR) hk
    refine rn ?_
    refine aops_e rfl (oe_alloc rfl fun b7 => ?_)
    refine rn ?_
    refine qv rfl rfl (qv_call rfl rfl (FCall.qt (h2 := [_]) (hp k hk) (perm_swap [_] _))) ?_
    refine rn ?_
    refine aw_cond rfl (fun hc18 => ?_) (fun hc18 => ?_)
    · refine rn ?_
      refine rq 1 ?_
      exact ⟨rfl, by rw [rowF_stop hk zk (by simpa using hc18)]; rfl⟩
    · refine rn ?_
      exact ⟨hk, rowF_step hk zk (by simpa using hc18), eA⟩
  · have qk := geMap hc11 lk
    refine rn ?_
    refine rq 0 ?_
    exact ⟨rfl, by rw [rowF_end qk zk]; rfl⟩
theorem rRowWan {f : Bool} (l : List Wan) (fv : AV) (w : Nat → Wan → Bool) (G : List Res) (hp : ∀ k (hk : k < l.length), FCall Tryz.prog fv [iv k, .agg (wanR l[k])] G (fun r h' => h' = G ∧ r = bv (w k l[k]))) (hl : l.length ≤ 1000000) : ACall Tryz.prog 291 [.list f 2 (l.map wanR), fv] G (fun r h' => h' = G ∧ r = placeV (rowF w 0 l)) := by
  refine acall_of_aw Tryz.func291 rfl rfl rfl ?_
  refine rn ?_
  refine aw_range l.length (fun k => rowF w 0 l = rowF w k (l.drop k)) (fun k => ⟨[(10, iv k), (1, fv), (8, .list f 2 (l.map wanR)), (9, iv (l.map wanR).length)], G, []⟩) (by simp) es ?_
  intro k lk zk
  refine rn ?_
  refine aw_cond rfl (fun hc11 => ?_) (fun hc11 => ?_)
  · have hk := ltMap hc11
    have rk := atRow (f := wanR) hk
    refine rn ?_
    refine aops_e rfl (oe_alloc rfl fun b7 => ?_)
    refine rn ?_
    refine qv rfl rfl (qv_call rfl rfl (FCall.qt (h2 := [_]) (hp k hk) (perm_swap [_] _))) ?_
    refine rn ?_
    refine aw_cond rfl (fun hc18 => ?_) (fun hc18 => ?_)
    · refine rn ?_
      refine rq 1 ?_
      exact ⟨rfl, by rw [rowF_stop hk zk (by simpa using hc18)]; rfl⟩
    · refine rn ?_
      exact ⟨hk, rowF_step hk zk (by simpa using hc18), eA⟩
  · have qk := geMap hc11 lk
    refine rn ?_
    refine rq 0 ?_
    exact ⟨rfl, by rw [rowF_end qk zk]; rfl⟩
end Go.Proofs
/- The walks of the rules of rows. Conditions: none. -/
set_option linter.unusedVariables false
set_option linter.unusedSimpArgs false
set_option maxRecDepth 10000
namespace Go.Proofs
open Go Go.Ab
attribute [local irreducible] QR QV OE aops aw dsoup dsoupM dalloc dallocM thn inBlk jsoup jch lsoup
open Go.H
theorem rOrder11 (p r : H.Ord) (b : Nat) (G : List Res) : ACall Tryz.prog 283 [.agg (ordR p), .v (.pointer (some ⟨b, 0, none⟩))] (.box b 101 (ordR r) :: G) (fun x h' => h' = .box b 101 (ordR r) :: G ∧ x = bv (p.o == r.o)) := by
  refine acall_of_aw Tryz.func283 rfl rfl rfl ?_
  refine rn ?_
  refine aops_e rfl (oe_box rfl rfl rfl fun b2 => ?_)
  refine rn ?_
  refine rq 1 ?_
  exact ⟨rfl, congrArg bv (by first | rfl | (simp_all; done))⟩
theorem rMatch11 (p r : Mat) (b : Nat) (G : List Res) : ACall Tryz.prog 290 [.agg (matR p), .v (.pointer (some ⟨b, 0, none⟩))] (.box b 103 (matR r) :: G) (fun x h' => h' = .box b 103 (matR r) :: G ∧ x = bv (p.p == r.p && p.o == r.o)) := by
  refine acall_of_aw Tryz.func290 rfl rfl rfl ?_
  refine rn ?_
  refine aops_e rfl (oe_box rfl rfl rfl fun b2 => ?_)
  refine rn ?_
  refine asplit (fun hg1_5 => ?_) (fun hg1_5 => ?_)
  · refine rn ?_
    refine rq 1 ?_
    exact ⟨rfl, congrArg bv (by first | rfl | (simp_all; done))⟩
  · refine rn ?_
    refine rq 1 ?_
    exact ⟨rfl, congrArg bv (by first | rfl | (simp_all; done))⟩
theorem rWant12 (p r : Wan) (b : Nat) (G : List Res) : ACall Tryz.prog 294 [.agg (wanR p), .v (.pointer (some ⟨b, 0, none⟩))] (.box b 106 (wanR r) :: G) (fun x h' => h' = .box b 106 (wanR r) :: G ∧ x = bv (p.s == r.s)) := by
  refine acall_of_aw Tryz.func294 rfl rfl rfl ?_
  refine rn ?_
  refine aops_e rfl (oe_box rfl rfl rfl fun b2 => ?_)
  refine rn ?_
  refine rq 1 ?_
  exact ⟨rfl, congrArg bv (by first | rfl | (simp_all; done))⟩
theorem rWant11 (e : Ev) (r : Wan) (b : Nat) (G : List Res) : ACall Tryz.prog 293 [.agg (evR e), .v (.pointer (some ⟨b, 0, none⟩))] (.box b 106 (wanR r) :: G) (fun x h' => h' = .box b 106 (wanR r) :: G ∧ x = bv (e.kind == 1 && e.s == r.s)) := by
  refine acall_of_aw Tryz.func293 rfl rfl rfl ?_
  refine rn ?_
  refine aops_e rfl (oe_box rfl rfl rfl fun b2 => ?_)
  refine rn ?_
  refine asplit (fun hg1_3 => ?_) (fun hg1_3 => ?_)
  · refine rn ?_
    refine rq 1 ?_
    exact ⟨rfl, congrArg bv (by first | (simp_all; done) | (simp only [*]; done))⟩
  · refine rn ?_
    refine rq 1 ?_
    exact ⟨rfl, congrArg bv (by first | (simp_all; done) | (simp only [*]; done))⟩
theorem rMissing11 (r : H.Ord) (x : Int) (b : Nat) (G : List Res) : ACall Tryz.prog 287 [.agg (ordR r), .v (.pointer (some ⟨b, 0, none⟩))] (.box b 3 [iv x] :: G) (fun z h' => h' = .box b 3 [iv x] :: G ∧ z = bv (r.o == x)) := by
  refine acall_of_aw Tryz.func287 rfl rfl rfl ?_
  refine rn ?_
  refine aops_e rfl (oe_box rfl rfl rfl fun b2 => ?_)
  refine rn ?_
  refine rq 1 ?_
  exact ⟨rfl, congrArg bv (by first | rfl | (simp_all; done))⟩
theorem rOrder1 (h : Hist) (la : Lim 3000 h) (i : Nat) (hi : i ≤ h.ords.length) (r : H.Ord) (hr : r.ts.length ≤ 3000) (bl bp : Nat) (G : List Res) : ACall Tryz.prog 281 [iv i, .agg (ordR r), .v (.pointer (some ⟨bp, 0, none⟩))] (.box bp 251 [.v (.pointer (some ⟨bl, 0, none⟩))] :: .box bl 256 (lookN h) :: G) (fun x h' => h' = (.box bp 251 [.v (.pointer (some ⟨bl, 0, none⟩))] :: .box bl 256 (lookN h) :: G) ∧ x = bv (orderP h i r)) := by
  refine acall_of_aw Tryz.func281 rfl rfl rfl ?_
  have bo := la.ords
  refine rn ?_
  refine aops_e rfl (oe_box rfl rfl rfl fun b4 => ?_)
  refine rn ?_
  refine qv rfl rfl (qv_call rfl rfl (FCall.qt (h2 := .box b4 101 (ordR r) :: .box bp 251 [.v (.pointer (some ⟨bl, 0, none⟩))] :: G) (FCall.of_fun (rWriters h la bl r.o [])) (pt2 _ _ _ _))) ?_
  refine q1 ?_
  refine aops_nil (thn_n ?_)
  refine aw_seq (aw_region ?_)
  refine q1 ?_
  refine q1 ?_
  refine q1 ?_
  refine q1 ?_
  refine q1 ?_
  refine q1 ?_
  refine qq rfl rfl (qr_slice_h (k := i) rfl rfl (by rw [List.length_map]; omega)) ?_
  rw [← List.map_take]
  refine rn ?_
  refine qv rfl rfl (qv_call rfl rfl (FCall.of_fun (containsFuncOrd (h.ords.take i) _ _ (.box b4 101 (ordR r) :: .box bp 251 [.v (.pointer (some ⟨bl, 0, none⟩))] :: .box bl 256 (lookN h) :: G) (fun p _ => FCall.of_acall (fs := []) (cs := [.v (.pointer (some ⟨b4, 0, none⟩))]) (rOrder11 p r b4 (.box bp 251 [.v (.pointer (some ⟨bl, 0, none⟩))] :: .box bl 256 (lookN h) :: G))) (by rw [List.length_take]; have := la.ords; omega)))) ?_
  refine rn ?_
  refine asplit (fun hg2_9 => ?_) (fun hg2_9 => ?_)
  · refine rn ?_
    refine rq 1 ?_
    exact ⟨rfl, congrArg bv (by unfold orderP; first | (simp only [hg2_9, hg2_16, List.length_map, len_bne, Bool.not_true, Bool.not_false, Bool.true_or, Bool.or_true, Bool.false_or]; done) | (simp only [hg2_9, Bool.true_or]; done) | (simp_all [len_bne]; done))⟩
  · refine rn ?_
    refine qv rfl rfl (qv_call rfl rfl (pcall (rOnce r.ts (writersP h.evs r.o) (Nat.le_trans hr (by decide)) (Nat.le_trans (writers_le h.evs r.o) (Nat.le_trans la.evs (by decide)))) (Sbs.refl _))) ?_
    refine rn ?_
    refine asplit (fun hg2_16 => ?_) (fun hg2_16 => ?_)
    · refine rn ?_
      refine rq 1 ?_
      exact ⟨rfl, congrArg bv (by unfold orderP; first | (simp only [hg2_9, hg2_16, List.length_map, len_bne, Bool.not_true, Bool.not_false, Bool.true_or, Bool.or_true, Bool.false_or]; done) | (simp only [hg2_9, Bool.true_or]; done) | (simp_all [len_bne]; done))⟩
    · refine rn ?_
      refine rq 1 ?_
      exact ⟨rfl, congrArg bv (by unfold orderP; first | (simp only [hg2_9, hg2_16, List.length_map, len_bne, Bool.not_true, Bool.not_false, Bool.true_or, Bool.or_true, Bool.false_or]; done) | (simp only [hg2_9, Bool.true_or]; done) | (simp_all [len_bne]; done))⟩
theorem rMatch1 (h : Hist) (la : Lim 3000 h) (i : Nat) (hi : i ≤ h.mats.length) (r : Mat) (hr : r.ts.length ≤ 3000) (bl bp : Nat) (G : List Res) : ACall Tryz.prog 289 [iv i, .agg (matR r), .v (.pointer (some ⟨bp, 0, none⟩))] (.box bp 251 [.v (.pointer (some ⟨bl, 0, none⟩))] :: .box bl 256 (lookN h) :: G) (fun x h' => h' = (.box bp 251 [.v (.pointer (some ⟨bl, 0, none⟩))] :: .box bl 256 (lookN h) :: G) ∧ x = bv (matchP h i r)) := by
  refine acall_of_aw Tryz.func289 rfl rfl rfl ?_
  have bo := la.mats
  refine rn ?_
  refine aops_e rfl (oe_box rfl rfl rfl fun b4 => ?_)
  refine rn ?_
  refine aw_draw 16 rfl ?_
  refine dq rfl rfl qrA ?_
  refine dq rfl rfl qrA ?_
  refine dq rfl rfl qrA ?_
  refine dq rfl rfl qrA ?_
  refine dq rfl rfl qrA ?_
  refine dq rfl rfl qrA ?_
  refine dq rfl rfl (qr_slice_h (k := i) rfl rfl (by rw [List.length_map]; omega)) ?_
  rw [← List.map_take]
  refine rn ?_
  refine dv rfl rfl (by exact qv_call rfl rfl (FCall.of_fun (containsFuncMat (h.mats.take i) _ _ (.box b4 103 (matR r) :: .box bp 251 [.v (.pointer (some ⟨bl, 0, none⟩))] :: .box bl 256 (lookN h) :: G) (fun p _ => FCall.of_acall (fs := []) (cs := [.v (.pointer (some ⟨b4, 0, none⟩))]) (rMatch11 p r b4 (.box bp 251 [.v (.pointer (some ⟨bl, 0, none⟩))] :: .box bl 256 (lookN h) :: G))) (by rw [List.length_take]; have := la.mats; omega)))) ?_
  refine rn ?_
  refine dsplit (fun hg2_9 => ?_) (fun hg2_9 => ?_)
  · refine rn ?_
    refine rq 1 ?_
    exact ⟨rfl, congrArg bv (by unfold matchP; simp_all)⟩
  · refine rn ?_
    refine dv rfl rfl (by exact qv_call rfl rfl (FCall.qt (h2 := .box b4 103 (matR r) :: .box bp 251 [.v (.pointer (some ⟨bl, 0, none⟩))] :: G) (FCall.of_fun (rWriters h la bl r.o [])) (pt2 _ _ _ _))) ?_
    refine rn ?_
    refine qv rfl rfl (qv_call rfl rfl (pcall (rOnce r.ts (writersP h.evs r.o) (Nat.le_trans hr (by decide)) (Nat.le_trans (writers_le h.evs r.o) (Nat.le_trans la.evs (by decide)))) (Sbs.refl _))) ?_
    refine rn ?_
    refine rq 1 ?_
    exact ⟨rfl, congrArg bv (by unfold matchP; simp_all)⟩
theorem rWant1 (h : Hist) (la : Lim 3000 h) (i : Nat) (hi : i ≤ h.wants.length) (r : Wan) (bl bp : Nat) (G : List Res) : ACall Tryz.prog 292 [iv i, .agg (wanR r), .v (.pointer (some ⟨bp, 0, none⟩))] (.box bp 251 [.v (.pointer (some ⟨bl, 0, none⟩))] :: .box bl 256 (lookN h) :: G) (fun x h' => h' = (.box bp 251 [.v (.pointer (some ⟨bl, 0, none⟩))] :: .box bl 256 (lookN h) :: G) ∧ x = bv (wantW h i r)) := by
  refine acall_of_aw Tryz.func292 rfl rfl rfl ?_
  have bo := la.wants
  refine rn ?_
  refine aops_e rfl (oe_box rfl rfl rfl fun b4 => ?_)
  refine q1 ?_
  refine aops_nil (thn_n ?_)
  refine aw_seq (aw_region ?_)
  refine q1 ?_
  refine q1 ?_
  refine aops_nil (thn_n ?_)
  refine aw_seq (aw_region ?_)
  refine q1 ?_
  refine q1 ?_
  refine q1 ?_
  refine q1 ?_
  refine q1 ?_
  refine q1 ?_
  refine qq rfl rfl (qr_slice_h (k := i) rfl rfl (by rw [List.length_map]; omega)) ?_
  rw [← List.map_take]
  refine rn ?_
  refine qv rfl rfl (qv_call rfl rfl (FCall.of_fun (containsFuncWan (h.wants.take i) _ _ (.box b4 106 (wanR r) :: .box bp 251 [.v (.pointer (some ⟨bl, 0, none⟩))] :: .box bl 256 (lookN h) :: G) (fun p _ => FCall.of_acall (fs := []) (cs := [.v (.pointer (some ⟨b4, 0, none⟩))]) (rWant12 p r b4 (.box bp 251 [.v (.pointer (some ⟨bl, 0, none⟩))] :: .box bl 256 (lookN h) :: G))) (by rw [List.length_take]; have := la.wants; omega)))) ?_
  refine rn ?_
  refine asplit (fun hg2_9 => ?_) (fun hg2_9 => ?_)
  · refine rn ?_
    refine rq 1 ?_
    exact ⟨rfl, congrArg bv (by unfold wantW; simp_all)⟩
  · refine rn ?_
    refine qv rfl rfl (qv_call rfl rfl (FCall.of_fun (containsFuncEv h.evs _ _ (.box b4 106 (wanR r) :: .box bp 251 [.v (.pointer (some ⟨bl, 0, none⟩))] :: .box bl 256 (lookN h) :: G) (fun e _ => FCall.of_acall (fs := []) (cs := [.v (.pointer (some ⟨b4, 0, none⟩))]) (rWant11 e r b4 (.box bp 251 [.v (.pointer (some ⟨bl, 0, none⟩))] :: .box bl 256 (lookN h) :: G))) (Nat.le_trans la.evs (by decide))))) ?_
    refine rn ?_
    refine rq 1 ?_
    exact ⟨rfl, congrArg bv (by unfold wantW; simp_all)⟩
theorem rMissing1 (h : Hist) (la : Lim 3000 h) (x : Int) (s : ByteArray) (bl bp : Nat) (G : List Res) : ACall Tryz.prog 286 [iv x, sv s, .v (.pointer (some ⟨bp, 0, none⟩))] (.box bp 251 [.v (.pointer (some ⟨bl, 0, none⟩))] :: .box bl 256 (lookN h) :: G) (fun z h' => h' = (.box bp 251 [.v (.pointer (some ⟨bl, 0, none⟩))] :: .box bl 256 (lookN h) :: G) ∧ z = bv (missP h x)) := by
  refine acall_of_aw Tryz.func286 rfl rfl rfl ?_
  refine rn ?_
  refine aops_e rfl (oe_box rfl rfl rfl fun b3 => ?_)
  refine rn ?_
  refine qv rfl rfl (qv_call rfl rfl (FCall.qt (h2 := .box b3 3 [iv x] :: .box bp 251 [.v (.pointer (some ⟨bl, 0, none⟩))] :: G) (FCall.of_fun (rWriters h la bl x [])) (pt2 _ _ _ _))) ?_
  refine rn ?_
  refine asplit (fun hg1_5 => ?_) (fun hg1_5 => ?_)
  · refine rn ?_
    refine qv rfl rfl (qv_call rfl rfl (FCall.of_fun (containsFuncOrd h.ords _ _ (.box b3 3 [iv x] :: .box bp 251 [.v (.pointer (some ⟨bl, 0, none⟩))] :: .box bl 256 (lookN h) :: G) (fun r _ => FCall.of_acall (fs := []) (cs := [.v (.pointer (some ⟨b3, 0, none⟩))]) (rMissing11 r x b3 (.box bp 251 [.v (.pointer (some ⟨bl, 0, none⟩))] :: .box bl 256 (lookN h) :: G))) (Nat.le_trans la.ords (by decide))))) ?_
    refine rn ?_
    refine rq 1 ?_
    exact ⟨rfl, congrArg bv (by unfold missP; by_cases e : 1 < (writersP h.evs x).length <;> first | (simp_all; done) | (simp [e]; done) | (exfalso; simp at hg1_5; omega))⟩
  · refine rn ?_
    refine rq 1 ?_
    exact ⟨rfl, congrArg bv (by unfold missP; by_cases e : 1 < (writersP h.evs x).length <;> first | (simp_all; done) | (simp [e]; done) | (exfalso; simp at hg1_5; omega))⟩
theorem rOrder (h : Hist) (la : Lim 3000 h) (bl : Nat) (G : List Res) : ACall Tryz.prog 266 [.v (.pointer (some ⟨bl, 0, none⟩))] (.box bl 256 (lookN h) :: G) (fun r h' => h' = G ∧ r = placeV (placeP h 7)) := by
  refine acall_of_aw Tryz.func266 rfl rfl rfl ?_
  refine rn ?_
  refine aops_e rfl (oe_box rfl rfl rfl fun b1 => ?_)
  refine rn ?_
  refine qv rfl rfl (qv_call rfl rfl (FCall.of_fun (rRowOrd h.ords (.fn (.func 281) [] [.v (.pointer (some ⟨b1, 0, none⟩))]) (orderP h) (.box b1 251 [.v (.pointer (some ⟨bl, 0, none⟩))] :: .box bl 256 (lookN h) :: G) (fun k hk => FCall.of_acall (fs := []) (cs := [.v (.pointer (some ⟨b1, 0, none⟩))]) (rOrder1 h la k (Nat.le_of_lt hk) _ (la.ordts _ (List.getElem_mem hk)) bl b1 G)) (Nat.le_trans la.ords (by decide))))) ?_
  obtain ⟨pi, pb, hpv⟩ : ∃ i b, placeV (rowF (orderP h) 0 h.ords) = .tup [iv i, bv b] := place_ib _
  rw [hpv]
  refine rn ?_
  refine rq 2 ?_
  exact ⟨rfl, hpv.symm⟩
theorem rMissing (h : Hist) (la : Lim 3000 h) (bl : Nat) (G : List Res) : ACall Tryz.prog 267 [.v (.pointer (some ⟨bl, 0, none⟩))] (.box bl 256 (lookN h) :: G) (fun r h' => h' = G ∧ r = placeV (placeP h 8)) := by
  refine acall_of_aw Tryz.func267 rfl rfl rfl ?_
  refine rn ?_
  refine aops_e rfl (oe_box rfl rfl rfl fun b1 => ?_)
  refine rn ?_
  refine qv rfl rfl (qv_call rfl rfl (FCall.of_fun (rRowStr h.os (.fn (.func 286) [] [.v (.pointer (some ⟨b1, 0, none⟩))]) (fun x _ => missP h (x : Nat)) (.box b1 251 [.v (.pointer (some ⟨bl, 0, none⟩))] :: .box bl 256 (lookN h) :: G) (fun k hk => FCall.of_acall (fs := []) (cs := [.v (.pointer (some ⟨b1, 0, none⟩))]) (rMissing1 h la k _ bl b1 G)) (Nat.le_trans la.os (by decide))))) ?_
  obtain ⟨pi, pb, hpv⟩ : ∃ i b, placeV (rowF (fun x _ => missP h (x : Nat)) 0 h.os) = .tup [iv i, bv b] := place_ib _
  rw [hpv]
  refine rn ?_
  refine rq 2 ?_
  exact ⟨rfl, hpv.symm⟩
theorem rMatch (h : Hist) (la : Lim 3000 h) (bl : Nat) (G : List Res) : ACall Tryz.prog 268 [.v (.pointer (some ⟨bl, 0, none⟩))] (.box bl 256 (lookN h) :: G) (fun r h' => h' = G ∧ r = placeV (placeP h 9)) := by
  refine acall_of_aw Tryz.func268 rfl rfl rfl ?_
  refine rn ?_
  refine aops_e rfl (oe_box rfl rfl rfl fun b1 => ?_)
  refine rn ?_
  refine qv rfl rfl (qv_call rfl rfl (FCall.of_fun (rRowMat h.mats (.fn (.func 289) [] [.v (.pointer (some ⟨b1, 0, none⟩))]) (matchP h) (.box b1 251 [.v (.pointer (some ⟨bl, 0, none⟩))] :: .box bl 256 (lookN h) :: G) (fun k hk => FCall.of_acall (fs := []) (cs := [.v (.pointer (some ⟨b1, 0, none⟩))]) (rMatch1 h la k (Nat.le_of_lt hk) _ (la.matts _ (List.getElem_mem hk)) bl b1 G)) (Nat.le_trans la.mats (by decide))))) ?_
  obtain ⟨pi, pb, hpv⟩ : ∃ i b, placeV (rowF (matchP h) 0 h.mats) = .tup [iv i, bv b] := place_ib _
  rw [hpv]
  refine rn ?_
  refine rq 2 ?_
  exact ⟨rfl, hpv.symm⟩
theorem rWant (h : Hist) (la : Lim 3000 h) (bl : Nat) (G : List Res) : ACall Tryz.prog 269 [.v (.pointer (some ⟨bl, 0, none⟩))] (.box bl 256 (lookN h) :: G) (fun r h' => h' = G ∧ r = placeV (placeP h 10)) := by
  refine acall_of_aw Tryz.func269 rfl rfl rfl ?_
  refine rn ?_
  refine aops_e rfl (oe_box rfl rfl rfl fun b1 => ?_)
  refine rn ?_
  refine qv rfl rfl (qv_call rfl rfl (FCall.of_fun (rRowWan h.wants (.fn (.func 292) [] [.v (.pointer (some ⟨b1, 0, none⟩))]) (wantW h) (.box b1 251 [.v (.pointer (some ⟨bl, 0, none⟩))] :: .box bl 256 (lookN h) :: G) (fun k hk => FCall.of_acall (fs := []) (cs := [.v (.pointer (some ⟨b1, 0, none⟩))]) (rWant1 h la k (Nat.le_of_lt hk) _ bl b1 G)) (Nat.le_trans la.wants (by decide))))) ?_
  obtain ⟨pi, pb, hpv⟩ : ∃ i b, placeV (rowF (wantW h) 0 h.wants) = .tup [iv i, bv b] := place_ib _
  rw [hpv]
  refine rn ?_
  refine rq 2 ?_
  exact ⟨rfl, hpv.symm⟩
end Go.Proofs
