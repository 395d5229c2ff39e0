/- A history read as data. Conditions: none. -/
import Derived.Test.YtcickpoefijkmaaGreatDoorPartsH
import Derived.Test.YtcickpoefijkmaaGreatDoorTie
import Derived.OpenShut
import Derived.Lib.LaidTab
import Derived.Lib.LaidU8
import Derived.ProofKit
import Derived.LaidMore
import Derived.Lay
import Derived.SevenTiedAt
import Derived.Stop.Joined
import Derived.Test.YtcickpoefijkmaaGreatDoorCards
set_option linter.unusedVariables false
set_option maxRecDepth 100000
namespace Go.Proofs
open Go Go.Ab Go.H
section
variable {K : Type} {enc : TypeId × Value → K} {w : World}
theorem rInt : Reads enc Tryz.prog w 3 (fun n : Int => [iv n]) (fun _ => True) := .int Tryz.underlying3
theorem rBool : Reads enc Tryz.prog w 4 (fun b : Bool => [bv b]) (fun _ => True) := .bool Tryz.underlying4
theorem rStr : Reads enc Tryz.prog w 9 strR (fun _ => True) := .string Tryz.underlying9
theorem rVer : Reads enc Tryz.prog w 36 verR (fun _ => True) :=
  .map (fun x : Int × Int × Unit => ⟨x.1, x.2.1⟩) (.struct Tryz.underlying36 rfl (tot := 2) (by kernel_rfl) (.cons rInt (s := 1) (by kernel_rfl) (.cons rInt (s := 1) (by kernel_rfl) (.nil 2)))) (fun _ => rfl) (fun _ _ => trivial)
theorem rSeen : Reads enc Tryz.prog w 59 seenR (fun _ => True) :=
  .map (fun x : Int × Ver × Unit => ⟨x.1, x.2.1⟩) (.struct Tryz.underlying59 rfl (tot := 3) (by kernel_rfl) (.cons rInt (s := 1) (by kernel_rfl) (.cons rVer (s := 2) (by kernel_rfl) (.nil 3)))) (fun _ => rfl) (fun _ _ => trivial)
theorem big_of {n : Nat} (h : n ≤ reachBytes) : n ≤ 4611686018427387904 := Nat.le_trans h (by decide)
theorem rSeens : Reads enc Tryz.prog w 37 (fun l : List Seen => [seensA l]) (fun l => l.length ≤ 4611686018427387904) :=
  .map (fun l : List Seen => l) (.slice Tryz.underlying37 rSeen (k := 3) (by kernel_rfl) (by decide) (by rw [show Tryz.prog.bytesOf 59 = 24 by kernel_rfl]; decide)) (fun _ => rfl) (fun _ h => big_of h.1)
theorem rInts : Reads enc Tryz.prog w 45 (fun l : List Int => [intsA l]) (fun l => l.length ≤ 4611686018427387904) :=
  .map (fun l : List Int => l) (.slice Tryz.underlying45 rInt (k := 1) (by kernel_rfl) (by decide) (by rw [show Tryz.prog.bytesOf 3 = 8 by kernel_rfl]; decide)) (fun _ => rfl) (fun _ h => big_of h.1)
theorem rStrs : Reads enc Tryz.prog w 22 (fun l : List ByteArray => [strsA l]) (fun l => l.length ≤ 4611686018427387904) :=
  .map (fun l : List ByteArray => l) (.slice Tryz.underlying22 rStr (k := 1) (by kernel_rfl) (by decide) (by rw [show Tryz.prog.bytesOf 9 = 16 by kernel_rfl]; decide)) (fun _ => rfl) (fun _ h => big_of h.1)
theorem rEv : Reads enc Tryz.prog w 39 evR (fun e => e.scan.length ≤ 4611686018427387904) :=
  .map (fun x : Int × Int × Int × Int × Int × Ver × Int × List Seen × Unit => ⟨x.1, x.2.1, x.2.2.1, x.2.2.2.1, x.2.2.2.2.1, x.2.2.2.2.2.1, x.2.2.2.2.2.2.1, x.2.2.2.2.2.2.2.1⟩)
    (.struct Tryz.underlying39 rfl (tot := 9) (by kernel_rfl) (.cons rInt (s := 1) (by kernel_rfl) (.cons rInt (s := 1) (by kernel_rfl) (.cons rInt (s := 1) (by kernel_rfl) (.cons rInt (s := 1) (by kernel_rfl) (.cons rInt (s := 1) (by kernel_rfl)
      (.cons rVer (s := 2) (by kernel_rfl) (.cons rInt (s := 1) (by kernel_rfl) (.cons rSeens (s := 1) (by kernel_rfl) (.nil 9)))))))))) (fun _ => rfl) (fun _ h => h.2.2.2.2.2.2.2.1)
theorem rOrd : Reads enc Tryz.prog w 61 ordR (fun e => e.ts.length ≤ 4611686018427387904) :=
  .map (fun x : Int × List Int × Unit => ⟨x.1, x.2.1⟩) (.struct Tryz.underlying61 rfl (tot := 2) (by kernel_rfl) (.cons rInt (s := 1) (by kernel_rfl) (.cons rInts (s := 1) (by kernel_rfl) (.nil 2)))) (fun _ => rfl) (fun _ h => h.2.1)
theorem rMat : Reads enc Tryz.prog w 64 matR (fun e => e.ts.length ≤ 4611686018427387904) :=
  .map (fun x : Int × Int × Bool × List Int × Unit => ⟨x.1, x.2.1, x.2.2.1, x.2.2.2.1⟩) (.struct Tryz.underlying64 rfl (tot := 4) (by kernel_rfl) (.cons rInt (s := 1) (by kernel_rfl) (.cons rInt (s := 1) (by kernel_rfl) (.cons rBool (s := 1) (by kernel_rfl) (.cons rInts (s := 1) (by kernel_rfl) (.nil 4)))))) (fun _ => rfl) (fun _ h => h.2.2.2.1)
theorem rWan : Reads enc Tryz.prog w 67 wanR (fun _ => True) :=
  .map (fun x : Int × Int × Unit => ⟨x.1, x.2.1⟩) (.struct Tryz.underlying67 rfl (tot := 2) (by kernel_rfl) (.cons rInt (s := 1) (by kernel_rfl) (.cons rInt (s := 1) (by kernel_rfl) (.nil 2)))) (fun _ => rfl) (fun _ _ => trivial)
theorem rEvs : Reads enc Tryz.prog w 23 (fun l : List Ev => [evsA l]) (fun l => l.length ≤ 4611686018427387904 ∧ ∀ e ∈ l, e.scan.length ≤ 4611686018427387904) :=
  .map (fun l : List Ev => l) (.slice Tryz.underlying23 rEv (k := 9) (by kernel_rfl) (by decide) (by rw [show Tryz.prog.bytesOf 39 = 88 by kernel_rfl]; decide)) (fun _ => rfl) (fun _ h => ⟨big_of h.1, h.2⟩)
theorem rOrds : Reads enc Tryz.prog w 24 (fun l : List H.Ord => [ordsA l]) (fun l => l.length ≤ 4611686018427387904 ∧ ∀ e ∈ l, e.ts.length ≤ 4611686018427387904) :=
  .map (fun l : List H.Ord => l) (.slice Tryz.underlying24 rOrd (k := 2) (by kernel_rfl) (by decide) (by rw [show Tryz.prog.bytesOf 61 = 32 by kernel_rfl]; decide)) (fun _ => rfl) (fun _ h => ⟨big_of h.1, h.2⟩)
theorem rMats : Reads enc Tryz.prog w 25 (fun l : List Mat => [matsA l]) (fun l => l.length ≤ 4611686018427387904 ∧ ∀ e ∈ l, e.ts.length ≤ 4611686018427387904) :=
  .map (fun l : List Mat => l) (.slice Tryz.underlying25 rMat (k := 4) (by kernel_rfl) (by decide) (by rw [show Tryz.prog.bytesOf 64 = 48 by kernel_rfl]; decide)) (fun _ => rfl) (fun _ h => ⟨big_of h.1, h.2⟩)
theorem rWans : Reads enc Tryz.prog w 26 (fun l : List Wan => [wansA l]) (fun l => l.length ≤ 4611686018427387904) :=
  .map (fun l : List Wan => l) (.slice Tryz.underlying26 rWan (k := 2) (by kernel_rfl) (by decide) (by rw [show Tryz.prog.bytesOf 67 = 16 by kernel_rfl]; decide)) (fun _ => rfl) (fun _ h => big_of h.1)
theorem rHist : Reads enc Tryz.prog w 28 histC (Lim 4611686018427387904) :=
  .map (fun x : List ByteArray × List ByteArray × List ByteArray × List ByteArray × List Ev × List H.Ord × List Mat × List Wan × Unit => ⟨x.1, x.2.1, x.2.2.1, x.2.2.2.1, x.2.2.2.2.1, x.2.2.2.2.2.1, x.2.2.2.2.2.2.1, x.2.2.2.2.2.2.2.1⟩)
    (.struct Tryz.underlying28 rfl (tot := 8) (by kernel_rfl) (.cons rStrs (s := 1) (by kernel_rfl) (.cons rStrs (s := 1) (by kernel_rfl) (.cons rStrs (s := 1) (by kernel_rfl) (.cons rStrs (s := 1) (by kernel_rfl) (.cons rEvs (s := 1) (by kernel_rfl)
      (.cons rOrds (s := 1) (by kernel_rfl) (.cons rMats (s := 1) (by kernel_rfl) (.cons rWans (s := 1) (by kernel_rfl) (.nil 8)))))))))) (fun _ => rfl)
    (fun x h => ⟨h.1, h.2.1, h.2.2.1, h.2.2.2.1, h.2.2.2.2.1.1, h.2.2.2.2.2.1.1, h.2.2.2.2.2.2.1.1, h.2.2.2.2.2.2.2.1, h.2.2.2.2.1.2, h.2.2.2.2.2.1.2, h.2.2.2.2.2.2.1.2⟩)
end
end Go.Proofs
/- The listed package variables, aS they are laid: the boxes that are looked at. Conditions: none. -/
set_option linter.unusedVariables false
set_option maxRecDepth 100000
namespace Go.Proofs
open Go Go.Ab Go.H
theorem chunks {α : Type} (s : Nat) : ∀ (n : Nat) (cs : List α) (f : Nat → List α), cs.length = n * s → (∀ i, i < n → (cs.drop (i * s)).take s = f i) → cs = (List.range n).flatMap f
  | 0, cs, f, h, _ => by simp at h; subst h; rfl
  | n + 1, cs, f, h, k => by
    have h0 := k 0 (by omega)
    have ih := chunks s n (cs.drop s) (fun i => f (i + 1)) (by rw [List.length_drop, h, Nat.add_mul]; omega) fun i hi => by
      have := k (i + 1) (by omega)
      rw [Nat.add_mul, Nat.one_mul, Nat.add_comm, ← List.drop_drop] at this
      exact this
    rw [List.range_succ_eq_map, List.flatMap_cons, List.flatMap_map, ← h0]
    simp only [Nat.zero_mul, List.drop_zero]
    have e : cs = cs.take s ++ cs.drop s := (List.take_append_drop s cs).symm
    rw [ih] at e
    exact e
theorem glob_of {P : Program} {w : World} {n : String} {g t : Nat} {d : DataW Unit} {vals : List Value} {T : TypeId} (hr : Lib.VarReads P w n d) (hg : P.globalNamed n = some g) (ht : (P.globals[g]?).map (·.type) = some t)
    (hv : ∀ fuel cs p, DataW.trod (fun _ => ()) P w 0 (fun _ => true) false fuel t cs = some (d, p) → cs = vals) : (Res.glob g T (vals.map .v)).holds w noX := by
  obtain ⟨g', t', cs, fuel, p, h1, h2, h3, h4⟩ := hr
  obtain rfl := Option.some.inj (hg.symm.trans h1)
  obtain rfl := Option.some.inj (ht.symm.trans h2)
  have hcs := hv _ _ _ h4
  unfold World.var? at h3
  rw [hg] at h3
  simp only [Option.bind_some] at h3
  split at h3
  · rename_i c T0 fr hh
    cases h3
    refine ⟨fun h => h, (Array.getElem?_eq_some_iff.1 hh).1, cs, T0, fr, hh, by rw [List.length_map, ← hcs]; simp, fun j j1 j2 => ?_⟩
    rw [List.getElem_map]
    have : vals[j]'(by simpa using j1) = cs[j] := by simp [← hcs]
    rw [this]
    exact .v _
  · cases h3
theorem glob0 {w : World} (h : Lib.VarReads Tryz.prog w "yardarm/history.limits" YtcickpoefijkmaaGreatDoor.Rows.laid_yardarm_history_limits) : (Res.glob 0 68 limitsC).holds w noX :=
  glob_of (vals := [300, 60, 300, 60].map fun z => Value.int .i64 z) h (by kernel_rfl) (show _ = some 68 by kernel_rfl) fun fuel cs p hd =>
    Lib.cells_of_tab (zs := [300, 60, 300, 60]) Tryz.underlying68 Tryz.underlying3 (by kernel_rfl) (by kernel_rfl) hd
def firstZ : List Int := (List.range 256).map firstV
theorem first_eq : YtcickpoefijkmaaGreatDoor.Rows.laid_unicode_utf8_first = Lib.tabData .u8 firstZ := by kernel_rfl
theorem glob1 {w : World} (h : Lib.VarReads Tryz.prog w "unicode/utf8.first" YtcickpoefijkmaaGreatDoor.Rows.laid_unicode_utf8_first) : (Res.glob 1 168 firstC).holds w noX := by
  have := glob_of (P := Tryz.prog) (w := w) (n := "unicode/utf8.first") (g := 1) (t := 168) (d := YtcickpoefijkmaaGreatDoor.Rows.laid_unicode_utf8_first) (T := 168) (vals := firstZ.map fun z => Value.int .u8 z) h (by kernel_rfl) (by kernel_rfl) fun fuel cs p hd =>
    Lib.cells_of_tab (zs := firstZ) Tryz.underlying168 Tryz.underlying5 (by kernel_rfl) (by kernel_rfl) (first_eq ▸ hd)
  simpa [firstC, firstZ, List.map_map, Function.comp_def] using this
def accZ (i : Nat) : List Int := [[128, 160, 128, 144, 128].getD i 0, [191, 191, 159, 191, 143].getD i 0]
theorem accept_eq : (YtcickpoefijkmaaGreatDoor.Rows.laid_unicode_utf8_acceptRanges : DataW Unit) = .agg ((List.range 16).map fun i => .agg ((accZ i).map fun z => .lit (.int .u8 z))) := by kernel_rfl
theorem accC_eq : acceptC = ((List.range 16).flatMap fun i => (accZ i).map fun z => Value.int .u8 z).map .v := rfl
theorem glob2 {w : World} (h : Lib.VarReads Tryz.prog w "unicode/utf8.acceptRanges" YtcickpoefijkmaaGreatDoor.Rows.laid_unicode_utf8_acceptRanges) : (Res.glob 2 171 acceptC).holds w noX := by
  rw [accC_eq]
  refine glob_of (T := 171) h (by kernel_rfl) (show _ = some 171 by kernel_rfl) fun fuel cs p hd => ?_
  rw [accept_eq] at hd
  have c132 : Tryz.prog.cellsOf 170 = 2 := by kernel_rfl
  have c133 : Tryz.prog.cellsOf 171 = 32 := by kernel_rfl
  have hlen : cs.length = 16 * 2 := by
    obtain ⟨_, _, _, _, hl, _⟩ := DataW.trod_array Tryz.underlying171 hd
    rw [hl, c133]
  refine chunks 2 16 cs _ hlen fun i hi => ?_
  obtain ⟨f', d, q, h1, h2⟩ := Lib.array_elem Tryz.underlying171 hd i hi
  simp only [List.getElem?_map, List.getElem?_range hi, Option.map_some, Option.some.injEq] at h1
  subst h1
  rw [c132] at h2
  exact Lib.ints_of_struct Tryz.underlying170 (fun j f hj => by
    match j, hj with
    | 0, hj => simp at hj; subst hj; exact ⟨Tryz.underlying5, rfl, by kernel_rfl⟩
    | 1, hj => simp at hj; subst hj; exact ⟨Tryz.underlying5, rfl, by kernel_rfl⟩
    | j + 2, hj => simp at hj) (by rw [c132]; rfl) h2
theorem hrel_G3 {w : World} (h0 : (Res.glob 0 68 limitsC).holds w noX) (h1 : (Res.glob 1 168 firstC).holds w noX) (h2 : (Res.glob 2 171 acceptC).holds w noX) :
    HRel noX w [.glob 0 68 limitsC, .glob 1 168 firstC, .glob 2 171 acceptC] := by
  have hO : OO [.glob 0 68 limitsC, .glob 1 168 firstC, .glob 2 171 acceptC] noX = noX := by funext b; simp [OO, owns, noX, Res.own]
  refine ⟨by simp [owns, Res.own], fun b hb => by simp [owns, Res.own] at hb, fun b hb => hb.elim, fun r hr => ?_⟩
  rw [hO]
  simp only [List.mem_cons, List.not_mem_nil, or_false] at hr
  rcases hr with rfl | rfl | rfl <;> assumption
theorem OO_G3 : OO [.glob 0 68 limitsC, .glob 1 168 firstC, .glob 2 171 acceptC] noX = noX := by funext b; simp [OO, owns, noX, Res.own]
end Go.Proofs
/- The entry: from the row's conditions to the contract, and from the contract to what the row promises. Conditions: none. -/
set_option linter.unusedVariables false
set_option maxRecDepth 100000
namespace Go.Proofs.YtcickpoefijkmaaGreatDoor
open Go Go.Ab Go.H Go.ChangeShapes Go.WideShapes Go.ChangeAt Go.RowKit
theorem own : ownKnob Tryz.prog.godebug = none := by kernel_rfl
def laid3 : List (String × DataW Unit) := [("unicode/utf8.acceptRanges", Rows.laid_unicode_utf8_acceptRanges), ("yardarm/history.limits", Rows.laid_yardarm_history_limits), ("unicode/utf8.first", Rows.laid_unicode_utf8_first)]
theorem laid_hrel {W : World} (h : laidMetH Tryz.prog laid3 W) : HRel noX W [.glob 0 68 limitsC, .glob 1 168 firstC, .glob 2 171 acceptC] := by
  rw [MakeChecks.laidMetH_plain _ _ _ (by kernel_rfl)] at h
  exact hrel_G3 (glob0 (Lib.laidMet.reads h (.tail _ (.head _)))) (glob1 (Lib.laidMet.reads h (.tail _ (.tail _ (.head _))))) (glob2 (Lib.laidMet.reads h (.head _)))
/-- Blocks that were there stay: what is read of an argument stays. -/
theorem keep_below {W W' : World} (hk : Keep [] W [] W') : RowKit.Below W.heap.size W { W' with tape := W.tape } :=
  ⟨hk.env.1, rfl, hk.env.2, hk.size, fun k hk' => (hk.same k hk' (by simp)).1⟩
theorem keep_but {W W' : World} (hk : Keep [] W [] W') (may : MemPlace → Prop) : W.keptBut W' may := by
  refine ⟨hk.env.1, hk.env.2, fun i hi => ?_⟩
  rw [(hk.same i hi (by simp)).1]
  generalize W.heap[i]? = o
  cases o with
  | none => rfl
  | some o => cases o <;> first | rfl | exact ⟨rfl, rfl, rfl, fun _ _ => rfl⟩ | exact .inr ⟨rfl, rfl⟩
section
variable {H : Type} {enc : TypeId × Value → H}
theorem trod_keep {W W' : World} {v : Value} {d : DataW H} {ps : List MemPlace} (hk : Keep [] W [] W') (h : DataW.Trod enc Tryz.prog W 0 (fun _ => true) true 28 v d ps) (hlt : ∀ x ∈ ps, x.block < W.heap.size) :
    DataW.Trod enc Tryz.prog W' 0 (fun b => decide (b < W.heap.size)) true 28 v d ps :=
  DataW.Trod.of_heap (w := { W' with tape := W.tape }) (w' := W') rfl (Below.trod (by kernel_rfl) (by kernel_rfl) (by decide +kernel) h (keep_below hk) hlt)
/-- A history by value, aS the contract wants it. -/
theorem hist_of {W : World} {cs : Array Value} {d : DataW H} {ps : List MemPlace} (h : DataW.Trod enc Tryz.prog W 0 (fun _ => true) true 28 (.agg cs) d ps) (hw : ∀ n ∈ d.weights Tryz.prog 28, n ≤ reachBytes) :
    ∃ x, Lim 4611686018427387904 x ∧ Rel W noX (.agg (histC x)) (.agg cs) := by
  obtain ⟨fuel, hf⟩ := h
  obtain ⟨x, hlim, hx⟩ := rHist fuel _ _ hf hw
  exact ⟨x, hlim, .agg _ _ (by simpa [Value.cells] using hx.1) fun j h1 h2 => by simpa [Value.cells] using hx.2 j h1 (by simpa [Value.cells] using h2)⟩
end
end Go.Proofs.YtcickpoefijkmaaGreatDoor
/- HistoryParts: the row and the tied card. Conditions: none. -/
set_option linter.unusedVariables false
set_option maxRecDepth 100000
namespace Go.Proofs.YtcickpoefijkmaaGreatDoor
open Go Go.Ab Go.H Go.ChangeShapes Go.WideShapes Go.ChangeAt Go.RowKit
theorem historyParts_lifted (os : Os) (started : os.Started) (K : Type) (enc : TypeId × Value → K) :
    ReturnsInHanded {} Tryz.checked os 6 .any (fun w args => (Rows.historyPartsSpec.pre enc Tryz.prog Tryz.f6 [] false w args ∧ laidMetH Tryz.prog laid3 w) ∧ sizedMet enc Tryz.prog Tryz.f6 (OpenSpec.ofChange Rows.historyPartsSpec) false w args)
      (Rows.historyPartsSpec.post enc Tryz.prog Tryz.f6 false true false false) := by
  refine returnsInHanded_of_change_and (C := Tryz.checked) (X := fun w _ => laidMetH Tryz.prog laid3 w) (fun _ _ _ hh h => h.of_heap hh) own started (by kernel_rfl) Tryz.func6
    (ChangeSpec.witness_shaped (enc := enc) (C := Tryz.checked) (os := os) (X := fun w _ => laidMetH Tryz.prog laid3 w) false (World.laidAll Tryz.prog os laid3)
      #[.agg #[.slice none 0 0, .slice none 0 0, .slice none 0 0, .slice none 0 0, .slice none 0 0, .slice none 0 0, .slice none 0 0, .slice none 0 0]] 8 (World.laidAll_os _ _ _)
      (World.shaped_of_ZipB (by kernel_rfl) (by kernel_rfl)) (by kernel_rfl) (by kernel_rfl) (by kernel_rfl)
      (by rw [MakeChecks.laidMetH_plain _ _ _ (by kernel_rfl)]; exact laidMet_laidAll _ (by kernel_rfl) (by kernel_rfl))) ?_
  intro W base args ds gs before hval0 hW _ hsz hL _
  have hval : ∀ (j : Nat) t v, Tryz.f6.params[j]? = some t → args[j]? = some v → Value.okWide Tryz.prog W .any base t v := hval0
  have hlt := hW.lt
  have hW' := hW
  obtain ⟨p, q, hA0, hV, rfl, hfz, hnd⟩ := hW
  have hA : DataW.TrodAll enc Tryz.prog W 0 (fun _ => true) true Tryz.f6.params.toList args.toList ds p := hA0
  rw [Tryz.params6] at hA hval
  obtain ⟨v0, d0, rfl, rfl, h0⟩ := trodAll_one hA
  have hlt0 : ∀ x ∈ p, x.block < W.heap.size := fun x hx => hlt x (by simp [hx])
  obtain ⟨rfl, rfl⟩ := trodVars_none hV
  have hw0 : ∀ n ∈ d0.weights Tryz.prog 28, n ≤ reachBytes := fun n hn => by
    have := List.all_eq_true.1 hsz n (DataW.weights_mem_each (j := 0) (t := 28) (d := d0) (by kernel_rfl) rfl n hn)
    simpa using this
  have hv0 := hval 0 28 v0 rfl rfl
  unfold Value.okWide at hv0
  rw [Tryz.underlying28] at hv0
  obtain ⟨cs0, rfl, _, _⟩ := hv0
  obtain ⟨x0, hlim0, hrel0⟩ := hist_of h0 hw0
  refine (((historyParts x0 hlim0) noX W [.agg cs0] (laid_hrel hL) ⟨by rw [OO_G3]; exact hrel0, trivial⟩).calls (fun k => room_FW none k)).mono fun e W' hp => ?_
  obtain ⟨v, av, h', rfl, ⟨rfl, rfl⟩, hr, _, hk⟩ := hp
  obtain rfl := hr.v_eq
  simp only [List.append_nil] at hW'
  refine ⟨_, rfl, _, _, _, [], _, [], hW', trodAll_mk1 (shut_bool Tryz.underlying4 _), trodAll_mk1 (trod_keep hk h0 hlt0), rfl, keep_but hk _, fun h => by cases h⟩
theorem historyParts_holds : Rows.HistoryPartsSaid :=
  OpenClaim.holds_of_wide 6 Tryz.f6 rfl rfl rfl rfl rfl rfl rfl ⟨rfl, rfl, rfl, rfl, rfl⟩ rfl rfl rfl rfl rfl (by kernel_rfl) Tryz.func6 (by kernel_rfl)
    (of_decide_eq_true (by kernel_rfl)) (by unfold Func.isWrapper; first | (rw [if_pos (by decide +kernel)]; kernel_rfl) | (rw [if_neg (by decide +kernel)]; exact ⟨rfl, rfl⟩))
    (fun os started H enc _ => historyParts_lifted os started H enc)
theorem historyParts_card : Rows.HistoryPartsCardSaid :=
  Claim7.holds_tied_plain_at .later [] [.data, .data, .pinned] true (true, "07b144fabb433007d1114ee770f0c8201ad1f372cedbaae527aa7e1a02f6f808") false historyParts_holds (fun _ h => by cases h) (by kernel_rfl) (fun _ h => by cases h) historyParts_row_tie rfl ⟨rfl, rfl⟩ (by kernel_rfl) rfl
    (fun f fn hf hfn => by
      obtain rfl : f = 6 := Option.some.inj ((show Tryz.prog.funcNamed "yardarm/yardarmlaw11.HistoryParts" = some 6 by kernel_rfl).symm.trans hf) |>.symm
      obtain rfl : fn = Tryz.f6 := (Option.some.inj (Tryz.func6.symm.trans hfn)).symm
      exact ⟨by kernel_rfl, fun j t ht => by
        rw [Tryz.params6] at ht
        have hm : t ∈ [28] := by simpa using Array.mem_of_getElem? ht
        have hall : ([28].all fun u => !Tryz.prog.wantsStandIn u) = true := by kernel_rfl
        exact (show Tryz.prog.wantsStandIn t = false by simpa using List.all_eq_true.1 hall t hm)⟩)
    (by kernel_rfl)
#print axioms historyParts_card
end Go.Proofs.YtcickpoefijkmaaGreatDoor
