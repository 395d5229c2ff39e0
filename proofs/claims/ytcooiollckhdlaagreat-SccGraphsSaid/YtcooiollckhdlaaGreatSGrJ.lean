/- Graphs read as data, and what a row without laid variables asks of a contract. Conditions: none. -/
import Derived.Test.YtcooiollckhdlaaGreatSGrI
import Derived.Test.YtcooiollckhdlaaGreatRows
import Derived.ProofKit
set_option linter.unusedSectionVars false
set_option linter.unusedSimpArgs false
set_option linter.unusedVariables false
set_option linter.unusedVariables false
set_option maxRecDepth 100000
namespace Go.Proofs.YtcooiollckhdlaaGreat
open Go Go.Ab Go.H Go.ChangeShapes Go.WideShapes Go.ChangeAt Go.RowKit
theorem own : ownKnob Tryz.prog.godebug = none := by kernel_rfl
section
variable {K : Type} {enc : TypeId × Value → K} {w : World}
theorem rInt : Reads enc Tryz.prog w 3 (fun n : Int => [iv n]) (fun _ => True) := .int Tryz.underlying3
theorem big_of {n b b' c : Nat} (hb : b' = b) (hb0 : 0 < b) (hc : reachBytes / b ≤ c) (h : n * b' ≤ reachBytes) : n ≤ c := by
  subst hb
  exact Nat.le_trans ((Nat.le_div_iff_mul_le hb0).2 h) hc
theorem rEd : Reads enc Tryz.prog w 53 edR (fun _ => True) :=
  .map (fun x : Int × Int × Int × Unit => ⟨x.1, x.2.1, x.2.2.1⟩) (.struct Tryz.underlying53 rfl (tot := 3) (by kernel_rfl) (.cons rInt (s := 1) (by kernel_rfl) (.cons rInt (s := 1) (by kernel_rfl) (.cons rInt (s := 1) (by kernel_rfl) (.nil 3))))) (fun _ => rfl) (fun _ _ => trivial)
theorem rEds : Reads enc Tryz.prog w 22 (fun l : List Ed => [edsA l]) (fun l => l.length ≤ 5864062014805) :=
  .map (fun l : List Ed => l) (.slice Tryz.underlying22 rEd (k := 3) (by kernel_rfl) (by decide) (by rw [show Tryz.prog.bytesOf 53 = 24 by kernel_rfl]; decide)) (fun _ => rfl) (fun _ h => big_of (b := 24) (by kernel_rfl) (by decide) (by decide) h.1)
theorem rGr : Reads enc Tryz.prog w 24 (fun g : Gr => [iv g.n, edsA g.es]) (fun g => g.es.length ≤ 5864062014805) :=
  .map (fun x : Int × List Ed × Unit => ⟨x.1, x.2.1⟩) (.struct Tryz.underlying24 rfl (tot := 2) (by kernel_rfl) (.cons rInt (s := 1) (by kernel_rfl) (.cons rEds (s := 1) (by kernel_rfl) (.nil 2)))) (fun _ => rfl) (fun _ h => h.2.1)
end
/-- Blocks that were there stay: what is read of an argument stays. -/
theorem keep_below {W W' : World} (hk : Keep [] W [] W') : RowKit.Below W.heap.size W { W' with tape := W.tape } :=
  ⟨hk.env.1.1, rfl, hk.env.1.2, hk.size, fun k hk' => (hk.same k hk' (by simp)).1⟩
theorem keep_but {W W' : World} (hk : Keep [] W [] W') (may : MemPlace → Prop) : W.keptBut W' may := by
  refine ⟨hk.env.1.1, hk.env.1.2, fun i hi => ?_⟩
  rw [(hk.same i hi (by simp)).1]
  generalize W.heap[i]? = o
  cases o with
  | none => rfl
  | some o => cases o <;> first | rfl | exact ⟨rfl, rfl, rfl, fun _ _ => rfl⟩ | exact .inr ⟨rfl, rfl⟩
section
variable {H : Type} {enc : TypeId × Value → H}
theorem gr_of {W : World} {cs : Array Value} {d : DataW H} {ps : List MemPlace} (h : DataW.Trod enc Tryz.prog W 0 (fun _ => true) true 24 (.agg cs) d ps) (hw : ∀ n ∈ d.weights Tryz.prog 24, n ≤ reachBytes) :
    ∃ x : Gr, x.es.length ≤ 4611686018427387904 ∧ Rel W noX (.agg [iv x.n, edsA x.es]) (.agg cs) := by
  obtain ⟨fuel, hf⟩ := h
  obtain ⟨x, hlim, hx⟩ := rGr fuel _ _ hf hw
  exact ⟨x, Nat.le_trans hlim (by decide), .agg _ _ (by simpa [Value.cells] using hx.1) fun j h1 h2 => by simpa [Value.cells] using hx.2 j h1 (by simpa [Value.cells] using h2)⟩
theorem trod_keep_gr {W W' : World} {v : Value} {d : DataW H} {ps : List MemPlace} (hk : Keep [] W [] W') (h : DataW.Trod enc Tryz.prog W 0 (fun _ => true) true 24 v d ps) (hlt : ∀ x ∈ ps, x.block < W.heap.size) :
    DataW.Trod enc Tryz.prog W' 0 (fun b => decide (b < W.heap.size)) true 24 v d ps :=
  DataW.Trod.of_heap (w := { W' with tape := W.tape }) (w' := W') rfl (Below.trod (by kernel_rfl) (by kernel_rfl) (by decide +kernel) h (keep_below hk) hlt)
/-- What a function does, under the bytes' bounds of what is read. -/
theorem handed_sized {C : Checked} {os : Os} {f : FuncId} {fn : Func} {s : ChangeSpec} (own : ownKnob C.prog.godebug = none) (started : os.Started) (noInit : C.prog.inits.idxOf? f = none) (hfn : C.prog.funcs[f]? = some fn)
    (witness : ∃ (w : World) (tape : Tape) (i : Input), w.os = os ∧ (w.forCall tape i).Shaped C.prog ∧ i.vars = [] ∧ Input.okWide C.prog (w.forCall tape i) .any w.heap.size f i ∧
      s.pre6 enc C.prog fn [] false (w.forCall tape i).memory i.args ∧ ({} : Assume).holds C.prog (lone (Frame.enter C.prog f i.args .normal) [] (w.forCall tape i)))
    (contract : ∀ (W : World) (base : Nat) (args : Array Value) (ds gs : List (DataW H)) (before : List MemPlace),
      (∀ (j : Nat) t v, fn.params[j]? = some t → args[j]? = some v → Value.okWide C.prog W .any base t v) →
      DataW.Whole enc C.prog fn.params.toList s.vars false W args.toList ds gs before →
      (DataW.weightsEach C.prog (fn.params.toList ++ s.plain.varTypes C.prog) (ds ++ gs)).all (· ≤ reachBytes) = true →
      Calls C.prog f args W fun e W' => ∃ v, e = .returned v ∧ s.post enc C.prog fn false true false false W args v W') :
    ReturnsInHanded {} C os f .any (s.pre6 enc C.prog fn [] false) (s.post enc C.prog fn false true false false) := by
  refine returnsInHanded_of_calls own started noInit witness ?_
  intro w tape i _ _ _ hok hpre hholds
  obtain ⟨_, _, _, fn', hfn', _, _, _, _, hval⟩ := hok
  obtain rfl : fn' = fn := Option.some.inj (hfn'.symm.trans hfn)
  obtain ⟨⟨ds, gs, before, hw, _⟩, hz⟩ := hpre
  refine (contract (w.forCall tape i) w.heap.size i.args ds gs before hval (DataW.Whole.of_heap (w' := w.forCall tape i) (by rfl) hw) (hz.weights hw)).mono fun e W' ⟨v, he, hp⟩ => ?_
  subst he
  exact ChangeSpec.post_blind hp
end
end Go.Proofs.YtcooiollckhdlaaGreat
