/- Graphs read as data, and what a row without laid variables asks of a contract. Conditions: none. -/
import Derived.Test.YtcooiollckhdlaaSEdH
import Derived.Test.YtcooiollckhdlaaRows
import Derived.ProofKit
set_option linter.unusedSectionVars false
set_option linter.unusedSimpArgs false
set_option linter.unusedVariables false
set_option linter.unusedVariables false
set_option maxRecDepth 100000
namespace Go.Proofs.Ytcooiollckhdlaa
open Go Go.Ab Go.H Go.ChangeShapes Go.WideShapes Go.ChangeAt Go.RowKit
theorem own : ownKnob Try.prog.godebug = none := by kernel_rfl
section
variable {K : Type} {enc : TypeId × Value → K} {w : World}
theorem rInt : Reads enc Try.prog w 3 (fun n : Int => [iv n]) (fun _ => True) := .int Try.underlying3
theorem big_of {n b b' c : Nat} (hb : b' = b) (hb0 : 0 < b) (hc : reachBytes / b ≤ c) (h : n * b' ≤ reachBytes) : n ≤ c := by
  subst hb
  exact Nat.le_trans ((Nat.le_div_iff_mul_le hb0).2 h) hc
theorem rEd : Reads enc Try.prog w 35 edR (fun _ => True) :=
  .map (fun x : Int × Int × Int × Unit => ⟨x.1, x.2.1, x.2.2.1⟩) (.struct Try.underlying35 rfl (tot := 3) (by kernel_rfl) (.cons rInt (s := 1) (by kernel_rfl) (.cons rInt (s := 1) (by kernel_rfl) (.cons rInt (s := 1) (by kernel_rfl) (.nil 3))))) (fun _ => rfl) (fun _ _ => trivial)
theorem rEds : Reads enc Try.prog w 22 (fun l : List Ed => [edsA l]) (fun l => l.length ≤ 5864062014805) :=
  .map (fun l : List Ed => l) (.slice Try.underlying22 rEd (k := 3) (by kernel_rfl) (by decide) (by rw [show Try.prog.bytesOf 35 = 24 by kernel_rfl]; decide)) (fun _ => rfl) (fun _ h => big_of (b := 24) (by kernel_rfl) (by decide) (by decide) h.1)
theorem rGr : Reads enc Try.prog w 24 (fun g : Gr => [iv g.n, edsA g.es]) (fun g => g.es.length ≤ 5864062014805) :=
  .map (fun x : Int × List Ed × Unit => ⟨x.1, x.2.1⟩) (.struct Try.underlying24 rfl (tot := 2) (by kernel_rfl) (.cons rInt (s := 1) (by kernel_rfl) (.cons rEds (s := 1) (by kernel_rfl) (.nil 2)))) (fun _ => rfl) (fun _ h => h.2.1)
end
/-- Blocks that were there stay: what is read of an argument stays. -/
theorem keep_below {W W' : World} (hk : Keep [] W [] W') : RowKit.Below W.heap.size W { W' with tape := W.tape } :=
  ⟨hk.env.1.1, rfl, hk.env.1.2, hk.size, fun k hk' => (hk.same k hk' (by simp)).1⟩
theorem keep_but {W W' : World} (hk : Keep [] W [] W') (may : MemPlace → Prop) : W.keptBut W' may := by
  refine ⟨hk.env.1.1, hk.env.1.2, fun i hi => ?_⟩
  rw [(hk.same i hi (by simp)).1]
  generalize W.heap[i]? = o
  cases o with
  | none => rfl
  | some o => cases o <;> first | rfl | exact ⟨rfl, rfl, rfl, fun _ _ => rfl⟩ | exact .inr ⟨rfl, rfl⟩
section
variable {H : Type} {enc : TypeId × Value → H}
theorem gr_of {W : World} {cs : Array Value} {d : DataW H} {ps : List MemPlace} (h : DataW.Trod enc Try.prog W 0 (fun _ => true) true 24 (.agg cs) d ps) (hw : ∀ n ∈ d.weights Try.prog 24, n ≤ reachBytes) :
    ∃ x : Gr, x.es.length ≤ 4611686018427387904 ∧ Rel W noX (.agg [iv x.n, edsA x.es]) (.agg cs) := by
  obtain ⟨fuel, hf⟩ := h
  obtain ⟨x, hlim, hx⟩ := rGr fuel _ _ hf hw
  exact ⟨x, Nat.le_trans hlim (by decide), .agg _ _ (by simpa [Value.cells] using hx.1) fun j h1 h2 => by simpa [Value.cells] using hx.2 j h1 (by simpa [Value.cells] using h2)⟩
theorem trod_keep_gr {W W' : World} {v : Value} {d : DataW H} {ps : List MemPlace} (hk : Keep [] W [] W') (h : DataW.Trod enc Try.prog W 0 (fun _ => true) true 24 v d ps) (hlt : ∀ x ∈ ps, x.block < W.heap.size) :
    DataW.Trod enc Try.prog W' 0 (fun b => decide (b < W.heap.size)) true 24 v d ps :=
  DataW.Trod.of_heap (w := { W' with tape := W.tape }) (w' := W') rfl (Below.trod (by kernel_rfl) (by kernel_rfl) (by decide +kernel) h (keep_below hk) hlt)
/-- What a function does, under the bytes' bounds of what is read. -/
theorem handed_sized {C : Checked} {os : Os} {f : FuncId} {fn : Func} {s : ChangeSpec} (own : ownKnob C.prog.godebug = none) (started : os.Started) (noInit : C.prog.inits.idxOf? f = none) (hfn : C.prog.funcs[f]? = some fn)
    (witness : ∃ (w : World) (tape : Tape) (i : Input), w.os = os ∧ (w.forCall tape i).Shaped C.prog ∧ i.vars = [] ∧ Input.okWide C.prog (w.forCall tape i) .any w.heap.size f i ∧
      s.pre6 enc C.prog fn [] false (w.forCall tape i).memory i.args ∧ ({} : Assume).holds C.prog (lone (Frame.enter C.prog f i.args .normal) [] (w.forCall tape i)))
    (contract : ∀ (W : World) (base : Nat) (args : Array Value) (ds gs : List (DataW H)) (before : List MemPlace),
      (∀ (j : Nat) t v, fn.params[j]? = some t → args[j]? = some v → Value.okWide C.prog W .any base t v) →
      DataW.Whole enc C.prog fn.params.toList s.vars false W args.toList ds gs before →
      (DataW.weightsEach C.prog (fn.params.toList ++ s.plain.varTypes C.prog) (ds ++ gs)).all (· ≤ reachBytes) = true →
      Calls C.prog f args W fun e W' => ∃ v, e = .returned v ∧ s.post enc C.prog fn false true false false W args v W') :
    ReturnsInHanded {} C os f .any (s.pre6 enc C.prog fn [] false) (s.post enc C.prog fn false true false false) := by
  refine returnsInHanded_of_calls own started noInit witness ?_
  intro w tape i _ _ _ hok hpre hholds
  obtain ⟨_, _, _, fn', hfn', _, _, _, _, hval⟩ := hok
  obtain rfl : fn' = fn := Option.some.inj (hfn'.symm.trans hfn)
  obtain ⟨⟨ds, gs, before, hw, _⟩, hz⟩ := hpre
  refine (contract (w.forCall tape i) w.heap.size i.args ds gs before hval (DataW.Whole.of_heap (w' := w.forCall tape i) (by rfl) hw) (hz.weights hw)).mono fun e W' ⟨v, he, hp⟩ => ?_
  subst he
  exact ChangeSpec.post_blind hp
end
end Go.Proofs.Ytcooiollckhdlaa
/- The walks of law 06's small, wakes. Conditions: none. -/
set_option linter.unusedVariables false
set_option linter.unusedSimpArgs false
set_option maxRecDepth 10000
namespace Go.Proofs
open Go Go.Ab
attribute [local irreducible] QR QV OE aops aw dsoup dsoupM dalloc dallocM thn inBlk jsoup jch lsoup
open Go.H
theorem lawSmall  : ACall Try.prog 23 [] [] (fun r h' => h' = [] ∧ r = .agg (grR smallG)) := by
  refine acall_of_aw Try.func23 rfl rfl rfl ?_
  refine rn ?_
  refine aops_e rfl (oe_alloc rfl fun b0 => ?_)
  refine rn ?_
  refine qv rfl rfl (qv_buildSlice rfl rfl) ?_
  refine rn ?_
  exact retq (.cons _ _ _ _ (.agg _ _ _ _ _ _ _ rfl inferInstance inferInstance inferInstance rfl) .nil) (.trans (.drop [_] _ _) (.le (Sb.aggs (aS := [iv 4, .list true 3 (smallG.es.map edR)]) (bs := grR smallG) ⟨.refl _, Sb.lists (fun h => by cases h) (Sbr.refl _), trivial⟩).le)) ⟨rfl, rfl⟩
theorem wOf : ACall Try.prog 8 [.agg (grR smallG)] [] (fun r h' => h' = [] ∧ r = .tup [intsA [0, 1, 1, 2], iv 0]) := (scOf smallG (by decide)).mono fun _ _ q => ⟨q.1, by rw [q.2, sm_of, sm_chk]⟩
theorem wCyc : ACall Try.prog 16 [.agg (grR smallG)] [] (fun r h' => h' = [] ∧ r = .tup [bv true, iv 0]) := (scCyclic smallG (by decide)).mono fun _ _ q => ⟨q.1, by rw [q.2, sm_cyc, sm_chk]⟩
theorem wFold : ACall Try.prog 19 [.agg (grR smallG)] [] (fun r h' => h' = [] ∧ r = .tup [.agg (grR ⟨3, [⟨0, 1, 0⟩, ⟨2, 0, 0⟩]⟩), iv 0]) := (scFoldF smallG (by decide)).mono fun _ _ q => ⟨q.1, by rw [q.2, sm_fold, sm_chk]⟩
theorem wNeg : ACall Try.prog 8 [.agg (grR negG)] [] (fun r h' => h' = [] ∧ r = .tup [intsA [], iv 150]) := (scOf negG (by decide)).mono fun _ _ q => ⟨q.1, by rw [q.2, neg_of, neg_chk]⟩
set_option maxHeartbeats 4000000 in
theorem lawWakes  : ACall Try.prog 6 [] [] (fun r h' => h' = [] ∧ r = bv true) := by
  refine acall_of_aw Try.func6 rfl rfl rfl ?_
  refine rn ?_
  refine qv rfl rfl (qv_call rfl rfl (FCall.pure (R := fun x => x = .agg (grR smallG)) (FCall.of_fun lawSmall))) ?_
  refine qv rfl rfl (qv_call rfl rfl (FCall.pure (R := fun x => x = .tup [intsA [0, 1, 1, 2], iv 0]) (FCall.of_fun wOf))) ?_
  refine rn ?_
  refine qv rfl rfl (qv_call rfl rfl (FCall.pure (R := fun x => x = .agg (grR smallG)) (FCall.of_fun lawSmall))) ?_
  refine qv rfl rfl (qv_call rfl rfl (FCall.pure (R := fun x => x = .tup [bv true, iv 0]) (FCall.of_fun wCyc))) ?_
  refine rn ?_
  refine qv rfl rfl (qv_call rfl rfl (FCall.pure (R := fun x => x = .agg (grR smallG)) (FCall.of_fun lawSmall))) ?_
  refine qv rfl rfl (qv_call rfl rfl (FCall.pure (R := fun x => x = .tup [.agg (grR ⟨3, [⟨0, 1, 0⟩, ⟨2, 0, 0⟩]⟩), iv 0]) (FCall.of_fun wFold))) ?_
  refine rn ?_
  refine aops_e rfl (oe_alloc rfl fun b5 => ?_)
  refine rn ?_
  refine qv rfl rfl (qv_call rfl rfl (FCall.pure (R := fun x => x = .tup [intsA [], iv 150]) (FCall.le (FCall.of_fun wNeg) ⟨(Sb.aggs (aS := [iv (-1), .v (.slice none 0 0)]) (bs := grR negG) ⟨.refl _, .nil _ _, trivial⟩).le, trivial⟩))) ?_
  refine rn ?_
  refine qv rfl rfl (qv_buildSlice rfl rfl) ?_
  refine qv rfl rfl (qv_call rfl rfl (FCall.pure (R := fun x => x = bv true) (FCall.of_fun (eqInt [0, 1, 1, 2] (by decide))))) ?_
  refine rn ?_
  refine qv rfl rfl (qv_buildSlice rfl rfl) ?_
  refine qv rfl rfl (qv_call rfl rfl (FCall.pure (R := fun x => x = bv true) (FCall.of_fun (eqEd [⟨0, 1, 0⟩, ⟨2, 0, 0⟩] (by decide))))) ?_
  refine rn ?_
  refine rq 1 ?_
  exact ⟨rfl, rfl⟩
end Go.Proofs
/- The walk of SccParts. Conditions: none. -/
set_option linter.unusedVariables false
set_option linter.unusedSimpArgs false
set_option maxRecDepth 10000
namespace Go.Proofs
open Go Go.Ab
attribute [local irreducible] QR QV OE aops aw dsoup dsoupM dalloc dallocM thn inBlk jsoup jch lsoup
open Go.H
theorem eqb_v {a b : Bool} (h : a = b) : AV.v (.bool (a == b)) = bv true := by subst h; cases a <;> rfl
end Go.Proofs
/- What a map literal puts in, by a typed map. Conditions: none (rules over any program). -/
set_option linter.unusedVariables false
namespace Go.Ab
open Go
theorem insert_of {P : Program} {ro : Option Nat} {nt : Nat} {s : St} {next : St → Prop} {T : TypeId} {ty : TypeId} {pos : String} {after : Array Edge} {guard : Option (Nat × Bool)} {x y z : Operand} (h : OE P ro nt ⟨none, .mapUpdate T x y z, ty, pos, after, guard⟩ s next) : OE P ro nt ⟨none, .insert T x y z, ty, pos, after, guard⟩ s next := fun X a w K Q hs hK => by
  refine ⟨about_true, ?_⟩
  have h2 := (h X a w K Q hs hK).2
  rw [semAt_nd rfl] at h2 ⊢
  exact h2
end Go.Ab
/- A region that draws its order, with two new boxes among it and a store into the first. Conditions: the program draws freely ('mixedOrders'). -/
set_option linter.unusedVariables false
set_option linter.unusedSimpArgs false
namespace Go.Ab
open Go
abbrev bp (b : Nat) : AV := .v (.pointer (some ⟨b, 0, none⟩))
theorem ent_lk {nt : Nat} {t t' : Fr} {h : List Res} {ds : List Nat} (hs : ∀ i, lk t' i = lk t i) : Ent nt ⟨t, h, ds⟩ ⟨t', h, ds⟩ :=
  ⟨fun _ h => h, fun X ac w hsim => ⟨hsim.heap, hsim.size, fun i av e => hsim.fr i av (by rw [← hs]; exact e), hsim.defs⟩⟩
theorem lk_app {B B' : Fr} (h : ∀ i, lk B i = lk B' i) : ∀ {A : Fr} {i : Nat}, lk (A ++ B) i = lk (A ++ B') i
  | [], i => h i
  | (j, a) :: r, i => by
    simp only [List.cons_append, lk]
    split
    · rfl
    · exact lk_app h
end Go.Ab
/- What an operation leads to may be put in another order. Conditions: none (rules over any program). -/
set_option linter.unusedVariables false
namespace Go.Ab
open Go
theorem oe_ent {P : Program} {ro : Option Nat} {nt : Nat} {o : Oper} {s : St} {next next' : St → Prop} (h : OE P ro nt o s next) (he : ∀ s', next s' → ∃ s'', Ent nt s' s'' ∧ next' s'') : OE P ro nt o s next' := fun X a w K Q hs hK => by
  refine h X a w K Q hs fun s' a' w' hn hs' hk => ?_
  obtain ⟨s'', e, hn'⟩ := he s' hn
  exact hK s'' a' w' hn' (e.2 X a' w' hs') ⟨hk.size, fun b hb ho => ⟨(hk.same b hb ho).1, fun hm => (hk.same b hb ho).2 (e.1 b hm)⟩, hk.env⟩
end Go.Ab
/- A region that draws its order: a chain of operations, and beside it one new box that is stored into behind them, and one operation more that reads no memory. Conditions: the program draws freely ('mixedOrders'). -/
set_option linter.unusedVariables false
set_option linter.unusedSimpArgs false
namespace Go.Ab
open Go
theorem oe_pre {P : Program} {ro : Option Nat} {nt : Nat} {o : Oper} {s s' : St} {next : St → Prop} (h : OE P ro nt o s' next) (he : Ent nt s s') : OE P ro nt o s next := fun X a w K Q hs hK =>
  h X a w K Q (he.2 X a w hs) fun s1 a1 w1 hn hs1 hk => hK s1 a1 w1 hn hs1 (keep_of_sub he.1 hk)
/-- What is beside stays. -/
theorem oe_frame {P : Program} {ro : Option Nat} {nt : Nat} {o : Oper} {t : Fr} {h : List Res} {ds : List Nat} {next : St → Prop} (h2 : List Res) (hoe : OE P ro nt o ⟨t, h, ds⟩ next) : OE P ro nt o ⟨t, h ++ h2, ds⟩ (fun s' => ∃ s0, next s0 ∧ s' = ⟨s0.t, s0.h ++ h2, s0.d⟩) := fun X a w K Q hs hK =>
  hoe (Sub X (owns h2)) a w K Q ⟨hs.heap.part, hs.size, by rw [OO_sub]; exact hs.fr, hs.defs⟩ fun s' a' w' hn hs' hk =>
    hK ⟨s'.t, s'.h ++ h2, s'.d⟩ a' w' ⟨s', hn, rfl⟩ ⟨(hs.heap.join hs'.heap hk).1, hs'.size, by rw [← OO_sub]; exact hs'.fr, hs'.defs⟩ (hs.heap.join hs'.heap hk).2
/-- A row of one's own, just made, is looked at only from here on. -/
theorem ent_freeze_hd {nt : Nat} {d : Nat} {s : Value} {sz : Nat} {T : TypeId} {rows : List (List AV)} {F : Fr} {h : List Res} {ds : List Nat} : Ent nt ⟨(d, .v s) :: F, .row s sz T rows :: h, ds⟩ ⟨(d, .list false sz rows) :: F, h, ds⟩ := by
  refine ⟨fun x hx => by rw [owns_cons]; exact List.mem_append_right _ hx, fun X a w hs => ⟨HRel.drop (h := [_]) hs.heap, hs.size, fun i av e => ?_, hs.defs⟩⟩
  have hf := row_frozen hs.heap
  simp only [lk] at e
  split at e
  · rename_i hb
    obtain rfl := Nat.eq_of_beq_eq_true hb
    injection e with e; subst e
    obtain ⟨v, e1, r⟩ := hs.fr d (.v s) (by simp [lk])
    exact ⟨v, e1, by rw [r.v_eq]; exact hf⟩
  · rename_i hb
    obtain ⟨v, e1, r⟩ := hs.fr i av (by simp only [lk, hb]; exact e)
    exact ⟨v, e1, r.keep (Nat.le_refl _) fun b hb _ => ⟨rfl, fun q => hb (by
      rcases q with q | q
      · exact .inl (by rw [owns_cons]; exact List.mem_append_right _ q)
      · exact .inr q)⟩⟩
theorem oe_append_fz {P : Program} {ro : Option Nat} {nt : Nat} {x y : Operand} {h : List Res} {ty : TypeId} {pos : String} {after : Array Edge} {guard : Option (Nat × Bool)} {T T2 E E2 bytes sz : Nat} {zv : Value} {full : Bool} {s : Value} {xs ys : List (List AV)} {t : Fr} {ds : List Nat} {d : Tmp} {next : St → Prop} (hx : ev t x = some (.v s)) (hy : ev t y = some (.list full sz ys))
    [Und P T (.slice E)] [Und P T2 (.slice E2)] [Siz P E sz] [Byt P E bytes] [ZerV P E zv] (hneed : xs.length + ys.length ≤ 1099511627776) (hd : dok nt (some d) = true)
    (hk : next ⟨(d, .list false sz (xs ++ ys)) :: t, h, ds⟩) (hone : ∀ r ∈ ys, r.all AV.one = true) (hb : bytes ≤ 128 := by decide) (hzs : zv.cells.size = sz := by rfl) :
    OE P ro nt ⟨some d, .call ⟨.builtin .append, [x, y].toArray, [T, T2].toArray⟩, ty, pos, after, guard⟩ ⟨t, .row s sz E xs :: h, ds⟩ next :=
  oe_ent (next := fun s' => ∃ s27 : Value, s' = ⟨(d, .v s27) :: t, .row s27 sz E (xs ++ ys) :: h, ds⟩) (oe_append_row hx hy hneed hd (fun s27 => ⟨s27, rfl⟩) hone hb hzs) (by
    rintro _ ⟨s27, rfl⟩
    exact ⟨_, ent_freeze_hd, hk⟩)
theorem lk_apx : ∀ {A B : Fr} {i : Nat}, lk (A ++ B) i = match lk A i with
    | some a => some a
    | none => lk B i
  | [], B, i => rfl
  | (j, a) :: r, B, i => by
    simp only [List.cons_append, lk]
    cases Nat.beq j i with
    | true => rfl
    | false => exact lk_apx
theorem lk_appL {A A' B : Fr} (h : ∀ i, lk A i = lk A' i) (i : Nat) : lk (A ++ B) i = lk (A' ++ B) i := by rw [lk_apx, lk_apx, h]
theorem lk_fltC {ds : List Tmp} {e e' : Fr} (h : ∀ i, ds.any (Nat.beq i) = true → lk e i = lk e' i) (i : Nat) : lk (fltP ds e) i = lk (fltP ds e') i := by
  cases hq : ds.any (Nat.beq i) with
  | true =>
    show lk (e.filter fun p => (fun j => ds.any (Nat.beq j)) p.1) i = lk (e'.filter fun p => (fun j => ds.any (Nat.beq j)) p.1) i
    rw [lk_flt (q := fun j => ds.any (Nat.beq j)) hq, lk_flt (q := fun j => ds.any (Nat.beq j)) hq, h i hq]
  | false =>
    show lk (e.filter fun p => (fun j => ds.any (Nat.beq j)) p.1) i = lk (e'.filter fun p => (fun j => ds.any (Nat.beq j)) p.1) i
    rw [lk_fltN (q := fun j => ds.any (Nat.beq j)) hq, lk_fltN (q := fun j => ds.any (Nat.beq j)) hq]
theorem ev_lk {t t' : Fr} (h : ∀ i, lk t i = lk t' i) (x : Operand) : ev t x = ev t' x := by
  cases x with
  | tmp i => exact h i
  | _ => rfl
theorem ev_lkf {t t' : Fr} (h : ∀ i, lk t i = lk t' i) : ev t = ev t' := funext (ev_lk h)
theorem lk_stF {o : Oper} {av : AV} {f f' : Fr} (h : ∀ i, lk f i = lk f' i) (i : Nat) : lk (stF o av f) i = lk (stF o av f') i := by
  unfold stF
  cases o.dst with
  | none => exact h i
  | some d =>
    simp only [lk]
    split
    · rfl
    · exact h i
theorem take_idx {l : List Nat} (hn : l.Nodup) {k m : Nat} (hm : m < l.length) : l[m] ∈ l.take k ↔ m < k := by
  rw [List.mem_take_iff_getElem]
  constructor
  · rintro ⟨q, hq, e⟩
    have hn := List.pairwise_iff_getElem.1 hn
    rcases Nat.lt_trichotomy q m with h | h | h
    · exact absurd e (hn q m (by omega) hm h)
    · omega
    · exact absurd e.symm (hn m q hm (by omega) h)
  · intro h; exact ⟨m, by omega, rfl⟩
/-- What stands to the side is not among those that are asked for. -/
theorem lk_side {ds : List Tmp} : ∀ {p f : Fr}, (∀ q ∈ p, ds.any (Nat.beq q.1) = false) → ∀ i, ds.any (Nat.beq i) = true → lk (p ++ f) i = lk f i
  | [], f, _, i, _ => rfl
  | (j, a) :: r, f, h, i, hi => by
    simp only [List.cons_append, lk]
    cases e : Nat.beq j i with
    | true => rw [← Nat.eq_of_beq_eq_true e, h (j, a) (by simp)] at hi; cases hi
    | false => exact lk_side (fun q hq => h q (List.mem_cons_of_mem _ hq)) i hi
theorem lk_mid {d : Nat} {av : AV} : ∀ {p f : Fr}, (∀ q ∈ p, q.1 ≠ d) → ∀ i, lk ((d, av) :: (p ++ f)) i = lk (p ++ ((d, av) :: f)) i
  | [], f, _, i => rfl
  | (j, a) :: r, f, h, i => by
    have ih := lk_mid (d := d) (av := av) (p := r) (f := f) (fun q hq => h q (List.mem_cons_of_mem _ hq)) i
    have hj : j ≠ d := h (j, a) (by simp)
    simp only [List.cons_append, lk] at ih ⊢
    cases e1 : Nat.beq j i with
    | false => exact ih
    | true =>
      cases e2 : Nat.beq d i with
      | false => rfl
      | true => exact absurd ((Nat.eq_of_beq_eq_true e1).trans (Nat.eq_of_beq_eq_true e2).symm) hj
theorem lk_stMid {o : Oper} {av : AV} {p f : Fr} (h : ∀ q ∈ p, ∀ d, o.dst = some d → q.1 ≠ d) (i : Nat) : lk (stF o av (p ++ f)) i = lk (p ++ stF o av f) i := by
  unfold stF
  cases hd : o.dst with
  | none => rfl
  | some d => exact lk_mid (fun q hq => h q hq d hd) i
def nowait (l : List Oper) (d : Tmp) (is : List Nat) : Bool := is.all fun i => match l[i]? with
  | some o => !(pdst l o).any (Nat.beq d)
  | none => true
theorem nowait_at {l : List Oper} {d : Tmp} {is : List Nat} (h : nowait l d is = true) {i : Nat} (hi : i ∈ is) {o : Oper} (ho : l[i]? = some o) : (pdst l o).any (Nat.beq d) = false := by
  have := List.all_eq_true.1 h i hi
  rw [ho] at this
  simpa using this
section
variable {P : Program} {ro : Option Nat} {nt : Nat} {l : List Oper} {dsl : List Nat} {C0 : List Res → Prop} {E tt : Fr}
/-- One step of a chain, among what stands to the side. -/
theorem chain_step {eff : List Nat} {k : Nat} (hk : k < eff.length) {eeC ee : Fr} {heC bx : List Res} {p : Fr} {K : Fr → List Res → Prop} (hj : jch P ro nt C0 l dsl E tt (eff.drop k) eeC heC K) {o : Oper} (ho : l[eff[k]]? = some o)
    (hlk : ∀ d, lk ee d = lk (p ++ eeC) d) (hp : ∀ q ∈ p, (pdst l o).any (Nat.beq q.1) = false) (hd : ∀ q ∈ p, ∀ d, o.dst = some d → q.1 ≠ d) (u : Fr) {next : St → Prop}
    (hn : ∀ av he', C0 he' → jch P ro nt C0 l dsl E tt (eff.drop (k + 1)) (stF o av eeC) he' K → (∀ d, lk (stF o av ee) d = lk (p ++ stF o av eeC) d) → next ⟨stF o av (fltP (pdst l o) E ++ (fltP (pdst l o) ee ++ (tt ++ u))), he' ++ bx, dsl⟩) :
    OE P ro nt o ⟨fltP (pdst l o) E ++ (fltP (pdst l o) ee ++ (tt ++ u)), heC ++ bx, dsl⟩ next := by
  rw [List.drop_eq_getElem_cons hk] at hj
  obtain ⟨o', ho', hoe⟩ := hj
  obtain rfl : o' = o := Option.some.inj (ho'.symm.trans ho)
  have hfr : ∀ d, lk (fltP (pdst l o') E ++ (fltP (pdst l o') eeC ++ (tt ++ u))) d = lk (fltP (pdst l o') E ++ (fltP (pdst l o') ee ++ (tt ++ u))) d :=
    fun d => lk_app (fun d => lk_appL (lk_fltC fun d hd => by rw [hlk, lk_side hp d hd]) d)
  refine oe_pre (oe_ent (oe_frame bx (hoe u)) ?_) (ent_lk hfr)
  rintro _ ⟨_, ⟨av, he', rfl, hC', hj'⟩, rfl⟩
  exact ⟨_, ent_lk (fun d => (lk_stF hfr d).symm), hn av he' hC' hj' fun d => by rw [lk_stF hlk, lk_stMid hd]⟩
end
theorem aw_drawCB {P : Program} {ro : Option Nat} {nt rid : Nat} {Q : Exit → St → Prop} {l : List Oper} {t : Fr} {h : List Res} {dsl : List Nat} (n : Nat) (eff1 eff2 : List Nat) (a s x da dx : Nat) (T : TypeId) (C0 : List Res → Prop) {m : Nat} {zs : List Value} {y : Operand} {opx : Op}
    {ta ts tx : TypeId} {pa ps px : String} {aa sa ax : Array Edge} [hm : Mixed P] [hz : Zer P T zs] [Siz P T m] (hc : soupJ l n (a :: s :: x :: (eff1 ++ eff2)) [] = true) (hch : chainJ l n (eff1 ++ eff2) = true)
    (ha : l[a]? = some ⟨some da, .alloc T, ta, pa, aa, none⟩) (hs : l[s]? = some ⟨none, .store T (.tmp da) y, ts, ps, sa, none⟩) (hx : l[x]? = some ⟨some dx, opx, tx, px, ax, none⟩)
    (hlast : ((a :: (eff1 ++ eff2)).all fun i => (clos l s (predsOf l s)).any (Nat.beq i)) = true) (hlastx : (eff1.all fun i => (clos l x (predsOf l x)).any (Nat.beq i)) = true)
    (hfree : (nowait l da (x :: (eff1 ++ eff2)) && nowait l dx (s :: eff2)) = true) (hfree2 : (eff2.all fun i => match dstOf l i with
      | some d => !(pdst l ⟨some dx, opx, tx, px, ax, none⟩).any (Nat.beq d)
      | none => true) = true)
    (hnd : nodupB (a :: s :: x :: (eff1 ++ eff2)) = true) (hlt : ((a :: s :: x :: (eff1 ++ eff2)).all fun i => Nat.blt i n) = true) (hda : dok nt (some da) = true) (hdx : dok nt (some dx) = true) (hnx : notDefer ⟨some dx, opx, tx, px, ax, none⟩ = true) (hzm : zs.length = m) (h0 : C0 h)
    (hk : jsoup P ro nt (fun _ he => C0 he ∨ ∃ b cs heC, C0 heC ∧ he = heC ++ [.box b T cs]) l (a :: s :: x :: (eff1 ++ eff2)) (fun _ => sdst l n) t (l.take n) 0 [] (fun E =>
      jch P ro nt C0 l dsl E (fltN (sdst l n) t) eff1 [] h (fun ee1 he1 => ∃ vx, (∀ u he, QR P he (ev (fltP (pdst l ⟨some dx, opx, tx, px, ax, none⟩) E ++ (fltP (pdst l ⟨some dx, opx, tx, px, ax, none⟩) ee1 ++ (fltN (sdst l n) t ++ u)))) ⟨some dx, opx, tx, px, ax, none⟩ vx) ∧
        jch P ro nt C0 l dsl E (fltN (sdst l n) t) eff2 ee1 he1 (fun ee he => ∃ V : List AV, V.length = m ∧ (AV.agg V).cellsOf = some V ∧
        (∀ u b, ev (fltP (pdst l ⟨none, .store T (.tmp da) y, ts, ps, sa, none⟩) E ++ (fltP (pdst l ⟨none, .store T (.tmp da) y, ts, ps, sa, none⟩) ((da, bp b) :: ee) ++ (fltN (sdst l n) t ++ u))) (.tmp da) = some (bp b) ∧
          ev (fltP (pdst l ⟨none, .store T (.tmp da) y, ts, ps, sa, none⟩) E ++ (fltP (pdst l ⟨none, .store T (.tmp da) y, ts, ps, sa, none⟩) ((da, bp b) :: ee) ++ (fltN (sdst l n) t ++ u))) y = some (.agg V)) ∧
        ∀ b, aops P ro nt l.toArray (l.drop n) Q ⟨(E ++ ((dx, vx) :: (da, bp b) :: ee)) ++ t, .box b T V :: he, dsl⟩)))) :
    aw P ro nt (.region rid l.toArray true) Q ⟨t, h, dsl⟩ := by
  have hD := soupD_of hc
  have hnd' := nodupB_of hnd
  obtain ⟨ha1, hnd1⟩ := List.nodup_cons.1 hnd'
  obtain ⟨hs1, hnd2⟩ := List.nodup_cons.1 hnd1
  obtain ⟨hx1, hndE⟩ := List.nodup_cons.1 hnd2
  obtain ⟨hn1, hn2, hn12⟩ := List.nodup_append.1 hndE
  have has : a ≠ s := fun e => ha1 (by rw [e]; simp)
  have hax : a ≠ x := fun e => ha1 (by rw [e]; simp)
  have hsx : s ≠ x := fun e => hs1 (by rw [e]; simp)
  simp only [Bool.and_eq_true] at hfree
  have hin : ∀ i, i ∈ a :: s :: x :: (eff1 ++ eff2) → i < n := fun i hi => Nat.le_of_ble_eq_true (List.all_eq_true.1 hlt i hi)
  have hpre : ∀ i, i ∈ a :: (eff1 ++ eff2) → i ∈ clos l s (predsOf l s) := fun i hi => by
    obtain ⟨x, hx, e⟩ := List.any_eq_true.1 (List.all_eq_true.1 hlast i hi)
    rw [Nat.eq_of_beq_eq_true e]; exact hx
  have hprex : ∀ i, i ∈ eff1 → i ∈ clos l x (predsOf l x) := fun i hi => by
    obtain ⟨x, hx, e⟩ := List.any_eq_true.1 (List.all_eq_true.1 hlastx i hi)
    rw [Nat.eq_of_beq_eq_true e]; exact hx
  have hdsts : ∀ i o d, i ∈ a :: s :: x :: (eff1 ++ eff2) → l[i]? = some o → o.dst = some d → ∀ j d', j ∈ a :: s :: x :: (eff1 ++ eff2) → j ≠ i → dstOf l j = some d' → d ≠ d' := fun i o d hi ho hd j d' hj hji hd' => by
    obtain ⟨o2, g1, _, _, g4⟩ := hD.dst _ (hin _ hi)
    obtain rfl : o2 = o := Option.some.inj (g1.symm.trans ho)
    exact g4 d hd j (hin j hj) hji d' hd'
  have dda : dstOf l a = some da := by simp [dstOf, ha]
  have ddx : dstOf l x = some dx := by simp [dstOf, hx]
  have hdd : da ≠ dx := hdsts a _ da (by simp) ha rfl x dx (by simp) (Ne.symm hax) ddx
  refine aw_drawJ n (a :: s :: x :: (eff1 ++ eff2)) [] (fun he => C0 he ∨ ∃ b cs heC, C0 heC ∧ he = heC ++ [.box b T cs]) hc ?_
  rw [List.append_nil]
  refine jsoup_mono _ _ _ _ _ (fun E hE => ?_) hk
  generalize htt : fltN (sdst l n) t = tt at hE ⊢
  generalize hso : (⟨none, .store T (.tmp da) y, ts, ps, sa, none⟩ : Oper) = so at hE hs
  generalize hxo : (⟨some dx, opx, tx, px, ax, none⟩ : Oper) = xo at hE hx hfree2 hnx
  have hxod : xo.dst = some dx := by rw [← hxo]
  let XOK : AV → Fr → Prop := fun vx ee1 => ∀ u he, QR P he (ev (fltP (pdst l xo) E ++ (fltP (pdst l xo) ee1 ++ (tt ++ u)))) xo vx
  let K2 : AV → Fr → List Res → Prop := fun vx ee he => ∃ V : List AV, V.length = m ∧ (AV.agg V).cellsOf = some V ∧
        (∀ u b, ev (fltP (pdst l so) E ++ (fltP (pdst l so) ((da, bp b) :: ee) ++ (tt ++ u))) (.tmp da) = some (bp b) ∧
          ev (fltP (pdst l so) E ++ (fltP (pdst l so) ((da, bp b) :: ee) ++ (tt ++ u))) y = some (.agg V)) ∧
        ∀ b, aops P ro nt l.toArray (l.drop n) Q ⟨(E ++ ((dx, vx) :: (da, bp b) :: ee)) ++ t, .box b T V :: he, dsl⟩
  let K1 : Fr → List Res → Prop := fun ee1 he1 => ∃ vx, XOK vx ee1 ∧ jch P ro nt C0 l dsl E tt eff2 ee1 he1 (K2 vx)
  have hE : jch P ro nt C0 l dsl E tt eff1 [] h K1 := hE
  -- where the box stands, where the chain, where the one to the side
  let BX : List Nat → Fr → List Res → Prop := fun L eb bx => (a ∉ L ∧ eb = [] ∧ bx = []) ∨ (∃ b, a ∈ L ∧ eb = [(da, bp b)] ∧ bx = [.box b T (zs.map .v)])
  let SX : List Nat → AV → Fr → Prop := fun L vx ex => (x ∉ L ∧ ex = []) ∨ (x ∈ L ∧ ex = [(dx, vx)])
  let SA : List Nat → Fr → Fr → List Res → Prop := fun L ex eeC heC => ∃ k, k ≤ eff1.length ∧ (∀ i, i ∈ eff1 → (i ∈ L ↔ i ∈ eff1.take k)) ∧ (∀ i, i ∈ eff2 → i ∉ L) ∧ x ∉ L ∧ ex = [] ∧ jch P ro nt C0 l dsl E tt (eff1.drop k) eeC heC K1
  let SB : List Nat → Fr → Fr → List Res → Prop := fun L ex eeC heC => ∃ vx k, k ≤ eff2.length ∧ (∀ i, i ∈ eff1 → i ∈ L) ∧ (∀ i, i ∈ eff2 → (i ∈ L ↔ i ∈ eff2.take k)) ∧ XOK vx eeC ∧ SX L vx ex ∧ jch P ro nt C0 l dsl E tt (eff2.drop k) eeC heC (K2 vx)
  let SC : List Nat → Fr → Fr → List Res → Fr → List Res → Prop := fun L ex eb bx eeC heC => ∃ b V vx, a ∈ L ∧ s ∈ L ∧ (∀ i, i ∈ eff1 ++ eff2 → i ∈ L) ∧ eb = [(da, bp b)] ∧ bx = [.box b T V] ∧ XOK vx eeC ∧ SX L vx ex ∧ aops P ro nt l.toArray (l.drop n) Q ⟨(E ++ ((dx, vx) :: (da, bp b) :: eeC)) ++ t, .box b T V :: heC, dsl⟩
  have hAB : ∀ {L ex eeC heC}, SA L ex eeC heC → (∀ i, i ∈ eff1 → i ∈ L) → SB L ex eeC heC := by
    rintro L ex eeC heC ⟨k, hkl, h1, h2, h3, h4, h5⟩ hall
    have hkk : k = eff1.length := by
      refine Nat.le_antisymm hkl (Nat.le_of_not_lt fun q => ?_)
      have := (take_idx hn1 q).1 ((h1 _ (List.getElem_mem q)).1 (hall _ (List.getElem_mem q)))
      omega
    subst hkk
    rw [List.drop_length] at h5
    obtain ⟨vx, hX, hj⟩ := h5
    exact ⟨vx, 0, Nat.zero_le _, hall, fun i hi => ⟨fun q => absurd q (h2 i hi), fun q => by simp at q⟩, hX, .inl ⟨h3, h4⟩, hj⟩
  have hbk : ∀ {L eb bx}, BX L eb bx → ∀ q ∈ eb, q.1 = da := by
    rintro L eb bx (⟨_, rfl, _⟩ | ⟨b, _, rfl, _⟩) q hq
    · cases hq
    · rw [List.mem_singleton] at hq; rw [hq]
  have hxk : ∀ {L vx ex}, SX L vx ex → ∀ q ∈ ex, q.1 = dx := by
    rintro L vx ex (⟨_, rfl⟩ | ⟨_, rfl⟩) q hq
    · cases hq
    · rw [List.mem_singleton] at hq; rw [hq]
  refine ⟨fun L ee he => ∃ ex eb bx eeC heC, (∀ d, lk ee d = lk ((ex ++ eb) ++ eeC) d) ∧ he = heC ++ bx ∧ C0 heC ∧ ((s ∉ L ∧ BX L eb bx ∧ (SA L ex eeC heC ∨ SB L ex eeC heC)) ∨ SC L ex eb bx eeC heC),
    ⟨[], [], [], [], h, fun _ => rfl, (List.append_nil _).symm, h0, .inl ⟨by simp, .inl ⟨by simp, rfl, rfl⟩, .inl ⟨0, Nat.zero_le _, fun i _ => by simp, fun i _ => by simp, by simp, rfl, hE⟩⟩⟩, ?_, ?_, ?_⟩
  · rintro L ee he ⟨ex, eb, bx, eeC, heC, _, rfl, hC, ⟨_, ⟨_, _, rfl⟩ | ⟨b, _, _, rfl⟩, _⟩ | ⟨b, V, vx, _, _, _, _, rfl, _⟩⟩
    · exact .inl (by rw [List.append_nil]; exact hC)
    · exact .inr ⟨b, _, heC, hC, rfl⟩
    · exact .inr ⟨b, _, heC, hC, rfl⟩
  · rintro L ee he ⟨ex, eb, bx, eeC, heC, hlk, rfl, hC, hJ⟩ i o hi hiL ho hb u
    have hsub : ∀ {i j : Nat} {L : List Nat} {p : Prop}, j ≠ i → (i ∈ L ↔ p) → (i ∈ j :: L ↔ p) := fun hne h => by rw [List.mem_cons, h]; exact ⟨fun q => q.elim (fun e => absurd e.symm hne) id, .inr⟩
    rcases List.mem_cons.1 hi with rfl | hi'
    · -- the box
      obtain rfl : _ = o := Option.some.inj (ha.symm.trans ho)
      rcases hJ with ⟨h2, ⟨_, rfl, rfl⟩ | ⟨b, h1, _⟩, hS⟩ | ⟨_, _, _, h1, _⟩
      · rw [List.append_nil] at hlk ⊢
        refine oe_ent (next := fun s' => ∃ b, s' = ⟨(da, bp b) :: (fltP (pdst l ⟨some da, .alloc T, ta, pa, aa, none⟩) E ++ (fltP (pdst l ⟨some da, .alloc T, ta, pa, aa, none⟩) ee ++ (tt ++ u))), .box b T (zs.map .v) :: heC, dsl⟩) (oe_alloc hda fun b => ⟨b, rfl⟩) ?_
        rintro _ ⟨b, rfl⟩
        have hxk' : ∀ q ∈ ex, q.1 ≠ da := fun q hq => by
          rcases hS with ⟨k, _, _, _, _, rfl, _⟩ | ⟨vx, k, _, _, _, _, hX, _⟩
          · cases hq
          · rw [hxk hX q hq]; exact Ne.symm hdd
        refine ⟨⟨_, heC ++ [.box b T (zs.map .v)], dsl⟩, ent_perm (by exact (List.perm_append_comm (l₁ := [_]))), bp b, _, rfl, ex, [(da, bp b)], [.box b T (zs.map .v)], eeC, heC, fun d => ?_, rfl, hC, .inl ⟨fun q => ?_, .inr ⟨b, by simp, rfl, rfl⟩, ?_⟩⟩
        · show lk ((da, bp b) :: ee) d = _
          rw [List.append_assoc, List.singleton_append, ← lk_mid hxk']
          simp only [lk]
          split
          · rfl
          · exact hlk d
        · rcases List.mem_cons.1 q with q | q
          · exact has q.symm
          · exact h2 q
        · have hn : ∀ j, j ∈ eff1 ++ eff2 → i ≠ j := fun j hj e => ha1 (by rw [e]; simp only [List.mem_cons]; exact .inr (.inr hj))
          rcases hS with ⟨k, g1, g2, g3, g4, g5, g6⟩ | ⟨vx, k, g1, g2, g3, g4, g5, g6⟩
          · exact .inl ⟨k, g1, fun j hj => hsub (hn j (List.mem_append_left _ hj)) (g2 j hj), fun j hj q => (List.mem_cons.1 q).elim (fun e => hn j (List.mem_append_right _ hj) e.symm) (g3 j hj), fun q => (List.mem_cons.1 q).elim (fun e => hax e.symm) g4, g5, g6⟩
          · exact .inr ⟨vx, k, g1, fun j hj => List.mem_cons_of_mem _ (g2 j hj), fun j hj => hsub (hn j (List.mem_append_right _ hj)) (g3 j hj), g4, g5.imp (fun ⟨q1, q2⟩ => ⟨fun q => (List.mem_cons.1 q).elim (fun e => hax e.symm) q1, q2⟩) (fun ⟨q1, q2⟩ => ⟨List.mem_cons_of_mem _ q1, q2⟩), g6⟩
      · exact absurd h1 hiL
      · exact absurd h1 hiL
    rcases List.mem_cons.1 hi' with rfl | hi''
    · -- the store
      obtain rfl : so = o := Option.some.inj (hs.symm.trans ho)
      have haL : a ∈ L := hb a (hpre a (by simp)) (by simp)
      have hall : ∀ j, j ∈ eff1 ++ eff2 → j ∈ L := fun j hj => hb j (hpre j (List.mem_cons_of_mem _ hj)) (by simp only [List.mem_cons]; exact .inr (.inr (.inr hj)))
      rcases hJ with ⟨h2, ⟨h1, _⟩ | ⟨b, h1, rfl, rfl⟩, hS⟩ | ⟨_, _, _, _, h2, _⟩
      · exact absurd haL h1
      · have hS : SB L ex eeC heC := hS.elim (fun q => hAB q fun j hj => hall j (List.mem_append_left _ hj)) id
        obtain ⟨vx, k, hkl, g2, g3, g4, g5, g6⟩ := hS
        have hkk : k = eff2.length := by
          refine Nat.le_antisymm hkl (Nat.le_of_not_lt fun q => ?_)
          have := (take_idx hn2 q).1 ((g3 _ (List.getElem_mem q)).1 (hall _ (List.mem_append_right _ (List.getElem_mem q))))
          omega
        subst hkk
        rw [List.drop_length] at g6
        obtain ⟨V, hV, hVc, hev, hfin⟩ := g6
        obtain ⟨e1, e2⟩ := hev u b
        have hfr : ∀ d, lk (fltP (pdst l so) E ++ (fltP (pdst l so) ((da, bp b) :: eeC) ++ (tt ++ u))) d = lk (fltP (pdst l so) E ++ (fltP (pdst l so) ee ++ (tt ++ u))) d := by
          refine fun d => lk_app (fun d => lk_appL (lk_fltC fun d hd => ?_) d)
          rw [hlk, List.append_assoc, lk_side (fun q hq => ?_) d hd]; rfl
          rw [hxk g5 q hq]; exact nowait_at hfree.2 (by simp) hs
        rw [ev_lk hfr] at e1 e2
        subst hso
        refine oe_pre (s' := ⟨_, .box b T (zs.map .v) :: heC, dsl⟩) ?_ (ent_perm (by exact (List.perm_append_comm (l₂ := [_]))))
        refine oe_ent (next := fun s' => s' = ⟨_, .box b T V :: heC, dsl⟩) (oe_store_all e1 e2 hVc rfl hV (by simp [hzm])) ?_
        rintro _ rfl
        refine ⟨⟨_, heC ++ [.box b T V], dsl⟩, ent_perm (by exact (List.perm_append_comm (l₁ := [_]))), .any, _, rfl, ex, [(da, bp b)], [.box b T V], eeC, heC, hlk, rfl, hC, .inr ⟨b, V, vx, List.mem_cons_of_mem _ h1, by simp, fun j hj => List.mem_cons_of_mem _ (hall j hj), rfl, rfl, g4, g5.imp (fun ⟨q1, q2⟩ => ⟨fun q => (List.mem_cons.1 q).elim (fun e => hsx e.symm) q1, q2⟩) (fun ⟨q1, q2⟩ => ⟨List.mem_cons_of_mem _ q1, q2⟩), hfin b⟩⟩
      · exact absurd h2 hiL
    rcases List.mem_cons.1 hi'' with rfl | hi3
    · -- the one to the side
      obtain rfl : xo = o := Option.some.inj (hx.symm.trans ho)
      have hall1 : ∀ j, j ∈ eff1 → j ∈ L := fun j hj => hb j (hprex j hj) (by simp only [List.mem_cons, List.mem_append]; exact .inr (.inr (.inr (.inl hj))))
      have hbkk : ∀ q ∈ eb, q.1 = da := by
        rcases hJ with ⟨_, hB, _⟩ | ⟨b, V, vx, _, _, _, rfl, _⟩
        · exact hbk hB
        · intro q hq; rw [List.mem_singleton] at hq; rw [hq]
      have step : ∀ vx, XOK vx eeC → ex = [] → OE P ro nt xo ⟨fltP (pdst l xo) E ++ (fltP (pdst l xo) ee ++ (tt ++ u)), heC ++ bx, dsl⟩ (fun s' => s' = ⟨(dx, vx) :: (fltP (pdst l xo) E ++ (fltP (pdst l xo) ee ++ (tt ++ u))), heC ++ bx, dsl⟩) := fun vx hX hex => by
        have hfr : ∀ d, lk (fltP (pdst l xo) E ++ (fltP (pdst l xo) eeC ++ (tt ++ u))) d = lk (fltP (pdst l xo) E ++ (fltP (pdst l xo) ee ++ (tt ++ u))) d := by
          refine fun d => lk_app (fun d => lk_appL (lk_fltC fun d hd => ?_) d)
          rw [hlk, hex, List.nil_append, lk_side (fun q hq => ?_) d hd]
          rw [hbkk q hq]; exact nowait_at hfree.1 (by simp) hx
        have := hX u (heC ++ bx)
        rw [ev_lkf hfr] at this
        subst hxo
        exact oe_q this rfl hdx hnx
      have hlk' : ∀ vx, ex = [] → ∀ d, lk (stF xo vx ee) d = lk (([(dx, vx)] ++ eb) ++ eeC) d := fun vx hex d => by
        subst hex
        rw [lk_stF hlk]
        unfold stF
        rw [hxod]; rfl
      rcases hJ with ⟨h2, hB, hS⟩ | ⟨b, V, vx, g1, g2, g3, g4, g5, g6, g7, g8⟩
      · have hS : SB L ex eeC heC := hS.elim (fun q => hAB q hall1) id
        obtain ⟨vx, k, hkl, g2, g3, g4, ⟨g5, g6⟩ | ⟨g5, _⟩, g7⟩ := hS
        · refine oe_ent (step vx g4 g6) ?_
          rintro _ rfl
          refine ⟨_, ent_perm (.refl _), vx, heC ++ bx, by unfold stF; rw [hxod], [(dx, vx)], eb, bx, eeC, heC, hlk' vx g6, rfl, hC, .inl ⟨fun q => (List.mem_cons.1 q).elim hsx h2, ?_, .inr ⟨vx, k, hkl, fun j hj => List.mem_cons_of_mem _ (g2 j hj), fun j hj => hsub (fun e => hx1 (e ▸ List.mem_append_right _ hj)) (g3 j hj), g4, .inr ⟨by simp, rfl⟩, g7⟩⟩⟩
          rcases hB with ⟨q1, q2⟩ | ⟨b, q1, q2⟩
          · exact .inl ⟨fun q => (List.mem_cons.1 q).elim hax q1, q2⟩
          · exact .inr ⟨b, List.mem_cons_of_mem _ q1, q2⟩
        · exact absurd g5 hiL
      · rcases g7 with ⟨q1, q2⟩ | ⟨q1, _⟩
        · refine oe_ent (step vx g6 q2) ?_
          rintro _ rfl
          exact ⟨_, ent_perm (.refl _), vx, heC ++ bx, by unfold stF; rw [hxod], [(dx, vx)], eb, bx, eeC, heC, hlk' vx q2, rfl, hC, .inr ⟨b, V, vx, List.mem_cons_of_mem _ g1, List.mem_cons_of_mem _ g2, fun j hj => List.mem_cons_of_mem _ (g3 j hj), g4, g5, g6, .inr ⟨by simp, rfl⟩, g8⟩⟩
        · exact absurd q1 hiL
    · -- the chain
      have hia : ∀ j, i = j → j ∈ eff1 ++ eff2 := fun j e => e ▸ hi3
      have hni : ∀ j ∈ [a, s, x], j ≠ i := by
        intro j hj e
        have hj' : i ∈ [a, s, x] := e ▸ hj
        simp only [List.mem_cons, List.not_mem_nil, or_false] at hj'
        rcases hj' with e | e | e
        · exact ha1 (by rw [← e]; simp only [List.mem_cons]; exact .inr (.inr hi3))
        · exact hs1 (by rw [← e]; exact List.mem_cons_of_mem _ hi3)
        · exact hx1 (by rw [← e]; exact hi3)
      have hdap : (pdst l o).any (Nat.beq da) = false := nowait_at hfree.1 (List.mem_cons_of_mem _ hi3) ho
      have hdan : ∀ d, o.dst = some d → da ≠ d := fun d hd => Ne.symm (hdsts i o d hi ho hd a da (by simp) (hni a (by simp)) dda)
      have hdxn : ∀ d, o.dst = some d → dx ≠ d := fun d hd => Ne.symm (hdsts i o d hi ho hd x dx (by simp) (hni x (by simp)) ddx)
      have hBi : ∀ {eb bx}, BX L eb bx → BX (i :: L) eb bx := by
        rintro eb bx (⟨q1, q2⟩ | ⟨b, q1, q2⟩)
        · exact .inl ⟨fun q => (List.mem_cons.1 q).elim (hni a (by simp)) q1, q2⟩
        · exact .inr ⟨b, List.mem_cons_of_mem _ q1, q2⟩
      rcases hJ with ⟨h2, hB, hS⟩ | ⟨b, V, vx, g1, g2, g3, _⟩
      · have hs2 : s ∉ i :: L := fun q => (List.mem_cons.1 q).elim (hni s (by simp)) h2
        obtain ⟨m', hm', hie⟩ := List.getElem_of_mem hi3
        by_cases hm1 : m' < eff1.length
        · -- the first part
          have hmem : eff1[m'] = i := by rw [← hie, List.getElem_append_left hm1]
          subst hmem
          rcases hS with ⟨k, hkl, q1, q2, q3, rfl, q5⟩ | ⟨vx, k, _, q2, _⟩
          · have hmk : m' = k := by
              have hkm : k ≤ m' := Nat.le_of_not_lt fun q => hiL ((q1 _ (List.getElem_mem hm1)).2 ((take_idx hn1 hm1).2 q))
              rcases Nat.eq_or_lt_of_le hkm with q | q
              · exact q.symm
              · exfalso
                obtain ⟨m', rfl⟩ : ∃ m'', m' = m'' + 1 := ⟨m' - 1, by omega⟩
                have hcl := chain_at hch m' hm'
                rw [List.getElem_append_left (show m' < eff1.length by omega), List.getElem_append_left hm1] at hcl
                have h1 := hb _ hcl (by simp only [List.mem_cons, List.mem_append]; exact .inr (.inr (.inr (.inl (List.getElem_mem _)))))
                have := (take_idx hn1 (by omega)).1 ((q1 _ (List.getElem_mem _)).1 h1)
                omega
            subst hmk
            refine chain_step hm1 q5 ho hlk (fun q hq => ?_) (fun q hq d hd => ?_) u fun av he' hC' hj' hl' => ⟨av, he' ++ bx, rfl, [], eb, bx, _, he', hl', rfl, hC', .inl ⟨hs2, hBi hB, .inl ⟨m' + 1, hm1, fun j hj => ?_, fun j hj q => ?_, fun q => (List.mem_cons.1 q).elim (hni x (by simp)) q3, rfl, hj'⟩⟩⟩
            · rw [hbk hB q hq]; exact hdap
            · rw [hbk hB q hq]; exact hdan d hd
            · rw [List.take_succ_eq_append_getElem hm1, List.mem_cons, List.mem_append, List.mem_singleton, q1 j hj, or_comm]
            · rcases List.mem_cons.1 q with q | q
              · exact hn12 _ (List.getElem_mem hm1) j hj q.symm
              · exact q2 j hj q
          · exact absurd (q2 _ (List.getElem_mem hm1)) hiL
        · -- the second
          have hm2 : m' - eff1.length < eff2.length := by rw [List.length_append] at hm'; omega
          have hmem : eff2[m' - eff1.length] = i := by rw [← hie, List.getElem_append_right (by omega)]
          have hpr : ∀ q, q + 1 = m' → ∃ hq : q < (eff1 ++ eff2).length, (eff1 ++ eff2)[q] ∈ L := fun q hq => by
            subst hq
            have hcl := chain_at hch q hm'
            rw [hie] at hcl
            exact ⟨by omega, hb _ hcl (by simp only [List.mem_cons]; exact .inr (.inr (.inr (List.getElem_mem _))))⟩
          have hSB : SB L ex eeC heC := by
            rcases hS with hS | hS
            · refine hAB hS ?_
              obtain ⟨k, hkl, q1, q2, _⟩ := hS
              intro j hj
              rcases Nat.eq_or_lt_of_le hkl with e | e
              · rw [q1 j hj, e, List.take_length]; exact hj
              · exfalso
                obtain ⟨hq, hL⟩ := hpr (m' - 1) (by omega)
                by_cases w : m' - 1 < eff1.length
                · rw [List.getElem_append_left w] at hL
                  have := (take_idx hn1 w).1 ((q1 _ (List.getElem_mem w)).1 hL)
                  omega
                · rw [List.getElem_append_right (by omega)] at hL
                  exact q2 _ (List.getElem_mem _) hL
            · exact hS
          obtain ⟨vx, k, hkl, q1, q2, q3, q4, q5⟩ := hSB
          have hi2 : i ∈ eff2 := by rw [← hmem]; exact List.getElem_mem _
          have hmk : m' - eff1.length = k := by
            have hkm : k ≤ m' - eff1.length := Nat.le_of_not_lt fun q => hiL (by rw [← hmem]; exact (q2 _ (List.getElem_mem hm2)).2 ((take_idx hn2 hm2).2 q))
            rcases Nat.eq_or_lt_of_le hkm with q | q
            · exact q.symm
            · exfalso
              obtain ⟨hq, hL⟩ := hpr (m' - 1) (by omega)
              rw [List.getElem_append_right (by omega)] at hL
              have := (take_idx hn2 (by omega)).1 ((q2 _ (List.getElem_mem _)).1 hL)
              omega
          subst hmk
          have hxn : ∀ d, o.dst = some d → (pdst l xo).any (Nat.beq d) = false := fun d hd => by
            have := List.all_eq_true.1 hfree2 _ hi2
            rw [show dstOf l i = some d by simp only [dstOf, ho, Option.bind_some]; exact hd] at this
            simpa using this
          have hX' : ∀ av, XOK vx (stF o av eeC) := fun av u he => by
            have hfr : ∀ d, lk (fltP (pdst l xo) E ++ (fltP (pdst l xo) eeC ++ (tt ++ u))) d = lk (fltP (pdst l xo) E ++ (fltP (pdst l xo) (stF o av eeC) ++ (tt ++ u))) d := by
              refine fun d => lk_app (fun d => lk_appL (lk_fltC fun d hd => ?_) d)
              unfold stF
              cases hdst : o.dst with
              | none => rfl
              | some d' => exact (lk_side (p := [(d', av)]) (fun q hq => by rw [List.mem_singleton] at hq; rw [hq]; exact hxn d' hdst) d hd).symm
            have := q3 u he
            rw [ev_lkf hfr] at this
            exact this
          have ho2 : l[eff2[m' - eff1.length]]? = some o := by rw [hmem]; exact ho
          refine chain_step hm2 q5 ho2 hlk (fun q hq => ?_) (fun q hq d hd => ?_) u fun av he' hC' hj' hl' => ⟨av, he' ++ bx, rfl, ex, eb, bx, _, he', hl', rfl, hC', .inl ⟨hs2, hBi hB, .inr ⟨vx, m' - eff1.length + 1, hm2, fun j hj => List.mem_cons_of_mem _ (q1 j hj), fun j hj => ?_, hX' av, q4.imp (fun ⟨w1, w2⟩ => ⟨fun q => (List.mem_cons.1 q).elim (hni x (by simp)) w1, w2⟩) (fun ⟨w1, w2⟩ => ⟨List.mem_cons_of_mem _ w1, w2⟩), hj'⟩⟩⟩
          · rcases List.mem_append.1 hq with hq | hq
            · rw [hxk q4 q hq]; exact nowait_at hfree.2 (List.mem_cons_of_mem _ hi2) ho
            · rw [hbk hB q hq]; exact hdap
          · rcases List.mem_append.1 hq with hq | hq
            · rw [hxk q4 q hq]; exact hdxn d hd
            · rw [hbk hB q hq]; exact hdan d hd
          · rw [List.take_succ_eq_append_getElem hm2, List.mem_cons, List.mem_append, List.mem_singleton, q2 j hj, or_comm, hmem]
      · exact absurd (g3 i hi3) hiL
  · rintro L ee he ⟨ex, eb, bx, eeC, heC, hlk, rfl, hC, hJ⟩ hall
    have h1 := hall a (by simp) (hin a (by simp))
    have h2 := hall s (by simp) (hin s (by simp))
    have h3 := hall x (by simp) (hin x (by simp))
    refine ln ?_
    rcases hJ with ⟨q, _⟩ | ⟨b, V, vx, _, _, _, rfl, rfl, _, ⟨q, _⟩ | ⟨_, rfl⟩, hfin⟩
    · exact absurd h2 q
    · exact absurd h3 q
    · refine aops_ent (ent_trans (ent_perm (by exact (List.perm_append_comm (l₂ := [_])))) (ent_lk fun d => ?_)) hfin
      rw [List.append_assoc, List.append_assoc]
      exact lk_app fun d => lk_appL (fun d => (hlk d).symm) d
end Go.Ab
/- The walk of SccEdges. Conditions: none. -/
set_option linter.unusedVariables false
set_option linter.unusedSimpArgs false
set_option maxRecDepth 10000
namespace Go.Proofs
open Go Go.Ab
attribute [local irreducible] QR QV OE aops aw dsoup dsoupM dalloc dallocM thn inBlk jsoup jch lsoup
open Go.H
/-- A number of any size turned to a node. -/
def nodA (x : Int) (n : Nat) : Nat := (x % 18446744073709551616).toNat % n
theorem nod_u (x : Int) : AV.v (.int .u64 (IntKind.u64.wrap x)) = .v (.int .u64 (((x % 18446744073709551616).toNat : Nat) : Int)) := by
  have h : IntKind.u64.wrap x = (((x % 18446744073709551616).toNat : Nat) : Int) := by rw [wrap_u]; omega
  rw [h]
theorem nod_n {n : Int} {m : Nat} (h : ((m : Nat) : Int) = n) (hm : m ≤ 300) : AV.v (.int .u64 (IntKind.u64.wrap n)) = .v (.int .u64 ((m : Nat) : Int)) := by
  have h2 : IntKind.u64.wrap n = ((m : Nat) : Int) := by rw [wrap_u]; omega
  rw [h2]
theorem nod_i {x : Int} {n : Nat} (h0 : 0 < n) (hn : n ≤ 300) : AV.v (.int .i64 (IntKind.i64.wrap ((nodA x n : Nat) : Int))) = iv ((nodA x n : Nat) : Int) := by
  have h : nodA x n < n := Nat.mod_lt _ h0
  rw [wrap_i (by omega) (by omega)]
theorem nod_lt (x : Int) {n : Nat} (h : 0 < n) : nodA x n < n := Nat.mod_lt _ h
theorem ldS_y {m : List (Int × Bool)} {e : Ed} (h : (getT e.f m).getD false = true) : ldS m e = putT e.t true m := if_pos h
theorem ldS_n {m : List (Int × Bool)} {e : Ed} (h : (getT e.f m).getD false = false) : ldS m e = m := if_neg (by rw [h]; decide)
theorem more_good {g : Gr} (h : GOk g) {e : Ed} (he : edgeB g.n e = true) (hl : g.es.length < 40000) : ofC g.n (g.es ++ [e]) = 0 ∧ ofGr g.n (g.es ++ [e]) = moreG g e := by
  have h1 := more_ok h he hl
  have h2 : ofC g.n (g.es ++ [e]) = 0 := ofC_0 (by
    rintro (q | q | q)
    · exact absurd h.n0 (by omega)
    · exact absurd h.n1 (by omega)
    · rw [List.all_eq_true.2 (fun x hx => (List.mem_append.1 hx).elim (h.each x) (fun q => by rw [List.mem_singleton.1 q]; exact he))] at q; cases q) (Nat.not_lt.2 h1.many)
  exact ⟨h2, ofGr_y h2⟩
theorem grOfF (n : Int) (l : List Ed) (hl : l.length ≤ 1000000000) : ACall Try.prog 10 [iv n, edsA l] [] (fun r h' => h' = [] ∧ r = .tup [.agg (grR (ofGr n l)), iv (ofC n l)]) :=
  ACall.ventE ((grOf n l hl).mono fun r h' q => by
    obtain ⟨s, rfl, rfl⟩ := q
    exact ⟨_, _, vent_freeze_gr _ [_], rfl, rfl⟩)
set_option maxHeartbeats 8000000 in
theorem sccEdges (x : Gr) (p q : Int) (hb : x.es.length ≤ 4611686018427387904) : ACall Try.prog 3 [.agg (grR x), iv p, iv q] [] (fun r h' => h' = [] ∧ r = bv true) := by
  refine acall_of_aw Try.func3 rfl rfl rfl ?_
  have hg : (ownG 600 x).es.length ≤ 4611686018427387904 := Nat.le_trans (ownG_len 600 x) (by decide)
  refine rn ?_
  refine aops_e rfl (oe_box rfl rfl rfl fun b3 => ?_)
  refine rn ?_
  refine qv rfl rfl (qv_call rfl rfl (FCall.pure (R := fun z => z = bv true) (FCall.of_fun (lawWakes)))) ?_
  refine rn ?_
  refine aw_cond rfl (fun hc20 => ?_) (fun hc20 => ?_)
  · exact absurd hc20 (by decide)
  · refine rn ?_
    refine qv rfl rfl (qv_call rfl rfl (FCall.pure (R := fun z => z = .agg (grR (ownG 600 x))) (FCall.of_fun (lawOwn x hb)))) ?_
    refine aops_e rfl (oe_alloc rfl fun b7 => ?_)
    refine rn ?_
    refine qv rfl rfl (qv_call rfl rfl (FCall.pure (R := fun z => z = .tup [intsA (ofO (ownG 600 x)), iv (chkE (ownG 600 x))]) (FCall.of_fun (scOf (ownG 600 x) hg)))) ?_
    refine rn ?_
    refine asplit (fun hg5_2 => ?_) (fun hg5_2 => ?_)
    · refine rn ?_
      refine aw_cond rfl (fun hc34 => ?_) (fun hc34 => ?_)
      · refine rn ?_
        refine qv rfl rfl (qv_call rfl rfl (FCall.pure (R := fun z => z = iv (chkE (ownG 600 x))) (FCall.of_fun (grCheck (ownG 600 x) hg)))) ?_
        refine rn ?_
        exact retq (.cons _ _ _ _ (.tmp _ _ rfl) .nil) (.drop [_, _] _ _) ⟨rfl, congrArg bv (by simp)⟩
      · first | cases hc34 | exact absurd hc34 (by decide) | (exfalso; simp_all; done)
    · refine rn ?_
      refine aw_cond rfl (fun hc34 => ?_) (fun hc34 => ?_)
      · refine rn ?_
        refine qv rfl rfl (qv_call rfl rfl (FCall.pure (R := fun z => z = iv (chkE (ownG 600 x))) (FCall.of_fun (grCheck (ownG 600 x) hg)))) ?_
        refine rn ?_
        exact retq (.cons _ _ _ _ (.tmp _ _ rfl) .nil) (.drop [_, _] _ _) ⟨rfl, congrArg bv (by simp)⟩
      · have he : chkE (ownG 600 x) = 0 := by simp_all
        have h2 : 2 ≤ ((ownG 600 x)).n := by simp_all
        have hok := chkE_0.1 he
        have hn0 := hok.n0
        have hn1 := hok.n1
        have hmany := hok.many
        have hng : nG (ownG 600 x) ≤ 300 := by unfold nG; omega
        have hnn : ((nG (ownG 600 x) : Nat) : Int) = ((ownG 600 x)).n := by unfold nG; omega
        have hpos : 0 < nG (ownG 600 x) := by omega
        rw [he, ofO_y he]
        refine aw_skip ?_
        refine rn0 ?_
        refine aw_seq ?_
        refine aw_drawU 15 [] [] (fun he => he = .box b7 24 (grR (ownG 600 x)) :: .box b3 24 (grR x) :: []) rfl rfl rfl ?_
        refine jq rfl (fun he hC => by obtain rfl := hC <;> exact qrA) ?_
        refine jq rfl (fun he hC => by obtain rfl := hC <;> exact (by exact qr_as (qr_convert rfl rfl) (nod_u p))) ?_
        refine jq rfl (fun he hC => by obtain rfl := hC <;> exact qrA) ?_
        refine jq rfl (fun he hC => by obtain rfl := hC <;> exact qrA) ?_
        refine jq rfl (fun he hC => by obtain rfl := hC <;> exact (by exact qr_as (qr_convert rfl rfl) (nod_n hnn hng))) ?_
        refine jq rfl (fun he hC => by obtain rfl := hC <;> exact (by exact qr_rem (k := .u64) (c := ((nodA p (nG (ownG 600 x)) : Nat) : Int)) rfl rfl (by omega) rfl)) ?_
        refine jq rfl (fun he hC => by obtain rfl := hC <;> exact (by exact qr_as (qr_convert rfl rfl) (nod_i hpos hng))) ?_
        refine jq rfl (fun he hC => by obtain rfl := hC <;> exact qrA) ?_
        refine jq rfl (fun he hC => by obtain rfl := hC <;> exact (by exact qr_as (qr_convert rfl rfl) (nod_u q))) ?_
        refine jq rfl (fun he hC => by obtain rfl := hC <;> exact qrA) ?_
        refine jq rfl (fun he hC => by obtain rfl := hC <;> exact qrA) ?_
        refine jq rfl (fun he hC => by obtain rfl := hC <;> exact (by exact qr_as (qr_convert rfl rfl) (nod_n hnn hng))) ?_
        refine jq rfl (fun he hC => by obtain rfl := hC <;> exact (by exact qr_rem (k := .u64) (c := ((nodA q (nG (ownG 600 x)) : Nat) : Int)) rfl rfl (by omega) rfl)) ?_
        refine jq rfl (fun he hC => by obtain rfl := hC <;> exact (by exact qr_as (qr_convert rfl rfl) (nod_i hpos hng))) ?_
        refine jq rfl (fun he hC => by obtain rfl := hC <;> exact qrA) ?_
        refine jnil ?_
        refine jcn ?_
        refine ln ?_
        refine rn ?_
        have ha := nod_lt p hpos
        have hb' := nod_lt q hpos
        generalize nodA p (nG (ownG 600 x)) = a at ha ⊢
        generalize nodA q (nG (ownG 600 x)) = b at hb' ⊢
        refine rn ?_
        refine aw_cond rfl (fun hc55 => ?_) (fun hc55 => ?_)
        · skip
          refine rn ?_
          exact retq (.cons _ _ _ _ (.tmp _ _ rfl) .nil) (.drop [_, _] _ _) ⟨rfl, rfl⟩
        · have hab : a ≠ b := by have z := hc55; simp at z; omega
          refine rn ?_
          refine aops_e rfl (oe_makeMap (enc := intK) rfl fun bm => ?_)
          rw [show encM intK ([] : List (Int × AV)) = encM intK (mapA bv ([] : List (Int × Bool))) from rfl]
          refine rn ?_
          refine aops_e rfl (insert_of (oe_mapUpdT (g := bv) (enc := intK) (k := (a : Int)) (v := true) rfl rfl rfl ?_))
          refine q1 ?_
          refine q1 ?_
          refine aops_nil (thn_n ?_)
          refine aw_seq ?_
          refine aw_seq (aw_region ?_)
          refine q1 ?_
          refine qq rfl rfl (qr_as (qr_load_one rfl rfl) (show iv _ = iv ((nG (ownG 600 x) : Nat) : Int) from congrArg iv hnn.symm)) ?_
          refine rn ?_
          refine aw_rngX (nG (ownG 600 x)) (fun k m => LdOk (ownG 600 x) a k m) (fun k m => ⟨[(61, iv k), (1, iv (a : Int)), (2, iv (b : Int)), (7, .v (.pointer (some ⟨b7, 0, none⟩))), (8, intsA (rowI (ofGL (ownG 600 x)))), (10, .v (.map (some bm))), (60, iv (nG (ownG 600 x) : Nat))], .map bm (encM intK (mapA bv m)) :: .box b7 24 (grR (ownG 600 x)) :: .box b3 24 (grR x) :: [], []⟩) [((a : Int), true)] (LdOk.start (ownG 600 x) a) es ?_
          intro k m lk hm
          refine rn ?_
          refine aw_cond rfl (fun hc62 => ?_) (fun hc62 => ?_)
          · have hkk : k < nG (ownG 600 x) := by have q := of_decide_eq_true hc62; omega
            refine rn ?_
            refine aw_range ((ownG 600 x)).es.length (fun _ => True) (fun j => ⟨[(66, iv j), (1, iv (a : Int)), (2, iv (b : Int)), (7, .v (.pointer (some ⟨b7, 0, none⟩))), (8, intsA (rowI (ofGL (ownG 600 x)))), (10, .v (.map (some bm))), (60, iv (nG (ownG 600 x) : Nat)), (61, iv k), (64, edsA ((ownG 600 x)).es), (65, iv (((ownG 600 x)).es.map edR).length)], .map bm (encM intK (mapA bv (ldE (((ownG 600 x)).es.take j) m))) :: .box b7 24 (grR (ownG 600 x)) :: .box b3 24 (grR x) :: [], []⟩) trivial es ?_
            intro j lj _
            refine rn ?_
            refine aw_cond rfl (fun hc67 => ?_) (fun hc67 => ?_)
            · have hj : j < ((ownG 600 x)).es.length := by have z := of_decide_eq_true hc67; rw [List.length_map] at z; omega
              refine aw_skip ?_
              refine thn_n ?_
              refine aw_seq ?_
              refine aw_block ?_
              refine aw_seq (aw_region ?_)
              refine qq rfl rfl (qr_index_list (i := j) rfl rfl (edR_at hj)) ?_
              refine rn ?_
              refine aops_e rfl (oe_alloc rfl fun b12 => ?_)
              first | refine aops_e rfl (oe_store_all rfl rfl rfl ?_) | refine aops_e rfl (oe_store rfl rfl rfl rfl (Nat.le_of_ble_eq_true rfl) ?_)
              refine aops_nil (thn_n ?_)
              refine aw_seq (aw_region ?_)
              refine q1 ?_
              refine q1 ?_
              refine q1 ?_
              refine qq rfl rfl (qr_lookT (enc := intK) (k := ((ownG 600 x)).es[j].f) false rfl rfl) ?_
              refine rn ?_
              refine aw_cond rfl (fun hc73 => ?_) (fun hc73 => ?_)
              · have hx : (getT ((ownG 600 x)).es[j].f (ldE (((ownG 600 x)).es.take j) m)).getD false = true := hc73
                refine rn ?_
                refine aops_e rfl (oe_mapUpdT (g := bv) (enc := intK) (k := ((ownG 600 x)).es[j].t) (v := true) rfl rfl rfl ?_)
                refine rn ?_
                first | exact ⟨hj, trivial, by rw [ldE_s hj, ldS_y hx]; exact eA⟩ | exact ⟨hj, trivial, by rw [ldE_s hj, ldS_n hx]; exact eA⟩
              · have hx : (getT ((ownG 600 x)).es[j].f (ldE (((ownG 600 x)).es.take j) m)).getD false = false := hc73
                refine rn ?_
                first | exact ⟨hj, trivial, by rw [ldE_s hj, ldS_y hx]; exact eA⟩ | exact ⟨hj, trivial, by rw [ldE_s hj, ldS_n hx]; exact eA⟩
            · have qj : j = ((ownG 600 x)).es.length := by have z := of_decide_eq_false hc67; rw [List.length_map] at z; omega
              refine rn ?_
              exact ⟨hkk, ldE ((ownG 600 x)).es m, hm.next hok, by rw [qj, List.take_length]; exact eA⟩
          · have qk : k = nG (ownG 600 x) := by have q := of_decide_eq_false hc62; omega
            subst qk
            have hl0 := ownG_len 600 x
            have hl6 : ((ownG 600 x)).es.length < 40000 := by omega
            have hE1 : edgeB ((ownG 600 x)).n ⟨(a : Int), (b : Int), 0⟩ = true := by rw [edge_iff]; simp only; omega
            have hE2 : edgeB ((ownG 600 x)).n ⟨(b : Int), (a : Int), 0⟩ = true := by rw [edge_iff]; simp only; omega
            have k1 := more_ok hok hE1 hl6
            have k2 := more_ok hok hE2 hl6
            have e1 := chkE_0.2 k1
            have e2 := chkE_0.2 k2
            have l1 : (moreG (ownG 600 x) ⟨(a : Int), (b : Int), 0⟩).es.length ≤ 4611686018427387904 := Nat.le_trans k1.many (by decide)
            have l2 : (moreG (ownG 600 x) ⟨(b : Int), (a : Int), 0⟩).es.length ≤ 4611686018427387904 := Nat.le_trans k2.many (by decide)
            have hM0 : FCall Try.prog (.fn (.func 10) [] []) [iv ((ownG 600 x)).n, edsA (((ownG 600 x)).es ++ [⟨(a : Int), (b : Int), 0⟩])] [] (fun r h' => h' = [] ∧ r = .tup [.agg (grR (moreG (ownG 600 x) ⟨(a : Int), (b : Int), 0⟩)), iv 0]) := (FCall.of_fun (grOfF ((ownG 600 x)).n (((ownG 600 x)).es ++ [⟨(a : Int), (b : Int), 0⟩]) (by simp; omega))).mono fun _ _ q => ⟨q.1, by rw [q.2, (more_good hok hE1 hl6).1, (more_good hok hE1 hl6).2]⟩
            rw [show edsA (((ownG 600 x)).es ++ [⟨(a : Int), (b : Int), 0⟩]) = AV.list false 3 (((ownG 600 x)).es.map edR ++ [edR ⟨(a : Int), (b : Int), 0⟩]) from congrArg (AV.list false 3) (List.map_append ..)] at hM0
            have hO1 : FCall Try.prog (.fn (.func 8) [] []) [.agg (grR (moreG (ownG 600 x) ⟨(a : Int), (b : Int), 0⟩))] [] (fun r h' => h' = [] ∧ r = .tup [intsA (rowI (ofGL (moreG (ownG 600 x) ⟨(a : Int), (b : Int), 0⟩))), iv 0]) := (FCall.of_fun (scOf (moreG (ownG 600 x) ⟨(a : Int), (b : Int), 0⟩) l1)).mono fun _ _ q => ⟨q.1, by rw [q.2, ofO_y e1, e1]⟩
            have hM1 : FCall Try.prog (.fn (.func 10) [] []) [iv ((ownG 600 x)).n, edsA (((ownG 600 x)).es ++ [⟨(b : Int), (a : Int), 0⟩])] [] (fun r h' => h' = [] ∧ r = .tup [.agg (grR (moreG (ownG 600 x) ⟨(b : Int), (a : Int), 0⟩)), iv 0]) := (FCall.of_fun (grOfF ((ownG 600 x)).n (((ownG 600 x)).es ++ [⟨(b : Int), (a : Int), 0⟩]) (by simp; omega))).mono fun _ _ q => ⟨q.1, by rw [q.2, (more_good hok hE2 hl6).1, (more_good hok hE2 hl6).2]⟩
            rw [show edsA (((ownG 600 x)).es ++ [⟨(b : Int), (a : Int), 0⟩]) = AV.list false 3 (((ownG 600 x)).es.map edR ++ [edR ⟨(b : Int), (a : Int), 0⟩]) from congrArg (AV.list false 3) (List.map_append ..)] at hM1
            have hO2 : FCall Try.prog (.fn (.func 8) [] []) [.agg (grR (moreG (ownG 600 x) ⟨(b : Int), (a : Int), 0⟩))] [] (fun r h' => h' = [] ∧ r = .tup [intsA (rowI (ofGL (moreG (ownG 600 x) ⟨(b : Int), (a : Int), 0⟩))), iv 0]) := (FCall.of_fun (scOf (moreG (ownG 600 x) ⟨(b : Int), (a : Int), 0⟩) l2)).mono fun _ _ q => ⟨q.1, by rw [q.2, ofO_y e2, e2]⟩
            have hfin := LdOk.fin hok ha hm b
            refine aw_exit ?_
            refine rn0 ?_
            refine aw_seq ?_
            refine aw_drawCB 16 [4, 9, 10, 11] [12] 14 15 13 13 92 24 (fun he => he = .map bm (encM intK (mapA bv m)) :: .box b7 24 (grR (ownG 600 x)) :: .box b3 24 (grR x) :: [] ∨ ∃ s rows, he = .row s 3 35 rows :: .map bm (encM intK (mapA bv m)) :: .box b7 24 (grR (ownG 600 x)) :: .box b3 24 (grR x) :: []) rfl rfl rfl rfl rfl rfl rfl rfl rfl rfl rfl rfl rfl rfl rfl (.inl rfl) ?_
            refine jq rfl (fun he hC => by rcases hC with hC | ⟨bq, cq, heq, hC, rfl⟩ <;> rcases hC with rfl | ⟨s0, rows, rfl⟩ <;> (try simp only [List.cons_append, List.nil_append]) <;> exact (qrA)) ?_
            refine jq rfl (fun he hC => by rcases hC with hC | ⟨bq, cq, heq, hC, rfl⟩ <;> rcases hC with rfl | ⟨s0, rows, rfl⟩ <;> (try simp only [List.cons_append, List.nil_append]) <;> exact (qrA)) ?_
            refine jq rfl (fun he hC => by rcases hC with hC | ⟨bq, cq, heq, hC, rfl⟩ <;> rcases hC with rfl | ⟨s0, rows, rfl⟩ <;> (try simp only [List.cons_append, List.nil_append]) <;> exact (qrA)) ?_
            refine jq rfl (fun he hC => by rcases hC with hC | ⟨bq, cq, heq, hC, rfl⟩ <;> rcases hC with rfl | ⟨s0, rows, rfl⟩ <;> (try simp only [List.cons_append, List.nil_append]) <;> exact (qrA)) ?_
            refine je rfl ?_
            refine jq rfl (fun he hC => by rcases hC with hC | ⟨bq, cq, heq, hC, rfl⟩ <;> rcases hC with rfl | ⟨s0, rows, rfl⟩ <;> (try simp only [List.cons_append, List.nil_append]) <;> exact (qrA)) ?_
            refine jq rfl (fun he hC => by rcases hC with hC | ⟨bq, cq, heq, hC, rfl⟩ <;> rcases hC with rfl | ⟨s0, rows, rfl⟩ <;> (try simp only [List.cons_append, List.nil_append]) <;> exact (qrA)) ?_
            refine jq rfl (fun he hC => by rcases hC with hC | ⟨bq, cq, heq, hC, rfl⟩ <;> rcases hC with rfl | ⟨s0, rows, rfl⟩ <;> (try simp only [List.cons_append, List.nil_append]) <;> exact (qrA)) ?_
            refine jv rfl (fun he hC => by rcases hC with hC | ⟨bq, cq, heq, hC, rfl⟩ <;> rcases hC with rfl | ⟨s0, rows, rfl⟩ <;> (try simp only [List.cons_append, List.nil_append]) <;> exact (qv_buildSlice rfl rfl)) ?_
            refine je rfl ?_
            refine je rfl ?_
            refine je rfl ?_
            refine je rfl ?_
            refine je rfl ?_
            refine je rfl ?_
            refine je rfl ?_
            refine jnil ?_
            refine jce rfl fun u => ?_
            refine oe_call rfl rfl (FCall.fr (FCall.of_fun (cloneRowEd (((ownG 600 x)).es.map edR) (by rw [List.length_map]; omega) (one_ed _))) (.refl _)) rfl ?_
            rintro _ _ ⟨_, rfl, sc, rfl, rfl⟩
            simp only [List.cons_append, List.nil_append]
            refine ⟨_, _, rfl, .inr ⟨sc, _, rfl⟩, ?_⟩
            refine jce rfl fun u => ?_
            refine oe_append_fz rfl rfl (by simp only [List.length_map, List.length_cons, List.length_nil]; omega) rfl ⟨_, _, rfl, .inl rfl, ?_⟩ (fun r hr => by rw [List.mem_singleton.1 hr]; rfl)
            refine jce rfl fun u => ?_
            refine oe_call rfl rfl (FCall.pure hM0) rfl ?_
            rintro _ _ ⟨rfl, rfl⟩
            refine ⟨_, _, rfl, .inl rfl, ?_⟩
            refine jce rfl fun u => ?_
            refine oe_q qrA ⟨_, _, rfl, .inl rfl, ?_⟩
            refine jcn ⟨_, fun u he => qrA, ?_⟩
            refine jce rfl fun u => ?_
            refine oe_q qrA ⟨_, _, rfl, .inl rfl, ?_⟩
            refine jcn ⟨_, rfl, rfl, fun u b => ⟨rfl, rfl⟩, fun b13 => ?_⟩
            refine rn0 ?_
            refine aw_seq ?_
            refine aw_drawCB 16 [4, 9, 10, 11] [12] 14 15 13 15 106 24 (fun he => he = .box b13 24 (grR (moreG (ownG 600 x) ⟨(a : Int), (b : Int), 0⟩)) :: .map bm (encM intK (mapA bv m)) :: .box b7 24 (grR (ownG 600 x)) :: .box b3 24 (grR x) :: [] ∨ ∃ s rows, he = .row s 3 35 rows :: .box b13 24 (grR (moreG (ownG 600 x) ⟨(a : Int), (b : Int), 0⟩)) :: .map bm (encM intK (mapA bv m)) :: .box b7 24 (grR (ownG 600 x)) :: .box b3 24 (grR x) :: []) rfl rfl rfl rfl rfl rfl rfl rfl rfl rfl rfl rfl rfl rfl rfl (.inl rfl) ?_
            refine jq rfl (fun he hC => by rcases hC with hC | ⟨bq, cq, heq, hC, rfl⟩ <;> rcases hC with rfl | ⟨s0, rows, rfl⟩ <;> (try simp only [List.cons_append, List.nil_append]) <;> exact (qrA)) ?_
            refine jq rfl (fun he hC => by rcases hC with hC | ⟨bq, cq, heq, hC, rfl⟩ <;> rcases hC with rfl | ⟨s0, rows, rfl⟩ <;> (try simp only [List.cons_append, List.nil_append]) <;> exact (qrA)) ?_
            refine jq rfl (fun he hC => by rcases hC with hC | ⟨bq, cq, heq, hC, rfl⟩ <;> rcases hC with rfl | ⟨s0, rows, rfl⟩ <;> (try simp only [List.cons_append, List.nil_append]) <;> exact (qrA)) ?_
            refine jq rfl (fun he hC => by rcases hC with hC | ⟨bq, cq, heq, hC, rfl⟩ <;> rcases hC with rfl | ⟨s0, rows, rfl⟩ <;> (try simp only [List.cons_append, List.nil_append]) <;> exact (qrA)) ?_
            refine je rfl ?_
            refine jq rfl (fun he hC => by rcases hC with hC | ⟨bq, cq, heq, hC, rfl⟩ <;> rcases hC with rfl | ⟨s0, rows, rfl⟩ <;> (try simp only [List.cons_append, List.nil_append]) <;> exact (qrA)) ?_
            refine jq rfl (fun he hC => by rcases hC with hC | ⟨bq, cq, heq, hC, rfl⟩ <;> rcases hC with rfl | ⟨s0, rows, rfl⟩ <;> (try simp only [List.cons_append, List.nil_append]) <;> exact (qrA)) ?_
            refine jq rfl (fun he hC => by rcases hC with hC | ⟨bq, cq, heq, hC, rfl⟩ <;> rcases hC with rfl | ⟨s0, rows, rfl⟩ <;> (try simp only [List.cons_append, List.nil_append]) <;> exact (qrA)) ?_
            refine jv rfl (fun he hC => by rcases hC with hC | ⟨bq, cq, heq, hC, rfl⟩ <;> rcases hC with rfl | ⟨s0, rows, rfl⟩ <;> (try simp only [List.cons_append, List.nil_append]) <;> exact (qv_buildSlice rfl rfl)) ?_
            refine je rfl ?_
            refine je rfl ?_
            refine je rfl ?_
            refine je rfl ?_
            refine je rfl ?_
            refine je rfl ?_
            refine je rfl ?_
            refine jnil ?_
            refine jce rfl fun u => ?_
            refine oe_call rfl rfl (FCall.fr (FCall.of_fun (cloneRowEd (((ownG 600 x)).es.map edR) (by rw [List.length_map]; omega) (one_ed _))) (.refl _)) rfl ?_
            rintro _ _ ⟨_, rfl, sc, rfl, rfl⟩
            simp only [List.cons_append, List.nil_append]
            refine ⟨_, _, rfl, .inr ⟨sc, _, rfl⟩, ?_⟩
            refine jce rfl fun u => ?_
            refine oe_append_fz rfl rfl (by simp only [List.length_map, List.length_cons, List.length_nil]; omega) rfl ⟨_, _, rfl, .inl rfl, ?_⟩ (fun r hr => by rw [List.mem_singleton.1 hr]; rfl)
            refine jce rfl fun u => ?_
            refine oe_call rfl rfl (FCall.pure hM1) rfl ?_
            rintro _ _ ⟨rfl, rfl⟩
            refine ⟨_, _, rfl, .inl rfl, ?_⟩
            refine jce rfl fun u => ?_
            refine oe_q qrA ⟨_, _, rfl, .inl rfl, ?_⟩
            refine jcn ⟨_, fun u he => qrA, ?_⟩
            refine jce rfl fun u => ?_
            refine oe_q qrA ⟨_, _, rfl, .inl rfl, ?_⟩
            refine jcn ⟨_, rfl, rfl, fun u b => ⟨rfl, rfl⟩, fun b15 => ?_⟩
            refine rn ?_
            refine aw_cond rfl (fun hc112 => ?_) (fun hc112 => ?_)
            · exact absurd hc112 (by decide)
            · refine rn ?_
              refine qv rfl rfl (qv_call rfl rfl (FCall.pure hO1)) ?_
              refine rn ?_
              refine qv rfl rfl (qv_call rfl rfl (FCall.pure hO2)) ?_
              refine q1 ?_
              refine q1 ?_
              refine q1 ?_
              refine q1 ?_
              refine q1 ?_
              refine aops_nil (thn_n ?_)
              refine aw_seq ?_
              refine aw_seq (aw_region ?_)
              refine q1 ?_
              refine q1 ?_
              refine q1 ?_
              refine q1 ?_
              refine q1 ?_
              refine q1 ?_
              refine q1 ?_
              refine q1 ?_
              refine q1 ?_
              refine qq rfl rfl (qr_lookT (enc := intK) (k := (b : Int)) false rfl rfl) ?_
              refine rn ?_
              refine asplit (fun hg26_10 => ?_) (fun hg26_10 => ?_)
              · refine rn ?_
                refine qv rfl rfl (qv_call rfl rfl (FCall.pure (R := fun z => z = bv true) (show FCall Try.prog (.fn (.func 12) [] []) [intsA (rowI (ofGL (moreG (ownG 600 x) ⟨(a : Int), (b : Int), 0⟩))), intsA (rowI (ofGL (ownG 600 x)))] [] (fun r h' => h' = [] ∧ r = bv true) by rw [more_of hok ha hb' hab hl6 (hfin.1 hg26_10)]; exact FCall.of_fun (eqInt (rowI (ofGL (ownG 600 x))) (by rw [ofGL_len]; omega))))) ?_
                refine rn ?_
                refine aw_cond rfl (fun hc139 => ?_) (fun hc139 => ?_)
                · exact absurd hc139 (by decide)
                · refine rn ?_
                  refine aw_draw 12 rfl ?_
                  refine dq rfl rfl qrA ?_
                  refine dq rfl rfl qrA ?_
                  refine dq rfl rfl (qr_index_list (i := a) rfl rfl (ofGL_at (g := (moreG (ownG 600 x) ⟨(b : Int), (a : Int), 0⟩)) ha)) ?_
                  refine dq rfl rfl qrA ?_
                  refine dq rfl rfl qrA ?_
                  refine dq rfl rfl qrA ?_
                  refine dq rfl rfl (qr_index_list (i := b) rfl rfl (ofGL_at (g := (moreG (ownG 600 x) ⟨(b : Int), (a : Int), 0⟩)) hb')) ?_
                  refine dq rfl rfl qrA ?_
                  refine dq rfl rfl qrA ?_
                  refine dq rfl rfl qrA ?_
                  refine dq rfl rfl qrA ?_
                  refine dq rfl rfl (qr_lookT (enc := intK) (k := (b : Int)) false rfl rfl) ?_
                  refine rn2 ?_
                  refine qq rfl rfl (qr_as (qr_eqbool rfl rfl rfl) (eqb_v (by rw [Bool.eq_iff_iff, beq_iff_eq, hfin, ← more_tog hok ha hb' hab hl6]; omega))) ?_
                  refine rn ?_
                  exact retq (.cons _ _ _ _ (.tmp _ _ rfl) .nil) (.drop [_, _, _, _, _] _ _) ⟨rfl, rfl⟩
              · refine rn ?_
                refine aw_cond rfl (fun hc139 => ?_) (fun hc139 => ?_)
                · first | cases hc139 | exact absurd hc139 (by decide) | (exfalso; simp_all; done)
                · refine rn ?_
                  refine aw_draw 12 rfl ?_
                  refine dq rfl rfl qrA ?_
                  refine dq rfl rfl qrA ?_
                  refine dq rfl rfl (qr_index_list (i := a) rfl rfl (ofGL_at (g := (moreG (ownG 600 x) ⟨(b : Int), (a : Int), 0⟩)) ha)) ?_
                  refine dq rfl rfl qrA ?_
                  refine dq rfl rfl qrA ?_
                  refine dq rfl rfl qrA ?_
                  refine dq rfl rfl (qr_index_list (i := b) rfl rfl (ofGL_at (g := (moreG (ownG 600 x) ⟨(b : Int), (a : Int), 0⟩)) hb')) ?_
                  refine dq rfl rfl qrA ?_
                  refine dq rfl rfl qrA ?_
                  refine dq rfl rfl qrA ?_
                  refine dq rfl rfl qrA ?_
                  refine dq rfl rfl (qr_lookT (enc := intK) (k := (b : Int)) false rfl rfl) ?_
                  refine rn2 ?_
                  refine qq rfl rfl (qr_as (qr_eqbool rfl rfl rfl) (eqb_v (by rw [Bool.eq_iff_iff, beq_iff_eq, hfin, ← more_tog hok ha hb' hab hl6]; omega))) ?_
                  refine rn ?_
                  exact retq (.cons _ _ _ _ (.tmp _ _ rfl) .nil) (.drop [_, _, _, _, _] _ _) ⟨rfl, rfl⟩
end Go.Proofs
