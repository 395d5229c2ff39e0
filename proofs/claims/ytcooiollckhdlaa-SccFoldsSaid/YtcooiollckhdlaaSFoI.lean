/- Graphs read as data, and what a row without laid variables asks of a contract. Conditions: none. -/
import Derived.Test.YtcooiollckhdlaaSFoH
import Derived.Test.YtcooiollckhdlaaRows
import Derived.ProofKit
set_option linter.unusedSectionVars false
set_option linter.unusedSimpArgs false
set_option linter.unusedVariables false
set_option linter.unusedVariables false
set_option maxRecDepth 100000
namespace Go.Proofs.Ytcooiollckhdlaa
open Go Go.Ab Go.H Go.ChangeShapes Go.WideShapes Go.ChangeAt Go.RowKit
theorem own : ownKnob Try.prog.godebug = none := by kernel_rfl
section
variable {K : Type} {enc : TypeId × Value → K} {w : World}
theorem rInt : Reads enc Try.prog w 3 (fun n : Int => [iv n]) (fun _ => True) := .int Try.underlying3
theorem big_of {n b b' c : Nat} (hb : b' = b) (hb0 : 0 < b) (hc : reachBytes / b ≤ c) (h : n * b' ≤ reachBytes) : n ≤ c := by
  subst hb
  exact Nat.le_trans ((Nat.le_div_iff_mul_le hb0).2 h) hc
theorem rEd : Reads enc Try.prog w 35 edR (fun _ => True) :=
  .map (fun x : Int × Int × Int × Unit => ⟨x.1, x.2.1, x.2.2.1⟩) (.struct Try.underlying35 rfl (tot := 3) (by kernel_rfl) (.cons rInt (s := 1) (by kernel_rfl) (.cons rInt (s := 1) (by kernel_rfl) (.cons rInt (s := 1) (by kernel_rfl) (.nil 3))))) (fun _ => rfl) (fun _ _ => trivial)
theorem rEds : Reads enc Try.prog w 22 (fun l : List Ed => [edsA l]) (fun l => l.length ≤ 5864062014805) :=
  .map (fun l : List Ed => l) (.slice Try.underlying22 rEd (k := 3) (by kernel_rfl) (by decide) (by rw [show Try.prog.bytesOf 35 = 24 by kernel_rfl]; decide)) (fun _ => rfl) (fun _ h => big_of (b := 24) (by kernel_rfl) (by decide) (by decide) h.1)
theorem rGr : Reads enc Try.prog w 24 (fun g : Gr => [iv g.n, edsA g.es]) (fun g => g.es.length ≤ 5864062014805) :=
  .map (fun x : Int × List Ed × Unit => ⟨x.1, x.2.1⟩) (.struct Try.underlying24 rfl (tot := 2) (by kernel_rfl) (.cons rInt (s := 1) (by kernel_rfl) (.cons rEds (s := 1) (by kernel_rfl) (.nil 2)))) (fun _ => rfl) (fun _ h => h.2.1)
end
/-- Blocks that were there stay: what is read of an argument stays. -/
theorem keep_below {W W' : World} (hk : Keep [] W [] W') : RowKit.Below W.heap.size W { W' with tape := W.tape } :=
  ⟨hk.env.1.1, rfl, hk.env.1.2, hk.size, fun k hk' => (hk.same k hk' (by simp)).1⟩
theorem keep_but {W W' : World} (hk : Keep [] W [] W') (may : MemPlace → Prop) : W.keptBut W' may := by
  refine ⟨hk.env.1.1, hk.env.1.2, fun i hi => ?_⟩
  rw [(hk.same i hi (by simp)).1]
  generalize W.heap[i]? = o
  cases o with
  | none => rfl
  | some o => cases o <;> first | rfl | exact ⟨rfl, rfl, rfl, fun _ _ => rfl⟩ | exact .inr ⟨rfl, rfl⟩
section
variable {H : Type} {enc : TypeId × Value → H}
theorem gr_of {W : World} {cs : Array Value} {d : DataW H} {ps : List MemPlace} (h : DataW.Trod enc Try.prog W 0 (fun _ => true) true 24 (.agg cs) d ps) (hw : ∀ n ∈ d.weights Try.prog 24, n ≤ reachBytes) :
    ∃ x : Gr, x.es.length ≤ 4611686018427387904 ∧ Rel W noX (.agg [iv x.n, edsA x.es]) (.agg cs) := by
  obtain ⟨fuel, hf⟩ := h
  obtain ⟨x, hlim, hx⟩ := rGr fuel _ _ hf hw
  exact ⟨x, Nat.le_trans hlim (by decide), .agg _ _ (by simpa [Value.cells] using hx.1) fun j h1 h2 => by simpa [Value.cells] using hx.2 j h1 (by simpa [Value.cells] using h2)⟩
theorem trod_keep_gr {W W' : World} {v : Value} {d : DataW H} {ps : List MemPlace} (hk : Keep [] W [] W') (h : DataW.Trod enc Try.prog W 0 (fun _ => true) true 24 v d ps) (hlt : ∀ x ∈ ps, x.block < W.heap.size) :
    DataW.Trod enc Try.prog W' 0 (fun b => decide (b < W.heap.size)) true 24 v d ps :=
  DataW.Trod.of_heap (w := { W' with tape := W.tape }) (w' := W') rfl (Below.trod (by kernel_rfl) (by kernel_rfl) (by decide +kernel) h (keep_below hk) hlt)
/-- What a function does, under the bytes' bounds of what is read. -/
theorem handed_sized {C : Checked} {os : Os} {f : FuncId} {fn : Func} {s : ChangeSpec} (own : ownKnob C.prog.godebug = none) (started : os.Started) (noInit : C.prog.inits.idxOf? f = none) (hfn : C.prog.funcs[f]? = some fn)
    (witness : ∃ (w : World) (tape : Tape) (i : Input), w.os = os ∧ (w.forCall tape i).Shaped C.prog ∧ i.vars = [] ∧ Input.okWide C.prog (w.forCall tape i) .any w.heap.size f i ∧
      s.pre6 enc C.prog fn [] false (w.forCall tape i).memory i.args ∧ ({} : Assume).holds C.prog (lone (Frame.enter C.prog f i.args .normal) [] (w.forCall tape i)))
    (contract : ∀ (W : World) (base : Nat) (args : Array Value) (ds gs : List (DataW H)) (before : List MemPlace),
      (∀ (j : Nat) t v, fn.params[j]? = some t → args[j]? = some v → Value.okWide C.prog W .any base t v) →
      DataW.Whole enc C.prog fn.params.toList s.vars false W args.toList ds gs before →
      (DataW.weightsEach C.prog (fn.params.toList ++ s.plain.varTypes C.prog) (ds ++ gs)).all (· ≤ reachBytes) = true →
      Calls C.prog f args W fun e W' => ∃ v, e = .returned v ∧ s.post enc C.prog fn false true false false W args v W') :
    ReturnsInHanded {} C os f .any (s.pre6 enc C.prog fn [] false) (s.post enc C.prog fn false true false false) := by
  refine returnsInHanded_of_calls own started noInit witness ?_
  intro w tape i _ _ _ hok hpre hholds
  obtain ⟨_, _, _, fn', hfn', _, _, _, _, hval⟩ := hok
  obtain rfl : fn' = fn := Option.some.inj (hfn'.symm.trans hfn)
  obtain ⟨⟨ds, gs, before, hw, _⟩, hz⟩ := hpre
  refine (contract (w.forCall tape i) w.heap.size i.args ds gs before hval (DataW.Whole.of_heap (w' := w.forCall tape i) (by rfl) hw) (hz.weights hw)).mono fun e W' ⟨v, he, hp⟩ => ?_
  subst he
  exact ChangeSpec.post_blind hp
end
end Go.Proofs.Ytcooiollckhdlaa
/- The walks of law 06's small, wakes. Conditions: none. -/
set_option linter.unusedVariables false
set_option linter.unusedSimpArgs false
set_option maxRecDepth 10000
namespace Go.Proofs
open Go Go.Ab
attribute [local irreducible] QR QV OE aops aw dsoup dsoupM dalloc dallocM thn inBlk jsoup jch lsoup
open Go.H
theorem lawSmall  : ACall Try.prog 23 [] [] (fun r h' => h' = [] ∧ r = .agg (grR smallG)) := by
  refine acall_of_aw Try.func23 rfl rfl rfl ?_
  refine rn ?_
  refine aops_e rfl (oe_alloc rfl fun b0 => ?_)
  refine rn ?_
  refine qv rfl rfl (qv_buildSlice rfl rfl) ?_
  refine rn ?_
  exact retq (.cons _ _ _ _ (.agg _ _ _ _ _ _ _ rfl inferInstance inferInstance inferInstance rfl) .nil) (.trans (.drop [_] _ _) (.le (Sb.aggs (aS := [iv 4, .list true 3 (smallG.es.map edR)]) (bs := grR smallG) ⟨.refl _, Sb.lists (fun h => by cases h) (Sbr.refl _), trivial⟩).le)) ⟨rfl, rfl⟩
theorem wOf : ACall Try.prog 8 [.agg (grR smallG)] [] (fun r h' => h' = [] ∧ r = .tup [intsA [0, 1, 1, 2], iv 0]) := (scOf smallG (by decide)).mono fun _ _ q => ⟨q.1, by rw [q.2, sm_of, sm_chk]⟩
theorem wCyc : ACall Try.prog 16 [.agg (grR smallG)] [] (fun r h' => h' = [] ∧ r = .tup [bv true, iv 0]) := (scCyclic smallG (by decide)).mono fun _ _ q => ⟨q.1, by rw [q.2, sm_cyc, sm_chk]⟩
theorem wFold : ACall Try.prog 19 [.agg (grR smallG)] [] (fun r h' => h' = [] ∧ r = .tup [.agg (grR ⟨3, [⟨0, 1, 0⟩, ⟨2, 0, 0⟩]⟩), iv 0]) := (scFoldF smallG (by decide)).mono fun _ _ q => ⟨q.1, by rw [q.2, sm_fold, sm_chk]⟩
theorem wNeg : ACall Try.prog 8 [.agg (grR negG)] [] (fun r h' => h' = [] ∧ r = .tup [intsA [], iv 150]) := (scOf negG (by decide)).mono fun _ _ q => ⟨q.1, by rw [q.2, neg_of, neg_chk]⟩
set_option maxHeartbeats 4000000 in
theorem lawWakes  : ACall Try.prog 6 [] [] (fun r h' => h' = [] ∧ r = bv true) := by
  refine acall_of_aw Try.func6 rfl rfl rfl ?_
  refine rn ?_
  refine qv rfl rfl (qv_call rfl rfl (FCall.pure (R := fun x => x = .agg (grR smallG)) (FCall.of_fun lawSmall))) ?_
  refine qv rfl rfl (qv_call rfl rfl (FCall.pure (R := fun x => x = .tup [intsA [0, 1, 1, 2], iv 0]) (FCall.of_fun wOf))) ?_
  refine rn ?_
  refine qv rfl rfl (qv_call rfl rfl (FCall.pure (R := fun x => x = .agg (grR smallG)) (FCall.of_fun lawSmall))) ?_
  refine qv rfl rfl (qv_call rfl rfl (FCall.pure (R := fun x => x = .tup [bv true, iv 0]) (FCall.of_fun wCyc))) ?_
  refine rn ?_
  refine qv rfl rfl (qv_call rfl rfl (FCall.pure (R := fun x => x = .agg (grR smallG)) (FCall.of_fun lawSmall))) ?_
  refine qv rfl rfl (qv_call rfl rfl (FCall.pure (R := fun x => x = .tup [.agg (grR ⟨3, [⟨0, 1, 0⟩, ⟨2, 0, 0⟩]⟩), iv 0]) (FCall.of_fun wFold))) ?_
  refine rn ?_
  refine aops_e rfl (oe_alloc rfl fun b5 => ?_)
  refine rn ?_
  refine qv rfl rfl (qv_call rfl rfl (FCall.pure (R := fun x => x = .tup [intsA [], iv 150]) (FCall.le (FCall.of_fun wNeg) ⟨(Sb.aggs (aS := [iv (-1), .v (.slice none 0 0)]) (bs := grR negG) ⟨.refl _, .nil _ _, trivial⟩).le, trivial⟩))) ?_
  refine rn ?_
  refine qv rfl rfl (qv_buildSlice rfl rfl) ?_
  refine qv rfl rfl (qv_call rfl rfl (FCall.pure (R := fun x => x = bv true) (FCall.of_fun (eqInt [0, 1, 1, 2] (by decide))))) ?_
  refine rn ?_
  refine qv rfl rfl (qv_buildSlice rfl rfl) ?_
  refine qv rfl rfl (qv_call rfl rfl (FCall.pure (R := fun x => x = bv true) (FCall.of_fun (eqEd [⟨0, 1, 0⟩, ⟨2, 0, 0⟩] (by decide))))) ?_
  refine rn ?_
  refine rq 1 ?_
  exact ⟨rfl, rfl⟩
end Go.Proofs
/- The walk of SccFolds. Conditions: none. -/
set_option linter.unusedVariables false
set_option linter.unusedSimpArgs false
set_option maxRecDepth 10000
namespace Go.Proofs
open Go Go.Ab
attribute [local irreducible] QR QV OE aops aw dsoup dsoupM dalloc dallocM thn inBlk jsoup jch lsoup
open Go.H
theorem rep_at {n k : Nat} (hk : k < n) : (List.replicate n [iv 0])[k]? = some [iv 0] := by
  rw [List.getElem?_replicate, if_pos hk]
theorem fold_cyc {g : Gr} (h : GOk g) : decide (0 < cntW (wordsL (rndO (foldG g)))) = false := by
  rw [rndO_y (chkE_0.2 (fold_ok h)), ← grp_words (fold_ok h), fold_grp h]; decide
set_option maxHeartbeats 8000000 in
theorem sccFolds (x : Gr) (hb : x.es.length ≤ 4611686018427387904) : ACall Try.prog 5 [.agg (grR x)] [] (fun r h' => h' = [] ∧ r = bv true) := by
  refine acall_of_aw Try.func5 rfl rfl rfl ?_
  have hg : (ownG 600 x).es.length ≤ 4611686018427387904 := Nat.le_trans (ownG_len 600 x) (by decide)
  refine rn ?_
  refine aops_e rfl (oe_box rfl rfl rfl fun b1 => ?_)
  refine rn ?_
  refine qv rfl rfl (qv_call rfl rfl (FCall.pure (R := fun z => z = bv true) (FCall.of_fun (lawWakes)))) ?_
  refine rn ?_
  refine aw_cond rfl (fun hc23 => ?_) (fun hc23 => ?_)
  · exact absurd hc23 (by decide)
  · refine rn ?_
    refine qv rfl rfl (qv_call rfl rfl (FCall.pure (R := fun z => z = .agg (grR (ownG 600 x))) (FCall.of_fun (lawOwn x hb)))) ?_
    refine aops_e rfl (oe_alloc rfl fun b3 => ?_)
    refine rn ?_
    refine qv rfl rfl (qv_call rfl rfl (FCall.pure (R := fun z => z = .tup [.agg (grR (foldO (ownG 600 x))), iv (chkE (ownG 600 x))]) (FCall.of_fun (scFoldF (ownG 600 x) hg)))) ?_
    refine rn ?_
    refine aops_e rfl (oe_alloc rfl fun b4 => ?_)
    refine rn ?_
    refine aw_cond rfl (fun hc32 => ?_) (fun hc32 => ?_)
    · skip
      refine rn ?_
      refine qv rfl rfl (qv_call rfl rfl (FCall.pure (R := fun z => z = iv (chkE (ownG 600 x))) (FCall.of_fun (grCheck (ownG 600 x) hg)))) ?_
      refine rn ?_
      exact retq (.cons _ _ _ _ (.tmp _ _ rfl) .nil) (.drop [_, _, _] _ _) ⟨rfl, congrArg bv (by simp)⟩
    · have he : chkE (ownG 600 x) = 0 := nzF hc32
      have hok := chkE_0.1 he
      have hn1 := hok.n1
      have hng : nG (ownG 600 x) ≤ 300 := by unfold nG; omega
      have heF := chkE_0.2 (fold_ok hok)
      have heI := chkE_0.2 (inner_ok hok)
      have heV := chkE_0.2 (rev_ok hok)
      have lF : (foldG (ownG 600 x)).es.length ≤ 4611686018427387904 := Nat.le_trans (fold_ok hok).many (by decide)
      have lI : (innerG (ownG 600 x)).es.length ≤ 4611686018427387904 := Nat.le_trans (inner_ok hok).many (by decide)
      have lV : (revG (ownG 600 x)).es.length ≤ 4611686018427387904 := Nat.le_trans (rev_ok hok).many (by decide)
      have hIn : FCall Try.prog (.fn (.func 20) [] []) [.agg (grR (ownG 600 x))] [] (fun r h' => h' = [] ∧ r = .tup [.agg (grR (innerG (ownG 600 x))), iv 0]) := (FCall.of_fun (scInnerF (ownG 600 x) hg)).mono fun _ _ q => ⟨q.1, by rw [q.2, innerO_y he, he]⟩
      have hCy : FCall Try.prog (.fn (.func 16) [] []) [.agg (grR (foldG (ownG 600 x)))] [] (fun r h' => h' = [] ∧ r = .tup [bv false, iv 0]) := (FCall.of_fun (scCyclic (foldG (ownG 600 x)) lF)).mono fun _ _ q => ⟨q.1, by rw [q.2, fold_cyc hok, heF]⟩
      have hOf : FCall Try.prog (.fn (.func 8) [] []) [.agg (grR (ownG 600 x))] [] (fun r h' => h' = [] ∧ r = .tup [intsA (rowI (ofGL (ownG 600 x))), iv 0]) := (FCall.of_fun (scOf (ownG 600 x) hg)).mono fun _ _ q => ⟨q.1, by rw [q.2, ofO_y he, he]⟩
      have hOi : FCall Try.prog (.fn (.func 8) [] []) [.agg (grR (innerG (ownG 600 x)))] [] (fun r h' => h' = [] ∧ r = .tup [intsA (rowI (ofGL (ownG 600 x))), iv 0]) := (FCall.of_fun (scOf (innerG (ownG 600 x)) lI)).mono fun _ _ q => ⟨q.1, by rw [q.2, ofO_y heI, heI, inner_of hok]⟩
      have hOr : FCall Try.prog (.fn (.func 8) [] []) [.agg (grR (revG (ownG 600 x)))] [] (fun r h' => h' = [] ∧ r = .tup [intsA (rowI (ofGL (ownG 600 x))), iv 0]) := (FCall.of_fun (scOf (revG (ownG 600 x)) lV)).mono fun _ _ q => ⟨q.1, by rw [q.2, ofO_y heV, heV, rev_of hok]⟩
      have hRe : FCall Try.prog (.fn (.func 21) [] []) [.agg (grR (ownG 600 x))] [] (fun r h' => h' = [] ∧ r = .tup [.agg (grR (revG (ownG 600 x))), iv 0]) := (FCall.of_fun (grReverse (ownG 600 x) hg)).mono fun _ _ q => ⟨q.1, by rw [q.2, revO_y he, he]⟩
      have hCf : FCall Try.prog (.fn (.func 9) [] []) [.agg (grR (foldG (ownG 600 x)))] [] (fun r h' => h' = [] ∧ r = iv 0) := (FCall.of_fun (grCheck (foldG (ownG 600 x)) lF)).mono fun _ _ q => ⟨q.1, by rw [q.2, heF]⟩
      have hCi : FCall Try.prog (.fn (.func 9) [] []) [.agg (grR (innerG (ownG 600 x)))] [] (fun r h' => h' = [] ∧ r = iv 0) := (FCall.of_fun (grCheck (innerG (ownG 600 x)) lI)).mono fun _ _ q => ⟨q.1, by rw [q.2, heI]⟩
      have hFf : FCall Try.prog (.fn (.func 19) [] []) [.agg (grR (foldG (ownG 600 x)))] [] (fun r h' => h' = [] ∧ r = .tup [.agg (grR (foldG (ownG 600 x))), iv 0]) := (FCall.of_fun (scFoldF (foldG (ownG 600 x)) lF)).mono fun _ _ q => ⟨q.1, by rw [q.2, foldO_y heF, fold_fold hok, heF]⟩
      have hEq : FCall Try.prog (.fn (.func 12) [] []) [intsA (rowI (ofGL (ownG 600 x))), intsA (rowI (ofGL (ownG 600 x)))] [] (fun r h' => h' = [] ∧ r = bv true) := FCall.of_fun (eqInt (rowI (ofGL (ownG 600 x))) (by rw [ofGL_len]; omega))
      have hSa : FCall Try.prog (.fn (.func 22) [] []) [.agg (grR (foldG (ownG 600 x))), .agg (grR (foldG (ownG 600 x)))] [] (fun r h' => h' = [] ∧ r = bv true) := (FCall.of_fun (grSame (foldG (ownG 600 x)) (foldG (ownG 600 x)) lF lF)).mono fun _ _ q => ⟨q.1, by rw [q.2]; simp⟩
      rw [he, foldO_y he]
      refine rn ?_
      refine qv rfl rfl (qv_call rfl rfl (FCall.pure hIn)) ?_
      refine rn ?_
      refine aops_e rfl (oe_alloc rfl fun b6 => ?_)
      refine rn ?_
      refine qv rfl rfl (qv_call rfl rfl (FCall.pure hCy)) ?_
      refine rn ?_
      refine qv rfl rfl (qv_call rfl rfl (FCall.pure hOf)) ?_
      refine rn ?_
      refine qv rfl rfl (qv_call rfl rfl (FCall.pure hOi)) ?_
      refine rn ?_
      refine qv rfl rfl (qv_call rfl rfl (FCall.pure hRe)) ?_
      refine rn ?_
      refine aops_e rfl (oe_alloc rfl fun b14 => ?_)
      refine rn ?_
      refine qv rfl rfl (qv_call rfl rfl (FCall.pure hOr)) ?_
      refine rn ?_
      refine aw_draw 13 rfl ?_
      refine rn ?_
      refine dv rfl rfl (by exact qv_call rfl rfl (FCall.pure hCf)) ?_
      refine rn ?_
      refine dv rfl rfl (by exact qv_call rfl rfl (FCall.pure hCi)) ?_
      refine dv rfl rfl (qv_buildSlice rfl rfl) ?_
      refine rn ?_
      refine aw_range 8 (fun _ => True) (fun k => ⟨[(79, iv k), (3, .v (.pointer (some ⟨b3, 0, none⟩))), (4, .v (.pointer (some ⟨b4, 0, none⟩))), (6, .v (.pointer (some ⟨b6, 0, none⟩))), (8, bv false), (10, intsA (rowI (ofGL (ownG 600 x)))), (12, intsA (rowI (ofGL (ownG 600 x)))), (16, intsA (rowI (ofGL (ownG 600 x)))), (77, .list true 1 (List.replicate 8 [iv 0])), (78, iv (8 : Nat))], .box b14 24 (grR (revG (ownG 600 x))) :: .box b6 24 (grR (innerG (ownG 600 x))) :: .box b4 24 (grR (foldG (ownG 600 x))) :: .box b3 24 (grR (ownG 600 x)) :: .box b1 24 (grR x) :: [], []⟩) trivial es ?_
      intro k lk _
      refine rn ?_
      refine aw_cond rfl (fun hc80 => ?_) (fun hc80 => ?_)
      · have hk : k < 8 := by have q := of_decide_eq_true hc80; omega
        refine aw_skip ?_
        refine thn_n ?_
        refine aw_seq ?_
        refine aw_block ?_
        refine aw_seq (aw_region ?_)
        refine qq rfl rfl (qr_index_list (i := k) rfl rfl (rep_at hk)) ?_
        refine rn ?_
        refine aw_cond rfl (fun hc84 => ?_) (fun hc84 => ?_)
        · exact absurd hc84 (by decide)
        · refine rn ?_
          exact ⟨hk, trivial, eA⟩
      · have qk : k = 8 := by have q := of_decide_eq_false hc80; omega
        refine rn ?_
        refine qv rfl rfl (qv_call rfl rfl (FCall.pure hFf)) ?_
        refine rn ?_
        refine aops_e rfl (oe_alloc rfl fun b20 => ?_)
        refine rn ?_
        refine qv rfl rfl (qv_call rfl rfl (FCall.pure hEq)) ?_
        refine rn ?_
        refine qv rfl rfl (qv_call rfl rfl (FCall.pure hEq)) ?_
        refine rn ?_
        refine qv rfl rfl (qv_call rfl rfl (FCall.pure hSa)) ?_
        refine q1 ?_
        refine q1 ?_
        refine q1 ?_
        refine q1 ?_
        refine q1 ?_
        refine q1 ?_
        refine q1 ?_
        refine q1 ?_
        refine qq rfl rfl (qr_as (qr_cmp rfl rfl rfl) (congrArg bv (decide_eq_true (by rw [List.length_map, List.length_map]; have := inner_len (ownG 600 x); omega)))) ?_
        refine rn ?_
        exact retq (.cons _ _ _ _ (.tmp _ _ rfl) .nil) (.drop [_, _, _, _, _, _] _ _) ⟨rfl, rfl⟩
end Go.Proofs
