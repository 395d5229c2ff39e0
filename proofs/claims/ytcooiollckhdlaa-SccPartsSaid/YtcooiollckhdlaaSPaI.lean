/- Graphs read as data, and what a row without laid variables asks of a contract. Conditions: none. -/
import Derived.Test.YtcooiollckhdlaaSPaH
import Derived.Test.YtcooiollckhdlaaRows
import Derived.ProofKit
set_option linter.unusedSectionVars false
set_option linter.unusedSimpArgs false
set_option linter.unusedVariables false
set_option linter.unusedVariables false
set_option maxRecDepth 100000
namespace Go.Proofs.Ytcooiollckhdlaa
open Go Go.Ab Go.H Go.ChangeShapes Go.WideShapes Go.ChangeAt Go.RowKit
theorem own : ownKnob Try.prog.godebug = none := by kernel_rfl
section
variable {K : Type} {enc : TypeId × Value → K} {w : World}
theorem rInt : Reads enc Try.prog w 3 (fun n : Int => [iv n]) (fun _ => True) := .int Try.underlying3
theorem big_of {n b b' c : Nat} (hb : b' = b) (hb0 : 0 < b) (hc : reachBytes / b ≤ c) (h : n * b' ≤ reachBytes) : n ≤ c := by
  subst hb
  exact Nat.le_trans ((Nat.le_div_iff_mul_le hb0).2 h) hc
theorem rEd : Reads enc Try.prog w 35 edR (fun _ => True) :=
  .map (fun x : Int × Int × Int × Unit => ⟨x.1, x.2.1, x.2.2.1⟩) (.struct Try.underlying35 rfl (tot := 3) (by kernel_rfl) (.cons rInt (s := 1) (by kernel_rfl) (.cons rInt (s := 1) (by kernel_rfl) (.cons rInt (s := 1) (by kernel_rfl) (.nil 3))))) (fun _ => rfl) (fun _ _ => trivial)
theorem rEds : Reads enc Try.prog w 22 (fun l : List Ed => [edsA l]) (fun l => l.length ≤ 5864062014805) :=
  .map (fun l : List Ed => l) (.slice Try.underlying22 rEd (k := 3) (by kernel_rfl) (by decide) (by rw [show Try.prog.bytesOf 35 = 24 by kernel_rfl]; decide)) (fun _ => rfl) (fun _ h => big_of (b := 24) (by kernel_rfl) (by decide) (by decide) h.1)
theorem rGr : Reads enc Try.prog w 24 (fun g : Gr => [iv g.n, edsA g.es]) (fun g => g.es.length ≤ 5864062014805) :=
  .map (fun x : Int × List Ed × Unit => ⟨x.1, x.2.1⟩) (.struct Try.underlying24 rfl (tot := 2) (by kernel_rfl) (.cons rInt (s := 1) (by kernel_rfl) (.cons rEds (s := 1) (by kernel_rfl) (.nil 2)))) (fun _ => rfl) (fun _ h => h.2.1)
end
/-- Blocks that were there stay: what is read of an argument stays. -/
theorem keep_below {W W' : World} (hk : Keep [] W [] W') : RowKit.Below W.heap.size W { W' with tape := W.tape } :=
  ⟨hk.env.1.1, rfl, hk.env.1.2, hk.size, fun k hk' => (hk.same k hk' (by simp)).1⟩
theorem keep_but {W W' : World} (hk : Keep [] W [] W') (may : MemPlace → Prop) : W.keptBut W' may := by
  refine ⟨hk.env.1.1, hk.env.1.2, fun i hi => ?_⟩
  rw [(hk.same i hi (by simp)).1]
  generalize W.heap[i]? = o
  cases o with
  | none => rfl
  | some o => cases o <;> first | rfl | exact ⟨rfl, rfl, rfl, fun _ _ => rfl⟩ | exact .inr ⟨rfl, rfl⟩
section
variable {H : Type} {enc : TypeId × Value → H}
theorem gr_of {W : World} {cs : Array Value} {d : DataW H} {ps : List MemPlace} (h : DataW.Trod enc Try.prog W 0 (fun _ => true) true 24 (.agg cs) d ps) (hw : ∀ n ∈ d.weights Try.prog 24, n ≤ reachBytes) :
    ∃ x : Gr, x.es.length ≤ 4611686018427387904 ∧ Rel W noX (.agg [iv x.n, edsA x.es]) (.agg cs) := by
  obtain ⟨fuel, hf⟩ := h
  obtain ⟨x, hlim, hx⟩ := rGr fuel _ _ hf hw
  exact ⟨x, Nat.le_trans hlim (by decide), .agg _ _ (by simpa [Value.cells] using hx.1) fun j h1 h2 => by simpa [Value.cells] using hx.2 j h1 (by simpa [Value.cells] using h2)⟩
theorem trod_keep_gr {W W' : World} {v : Value} {d : DataW H} {ps : List MemPlace} (hk : Keep [] W [] W') (h : DataW.Trod enc Try.prog W 0 (fun _ => true) true 24 v d ps) (hlt : ∀ x ∈ ps, x.block < W.heap.size) :
    DataW.Trod enc Try.prog W' 0 (fun b => decide (b < W.heap.size)) true 24 v d ps :=
  DataW.Trod.of_heap (w := { W' with tape := W.tape }) (w' := W') rfl (Below.trod (by kernel_rfl) (by kernel_rfl) (by decide +kernel) h (keep_below hk) hlt)
/-- What a function does, under the bytes' bounds of what is read. -/
theorem handed_sized {C : Checked} {os : Os} {f : FuncId} {fn : Func} {s : ChangeSpec} (own : ownKnob C.prog.godebug = none) (started : os.Started) (noInit : C.prog.inits.idxOf? f = none) (hfn : C.prog.funcs[f]? = some fn)
    (witness : ∃ (w : World) (tape : Tape) (i : Input), w.os = os ∧ (w.forCall tape i).Shaped C.prog ∧ i.vars = [] ∧ Input.okWide C.prog (w.forCall tape i) .any w.heap.size f i ∧
      s.pre6 enc C.prog fn [] false (w.forCall tape i).memory i.args ∧ ({} : Assume).holds C.prog (lone (Frame.enter C.prog f i.args .normal) [] (w.forCall tape i)))
    (contract : ∀ (W : World) (base : Nat) (args : Array Value) (ds gs : List (DataW H)) (before : List MemPlace),
      (∀ (j : Nat) t v, fn.params[j]? = some t → args[j]? = some v → Value.okWide C.prog W .any base t v) →
      DataW.Whole enc C.prog fn.params.toList s.vars false W args.toList ds gs before →
      (DataW.weightsEach C.prog (fn.params.toList ++ s.plain.varTypes C.prog) (ds ++ gs)).all (· ≤ reachBytes) = true →
      Calls C.prog f args W fun e W' => ∃ v, e = .returned v ∧ s.post enc C.prog fn false true false false W args v W') :
    ReturnsInHanded {} C os f .any (s.pre6 enc C.prog fn [] false) (s.post enc C.prog fn false true false false) := by
  refine returnsInHanded_of_calls own started noInit witness ?_
  intro w tape i _ _ _ hok hpre hholds
  obtain ⟨_, _, _, fn', hfn', _, _, _, _, hval⟩ := hok
  obtain rfl : fn' = fn := Option.some.inj (hfn'.symm.trans hfn)
  obtain ⟨⟨ds, gs, before, hw, _⟩, hz⟩ := hpre
  refine (contract (w.forCall tape i) w.heap.size i.args ds gs before hval (DataW.Whole.of_heap (w' := w.forCall tape i) (by rfl) hw) (hz.weights hw)).mono fun e W' ⟨v, he, hp⟩ => ?_
  subst he
  exact ChangeSpec.post_blind hp
end
end Go.Proofs.Ytcooiollckhdlaa
/- The walks of law 06's small, wakes. Conditions: none. -/
set_option linter.unusedVariables false
set_option linter.unusedSimpArgs false
set_option maxRecDepth 10000
namespace Go.Proofs
open Go Go.Ab
attribute [local irreducible] QR QV OE aops aw dsoup dsoupM dalloc dallocM thn inBlk jsoup jch lsoup
open Go.H
theorem lawSmall  : ACall Try.prog 23 [] [] (fun r h' => h' = [] ∧ r = .agg (grR smallG)) := by
  refine acall_of_aw Try.func23 rfl rfl rfl ?_
  refine rn ?_
  refine aops_e rfl (oe_alloc rfl fun b0 => ?_)
  refine rn ?_
  refine qv rfl rfl (qv_buildSlice rfl rfl) ?_
  refine rn ?_
  exact retq (.cons _ _ _ _ (.agg _ _ _ _ _ _ _ rfl inferInstance inferInstance inferInstance rfl) .nil) (.trans (.drop [_] _ _) (.le (Sb.aggs (aS := [iv 4, .list true 3 (smallG.es.map edR)]) (bs := grR smallG) ⟨.refl _, Sb.lists (fun h => by cases h) (Sbr.refl _), trivial⟩).le)) ⟨rfl, rfl⟩
theorem wOf : ACall Try.prog 8 [.agg (grR smallG)] [] (fun r h' => h' = [] ∧ r = .tup [intsA [0, 1, 1, 2], iv 0]) := (scOf smallG (by decide)).mono fun _ _ q => ⟨q.1, by rw [q.2, sm_of, sm_chk]⟩
theorem wCyc : ACall Try.prog 16 [.agg (grR smallG)] [] (fun r h' => h' = [] ∧ r = .tup [bv true, iv 0]) := (scCyclic smallG (by decide)).mono fun _ _ q => ⟨q.1, by rw [q.2, sm_cyc, sm_chk]⟩
theorem wFold : ACall Try.prog 19 [.agg (grR smallG)] [] (fun r h' => h' = [] ∧ r = .tup [.agg (grR ⟨3, [⟨0, 1, 0⟩, ⟨2, 0, 0⟩]⟩), iv 0]) := (scFoldF smallG (by decide)).mono fun _ _ q => ⟨q.1, by rw [q.2, sm_fold, sm_chk]⟩
theorem wNeg : ACall Try.prog 8 [.agg (grR negG)] [] (fun r h' => h' = [] ∧ r = .tup [intsA [], iv 150]) := (scOf negG (by decide)).mono fun _ _ q => ⟨q.1, by rw [q.2, neg_of, neg_chk]⟩
set_option maxHeartbeats 4000000 in
theorem lawWakes  : ACall Try.prog 6 [] [] (fun r h' => h' = [] ∧ r = bv true) := by
  refine acall_of_aw Try.func6 rfl rfl rfl ?_
  refine rn ?_
  refine qv rfl rfl (qv_call rfl rfl (FCall.pure (R := fun x => x = .agg (grR smallG)) (FCall.of_fun lawSmall))) ?_
  refine qv rfl rfl (qv_call rfl rfl (FCall.pure (R := fun x => x = .tup [intsA [0, 1, 1, 2], iv 0]) (FCall.of_fun wOf))) ?_
  refine rn ?_
  refine qv rfl rfl (qv_call rfl rfl (FCall.pure (R := fun x => x = .agg (grR smallG)) (FCall.of_fun lawSmall))) ?_
  refine qv rfl rfl (qv_call rfl rfl (FCall.pure (R := fun x => x = .tup [bv true, iv 0]) (FCall.of_fun wCyc))) ?_
  refine rn ?_
  refine qv rfl rfl (qv_call rfl rfl (FCall.pure (R := fun x => x = .agg (grR smallG)) (FCall.of_fun lawSmall))) ?_
  refine qv rfl rfl (qv_call rfl rfl (FCall.pure (R := fun x => x = .tup [.agg (grR ⟨3, [⟨0, 1, 0⟩, ⟨2, 0, 0⟩]⟩), iv 0]) (FCall.of_fun wFold))) ?_
  refine rn ?_
  refine aops_e rfl (oe_alloc rfl fun b5 => ?_)
  refine rn ?_
  refine qv rfl rfl (qv_call rfl rfl (FCall.pure (R := fun x => x = .tup [intsA [], iv 150]) (FCall.le (FCall.of_fun wNeg) ⟨(Sb.aggs (aS := [iv (-1), .v (.slice none 0 0)]) (bs := grR negG) ⟨.refl _, .nil _ _, trivial⟩).le, trivial⟩))) ?_
  refine rn ?_
  refine qv rfl rfl (qv_buildSlice rfl rfl) ?_
  refine qv rfl rfl (qv_call rfl rfl (FCall.pure (R := fun x => x = bv true) (FCall.of_fun (eqInt [0, 1, 1, 2] (by decide))))) ?_
  refine rn ?_
  refine qv rfl rfl (qv_buildSlice rfl rfl) ?_
  refine qv rfl rfl (qv_call rfl rfl (FCall.pure (R := fun x => x = bv true) (FCall.of_fun (eqEd [⟨0, 1, 0⟩, ⟨2, 0, 0⟩] (by decide))))) ?_
  refine rn ?_
  refine rq 1 ?_
  exact ⟨rfl, rfl⟩
end Go.Proofs
/- The walk of SccParts. Conditions: none. -/
set_option linter.unusedVariables false
set_option linter.unusedSimpArgs false
set_option maxRecDepth 10000
namespace Go.Proofs
open Go Go.Ab
attribute [local irreducible] QR QV OE aops aw dsoup dsoupM dalloc dallocM thn inBlk jsoup jch lsoup
open Go.H
theorem neb_v {a b : Bool} (h : a = b) : AV.v (.bool (!(a == b))) = bv false := by subst h; cases a <;> rfl
theorem len_rowI (C : List Nat) : iv ((rowI C).map intR).length = iv ((C.length : Nat) : Int) := by rw [rowI_len]
theorem rnd_in {g : Gr} {x : Nat} (hx : x ∈ rndG g) : x < nG g := List.mem_range.1 (List.mem_filter.1 hx).1
theorem hd_eq {C : List Nat} (h : 0 < C.length) : C[0] = C.headD 0 := by
  cases C with
  | nil => cases h
  | cons a r => rfl
noncomputable def lastS (g : Gr) (k : Nat) : Int := if k = 0 then -1 else ((((setsG g)[k - 1]?).getD []).headD 0 : Nat)
theorem set_fst {g : Gr} {k : Nat} (hk : k < (setsG g).length) : ∃ h : 0 < (setsG g)[k].length, lastS g (k + 1) = (((setsG g)[k][0]'h : Nat) : Int) ∧ lastS g k < (((setsG g)[k][0]'h : Nat) : Int) := by
  have hne := set_ne (List.getElem_mem hk)
  have h0 : 0 < (setsG g)[k].length := List.length_pos_iff.2 hne
  refine ⟨h0, ?_, ?_⟩
  · unfold lastS
    rw [if_neg (Nat.succ_ne_zero k), Nat.add_sub_cancel, List.getElem?_eq_getElem hk, hd_eq h0]; rfl
  · unfold lastS
    by_cases q : k = 0
    · rw [if_pos q]; omega
    · rw [if_neg q]
      obtain ⟨v, w, r, s, hvw, e1, e2⟩ := sets_lt (a := adjG g) (n := nG g) (i := k - 1) hk (by omega)
      have e1 : (setsG g)[k - 1]'(by omega) = v :: r := e1
      have e2 : (setsG g)[k] = w :: s := e2
      rw [List.getElem?_eq_getElem (by omega), Option.getD_some, e1]
      simp only [List.headD_cons, e2, List.getElem_cons_zero]
      omega
theorem set_srt {g : Gr} {k : Nat} (hk : k < (setsG g).length) : (rowI (setsG g)[k]).Pairwise (· ≤ ·) := by
  obtain ⟨v, _, _, e⟩ := sets_at (a := adjG g) (n := nG g) hk
  have e : (setsG g)[k] = setN (nG g) (adjG g) v := e
  rw [e]
  unfold rowI
  rw [List.pairwise_map]
  exact (set_lt (nG g) (adjG g) v).imp fun h => by omega
theorem rnd_iff {g : Gr} (h : GOk g) {k : Nat} (hk : k < (setsG g).length) {v : Nat} (hv : v ∈ (setsG g)[k]) : v ∈ rndG g ↔ 1 < (setsG g)[k].length := by
  have hr := round_iff (n := nG g) (a := adjG g) (fun u q => (adj_n h q).2.2 rfl) (fun u v q => (adj_n h q).2.1) hk hv
  unfold rndG
  rw [List.mem_filter, List.mem_range, ldB_iff]
  exact ⟨fun q => hr.1 q.2, fun q => ⟨set_in (List.getElem_mem hk) hv, hr.2 q⟩⟩
theorem fl_s6 {α : Type} {ll : List (List α)} {k : Nat} (hk : k < ll.length) : (ll.take (k + 1)).flatten.length = (ll.take k).flatten.length + ll[k].length := by
  rw [List.take_succ_eq_append_getElem hk, List.flatten_append, List.length_append]; simp
theorem fl_le {g : Gr} (k : Nat) : ((setsG g).take k).flatten.length ≤ nG g := by
  have h1 : (setsG g).flatten.length = nG g := sets_many _ _
  have h2 : ((setsG g).take k).flatten.length ≤ (setsG g).flatten.length := by
    conv => rhs; rw [← List.take_append_drop k (setsG g), List.flatten_append, List.length_append]
    omega
  omega
theorem eqb_v {a b : Bool} (h : a = b) : AV.v (.bool (a == b)) = bv true := by subst h; cases a <;> rfl
theorem cnt_b (l : List Nat) : decide (0 < cntW (wordsL l)) = decide (((cntW (wordsL l) : Nat) : Int) > 0) := by
  rw [Bool.eq_iff_iff, decide_eq_true_iff, decide_eq_true_iff]; omega
theorem eq_many {g : Gr} (hnn : ((nG g : Nat) : Int) = g.n) : ((((setsG g).take (setsG g).length).flatten.length : Nat) : Int) == g.n := by
  have h9 : (setsG g).flatten.length = nG g := sets_many _ _
  rw [List.take_length, h9, hnn]; simp
set_option maxHeartbeats 8000000 in
theorem sccParts (x : Gr) (hb : x.es.length ≤ 4611686018427387904) : ACall Try.prog 4 [.agg (grR x)] [] (fun r h' => h' = [] ∧ r = bv true) := by
  refine acall_of_aw Try.func4 rfl rfl rfl ?_
  have hg : (ownG 600 x).es.length ≤ 4611686018427387904 := Nat.le_trans (ownG_len 600 x) (by decide)
  refine rn ?_
  refine aops_e rfl (oe_box rfl rfl rfl fun b1 => ?_)
  refine rn ?_
  refine qv rfl rfl (qv_call rfl rfl (FCall.pure (R := fun z => z = bv true) (FCall.of_fun (lawWakes)))) ?_
  refine rn ?_
  refine aw_cond rfl (fun hc23 => ?_) (fun hc23 => ?_)
  · exact absurd hc23 (by decide)
  · refine rn ?_
    refine qv rfl rfl (qv_call rfl rfl (FCall.pure (R := fun z => z = .agg (grR (ownG 600 x))) (FCall.of_fun (lawOwn x hb)))) ?_
    refine aops_e rfl (oe_alloc rfl fun b3 => ?_)
    refine rn ?_
    refine qv rfl rfl (qv_call rfl rfl (FCall.pure (R := fun z => z = .tup [intsA (ofO (ownG 600 x)), iv (chkE (ownG 600 x))]) (FCall.of_fun (scOf (ownG 600 x) hg)))) ?_
    refine rn ?_
    refine aops_e rfl (oe_call rfl rfl (FCall.fr (FCall.of_fun (scSets (ownG 600 x) hg)) (.refl _)) rfl ?_)
    rintro _ _ ⟨_, rfl, s, rfl, rfl⟩
    simp only [List.cons_append, List.nil_append]
    refine rn ?_
    refine aw_cond rfl (fun hc37 => ?_) (fun hc37 => ?_)
    · have he : chkE (ownG 600 x) ≠ 0 := nzT hc37
      rw [ofO_n he, setsO_n he]
      refine aw_seq (aw_region ?_)
      refine q1 ?_
      refine q1 ?_
      refine qq rfl rfl (qr_as (qr_cmp rfl rfl rfl) (show _ = bv true from congrArg bv (by simp))) ?_
      refine rn ?_
      refine qv rfl rfl (qv_call rfl rfl (FCall.pure (R := fun z => z = iv (chkE (ownG 600 x))) (FCall.of_fun (grCheck (ownG 600 x) hg)))) ?_
      refine q1 ?_
      refine qq rfl rfl (qr_as (qr_cmp rfl rfl rfl) (show _ = bv true from congrArg bv (by simp))) ?_
      refine q1 ?_
      refine q1 ?_
      refine q1 ?_
      refine qq rfl rfl (qr_as (qr_len_list rfl) (show iv _ = iv ((0 : Nat) : Int) from rfl)) ?_
      refine q1 ?_
      refine qq rfl rfl (qr_as (qr_len_row rfl) (show iv _ = iv ((0 : Nat) : Int) from rfl)) ?_
      refine rn ?_
      exact retq (.cons _ _ _ _ (.tmp _ _ rfl) .nil) (.drop [_, _, _] _ _) ⟨rfl, rfl⟩
    · have he : chkE (ownG 600 x) = 0 := nzF hc37
      have hok := chkE_0.1 he
      have hn0 := hok.n0
      have hn1 := hok.n1
      have hng : nG (ownG 600 x) ≤ 300 := by unfold nG; omega
      have hnn : ((nG (ownG 600 x) : Nat) : Int) = ((ownG 600 x)).n := by unfold nG; omega
      have hsl := sets_le (ownG 600 x)
      have hrm : ∀ z ∈ (rndG (ownG 600 x)), z < 640 := fun z hz => by have := rnd_in hz; omega
      have hRo : FCall Try.prog (.fn (.func 15) [] []) [.agg (grR (ownG 600 x))] [] (fun r h' => h' = [] ∧ r = .tup [.agg [wordsA (wordsL (rndG (ownG 600 x)))], iv 0]) := (FCall.of_fun (scRound (ownG 600 x) hg)).mono fun _ _ q => ⟨q.1, by rw [q.2, rndO_y he, he]⟩
      have hCy : FCall Try.prog (.fn (.func 16) [] []) [.agg (grR (ownG 600 x))] [] (fun r h' => h' = [] ∧ r = .tup [bv (decide (0 < cntW (wordsL (rndG (ownG 600 x))))), iv 0]) := (FCall.of_fun (scCyclic (ownG 600 x) hg)).mono fun _ _ q => ⟨q.1, by rw [q.2, rndO_y he, he]⟩
      rw [he, ofO_y he, setsO_y he]
      refine rn ?_
      refine aw_range (setsG (ownG 600 x)).length (fun _ => True) (fun k => ⟨[(57, iv k), (8, iv ((((setsG (ownG 600 x)).take k).flatten.length : Nat) : Int)), (9, iv (lastS (ownG 600 x) k)), (3, .v (.pointer (some ⟨b3, 0, none⟩))), (4, intsA (rowI (ofGL (ownG 600 x)))), (6, .v s.v), (7, iv 0), (55, .v s.v), (56, iv (((setsG (ownG 600 x)).map rowI).map lisR).length)], .row s.v 1 27 (((setsG (ownG 600 x)).map rowI).map lisR) :: .box b3 24 (grR (ownG 600 x)) :: .box b1 24 (grR x) :: [], []⟩) trivial es ?_
      intro k lk _
      refine rn ?_
      refine aw_cond rfl (fun hc58 => ?_) (fun hc58 => ?_)
      · have hk : k < (setsG (ownG 600 x)).length := by have q := of_decide_eq_true hc58; rw [setsR_len] at q; omega
        have hCl := set_le (List.getElem_mem hk)
        obtain ⟨h0, hl1, hl2⟩ := set_fst hk
        have hfs := fl_s6 hk
        have hfl := fl_le (g := (ownG 600 x)) k
        have hfl1 := fl_le (g := (ownG 600 x)) (k + 1)
        refine aw_skip ?_
        refine thn_n ?_
        refine aw_seq ?_
        refine aw_block ?_
        refine aw_seq (aw_region ?_)
        refine q1 ?_
        refine qq rfl rfl (qr_index_row (k := k) rfl rfl (by rw [setsR_len]; exact hk)) ?_
        refine qq rfl rfl (qr_load_rp_one rfl (sets_row hk) rfl) ?_
        refine q1 ?_
        refine q1 ?_
        refine aops_nil (thn_n ?_)
        refine aw_seq ?_
        refine aw_seq (aw_region ?_)
        refine q1 ?_
        refine q1 ?_
        refine qq rfl rfl (qr_as (qr_cmp rfl rfl rfl) (show _ = bv false from congrArg bv (by rw [rowI_len, beq_eq_false_iff_ne]; omega))) ?_
        refine q1 ?_
        refine q1 ?_
        refine qq rfl rfl (qr_index_list (i := 0) rfl rfl (rowI_at h0)) ?_
        refine q1 ?_
        refine q1 ?_
        refine qq rfl rfl (qr_as (qr_cmp rfl rfl rfl) (show _ = bv false from congrArg bv (by exact decide_eq_false (by omega)))) ?_
        refine rn ?_
        refine qv rfl rfl (qv_call rfl rfl (FCall.pure (R := fun z => z = bv true) (FCall.of_fun (isSortedI (f := false) (rowI (setsG (ownG 600 x))[k]) (by unfold rowI; rw [List.length_map]; omega) (set_srt hk))))) ?_
        refine rn ?_
        refine aw_cond rfl (fun hc76 => ?_) (fun hc76 => ?_)
        · exact absurd hc76 (by decide)
        · refine aw_skip ?_
          refine thn_n ?_
          refine aw_seq (aw_region ?_)
          refine q1 ?_
          refine qq rfl rfl (qr_index_list (i := 0) rfl rfl (rowI_at h0)) ?_
          refine rn ?_
          refine aw_range (setsG (ownG 600 x))[k].length (fun _ => True) (fun j => ⟨[(82, iv j), (3, .v (.pointer (some ⟨b3, 0, none⟩))), (4, intsA (rowI (ofGL (ownG 600 x)))), (6, .v s.v), (7, iv 0), (8, iv ((((setsG (ownG 600 x)).take k).flatten.length : Nat) : Int)), (9, iv (((setsG (ownG 600 x))[k][0]'h0 : Nat) : Int)), (10, iv k), (11, intsA (rowI (setsG (ownG 600 x))[k])), (55, .v s.v), (56, iv (((setsG (ownG 600 x)).map rowI).map lisR).length), (57, iv k), (80, intsA (rowI (setsG (ownG 600 x))[k])), (81, iv ((rowI (setsG (ownG 600 x))[k]).map intR).length)], .row s.v 1 27 (((setsG (ownG 600 x)).map rowI).map lisR) :: .box b3 24 (grR (ownG 600 x)) :: .box b1 24 (grR x) :: [], []⟩) trivial es ?_
          intro j lj _
          refine rn ?_
          refine aw_cond rfl (fun hc83 => ?_) (fun hc83 => ?_)
          · have hj : j < (setsG (ownG 600 x))[k].length := by have q := of_decide_eq_true hc83; rw [rowI_len] at q; omega
            have hvm : (setsG (ownG 600 x))[k][j] ∈ (setsG (ownG 600 x))[k] := List.getElem_mem hj
            have hvn : (setsG (ownG 600 x))[k][j] < nG (ownG 600 x) := set_in (List.getElem_mem hk) hvm
            have hof : ofG (ownG 600 x) (setsG (ownG 600 x))[k][j] = k := of_at hk hvm
            refine aw_skip ?_
            refine thn_n ?_
            refine aw_seq ?_
            refine aw_block ?_
            refine aw_seq (aw_region ?_)
            refine qq rfl rfl (qr_index_list (i := j) rfl rfl (rowI_at hj)) ?_
            refine q1 ?_
            refine q1 ?_
            refine aops_nil (thn_n ?_)
            refine aw_seq (aw_region ?_)
            refine q1 ?_
            refine qq rfl rfl (qr_as (qr_cmp rfl rfl rfl) (show _ = bv false from congrArg bv (by exact decide_eq_false (by omega)))) ?_
            refine q1 ?_
            refine q1 ?_
            refine q1 ?_
            refine q1 ?_
            refine qq rfl rfl (qr_as (qr_cmp rfl rfl rfl) (show _ = bv false from congrArg bv (by exact decide_eq_false (by omega)))) ?_
            refine q1 ?_
            refine q1 ?_
            refine q1 ?_
            refine q1 ?_
            refine qq rfl rfl (qr_index_list (i := (setsG (ownG 600 x))[k][j]) rfl rfl (ofGL_at hvn)) ?_
            refine q1 ?_
            refine q1 ?_
            refine qq rfl rfl (qr_as (qr_cmp rfl rfl rfl) (show _ = bv false from congrArg bv (by rw [hof]; simp))) ?_
            refine rn ?_
            refine aw_cond rfl (fun hc101 => ?_) (fun hc101 => ?_)
            · exact absurd hc101 (by decide)
            · refine rn ?_
              exact ⟨hj, trivial, eA⟩
          · have qj : j = (setsG (ownG 600 x))[k].length := by have q := of_decide_eq_false hc83; rw [rowI_len] at q; omega
            refine aw_exit ?_
            refine thn_e ?_
            refine thn_e ?_
            refine inBlk_hit ?_
            refine thn_n ?_
            refine aw_region ?_
            refine q1 ?_
            refine q1 ?_
            refine q1 ?_
            refine qq rfl rfl (qr_as (qr_ari rfl rfl rfl (by rw [rowI_len]; omega)) (show iv _ = iv ((((setsG (ownG 600 x)).take (k + 1)).flatten.length : Nat) : Int) from congrArg iv (by rw [rowI_len]; omega))) ?_
            refine rn ?_
            exact ⟨hk, trivial, by rw [hl1]; exact eA⟩
      · have qk : k = (setsG (ownG 600 x)).length := by have q := of_decide_eq_false hc58; rw [setsR_len] at q; omega
        subst qk
        refine rn ?_
        refine qv rfl rfl (qv_call rfl rfl (FCall.pure hRo)) ?_
        refine rn ?_
        refine aops_e rfl (oe_alloc rfl fun b14 => ?_)
        refine rn ?_
        refine qv rfl rfl (qv_call rfl rfl (FCall.pure hCy)) ?_
        refine rn ?_
        refine aw_range (setsG (ownG 600 x)).length (fun _ => True) (fun k => ⟨[(120, iv k), (3, .v (.pointer (some ⟨b3, 0, none⟩))), (4, intsA (rowI (ofGL (ownG 600 x)))), (7, iv 0), (8, iv ((((setsG (ownG 600 x)).take (setsG (ownG 600 x)).length).flatten.length : Nat) : Int)), (14, .v (.pointer (some ⟨b14, 0, none⟩))), (15, iv 0), (16, bv (decide (0 < cntW (wordsL (rndG (ownG 600 x)))))), (17, iv 0), (118, .v s.v), (119, iv (((setsG (ownG 600 x)).map rowI).map lisR).length)], .box b14 47 [wordsA (wordsL (rndG (ownG 600 x)))] :: .row s.v 1 27 (((setsG (ownG 600 x)).map rowI).map lisR) :: .box b3 24 (grR (ownG 600 x)) :: .box b1 24 (grR x) :: [], []⟩) trivial es ?_
        intro k lk _
        refine rn ?_
        refine aw_cond rfl (fun hc121 => ?_) (fun hc121 => ?_)
        · have hk : k < (setsG (ownG 600 x)).length := by have q := of_decide_eq_true hc121; rw [setsR_len] at q; omega
          have hCl := set_le (List.getElem_mem hk)
          obtain ⟨h0, hl1, hl2⟩ := set_fst hk
          have hfs := fl_s6 hk
          have hfl := fl_le (g := (ownG 600 x)) k
          have hfl1 := fl_le (g := (ownG 600 x)) (k + 1)
          refine aw_skip ?_
          refine thn_n ?_
          refine aw_seq ?_
          refine aw_block ?_
          refine aw_seq (aw_region ?_)
          refine qq rfl rfl (qr_index_row (k := k) rfl rfl (by rw [setsR_len]; exact hk)) ?_
          refine qq rfl rfl (qr_load_rp_one rfl (sets_row hk) rfl) ?_
          refine rn ?_
          refine aw_range (setsG (ownG 600 x))[k].length (fun _ => True) (fun j => ⟨[(126, iv j), (3, .v (.pointer (some ⟨b3, 0, none⟩))), (4, intsA (rowI (ofGL (ownG 600 x)))), (7, iv 0), (8, iv ((((setsG (ownG 600 x)).take (setsG (ownG 600 x)).length).flatten.length : Nat) : Int)), (14, .v (.pointer (some ⟨b14, 0, none⟩))), (15, iv 0), (16, bv (decide (0 < cntW (wordsL (rndG (ownG 600 x)))))), (17, iv 0), (19, intsA (rowI (setsG (ownG 600 x))[k])), (118, .v s.v), (119, iv (((setsG (ownG 600 x)).map rowI).map lisR).length), (120, iv k), (124, intsA (rowI (setsG (ownG 600 x))[k])), (125, iv ((rowI (setsG (ownG 600 x))[k]).map intR).length)], .box b14 47 [wordsA (wordsL (rndG (ownG 600 x)))] :: .row s.v 1 27 (((setsG (ownG 600 x)).map rowI).map lisR) :: .box b3 24 (grR (ownG 600 x)) :: .box b1 24 (grR x) :: [], []⟩) trivial es ?_
          intro j lj _
          refine rn ?_
          refine aw_cond rfl (fun hc127 => ?_) (fun hc127 => ?_)
          · have hj : j < (setsG (ownG 600 x))[k].length := by have q := of_decide_eq_true hc127; rw [rowI_len] at q; omega
            have hvm : (setsG (ownG 600 x))[k][j] ∈ (setsG (ownG 600 x))[k] := List.getElem_mem hj
            have hvn : (setsG (ownG 600 x))[k][j] < nG (ownG 600 x) := set_in (List.getElem_mem hk) hvm
            have hof : ofG (ownG 600 x) (setsG (ownG 600 x))[k][j] = k := of_at hk hvm
            refine aw_skip ?_
            refine thn_n ?_
            refine aw_seq ?_
            refine aw_block ?_
            refine aw_seq (aw_region ?_)
            refine qq rfl rfl (qr_index_list (i := j) rfl rfl (rowI_at hj)) ?_
            refine rn ?_
            refine qv rfl rfl (qv_call rfl rfl (FCall.pure (R := fun z => z = bv (decide ((setsG (ownG 600 x))[k][j] ∈ (rndG (ownG 600 x))))) (FCall.of_fun (bHas (rndG (ownG 600 x)) hrm (setsG (ownG 600 x))[k][j] (by omega))))) ?_
            refine q1 ?_
            refine qq rfl rfl (qr_as (qr_len_list rfl) (len_rowI (setsG (ownG 600 x))[k])) ?_
            refine q1 ?_
            refine qq rfl rfl (qr_as (qr_nebool rfl rfl) (neb_v (by rw [Bool.eq_iff_iff, decide_eq_true_iff, decide_eq_true_iff, rnd_iff hok hk hvm]; omega))) ?_
            refine rn ?_
            refine aw_cond rfl (fun hc136 => ?_) (fun hc136 => ?_)
            · exact absurd hc136 (by decide)
            · refine rn ?_
              exact ⟨hj, trivial, eA⟩
          · have qj : j = (setsG (ownG 600 x))[k].length := by have q := of_decide_eq_false hc127; rw [rowI_len] at q; omega
            refine rn ?_
            exact ⟨hk, trivial, eA⟩
        · have qk : k = (setsG (ownG 600 x)).length := by have q := of_decide_eq_false hc121; rw [setsR_len] at q; omega
          refine aw_exit ?_
          refine thn_e ?_
          refine thn_e ?_
          refine inBlk_hit ?_
          refine thn_n ?_
          refine aw_seq (aw_region ?_)
          refine q1 ?_
          refine q1 ?_
          refine q1 ?_
          refine q1 ?_
          refine q1 ?_
          refine q1 ?_
          refine q1 ?_
          refine q1 ?_
          refine q1 ?_
          refine q1 ?_
          refine q1 ?_
          refine q1 ?_
          refine q1 ?_
          refine q1 ?_
          refine qq rfl rfl (qr_as (qr_cmp rfl rfl rfl) (show _ = bv true from congrArg bv (eq_many hnn))) ?_
          refine q1 ?_
          refine q1 ?_
          refine q1 ?_
          refine qq rfl rfl (qr_as (qr_len_list rfl) (show iv _ = iv ((nG (ownG 600 x) : Nat) : Int) from congrArg iv (by rw [List.length_map, ofGL_len]))) ?_
          refine q1 ?_
          refine q1 ?_
          refine qq rfl rfl (qr_as (qr_cmp rfl rfl rfl) (show _ = bv true from congrArg bv (by rw [hnn]; simp))) ?_
          refine rn ?_
          refine qv rfl rfl (qv_call rfl rfl (FCall.pure (R := fun z => z = iv (cntW (wordsL (rndG (ownG 600 x))) : Nat)) (FCall.of_fun (bCount (rndG (ownG 600 x)) hrm)))) ?_
          refine q1 ?_
          refine qq rfl rfl (qr_as (qr_eqbool rfl rfl rfl) (eqb_v (cnt_b (rndG (ownG 600 x))))) ?_
          refine rn ?_
          exact retq (.cons _ _ _ _ (.tmp _ _ rfl) .nil) (.drop [_, _, _, _] _ _) ⟨rfl, rfl⟩
end Go.Proofs
