/- GuardTells: the row. Conditions: none. -/
import Derived.Test.YtcaijocpofcbdaaGreatDoorGTeQ
import Derived.Test.YtcaijocpofcbdaaGreatDoorCards
set_option linter.unusedSectionVars false
set_option linter.unusedSimpArgs false
set_option linter.unusedVariables false
set_option maxRecDepth 100000
namespace Go.Proofs.YtcaijocpofcbdaaGreatDoor
open Go Go.Ab Go.H Go.ChangeShapes Go.WideShapes Go.ChangeAt Go.RowKit
theorem guardTells_lifted (os:Os) (started:os.Started) (K:Type) (enc:TypeId×Value→K):
 ReturnsInHanded {} Tryz.checked os 7 .any (fun w args=>(Rows.guardTellsSpec.pre enc Tryz.prog Tryz.f7 [] false w args∧laidMetH Tryz.prog zp1 w)∧sizedMet enc Tryz.prog Tryz.f7 (OpenSpec.ofChange Rows.guardTellsSpec) false w args)
  (Rows.guardTellsSpec.post enc Tryz.prog Tryz.f7 false true false false):=by
 refine returnsInHanded_of_change_and (C:=Tryz.checked) (X:=fun w _=>laidMetH Tryz.prog zp1 w) (fun _ _ _ hh h=>h.of_heap hh) own started (by kernel_rfl) Tryz.func7
  (ChangeSpec.witness_shaped (enc:=enc) (C:=Tryz.checked) (os:=os) (X:=fun w _=>laidMetH Tryz.prog zp1 w) false (witW os)
   #[.agg #[.slice none 0 0,.slice none 0 0,.slice none 0 0,.slice none 0 0,.slice none 0 0,.slice none 0 0,.slice none 0 0,.slice none 0 0]] 8 (ykl _)
   (World.shaped_of_ZipB (by kernel_rfl) (by kernel_rfl)) (by kernel_rfl) (by kernel_rfl) (by kernel_rfl)
   (yew _ _)) ?_
 intro W base args ds gs before hval0 hW _ hsz hL _
 have hval:∀(j:Nat) t v,Tryz.f7.params[j]? =some t→args[j]? =some v→Value.okWide Tryz.prog W .any base t v:=hval0
 have hlt:=hW.lt
 have hW':=hW
 obtain ⟨p,q,hA0,hV,rfl,hfz,hnd⟩:=hW
 have hA:DataW.TrodAll enc Tryz.prog W 0 (fun _=>true) true Tryz.f7.params.toList args.toList ds p:=hA0
 rw [Tryz.params7] at hA hval
 obtain ⟨v0,d0,rfl,rfl,h0⟩:=trodAll_one hA
 have hlt0:∀x∈p,x.block < W.heap.size:=fun x hx=>hlt x (by simp [hx])
 obtain ⟨rfl,rfl⟩:=trodVars_none hV
 have hw0:∀n∈d0.weights Tryz.prog 28,n≤reachBytes:=fun n hn=>by
  have:=List.all_eq_true.1 hsz n (DataW.weights_mem_each (j:=0) (t:=28) (d:=d0) (by kernel_rfl) rfl n hn)
  simpa using this
 have hv0:=hval 0 28 v0 rfl rfl
 unfold Value.okWide at hv0
 rw [Tryz.underlying28] at hv0
 obtain ⟨cs0,rfl,_,_⟩:=hv0
 obtain ⟨x0,hlim0,hrel0⟩:=ynk h0 hw0
 refine (((zy0 x0 hlim0) noX W [.agg cs0] (zyw hL) ⟨by rw [yts];exact hrel0,trivial⟩).calls (fun k=>ylt none k)).mono fun e W' hp=> ?_
 obtain ⟨v,av,h',rfl,⟨rfl,rfl⟩,hr,hh',hk⟩:=hp
 obtain rfl:=hr.v_eq
 simp only [List.append_nil] at hW'
 refine ⟨_,rfl,_,_,_,[],_,[],hW',trodAll_mk1 (shut_bool Tryz.underlying4 _),trodAll_mk1 (zzz hk h0 hlt0),rfl,yhc hk _,fun h=>by cases h⟩
theorem zdo {a b:Bool} (h:a=true) (k:b=true):(a && b)=true:=by rw [h,k];rfl
set_option maxHeartbeats 40000000 in
theorem guardTells_holds:Rows.GuardTellsSaid:=
 OpenClaim.holds_of_wide 7 Tryz.f7 rfl rfl rfl rfl rfl rfl rfl ⟨rfl,rfl,rfl,rfl,rfl⟩ rfl rfl rfl rfl rfl (by as_aux_lemma=>kernel_rfl) Tryz.func7 (by unfold joinedFacts;exact (zdo (zdo (zdo (zdo (zdo (zdo (zdo (zdo (zdo (zdo (zdo (zdo (zdo (zdo (zdo (zdo (zdo (zdo (zdo (zdo (zdo (zdo (zdo (zdo (zdo (zdo (zdo (zdo (zdo (zdo (zdo (by as_aux_lemma=>kernel_rfl) guardTells_j2) guardTells_j3) (by as_aux_lemma=>kernel_rfl)) (by as_aux_lemma=>kernel_rfl)) (by as_aux_lemma=>kernel_rfl)) (by as_aux_lemma=>kernel_rfl)) (by as_aux_lemma=>kernel_rfl)) (by as_aux_lemma=>kernel_rfl)) guardTells_j10) guardTells_j11) guardTells_j12) guardTells_j13) (by as_aux_lemma=>kernel_rfl)) (by as_aux_lemma=>kernel_rfl)) (by as_aux_lemma=>kernel_rfl)) (by as_aux_lemma=>kernel_rfl)) (by as_aux_lemma=>kernel_rfl)) (by as_aux_lemma=>kernel_rfl)) (by as_aux_lemma=>kernel_rfl)) (by as_aux_lemma=>kernel_rfl)) (by as_aux_lemma=>kernel_rfl)) (by as_aux_lemma=>kernel_rfl)) (by as_aux_lemma=>kernel_rfl)) guardTells_j25) guardTells_j26) guardTells_j27) guardTells_j28) (by as_aux_lemma=>kernel_rfl)) (by as_aux_lemma=>kernel_rfl)) (by as_aux_lemma=>kernel_rfl)) (by as_aux_lemma=>kernel_rfl)))
  (oT (by as_aux_lemma=>kernel_rfl)) (by unfold Func.isWrapper;first|(rw [if_pos (by as_aux_lemma=>decide+kernel)];as_aux_lemma=>kernel_rfl)|(rw [if_neg (by as_aux_lemma=>decide+kernel)];exact ⟨rfl,rfl⟩))
  (fun os started H enc _=>guardTells_lifted os started H enc)
end Go.Proofs.YtcaijocpofcbdaaGreatDoor
