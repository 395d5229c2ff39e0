/- WrTells: the row. Conditions: none. -/
import Derived.Test.YtfmcbdjnmlcacaaGreatDoorWTeR
import Derived.Test.YtfmcbdjnmlcacaaGreatDoorCards
set_option linter.unusedSectionVars false
set_option linter.unusedSimpArgs false
set_option linter.unusedVariables false
set_option maxRecDepth 100000
namespace Go.Proofs.YtfmcbdjnmlcacaaGreatDoor
open Go Go.Ab Go.H Go.ChangeShapes Go.WideShapes Go.ChangeAt Go.RowKit
theorem wrTells_lifted (os:Os) (started:os.Started) (K:Type) (enc:TypeId×Value→K):
 ReturnsInHanded {} Tryz.checked os 10 .any (fun w args=>(Rows.wrTellsSpec.pre enc Tryz.prog Tryz.f10 [] false w args∧laidMetH Tryz.prog zrg w)∧sizedMet enc Tryz.prog Tryz.f10 (OpenSpec.ofChange Rows.wrTellsSpec) false w args)
  (Rows.wrTellsSpec.post enc Tryz.prog Tryz.f10 false true false false):=by
 refine returnsInHanded_of_change_and (C:=Tryz.checked) (X:=fun w _=>laidMetH Tryz.prog zrg w) (fun _ _ _ hh h=>h.of_heap hh) own started (by kernel_rfl) Tryz.func10
  (ChangeSpec.witness_shaped (enc:=enc) (C:=Tryz.checked) (os:=os) (X:=fun w _=>laidMetH Tryz.prog zrg w) false (wit os)
   #[.agg #[.slice none 0 0,.slice none 0 0,.slice none 0 0,.slice none 0 0,.slice none 0 0,.slice none 0 0,.slice none 0 0,.slice none 0 0]] 8 (yp9 _)
   (World.shaped_of_ZipB (by kernel_rfl) (by kernel_rfl)) (by kernel_rfl) (by kernel_rfl) (by kernel_rfl)
   (yma _ _)) ?_
 intro W base args ds gs before hval0 hW _ hsz hL _
 have hval:∀(j:Nat) t v,Tryz.f10.params[j]? =some t→args[j]? =some v→Value.okWide Tryz.prog W .any base t v:=hval0
 have hlt:=hW.lt
 have hW':=hW
 obtain ⟨p,q,hA0,hV,rfl,hfz,hnd⟩:=hW
 have hA:DataW.TrodAll enc Tryz.prog W 0 (fun _=>true) true Tryz.f10.params.toList args.toList ds p:=hA0
 rw [Tryz.params10] at hA hval
 obtain ⟨v0,d0,rfl,rfl,h0⟩:=trodAll_one hA
 have hlt0:∀x∈p,x.block < W.heap.size:=fun x hx=>hlt x (by simp [hx])
 obtain ⟨rfl,rfl⟩:=trodVars_none hV
 have hw0:∀n∈d0.weights Tryz.prog 28,n≤reachBytes:=fun n hn=>by
  have:=List.all_eq_true.1 hsz n (DataW.weights_mem_each (j:=0) (t:=28) (d:=d0) (by kernel_rfl) rfl n hn)
  simpa using this
 have hv0:=hval 0 28 v0 rfl rfl
 unfold Value.okWide at hv0
 rw [Tryz.underlying28] at hv0
 obtain ⟨cs0,rfl,_,_⟩:=hv0
 obtain ⟨x0,hlim0,hrel0⟩:=yoz h0 hw0
 refine (((yl2 x0 hlim0) noX W [.agg cs0] (zz9 hL) ⟨by rw [ywg];exact hrel0,trivial⟩).calls (fun k=>ycd none k)).mono fun e W' hp=> ?_
 obtain ⟨v,av,h',rfl,⟨rfl,rfl⟩,hr,hh',hk⟩:=hp
 obtain rfl:=hr.v_eq
 simp only [List.append_nil] at hW'
 refine ⟨_,rfl,_,_,_,[],_,[],hW',trodAll_mk1 (shut_bool Tryz.underlying4 _),trodAll_mk1 (ybi hk h0 hlt0),rfl,yiw hk _,fun h=>by cases h⟩
theorem zdv {a b:Bool} (h:a=true) (k:b=true):(a && b)=true:=by rw [h,k];rfl
set_option maxHeartbeats 40000000 in
theorem wrTells_holds:Rows.WrTellsSaid:=
 OpenClaim.holds_of_wide 10 Tryz.f10 rfl rfl rfl rfl rfl rfl rfl ⟨rfl,rfl,rfl,rfl,rfl⟩ rfl rfl rfl rfl rfl (by as_aux_lemma=>kernel_rfl) Tryz.func10 (by unfold joinedFacts;exact (zdv (zdv (zdv (zdv (zdv (zdv (zdv (zdv (zdv (zdv (zdv (zdv (zdv (zdv (zdv (zdv (zdv (zdv (zdv (zdv (zdv (zdv (zdv (zdv (zdv (zdv (zdv (zdv (zdv (zdv (zdv (by as_aux_lemma=>kernel_rfl) wrTells_j2) wrTells_j3) (by as_aux_lemma=>kernel_rfl)) (by as_aux_lemma=>kernel_rfl)) (by as_aux_lemma=>kernel_rfl)) (by as_aux_lemma=>kernel_rfl)) (by as_aux_lemma=>kernel_rfl)) (by as_aux_lemma=>kernel_rfl)) wrTells_j10) wrTells_j11) wrTells_j12) wrTells_j13) (by as_aux_lemma=>kernel_rfl)) (by as_aux_lemma=>kernel_rfl)) (by as_aux_lemma=>kernel_rfl)) (by as_aux_lemma=>kernel_rfl)) (by as_aux_lemma=>kernel_rfl)) (by as_aux_lemma=>kernel_rfl)) (by as_aux_lemma=>kernel_rfl)) (by as_aux_lemma=>kernel_rfl)) (by as_aux_lemma=>kernel_rfl)) (by as_aux_lemma=>kernel_rfl)) (by as_aux_lemma=>kernel_rfl)) wrTells_j25) wrTells_j26) wrTells_j27) wrTells_j28) (by as_aux_lemma=>kernel_rfl)) (by as_aux_lemma=>kernel_rfl)) (by as_aux_lemma=>kernel_rfl)) (by as_aux_lemma=>kernel_rfl)))
  (oT (by as_aux_lemma=>kernel_rfl)) (by unfold Func.isWrapper;first|(rw [if_pos (by as_aux_lemma=>decide+kernel)];as_aux_lemma=>kernel_rfl)|(rw [if_neg (by as_aux_lemma=>decide+kernel)];exact ⟨rfl,rfl⟩))
  (fun os started H enc _=>wrTells_lifted os started H enc)
end Go.Proofs.YtfmcbdjnmlcacaaGreatDoor
