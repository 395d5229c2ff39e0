/- WrJustifies: the row. Conditions: none. -/
import Derived.Test.YtfmcbdjnmlcacaaGreatDoorWJsQ
import Derived.Test.YtfmcbdjnmlcacaaGreatDoorCards
set_option linter.unusedSectionVars false
set_option linter.unusedSimpArgs false
set_option linter.unusedVariables false
set_option maxRecDepth 100000
namespace Go.Proofs.YtfmcbdjnmlcacaaGreatDoor
open Go Go.Ab Go.H Go.ChangeShapes Go.WideShapes Go.ChangeAt Go.RowKit
theorem wrJustifies_lifted (os:Os) (started:os.Started) (K:Type) (enc:TypeId×Value→K):
 ReturnsInHanded {} Tryz.checked os 13 .any (fun w args=>(Rows.wrJustifiesSpec.pre enc Tryz.prog Tryz.f13 [] false w args∧laidMetH Tryz.prog zq7 w)∧sizedMet enc Tryz.prog Tryz.f13 (OpenSpec.ofChange Rows.wrJustifiesSpec) false w args)
  (Rows.wrJustifiesSpec.post enc Tryz.prog Tryz.f13 false true false false):=by
 refine returnsInHanded_of_change_and (C:=Tryz.checked) (X:=fun w _=>laidMetH Tryz.prog zq7 w) (fun _ _ _ hh h=>h.of_heap hh) own started (by kernel_rfl) Tryz.func13
  (ChangeSpec.witness_shaped (enc:=enc) (C:=Tryz.checked) (os:=os) (X:=fun w _=>laidMetH Tryz.prog zq7 w) false (wit os)
   #[.agg #[.slice none 0 0,.slice none 0 0,.slice none 0 0,.slice none 0 0,.slice none 0 0,.slice none 0 0,.slice none 0 0,.slice none 0 0],.slice none 0 0] 8 (ypg _)
   (World.shaped_of_ZipB (by kernel_rfl) (by kernel_rfl)) (by kernel_rfl) (by kernel_rfl) (by kernel_rfl)
   (ylj _ _)) ?_
 intro W base args ds gs before hval0 hW _ hsz hL _
 have hval:∀(j:Nat) t v,Tryz.f13.params[j]? =some t→args[j]? =some v→Value.okWide Tryz.prog W .any base t v:=hval0
 have hlt:=hW.lt
 have hW':=hW
 obtain ⟨p,q,hA0,hV,rfl,hfz,hnd⟩:=hW
 have hA:DataW.TrodAll enc Tryz.prog W 0 (fun _=>true) true Tryz.f13.params.toList args.toList ds p:=hA0
 rw [Tryz.params13] at hA hval
 obtain ⟨v0,v1,d0,d1,p0,p1,rfl,rfl,rfl,h0,h1⟩:=trodAll_two hA
 have hlt0:∀x∈p0,x.block < W.heap.size:=fun x hx=>hlt x (by simp [hx])
 have hlt1:∀x∈p1,x.block < W.heap.size:=fun x hx=>hlt x (by simp [hx])
 obtain ⟨rfl,rfl⟩:=trodVars_none hV
 have hw0:∀n∈d0.weights Tryz.prog 28,n≤reachBytes:=fun n hn=>by
  have:=List.all_eq_true.1 hsz n (DataW.weights_mem_each (j:=0) (t:=28) (d:=d0) (by kernel_rfl) rfl n hn)
  simpa using this
 have hv0:=hval 0 28 v0 rfl rfl
 unfold Value.okWide at hv0
 rw [Tryz.underlying28] at hv0
 obtain ⟨cs0,rfl,_,_⟩:=hv0
 obtain ⟨x0,hlim0,hrel0⟩:=yn0 h0 hw0
 have hw1:∀n∈d1.weights Tryz.prog 35,n≤reachBytes:=fun n hn=>by
  have:=List.all_eq_true.1 hsz n (DataW.weights_mem_each (j:=1) (t:=35) (d:=d1) (by kernel_rfl) rfl n hn)
  simpa using this
 have hv1:=hval 1 35 v1 rfl rfl
 obtain ⟨x1,hlim1,hrel1⟩:=yiw h1 hw1 hv1
 refine (((zt8 x0 x1 hlim0 hlim1) noX W [.agg cs0,v1] (zzj hL) ⟨by rw [ys3];exact hrel0,by rw [ys3];exact hrel1,trivial⟩).calls (fun k=>ybk none k)).mono fun e W' hp=> ?_
 obtain ⟨v,av,h',rfl,⟨rfl,rfl⟩,hr,hh',hk⟩:=hp
 obtain rfl:=hr.v_eq
 simp only [List.append_nil] at hW'
 refine ⟨_,rfl,_,_,_,[],_,[],hW',trodAll_mk1 (shut_bool Tryz.underlying4 _),trodAll_mk2 (yap hk h0 hlt0) (zm7 hk h1 hlt1),rfl,yh5 hk _,fun h=>by cases h⟩
theorem zdu {a b:Bool} (h:a=true) (k:b=true):(a && b)=true:=by rw [h,k];rfl
set_option maxHeartbeats 40000000 in
theorem wrJustifies_holds:Rows.WrJustifiesSaid:=
 OpenClaim.holds_of_wide 13 Tryz.f13 rfl rfl rfl rfl rfl rfl rfl ⟨rfl,rfl,rfl,rfl,rfl⟩ rfl rfl rfl rfl rfl (by as_aux_lemma=>kernel_rfl) Tryz.func13 (by unfold joinedFacts;exact (zdu (zdu (zdu (zdu (zdu (zdu (zdu (zdu (zdu (zdu (zdu (zdu (zdu (zdu (zdu (zdu (zdu (zdu (zdu (zdu (zdu (zdu (zdu (zdu (zdu (zdu (zdu (zdu (zdu (zdu (zdu (by as_aux_lemma=>kernel_rfl) wrJustifies_j2) wrJustifies_j3) (by as_aux_lemma=>kernel_rfl)) (by as_aux_lemma=>kernel_rfl)) (by as_aux_lemma=>kernel_rfl)) (by as_aux_lemma=>kernel_rfl)) (by as_aux_lemma=>kernel_rfl)) (by as_aux_lemma=>kernel_rfl)) wrJustifies_j10) wrJustifies_j11) wrJustifies_j12) wrJustifies_j13) (by as_aux_lemma=>kernel_rfl)) (by as_aux_lemma=>kernel_rfl)) (by as_aux_lemma=>kernel_rfl)) (by as_aux_lemma=>kernel_rfl)) (by as_aux_lemma=>kernel_rfl)) (by as_aux_lemma=>kernel_rfl)) (by as_aux_lemma=>kernel_rfl)) (by as_aux_lemma=>kernel_rfl)) (by as_aux_lemma=>kernel_rfl)) (by as_aux_lemma=>kernel_rfl)) (by as_aux_lemma=>kernel_rfl)) wrJustifies_j25) wrJustifies_j26) wrJustifies_j27) wrJustifies_j28) (by as_aux_lemma=>kernel_rfl)) (by as_aux_lemma=>kernel_rfl)) (by as_aux_lemma=>kernel_rfl)) (by as_aux_lemma=>kernel_rfl)))
  (oT (by as_aux_lemma=>kernel_rfl)) (by unfold Func.isWrapper;first|(rw [if_pos (by as_aux_lemma=>decide+kernel)];as_aux_lemma=>kernel_rfl)|(rw [if_neg (by as_aux_lemma=>decide+kernel)];exact ⟨rfl,rfl⟩))
  (fun os started H enc _=>wrJustifies_lifted os started H enc)
end Go.Proofs.YtfmcbdjnmlcacaaGreatDoor
