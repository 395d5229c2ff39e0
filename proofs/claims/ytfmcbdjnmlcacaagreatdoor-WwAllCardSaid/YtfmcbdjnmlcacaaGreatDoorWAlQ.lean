/- WwAll: the row. Conditions: none. -/
import Derived.Test.YtfmcbdjnmlcacaaGreatDoorWAlP
import Derived.Test.YtfmcbdjnmlcacaaGreatDoorCards
set_option linter.unusedSectionVars false
set_option linter.unusedSimpArgs false
set_option linter.unusedVariables false
set_option maxRecDepth 100000
namespace Go.Proofs.YtfmcbdjnmlcacaaGreatDoor
open Go Go.Ab Go.H Go.ChangeShapes Go.WideShapes Go.ChangeAt Go.RowKit
theorem wwAll_lifted (os:Os) (started:os.Started) (K:Type) (enc:TypeId×Value→K):
 ReturnsInHanded {} Tryz.checked os 3 .any (fun w args=>(Rows.wwAllSpec.pre enc Tryz.prog Tryz.f3 [] false w args∧laidMetH Tryz.prog laid4 w)∧sizedMet enc Tryz.prog Tryz.f3 (OpenSpec.ofChange Rows.wwAllSpec) false w args)
  (Rows.wwAllSpec.post enc Tryz.prog Tryz.f3 false true false false):=by
 refine returnsInHanded_of_change_and (C:=Tryz.checked) (X:=fun w _=>laidMetH Tryz.prog laid4 w) (fun _ _ _ hh h=>h.of_heap hh) own started (by kernel_rfl) Tryz.func3
  (ChangeSpec.witness_shaped (enc:=enc) (C:=Tryz.checked) (os:=os) (X:=fun w _=>laidMetH Tryz.prog laid4 w) false (wit os)
   #[.agg #[.slice none 0 0,.slice none 0 0,.slice none 0 0,.slice none 0 0,.slice none 0 0,.slice none 0 0,.slice none 0 0,.slice none 0 0],.slice none 0 0,.slice none 0 0] 8 (wit_os _)
   (World.shaped_of_ZipB (by kernel_rfl) (by kernel_rfl)) (by kernel_rfl) (by kernel_rfl) (by kernel_rfl)
   (wit_met _ _)) ?_
 intro W base args ds gs before hval0 hW _ hsz hL _
 have hval:∀(j:Nat) t v,Tryz.f3.params[j]? =some t→args[j]? =some v→Value.okWide Tryz.prog W .any base t v:=hval0
 have hlt:=hW.lt
 have hW':=hW
 obtain ⟨p,q,hA0,hV,rfl,hfz,hnd⟩:=hW
 have hA:DataW.TrodAll enc Tryz.prog W 0 (fun _=>true) true Tryz.f3.params.toList args.toList ds p:=hA0
 rw [Tryz.params3] at hA hval
 obtain ⟨v0,v1,v2,d0,d1,d2,p0,p1,p2,rfl,rfl,rfl,h0,h1,h2⟩:=trodAll_three hA
 have hlt0:∀x∈p0,x.block < W.heap.size:=fun x hx=>hlt x (by simp [hx])
 have hlt1:∀x∈p1,x.block < W.heap.size:=fun x hx=>hlt x (by simp [hx])
 have hlt2:∀x∈p2,x.block < W.heap.size:=fun x hx=>hlt x (by simp [hx])
 obtain ⟨rfl,rfl⟩:=trodVars_none hV
 have hw0:∀n∈d0.weights Tryz.prog 28,n≤reachBytes:=fun n hn=>by
  have:=List.all_eq_true.1 hsz n (DataW.weights_mem_each (j:=0) (t:=28) (d:=d0) (by kernel_rfl) rfl n hn)
  simpa using this
 have hv0:=hval 0 28 v0 rfl rfl
 unfold Value.okWide at hv0
 rw [Tryz.underlying28] at hv0
 obtain ⟨cs0,rfl,_,_⟩:=hv0
 obtain ⟨x0,hlim0,hrel0⟩:=hist_ofB h0 hw0
 have hw1:∀n∈d1.weights Tryz.prog 29,n≤reachBytes:=fun n hn=>by
  have:=List.all_eq_true.1 hsz n (DataW.weights_mem_each (j:=1) (t:=29) (d:=d1) (by kernel_rfl) rfl n hn)
  simpa using this
 have hv1:=hval 1 29 v1 rfl rfl
 obtain ⟨x1,hlim1,hrel1⟩:=ints_of h1 hw1 hv1
 have hw2:∀n∈d2.weights Tryz.prog 30,n≤reachBytes:=fun n hn=>by
  have:=List.all_eq_true.1 hsz n (DataW.weights_mem_each (j:=2) (t:=30) (d:=d2) (by kernel_rfl) rfl n hn)
  simpa using this
 have hv2:=hval 2 30 v2 rfl rfl
 obtain ⟨x2,hlim2,hrel2⟩:=pars_of h2 hw2 hv2
 refine (((wwAllL x0 x1 x2 hlim0 hlim1 hlim2) noX W [.agg cs0,v1,v2] (laid_hrel4 hL) ⟨by rw [OO_G4];exact hrel0,by rw [OO_G4];exact hrel1,by rw [OO_G4];exact hrel2,trivial⟩).calls (fun k=>room_FW none k)).mono fun e W' hp=> ?_
 obtain ⟨v,av,h',rfl,⟨rfl,rfl⟩,hr,_,hk⟩:=hp
 obtain rfl:=hr.v_eq
 simp only [List.append_nil] at hW'
 refine ⟨_,rfl,_,_,_,[],_,[],hW',trodAll_mk1 (shut_bool Tryz.underlying4 _),trodAll_mk3 (trod_keep hk h0 hlt0) (trod_keep_ints hk h1 hlt1) (trod_keep_pars hk h2 hlt2),rfl,keep_but hk _,fun h=>by cases h⟩
theorem and_b {a b:Bool} (h:a=true) (k:b=true):(a && b)=true:=by rw [h,k];rfl
set_option maxHeartbeats 40000000 in
theorem wwAll_holds:Rows.WwAllSaid:=
 OpenClaim.holds_of_wide 3 Tryz.f3 rfl rfl rfl rfl rfl rfl rfl ⟨rfl,rfl,rfl,rfl,rfl⟩ rfl rfl rfl rfl rfl (by as_aux_lemma=>kernel_rfl) Tryz.func3 (by unfold joinedFacts;exact (and_b (and_b (and_b (and_b (and_b (and_b (and_b (and_b (and_b (and_b (and_b (and_b (and_b (and_b (and_b (and_b (and_b (and_b (and_b (and_b (and_b (and_b (and_b (and_b (and_b (and_b (and_b (and_b (and_b (and_b (and_b (by as_aux_lemma=>kernel_rfl) wwAll_j2) wwAll_j3) (by as_aux_lemma=>kernel_rfl)) (by as_aux_lemma=>kernel_rfl)) (by as_aux_lemma=>kernel_rfl)) (by as_aux_lemma=>kernel_rfl)) (by as_aux_lemma=>kernel_rfl)) (by as_aux_lemma=>kernel_rfl)) wwAll_j10) wwAll_j11) wwAll_j12) wwAll_j13) (by as_aux_lemma=>kernel_rfl)) (by as_aux_lemma=>kernel_rfl)) (by as_aux_lemma=>kernel_rfl)) (by as_aux_lemma=>kernel_rfl)) (by as_aux_lemma=>kernel_rfl)) (by as_aux_lemma=>kernel_rfl)) (by as_aux_lemma=>kernel_rfl)) (by as_aux_lemma=>kernel_rfl)) (by as_aux_lemma=>kernel_rfl)) (by as_aux_lemma=>kernel_rfl)) (by as_aux_lemma=>kernel_rfl)) wwAll_j25) wwAll_j26) wwAll_j27) wwAll_j28) (by as_aux_lemma=>kernel_rfl)) (by as_aux_lemma=>kernel_rfl)) (by as_aux_lemma=>kernel_rfl)) (by as_aux_lemma=>kernel_rfl)))
  (of_decide_eq_true (by as_aux_lemma=>kernel_rfl)) (by unfold Func.isWrapper;first|(rw [if_pos (by as_aux_lemma=>decide+kernel)];as_aux_lemma=>kernel_rfl)|(rw [if_neg (by as_aux_lemma=>decide+kernel)];exact ⟨rfl,rfl⟩))
  (fun os started H enc _=>wwAll_lifted os started H enc)
end Go.Proofs.YtfmcbdjnmlcacaaGreatDoor
