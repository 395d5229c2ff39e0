/- GuardAsks: the row. Conditions: none. -/
import Derived.Test.YtcaijocpofcbdaaGreatDoorGAsR
import Derived.Test.YtcaijocpofcbdaaGreatDoorCards
set_option linter.unusedSectionVars false
set_option linter.unusedSimpArgs false
set_option linter.unusedVariables false
set_option maxRecDepth 100000
namespace Go.Proofs.YtcaijocpofcbdaaGreatDoor
open Go Go.Ab Go.H Go.ChangeShapes Go.WideShapes Go.ChangeAt Go.RowKit
theorem guardAsks_lifted (os:Os) (started:os.Started) (K:Type) (enc:TypeId×Value→K):
 ReturnsInHanded {} Tryz.checked os 8 .any (fun w args=>(Rows.guardAsksSpec.pre enc Tryz.prog Tryz.f8 [] false w args∧laidMetH Tryz.prog zqm w)∧sizedMet enc Tryz.prog Tryz.f8 (OpenSpec.ofChange Rows.guardAsksSpec) false w args)
  (Rows.guardAsksSpec.post enc Tryz.prog Tryz.f8 false true false false):=by
 refine returnsInHanded_of_change_and (C:=Tryz.checked) (X:=fun w _=>laidMetH Tryz.prog zqm w) (fun _ _ _ hh h=>h.of_heap hh) own started (by kernel_rfl) Tryz.func8
  (ChangeSpec.witness_shaped (enc:=enc) (C:=Tryz.checked) (os:=os) (X:=fun w _=>laidMetH Tryz.prog zqm w) false (witW os)
   #[.agg #[.slice none 0 0,.slice none 0 0,.slice none 0 0,.slice none 0 0,.slice none 0 0,.slice none 0 0,.slice none 0 0,.slice none 0 0],.int .i64 0,.int .i64 0] 8 (yli _)
   (World.shaped_of_ZipB (by kernel_rfl) (by kernel_rfl)) (by kernel_rfl) (by kernel_rfl) (by kernel_rfl)
   (yf0 _ _)) ?_
 intro W base args ds gs before hval0 hW _ hsz hL _;have hval:∀(j:Nat) t v,Tryz.f8.params[j]? =some t→args[j]? =some v→Value.okWide Tryz.prog W .any base t v:=hval0;have hlt:=hW.lt;have hW':=hW;obtain ⟨p,q,hA0,hV,rfl,hfz,hnd⟩:=hW;have hA:DataW.TrodAll enc Tryz.prog W 0 (fun _=>true) true Tryz.f8.params.toList args.toList ds p:=hA0;rw [Tryz.params8] at hA hval;obtain ⟨v0,v1,v2,d0,d1,d2,p0,p1,p2,rfl,rfl,rfl,h0,h1,h2⟩:=trodAll_three hA;have hlt0:∀x∈p0,x.block < W.heap.size:=fun x hx=>hlt x (by simp [hx]);have hlt1:∀x∈p1,x.block < W.heap.size:=fun x hx=>hlt x (by simp [hx]);have hlt2:∀x∈p2,x.block < W.heap.size:=fun x hx=>hlt x (by simp [hx]);obtain ⟨rfl,rfl⟩:=trodVars_none hV
 have hw0:∀n∈d0.weights Tryz.prog 28,n≤reachBytes:=fun n hn=>by
  have:=B7.1 hsz n (DataW.weights_mem_each (j:=0) (t:=28) (d:=d0) (by kernel_rfl) rfl n hn);simpa using this
 have hv0:=hval 0 28 v0 rfl rfl;unfold Value.okWide at hv0;rw [Tryz.underlying28] at hv0;obtain ⟨cs0,rfl,_,_⟩:=hv0;obtain ⟨x0,hlim0,hrel0⟩:=yn8 h0 hw0;obtain ⟨x1,rfl,rfl,rfl,wx1⟩:=open_int Tryz.underlying3 (hval 1 3 v1 rfl rfl) h1;obtain ⟨x2,rfl,rfl,rfl,wx2⟩:=open_int Tryz.underlying3 (hval 2 3 v2 rfl rfl) h2;refine (((ydk x0 x1 x2 hlim0) noX W [.agg cs0,.int .i64 x1,.int .i64 x2] (zz1 hL) ⟨by rw [yuf];exact hrel0,.v _,.v _,trivial⟩).calls (fun k=>ymq none k)).mono fun e W' hp=>?_;obtain ⟨v,av,h',rfl,⟨rfl,rfl⟩,hr,hh',hk⟩:=hp;obtain rfl:=hr.v_eq;simp only [F8] at hW';refine ⟨_,rfl,_,_,_,[],_,[],hW',trodAll_mk1 (shut_bool Tryz.underlying4 _),trodAll_mk3 (ya2 hk h0 hlt0) (shut_int Tryz.underlying3 wx1) (shut_int Tryz.underlying3 wx2),rfl,yie hk _,fun h=>by cases h⟩
theorem zd0 {a b:Bool} (h:a=true) (k:b=true):(a && b)=true:=by rw [h,k];rfl
set_option maxHeartbeats 40000000 in
theorem guardAsks_holds:Rows.GuardAsksSaid:=
 OpenClaim.holds_of_wide 8 Tryz.f8 rfl rfl rfl rfl rfl rfl rfl ⟨rfl,rfl,rfl,rfl,rfl⟩ rfl rfl rfl rfl rfl (by as_aux_lemma=>kernel_rfl) Tryz.func8 (by unfold joinedFacts;exact (zd0 (zd0 (zd0 (zd0 (zd0 (zd0 (zd0 (zd0 (zd0 (zd0 (zd0 (zd0 (zd0 (zd0 (zd0 (zd0 (zd0 (zd0 (zd0 (zd0 (zd0 (zd0 (zd0 (zd0 (zd0 (zd0 (zd0 (zd0 (zd0 (zd0 (zd0 (by as_aux_lemma=>kernel_rfl) guardAsks_j2) guardAsks_j3) (by as_aux_lemma=>kernel_rfl)) (by as_aux_lemma=>kernel_rfl)) (by as_aux_lemma=>kernel_rfl)) (by as_aux_lemma=>kernel_rfl)) (by as_aux_lemma=>kernel_rfl)) (by as_aux_lemma=>kernel_rfl)) guardAsks_j10) guardAsks_j11) guardAsks_j12) guardAsks_j13) (by as_aux_lemma=>kernel_rfl)) (by as_aux_lemma=>kernel_rfl)) (by as_aux_lemma=>kernel_rfl)) (by as_aux_lemma=>kernel_rfl)) (by as_aux_lemma=>kernel_rfl)) (by as_aux_lemma=>kernel_rfl)) (by as_aux_lemma=>kernel_rfl)) (by as_aux_lemma=>kernel_rfl)) (by as_aux_lemma=>kernel_rfl)) (by as_aux_lemma=>kernel_rfl)) (by as_aux_lemma=>kernel_rfl)) guardAsks_j25) guardAsks_j26) guardAsks_j27) guardAsks_j28) (by as_aux_lemma=>kernel_rfl)) (by as_aux_lemma=>kernel_rfl)) (by as_aux_lemma=>kernel_rfl)) (by as_aux_lemma=>kernel_rfl)))
  (oT (by as_aux_lemma=>kernel_rfl)) (by unfold Func.isWrapper;first|(rw [A6 (by as_aux_lemma=>decide+kernel)];as_aux_lemma=>kernel_rfl)|(rw [A0 (by as_aux_lemma=>decide+kernel)];exact ⟨rfl,rfl⟩))
  (fun os started H enc _=>guardAsks_lifted os started H enc)
end Go.Proofs.YtcaijocpofcbdaaGreatDoor
