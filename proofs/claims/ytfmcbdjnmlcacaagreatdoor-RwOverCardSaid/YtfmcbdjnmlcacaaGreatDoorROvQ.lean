/- RwOver: the row. Conditions: none. -/
import Derived.Test.YtfmcbdjnmlcacaaGreatDoorROvP
import Derived.Test.YtfmcbdjnmlcacaaGreatDoorCards
set_option linter.unusedSectionVars false
set_option linter.unusedSimpArgs false
set_option linter.unusedVariables false
set_option maxRecDepth 100000
namespace Go.Proofs.YtfmcbdjnmlcacaaGreatDoor
open Go Go.Ab Go.H Go.ChangeShapes Go.WideShapes Go.ChangeAt Go.RowKit
theorem rwOver_lifted (os:Os) (started:os.Started) (K:Type) (enc:TypeId×Value→K):
 ReturnsInHanded {} Tryz.checked os 6 .any (fun w args=>(Rows.rwOverSpec.pre enc Tryz.prog Tryz.f6 [] false w args∧laidMetH Tryz.prog zqt w)∧sizedMet enc Tryz.prog Tryz.f6 (OpenSpec.ofChange Rows.rwOverSpec) false w args)
  (Rows.rwOverSpec.post enc Tryz.prog Tryz.f6 false true false false):=by
 refine returnsInHanded_of_change_and (C:=Tryz.checked) (X:=fun w _=>laidMetH Tryz.prog zqt w) (fun _ _ _ hh h=>h.of_heap hh) own started (by kernel_rfl) Tryz.func6
  (ChangeSpec.witness_shaped (enc:=enc) (C:=Tryz.checked) (os:=os) (X:=fun w _=>laidMetH Tryz.prog zqt w) false (wit6 os)
   #[.agg #[.slice none 0 0,.slice none 0 0,.slice none 0 0,.slice none 0 0,.slice none 0 0,.slice none 0 0,.slice none 0 0,.slice none 0 0],.slice none 0 0] 8 (yk1 _)
   (World.shaped_of_ZipB (by kernel_rfl) (by kernel_rfl)) (by kernel_rfl) (by kernel_rfl) (by kernel_rfl)
   (yfk _ _)) ?_
 intro W base args ds gs before hval0 hW _ hsz hL _
 have hval:∀(j:Nat) t v,Tryz.f6.params[j]? =some t→args[j]? =some v→Value.okWide Tryz.prog W .any base t v:=hval0
 have hlt:=hW.lt
 have hW':=hW
 obtain ⟨p,q,hA0,hV,rfl,hfz,hnd⟩:=hW
 have hA:DataW.TrodAll enc Tryz.prog W 0 (fun _=>true) true Tryz.f6.params.toList args.toList ds p:=hA0
 rw [Tryz.params6] at hA hval
 obtain ⟨v0,v1,d0,d1,p0,p1,rfl,rfl,rfl,h0,h1⟩:=trodAll_two hA
 have hlt0:∀x∈p0,x.block < W.heap.size:=fun x hx=>hlt x (by simp [hx])
 have hlt1:∀x∈p1,x.block < W.heap.size:=fun x hx=>hlt x (by simp [hx])
 obtain ⟨rfl,rfl⟩:=trodVars_none hV
 have hw0:∀n∈d0.weights Tryz.prog 28,n≤reachBytes:=fun n hn=>by
  have:=List.all_eq_true.1 hsz n (DataW.weights_mem_each (j:=0) (t:=28) (d:=d0) (by kernel_rfl) rfl n hn)
  simpa using this
 have hv0:=hval 0 28 v0 rfl rfl
 unfold Value.okWide at hv0
 rw [Tryz.underlying28] at hv0
 obtain ⟨cs0,rfl,_,_⟩:=hv0
 obtain ⟨x0,hlim0,hrel0⟩:=yid h0 hw0
 have hw1:∀n∈d1.weights Tryz.prog 29,n≤reachBytes:=fun n hn=>by
  have:=List.all_eq_true.1 hsz n (DataW.weights_mem_each (j:=1) (t:=29) (d:=d1) (by kernel_rfl) rfl n hn)
  simpa using this
 have hv1:=hval 1 29 v1 rfl rfl
 obtain ⟨x1,hlim1,hrel1⟩:=yn6 h1 hw1 hv1
 obtain ⟨rO,oK,hKO,hG,hO⟩:=zzr hL
 refine (((yl1 x0 x1 hlim0 hlim1 rO oK hKO) noX W [.agg cs0,v1] (hG) ⟨by rw [yvi];exact zm3 hrel0 (yf5 _) hO,by rw [yvi];exact zm3 hrel1 (zdo (by decide) zui _) hO,trivial⟩).calls (fun k=>yl8 none k)).mono fun e W' hp=> ?_
 obtain ⟨v,av,h',rfl,⟨rfl,rfl⟩,hr,hh',hk⟩:=hp
 have hk:=yh9 hG hh' hk
 obtain rfl:=hr.v_eq
 simp only [List.append_nil] at hW'
 refine ⟨_,rfl,_,_,_,[],_,[],hW',trodAll_mk1 (shut_bool Tryz.underlying4 _),trodAll_mk2 (yap hk h0 hlt0) (zod hk h1 hlt1),rfl,yia hk _,fun h=>by cases h⟩
theorem zdy {a b:Bool} (h:a=true) (k:b=true):(a && b)=true:=by rw [h,k];rfl
set_option maxHeartbeats 40000000 in
theorem rwOver_holds:Rows.RwOverSaid:=
 OpenClaim.holds_of_wide 6 Tryz.f6 rfl rfl rfl rfl rfl rfl rfl ⟨rfl,rfl,rfl,rfl,rfl⟩ rfl rfl rfl rfl rfl (by as_aux_lemma=>kernel_rfl) Tryz.func6 (by unfold joinedFacts;exact (zdy (zdy (zdy (zdy (zdy (zdy (zdy (zdy (zdy (zdy (zdy (zdy (zdy (zdy (zdy (zdy (zdy (zdy (zdy (zdy (zdy (zdy (zdy (zdy (zdy (zdy (zdy (zdy (zdy (zdy (zdy (by as_aux_lemma=>kernel_rfl) rwOver_j2) rwOver_j3) (by as_aux_lemma=>kernel_rfl)) (by as_aux_lemma=>kernel_rfl)) (by as_aux_lemma=>kernel_rfl)) (by as_aux_lemma=>kernel_rfl)) (by as_aux_lemma=>kernel_rfl)) (by as_aux_lemma=>kernel_rfl)) rwOver_j10) rwOver_j11) rwOver_j12) rwOver_j13) (by as_aux_lemma=>kernel_rfl)) (by as_aux_lemma=>kernel_rfl)) (by as_aux_lemma=>kernel_rfl)) (by as_aux_lemma=>kernel_rfl)) (by as_aux_lemma=>kernel_rfl)) (by as_aux_lemma=>kernel_rfl)) (by as_aux_lemma=>kernel_rfl)) (by as_aux_lemma=>kernel_rfl)) (by as_aux_lemma=>kernel_rfl)) (by as_aux_lemma=>kernel_rfl)) (by as_aux_lemma=>kernel_rfl)) rwOver_j25) rwOver_j26) rwOver_j27) rwOver_j28) (by as_aux_lemma=>kernel_rfl)) (by as_aux_lemma=>kernel_rfl)) (by as_aux_lemma=>kernel_rfl)) (by as_aux_lemma=>kernel_rfl)))
  (oT (by as_aux_lemma=>kernel_rfl)) (by unfold Func.isWrapper;first|(rw [if_pos (by as_aux_lemma=>decide+kernel)];as_aux_lemma=>kernel_rfl)|(rw [if_neg (by as_aux_lemma=>decide+kernel)];exact ⟨rfl,rfl⟩))
  (fun os started H enc _=>rwOver_lifted os started H enc)
end Go.Proofs.YtfmcbdjnmlcacaaGreatDoor
