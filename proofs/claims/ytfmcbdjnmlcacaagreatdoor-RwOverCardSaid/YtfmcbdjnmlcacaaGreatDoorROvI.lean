/- The walk of history.spoken, reading. Conditions: none. -/
import Derived.Test.YtfmcbdjnmlcacaaGreatDoorROvH
set_option maxHeartbeats 4000000
set_option linter.unusedSectionVars false
set_option linter.unusedSimpArgs false
set_option linter.unusedVariables false
set_option maxRecDepth 10000
namespace Go.Proofs
open Go Go.Ab
attribute [local irreducible] QR QV OE zcp aw zdd zcj zbo za7 thn zft
open Go.H
theorem zyp {σ:Type} (step:σ→Nat×Int→Option σ) (ok:Nat×Int→Prop) (IJ:Option σ→List Res→Prop) (y:AV) (hy:∀(s:σ) (L:List Res) (sort:Nat) (n:Int) (cells:List AV),ok (sort,n)→IJ (some s) L→y0 Tryz.prog y [iv sort,.pp (iv n::cells)] L (fun r h'=>r=bv (step s (sort,n)).isSome∧IJ (step s (sort,n)) h')) (sort:Nat) (n:Int) (hs:ok (sort,n)) (cells:List AV) (bm by_:Nat) (st:Option σ) (L:List Res) (hI:IJ st L):y8 Tryz.prog 202 [iv sort,.pp (iv n::cells),pZ bm,pZ by_] (.box bm 4 [bv (st).isSome]:: .box by_ 239 [y]::L) (fun r h'=>∃L',IJ (goes step st [(sort,n)]) L'∧h'= .box bm 4 [bv (goes step st [(sort,n)]).isSome]:: .box by_ 239 [y]::L'):=by
 refine z6 Tryz.func202 rfl rfl rfl ?_
 refine rn ?_;refine w6 (fun hg0_1=> ?_) (fun hg0_1=> ?_)
 ·refine rn ?_;obtain ⟨s,rfl⟩:=Option.isSome_iff_exists.1 hg0_1
  refine z8 rfl (v7 rfl rfl (y0.fr2 (hy s L sort n cells hs hI)) rfl ?_)
  rintro _ _ ⟨L2,rfl,rfl,hI2⟩
  refine rn ?_;first
   |exact zfx .nil (.refl _ _) ⟨L2,hI2,rfl⟩
   |(obtain rfl:=Option.not_isSome_iff_eq_none.1 (show ¬st.isSome=true by simp [hg0_1])
     exact zfx .nil (.refl _ _) ⟨L,hI,rfl⟩)
 ·refine rn ?_;first
   |exact zfx .nil (.refl _ _) ⟨L2,hI2,rfl⟩
   |(obtain rfl:=Option.not_isSome_iff_eq_none.1 (show ¬st.isSome=true by simp [hg0_1])
     exact zfx .nil (.refl _ _) ⟨L,hI,rfl⟩)
theorem ynv {σ:Type} (step:σ→Nat×Int→Option σ) (ok:Nat×Int→Prop) (IJ:Option σ→List Res→Prop) (y:AV) (hy:∀(s:σ) (L:List Res) (sort:Nat) (n:Int) (cells:List AV),ok (sort,n)→IJ (some s) L→y0 Tryz.prog y [iv sort,.pp (iv n::cells)] L (fun r h'=>r=bv (step s (sort,n)).isSome∧IJ (step s (sort,n)) h')) (v:Ver) (hv:∀x∈zgw v,ok x) (cells:List AV) (bs bm by_:Nat) (st:Option σ) (L:List Res) (hI:IJ st L):y8 Tryz.prog 203 [.pp (iv v.t::iv v.k::cells),pZ bs] (.box bs 240 [.fn (.func 202) [] [pZ bm,pZ by_]]:: .box bm 4 [bv (st).isSome]:: .box by_ 239 [y]::L) (fun r h'=>∃L',IJ (goes step st (zgw v)) L'∧h'= .box bs 240 [.fn (.func 202) [] [pZ bm,pZ by_]]:: .box bm 4 [bv (goes step st (zgw v)).isSome]:: .box by_ 239 [y]::L'):=by
 refine z6 Tryz.func203 rfl rfl rfl ?_
 refine rn ?_;refine z7 rfl (fun hc7=> ?_) (fun hc7=> ?_)
 ·refine k9 4 rfl ?_
  refine rn ?_;refine z8 rfl (v7 rfl rfl (y0.fr1 (y0.of_acall (fs:= []) (cs:= [pZ bm,pZ by_]) (zyp step ok IJ y hy 0 v.t (hv _ (by rw [zgw,if_pos hc7];simp)) (iv v.k::cells) bm by_ _ _ hI))) rfl ?_)
  rintro _ _ ⟨_,rfl,L2,hI2,rfl⟩
  refine rn ?_;first
   |(have hm:zgw v= [(0,v.t)]:=by rw [zgw,if_pos hc7]
     rw [hm];exact zfx .nil (.refl _ _) ⟨L2,hI2,rfl⟩)
   |(have hm:zgw v= []:=by rw [zgw,if_neg (by rw [hc7];decide)]
     rw [hm];exact zfx .nil (.refl _ _) ⟨L,hI,rfl⟩)
 ·refine rn ?_;first
   |(have hm:zgw v= [(0,v.t)]:=by rw [zgw,if_pos hc7]
     rw [hm];exact zfx .nil (.refl _ _) ⟨L2,hI2,rfl⟩)
   |(have hm:zgw v= []:=by rw [zgw,if_neg (by rw [hc7];decide)]
     rw [hm];exact zfx .nil (.refl _ _) ⟨L,hI,rfl⟩)
theorem yle {σ:Type} (step:σ→Nat×Int→Option σ) (ok:Nat×Int→Prop) (IJ:Option σ→List Res→Prop) (y:AV) (hone:y.cellsOf=some [y]) (hy:∀(s:σ) (L:List Res) (sort:Nat) (n:Int) (cells:List AV),ok (sort,n)→IJ (some s) L→y0 Tryz.prog y [iv sort,.pp (iv n::cells)] L (fun r h'=>r=bv (step s (sort,n)).isSome∧IJ (step s (sort,n)) h')) (h:Hist) (la:Lim 4611686018427387904 h) (b1 bh:Nat) (hok:∀x∈zc2 h,ok x) (s0:σ) (L0:List Res) (h0:IJ (some s0) L0):y8 Tryz.prog 201 [y,pZ b1] (.box b1 184 [pZ bh]:: .box bh 28 (w7 h)::L0) (fun r h'=>∃L',IJ (goes step (some s0) (zc2 h)) L'∧h'= .box b1 184 [pZ bh]:: .box bh 28 (w7 h)::L'):=by
 refine z6 Tryz.func201 rfl rfl rfl ?_
 refine rn ?_;refine z8 rfl (w9 rfl hone rfl fun by_=> ?_)
 refine rn ?_;refine z8 rfl (y3 rfl fun bm=> ?_)
 refine rn ?_;refine z8 rfl (y3 rfl fun bs=> ?_)
 refine rn ?_;refine zaa (fun x:Nat×Option σ×List Res=>x.1≤h.evs.length∧IJ x.2.1 x.2.2∧Rem step ok x.2.1 (((h.evs.drop x.1).flatMap evL)++(h.ords.flatMap yjy++(h.mats.flatMap ye9++h.wants.flatMap yak))) (goes step (some s0) (zc2 h))) (fun x=>⟨[(22,iv x.1),(21,iv (h.evs.map evR).length),(1,pZ b1),(4,pZ bs),(5,.fn (.func 203) [] [pZ bs])],.box b1 184 [pZ bh]:: .box bh 28 (w7 h):: .box bs 240 [.fn (.func 202) [] [pZ bm,pZ by_]]:: .box bm 4 [bv (x.2.1).isSome]:: .box by_ 239 [y]::x.2.2,[]⟩) (fun x=>h.evs.length - x.1) (0,some s0,L0) ⟨by omega,h0,rfl,hok⟩
  (v8 (zaz ((pt3 _ _ _ _ _).trans (.cons _ (pt3 _ _ _ _ _)))) (v6 (.cons _ _ _ rfl (.cons _ _ _ rfl (.cons _ _ _ rfl (.cons _ _ _ rfl (.cons _ _ _ rfl (.nil)))))))) ?_
 rintro ⟨k,st,L⟩ ⟨hk,hI,hF⟩
 simp only at hk hI hF
 refine rn ?_;refine z7 rfl (fun hc23=> ?_) (fun hc23=> ?_)
 ·have k2:k < h.evs.length:=by simpa using hc23
  obtain ⟨e,he⟩:∃e,e=h.evs[k]:=⟨_,rfl⟩
  have hrowe:(h.evs.map evR)[k]? =some (evR e):=by rw [he];simp [k2]
  have hde:=List.drop_eq_getElem_cons k2
  rw [hde,←he] at hF
  simp only [List.flatMap_cons,evL,List.cons_append,List.append_assoc] at hF
  obtain ⟨hx,hF⟩:=hF.cons
  obtain ⟨hkx,hF⟩:=hF.app
  have hle:=la.evs
  have hls:=la.scans e (by rw [he];simp)
  refine rn ?_;refine k9 4 rfl ?_
  refine rn ?_;refine z8 rfl (v7 rfl rfl (y0.fr3 (y0.of_acall (fs:= []) (cs:= [pZ bm,pZ by_]) (zyp step ok IJ y hy 0 e.t hx _ bm by_ _ _ hI))) rfl ?_)
  rintro _ _ ⟨_,rfl,L,hI,rfl⟩
  refine rn0 ?_;refine yem (fun L=>IJ (goes step (goes step st [(0,e.t)]) (zgy e)) L) (fun L=>⟨[(7,.pp (evR e)),(22,iv k),(21,iv (h.evs.map evR).length),(1,pZ b1),(4,pZ bs),(5,.fn (.func 203) [] [pZ bs])],.box b1 184 [pZ bh]:: .box bh 28 (w7 h):: .box bs 240 [.fn (.func 202) [] [pZ bm,pZ by_]]:: .box bm 4 [bv (goes step (goes step st [(0,e.t)]) (zgy e)).isSome]:: .box by_ 239 [y]::L,[]⟩) ?_ ?_
  ·refine rn ?_;refine z7 rfl (fun hc40=> ?_) (fun hc40=> ?_)
   ·have hkl:=yc4 (e:=e) (by simpa using hc40)
    refine k9 4 rfl ?_
    refine rn ?_;refine z8 rfl (v7 rfl rfl (y0.fr3 (y0.of_acall (fs:= []) (cs:= [pZ bm,pZ by_]) (zyp step ok IJ y hy 1 e.s (hkx _ (by rw [hkl];simp)) _ bm by_ _ _ hI))) rfl ?_)
    rintro _ _ ⟨_,rfl,L,hI,rfl⟩
    refine rn ?_;refine ⟨L,?_,?_⟩
    ·show IJ (goes step _ (zgy e)) L
     rw [hkl];exact hI
    ·rw [hkl];exact (v6 (.cons _ _ _ rfl (.cons _ _ _ rfl (.cons _ _ _ rfl (.cons _ _ _ rfl (.cons _ _ _ rfl (.cons _ _ _ rfl (.nil))))))))
   ·have hn1:e.kind≠1:=by simpa using hc40
    refine rn ?_;refine z7 rfl (fun hc47=> ?_) (fun hc47=> ?_)
    ·have hk23:e.kind=2∨e.kind=3:=by simp at hc47;omega
     have hkl:=znk hk23
     refine rn ?_;refine z7 rfl (fun hc47=> ?_) (fun hc47=> ?_)
     ·have hk23:e.kind=2∨e.kind=3:=by simp at hc47;omega
      have hkl:=znk hk23
      refine rn ?_;refine k9 4 rfl ?_
      refine rn ?_;refine z8 rfl (v7 rfl rfl (y0.fr3 (y0.of_acall (fs:= []) (cs:= [pZ bm,pZ by_]) (zyp step ok IJ y hy 2 e.o (hkx _ (by rw [hkl];simp)) _ bm by_ _ _ hI))) rfl ?_)
      rintro _ _ ⟨_,rfl,L,hI,rfl⟩
      refine rn ?_;refine z8 rfl (v7 rfl rfl (y0.fr2 (y0.of_acall (fs:= []) (cs:= [pZ bs]) (ynv step ok IJ y hy e.v (fun x hx=>hkx x (by rw [hkl];simp [hx])) _ bs bm by_ _ _ hI))) rfl ?_)
      rintro _ _ ⟨_,rfl,L,hI,rfl⟩
      refine rn ?_;refine ⟨L,?_,?_⟩
      ·show IJ (goes step _ (zgy e)) L
       rw [hkl];exact hI
      ·rw [hkl];exact (v6 (.cons _ _ _ rfl (.cons _ _ _ rfl (.cons _ _ _ rfl (.cons _ _ _ rfl (.cons _ _ _ rfl (.cons _ _ _ rfl (.nil))))))))
     ·first|cases hc47|exact absurd hc47 (by decide)|(exfalso;simp_all;done)
    ·have hn23:=hc47
     simp at hn23
     refine rn ?_;refine z7 rfl (fun hc47=> ?_) (fun hc47=> ?_)
     ·have hk23:e.kind=2∨e.kind=3:=by simp at hc47;omega
      have hkl:=znk hk23
      refine rn ?_;refine k9 4 rfl ?_
      refine rn ?_;refine z8 rfl (v7 rfl rfl (y0.fr3 (y0.of_acall (fs:= []) (cs:= [pZ bm,pZ by_]) (zyp step ok IJ y hy 2 e.o (hkx _ (by rw [hkl];simp)) _ bm by_ _ _ hI))) rfl ?_)
      rintro _ _ ⟨_,rfl,L,hI,rfl⟩
      refine rn ?_;refine z8 rfl (v7 rfl rfl (y0.fr2 (y0.of_acall (fs:= []) (cs:= [pZ bs]) (ynv step ok IJ y hy e.v (fun x hx=>hkx x (by rw [hkl];simp [hx])) _ bs bm by_ _ _ hI))) rfl ?_)
      rintro _ _ ⟨_,rfl,L,hI,rfl⟩
      refine rn ?_;refine ⟨L,?_,?_⟩
      ·show IJ (goes step _ (zgy e)) L
       rw [hkl];exact hI
      ·rw [hkl];exact (v6 (.cons _ _ _ rfl (.cons _ _ _ rfl (.cons _ _ _ rfl (.cons _ _ _ rfl (.cons _ _ _ rfl (.cons _ _ _ rfl (.nil))))))))
     ·have hn23:=hc47
      simp at hn23
      refine rn ?_;refine z7 rfl (fun hc60=> ?_) (fun hc60=> ?_)
      ·have hkl:=yc3 (e:=e) (by simpa using hc60)
       refine k9 4 rfl ?_
       refine rn ?_;refine z8 rfl (v7 rfl rfl (y0.fr3 (y0.of_acall (fs:= []) (cs:= [pZ bm,pZ by_]) (zyp step ok IJ y hy 3 e.p (hkx _ (by rw [hkl];simp)) _ bm by_ _ _ hI))) rfl ?_)
       rintro _ _ ⟨_,rfl,L,hI,rfl⟩
       refine rn ?_;refine ⟨L,?_,?_⟩
       ·show IJ (goes step _ (zgy e)) L
        rw [hkl];exact hI
       ·rw [hkl];exact (v6 (.cons _ _ _ rfl (.cons _ _ _ rfl (.cons _ _ _ rfl (.cons _ _ _ rfl (.cons _ _ _ rfl (.cons _ _ _ rfl (.nil))))))))
      ·have hn4:e.kind≠4:=by simpa using hc60
       have hkl:=yc5 (e:=e) hn1 (by omega) (by omega) hn4
       refine rn ?_;refine ⟨L,?_,?_⟩
       ·show IJ (goes step _ (zgy e)) L
        rw [hkl];exact hI
       ·rw [hkl];exact (v6 (.cons _ _ _ rfl (.cons _ _ _ rfl (.cons _ _ _ rfl (.cons _ _ _ rfl (.cons _ _ _ rfl (.cons _ _ _ rfl (.nil))))))))
  ·rintro L hI
   revert hI hF
   generalize goes step (goes step st [(0,e.t)]) (zgy e)=st2
   intro hF hI
   refine rn ?_;refine zaa (fun x:Nat×Option σ×List Res=>x.1≤e.scan.length∧IJ x.2.1 x.2.2∧Rem step ok x.2.1 (((e.scan.drop x.1).flatMap zul)++(((h.evs.drop (k+1)).flatMap evL)++(h.ords.flatMap yjy++(h.mats.flatMap ye9++h.wants.flatMap yak)))) (goes step (some s0) (zc2 h))) (fun x=>⟨[(72,iv x.1),(71,iv (e.scan.map zam).length),(7,.pp (evR e)),(22,iv k),(21,iv (h.evs.map evR).length),(1,pZ b1),(4,pZ bs),(5,.fn (.func 203) [] [pZ bs])],.box b1 184 [pZ bh]:: .box bh 28 (w7 h):: .box bs 240 [.fn (.func 202) [] [pZ bm,pZ by_]]:: .box bm 4 [bv (x.2.1).isSome]:: .box by_ 239 [y]::x.2.2,[]⟩) (fun x=>e.scan.length - x.1) (0,st2,L) ⟨by omega,hI,hF⟩
    (v6 (.cons _ _ _ rfl (.cons _ _ _ rfl (.cons _ _ _ rfl (.cons _ _ _ rfl (.cons _ _ _ rfl (.cons _ _ _ rfl (.cons _ _ _ rfl (.cons _ _ _ rfl (.nil)))))))))) ?_
   rintro ⟨j,st,L⟩ ⟨hj,hI,hF⟩
   simp only at hj hI hF
   refine rn ?_;refine z7 rfl (fun hc73=> ?_) (fun hc73=> ?_)
   ·have j2:j < e.scan.length:=by simpa using hc73
    obtain ⟨x,hx⟩:∃x,x=e.scan[j]:=⟨_,rfl⟩
    have hrowx:(e.scan.map zam)[j]? =some (zam x):=by rw [hx];simp [j2]
    have hdx:=List.drop_eq_getElem_cons j2
    rw [hdx,←hx] at hF
    simp only [List.flatMap_cons,zul,List.cons_append,List.append_assoc] at hF
    obtain ⟨hx,hF⟩:=hF.cons
    obtain ⟨hkx,hF⟩:=hF.app
    refine rn ?_;refine k9 8 rfl ?_
    refine rn ?_;refine z8 rfl (v7 rfl rfl (y0.fr3 (y0.of_acall (fs:= []) (cs:= [pZ bm,pZ by_]) (zyp step ok IJ y hy 2 x.o hx _ bm by_ _ _ hI))) rfl ?_)
    rintro _ _ ⟨_,rfl,L,hI,rfl⟩
    refine rn ?_;refine z8 rfl (v7 rfl rfl (y0.fr2 (y0.of_acall (fs:= []) (cs:= [pZ bs]) (ynv step ok IJ y hy x.v hkx _ bs bm by_ _ _ hI))) rfl ?_)
    rintro _ _ ⟨_,rfl,L,hI,rfl⟩
    refine rn ?_;exact ⟨(j+1,_,L),⟨by omega,hI,hF⟩,(v6 (.cons _ _ _ rfl (.cons _ _ _ rfl (.cons _ _ _ rfl (.cons _ _ _ rfl (.cons _ _ _ rfl (.cons _ _ _ rfl (.cons _ _ _ rfl (.cons _ _ _ rfl (.nil)))))))))),by simp only;omega⟩
   ·obtain rfl:j=e.scan.length:=by
     have:e.scan.length≤j:=by simpa using hc73
     omega
    rw [List.drop_length,List.flatMap_nil,List.nil_append] at hF
    refine rn ?_;exact ⟨(k+1,_,L),⟨by omega,hI,hF⟩,(v6 (.cons _ _ _ rfl (.cons _ _ _ rfl (.cons _ _ _ rfl (.cons _ _ _ rfl (.cons _ _ _ rfl (.nil))))))),by simp only;omega⟩
 ·obtain rfl:k=h.evs.length:=by
   have:h.evs.length≤k:=by simpa using hc23
   omega
  rw [List.drop_length,List.flatMap_nil,List.nil_append] at hF
  refine rn ?_;refine zaa (fun x:Nat×Option σ×List Res=>x.1≤h.ords.length∧IJ x.2.1 x.2.2∧Rem step ok x.2.1 (((h.ords.drop x.1).flatMap yjy)++(h.mats.flatMap ye9++h.wants.flatMap yak)) (goes step (some s0) (zc2 h))) (fun x=>⟨[(100,iv x.1),(99,iv (h.ords.map zeg).length),(1,pZ b1),(4,pZ bs),(5,.fn (.func 203) [] [pZ bs])],.box b1 184 [pZ bh]:: .box bh 28 (w7 h):: .box bs 240 [.fn (.func 202) [] [pZ bm,pZ by_]]:: .box bm 4 [bv (x.2.1).isSome]:: .box by_ 239 [y]::x.2.2,[]⟩) (fun x=>h.ords.length - x.1) (0,st,L) ⟨by omega,hI,hF⟩
   (v6 (.cons _ _ _ rfl (.cons _ _ _ rfl (.cons _ _ _ rfl (.cons _ _ _ rfl (.cons _ _ _ rfl (.nil))))))) ?_
  rintro ⟨k,st,L⟩ ⟨hk,hI,hF⟩
  simp only at hk hI hF
  refine rn ?_;refine z7 rfl (fun hc101=> ?_) (fun hc101=> ?_)
  ·have k2:k < h.ords.length:=by simpa using hc101
   obtain ⟨r,hr⟩:∃r,r=h.ords[k]:=⟨_,rfl⟩
   have hrowr:(h.ords.map zeg)[k]? =some (zeg r):=by rw [hr];simp [k2]
   have hdr:=List.drop_eq_getElem_cons k2
   rw [hdr,←hr] at hF
   simp only [List.flatMap_cons,yjy,List.cons_append,List.append_assoc] at hF
   obtain ⟨hx,hF⟩:=hF.cons
   have hle:=la.ords
   have hls:=la.ordts r (by rw [hr];simp)
   refine rn ?_;refine k9 8 rfl ?_
   refine rn ?_;refine z8 rfl (v7 rfl rfl (y0.fr3 (y0.of_acall (fs:= []) (cs:= [pZ bm,pZ by_]) (zyp step ok IJ y hy 2 r.o hx _ bm by_ _ _ hI))) rfl ?_)
   rintro _ _ ⟨_,rfl,L,hI,rfl⟩
   refine rn ?_;refine zaa (fun x:Nat×Option σ×List Res=>x.1≤r.ts.length∧IJ x.2.1 x.2.2∧Rem step ok x.2.1 (((r.ts.drop x.1).map fun t=>((0:Nat),t))++(((h.ords.drop (k+1)).flatMap yjy)++(h.mats.flatMap ye9++h.wants.flatMap yak))) (goes step (some s0) (zc2 h))) (fun x=>⟨[(121,iv x.1),(120,iv (r.ts.map zac).length),(9,iv k),(100,iv k),(99,iv (h.ords.map zeg).length),(1,pZ b1),(4,pZ bs),(5,.fn (.func 203) [] [pZ bs])],.box b1 184 [pZ bh]:: .box bh 28 (w7 h):: .box bs 240 [.fn (.func 202) [] [pZ bm,pZ by_]]:: .box bm 4 [bv (x.2.1).isSome]:: .box by_ 239 [y]::x.2.2,[]⟩) (fun x=>r.ts.length - x.1) (0,_,L) ⟨by omega,hI,hF⟩
    (v6 (.cons _ _ _ rfl (.cons _ _ _ rfl (.cons _ _ _ rfl (.cons _ _ _ rfl (.cons _ _ _ rfl (.cons _ _ _ rfl (.cons _ _ _ rfl (.cons _ _ _ rfl (.nil)))))))))) ?_
   rintro ⟨j,st,L⟩ ⟨hj,hI,hF⟩
   simp only at hj hI hF
   refine rn ?_;refine z7 rfl (fun hc122=> ?_) (fun hc122=> ?_)
   ·have j2:j < r.ts.length:=by simpa using hc122
    obtain ⟨t,ht⟩:∃t,t=r.ts[j]:=⟨_,rfl⟩
    have hrowt:(r.ts.map zac)[j]? =some (zac t):=by rw [ht];simp [j2]
    have hdt:=List.drop_eq_getElem_cons j2
    rw [hdt,←ht] at hF
    simp only [List.map_cons,List.cons_append] at hF
    obtain ⟨hx,hF⟩:=hF.cons
    refine rn ?_;refine k9 11 rfl ?_
    refine rn ?_;refine z8 rfl (v7 rfl rfl (y0.fr3 (y0.of_acall (fs:= []) (cs:= [pZ bm,pZ by_]) (zyp step ok IJ y hy 0 t hx _ bm by_ _ _ hI))) rfl ?_)
    rintro _ _ ⟨_,rfl,L,hI,rfl⟩
    refine rn ?_;exact ⟨(j+1,_,L),⟨by omega,hI,hF⟩,(v6 (.cons _ _ _ rfl (.cons _ _ _ rfl (.cons _ _ _ rfl (.cons _ _ _ rfl (.cons _ _ _ rfl (.cons _ _ _ rfl (.cons _ _ _ rfl (.cons _ _ _ rfl (.nil)))))))))),by simp only;omega⟩
   ·obtain rfl:j=r.ts.length:=by
     have:r.ts.length≤j:=by simpa using hc122
     omega
    rw [List.drop_length,List.map_nil,List.nil_append] at hF
    refine rn ?_;exact ⟨(k+1,_,L),⟨by omega,hI,hF⟩,(v6 (.cons _ _ _ rfl (.cons _ _ _ rfl (.cons _ _ _ rfl (.cons _ _ _ rfl (.cons _ _ _ rfl (.nil))))))),by simp only;omega⟩
  ·obtain rfl:k=h.ords.length:=by
    have:h.ords.length≤k:=by simpa using hc101
    omega
   rw [List.drop_length,List.flatMap_nil,List.nil_append] at hF
   refine rn ?_;refine zaa (fun x:Nat×Option σ×List Res=>x.1≤h.mats.length∧IJ x.2.1 x.2.2∧Rem step ok x.2.1 (((h.mats.drop x.1).flatMap ye9)++h.wants.flatMap yak) (goes step (some s0) (zc2 h))) (fun x=>⟨[(143,iv x.1),(142,iv (h.mats.map zd3).length),(1,pZ b1),(4,pZ bs),(5,.fn (.func 203) [] [pZ bs])],.box b1 184 [pZ bh]:: .box bh 28 (w7 h):: .box bs 240 [.fn (.func 202) [] [pZ bm,pZ by_]]:: .box bm 4 [bv (x.2.1).isSome]:: .box by_ 239 [y]::x.2.2,[]⟩) (fun x=>h.mats.length - x.1) (0,st,L) ⟨by omega,hI,hF⟩
    (v6 (.cons _ _ _ rfl (.cons _ _ _ rfl (.cons _ _ _ rfl (.cons _ _ _ rfl (.cons _ _ _ rfl (.nil))))))) ?_
   rintro ⟨k,st,L⟩ ⟨hk,hI,hF⟩
   simp only at hk hI hF
   refine rn ?_;refine z7 rfl (fun hc144=> ?_) (fun hc144=> ?_)
   ·have k2:k < h.mats.length:=by simpa using hc144
    obtain ⟨r,hr⟩:∃r,r=h.mats[k]:=⟨_,rfl⟩
    have hrowr:(h.mats.map zd3)[k]? =some (zd3 r):=by rw [hr];simp [k2]
    have hdr:=List.drop_eq_getElem_cons k2
    rw [hdr,←hr] at hF
    simp only [List.flatMap_cons,ye9,List.cons_append,List.append_assoc] at hF
    obtain ⟨hx,hF⟩:=hF.cons
    obtain ⟨hx2,hF⟩:=hF.cons
    have hle:=la.mats
    have hls:=la.matts r (by rw [hr];simp)
    refine rn ?_;refine k9 4 rfl ?_
    refine rn ?_;refine z8 rfl (v7 rfl rfl (y0.fr3 (y0.of_acall (fs:= []) (cs:= [pZ bm,pZ by_]) (zyp step ok IJ y hy 3 r.p hx _ bm by_ _ _ hI))) rfl ?_)
    rintro _ _ ⟨_,rfl,L,hI,rfl⟩
    refine rn ?_;refine k9 4 rfl ?_
    refine rn ?_;refine z8 rfl (v7 rfl rfl (y0.fr3 (y0.of_acall (fs:= []) (cs:= [pZ bm,pZ by_]) (zyp step ok IJ y hy 2 r.o hx2 _ bm by_ _ _ hI))) rfl ?_)
    rintro _ _ ⟨_,rfl,L,hI,rfl⟩
    refine rn ?_;refine zaa (fun x:Nat×Option σ×List Res=>x.1≤r.ts.length∧IJ x.2.1 x.2.2∧Rem step ok x.2.1 (((r.ts.drop x.1).map fun t=>((0:Nat),t))++(((h.mats.drop (k+1)).flatMap ye9)++h.wants.flatMap yak)) (goes step (some s0) (zc2 h))) (fun x=>⟨[(167,iv x.1),(166,iv (r.ts.map zac).length),(12,.pp (zd3 r)),(143,iv k),(142,iv (h.mats.map zd3).length),(1,pZ b1),(4,pZ bs),(5,.fn (.func 203) [] [pZ bs])],.box b1 184 [pZ bh]:: .box bh 28 (w7 h):: .box bs 240 [.fn (.func 202) [] [pZ bm,pZ by_]]:: .box bm 4 [bv (x.2.1).isSome]:: .box by_ 239 [y]::x.2.2,[]⟩) (fun x=>r.ts.length - x.1) (0,_,L) ⟨by omega,hI,hF⟩
     (v6 (.cons _ _ _ rfl (.cons _ _ _ rfl (.cons _ _ _ rfl (.cons _ _ _ rfl (.cons _ _ _ rfl (.cons _ _ _ rfl (.cons _ _ _ rfl (.cons _ _ _ rfl (.nil)))))))))) ?_
    rintro ⟨j,st,L⟩ ⟨hj,hI,hF⟩
    simp only at hj hI hF
    refine rn ?_;refine z7 rfl (fun hc168=> ?_) (fun hc168=> ?_)
    ·have j2:j < r.ts.length:=by simpa using hc168
     obtain ⟨t,ht⟩:∃t,t=r.ts[j]:=⟨_,rfl⟩
     have hrowt:(r.ts.map zac)[j]? =some (zac t):=by rw [ht];simp [j2]
     have hdt:=List.drop_eq_getElem_cons j2
     rw [hdt,←ht] at hF
     simp only [List.map_cons,List.cons_append] at hF
     obtain ⟨hx,hF⟩:=hF.cons
     refine rn ?_;refine k9 7 rfl ?_
     refine rn ?_;refine z8 rfl (v7 rfl rfl (y0.fr3 (y0.of_acall (fs:= []) (cs:= [pZ bm,pZ by_]) (zyp step ok IJ y hy 0 t hx _ bm by_ _ _ hI))) rfl ?_)
     rintro _ _ ⟨_,rfl,L,hI,rfl⟩
     refine rn ?_;exact ⟨(j+1,_,L),⟨by omega,hI,hF⟩,(v6 (.cons _ _ _ rfl (.cons _ _ _ rfl (.cons _ _ _ rfl (.cons _ _ _ rfl (.cons _ _ _ rfl (.cons _ _ _ rfl (.cons _ _ _ rfl (.cons _ _ _ rfl (.nil)))))))))),by simp only;omega⟩
    ·obtain rfl:j=r.ts.length:=by
      have:r.ts.length≤j:=by simpa using hc168
      omega
     rw [List.drop_length,List.map_nil,List.nil_append] at hF
     refine rn ?_;exact ⟨(k+1,_,L),⟨by omega,hI,hF⟩,(v6 (.cons _ _ _ rfl (.cons _ _ _ rfl (.cons _ _ _ rfl (.cons _ _ _ rfl (.cons _ _ _ rfl (.nil))))))),by simp only;omega⟩
   ·obtain rfl:k=h.mats.length:=by
     have:h.mats.length≤k:=by simpa using hc144
     omega
    rw [List.drop_length,List.flatMap_nil,List.nil_append] at hF
    refine rn ?_;refine zaa (fun x:Nat×Option σ×List Res=>x.1≤h.wants.length∧IJ x.2.1 x.2.2∧Rem step ok x.2.1 (((h.wants.drop x.1).flatMap yak)++ []) (goes step (some s0) (zc2 h))) (fun x=>⟨[(185,iv x.1),(184,iv (h.wants.map zfq).length),(1,pZ b1),(4,pZ bs),(5,.fn (.func 203) [] [pZ bs])],.box b1 184 [pZ bh]:: .box bh 28 (w7 h):: .box bs 240 [.fn (.func 202) [] [pZ bm,pZ by_]]:: .box bm 4 [bv (x.2.1).isSome]:: .box by_ 239 [y]::x.2.2,[]⟩) (fun x=>h.wants.length - x.1) (0,st,L) ⟨by omega,hI,by rw [List.append_nil];exact hF⟩
     (v6 (.cons _ _ _ rfl (.cons _ _ _ rfl (.cons _ _ _ rfl (.cons _ _ _ rfl (.cons _ _ _ rfl (.nil))))))) ?_
    rintro ⟨k,st,L⟩ ⟨hk,hI,hF⟩
    simp only at hk hI hF
    refine rn ?_;refine z7 rfl (fun hc186=> ?_) (fun hc186=> ?_)
    ·have k2:k < h.wants.length:=by simpa using hc186
     obtain ⟨r,hr⟩:∃r,r=h.wants[k]:=⟨_,rfl⟩
     have hrowr:(h.wants.map zfq)[k]? =some (zfq r):=by rw [hr];simp [k2]
     have hdr:=List.drop_eq_getElem_cons k2
     rw [hdr,←hr] at hF
     simp only [List.flatMap_cons,yak,List.cons_append,List.append_assoc,List.nil_append] at hF
     obtain ⟨hx,hF⟩:=hF.cons
     have hle:=la.wants
     refine rn ?_;refine k9 8 rfl ?_
     refine rn ?_;refine z8 rfl (v7 rfl rfl (y0.fr3 (y0.of_acall (fs:= []) (cs:= [pZ bm,pZ by_]) (zyp step ok IJ y hy 1 r.s hx _ bm by_ _ _ hI))) rfl ?_)
     rintro _ _ ⟨_,rfl,L,hI,rfl⟩
     refine rn ?_;exact ⟨(k+1,_,L),⟨by omega,hI,hF⟩,(v6 (.cons _ _ _ rfl (.cons _ _ _ rfl (.cons _ _ _ rfl (.cons _ _ _ rfl (.cons _ _ _ rfl (.nil))))))),by simp only;omega⟩
    ·obtain rfl:k=h.wants.length:=by
      have:h.wants.length≤k:=by simpa using hc186
      omega
     rw [List.drop_length,List.flatMap_nil,List.nil_append] at hF
     refine rn ?_;have hF':st=goes step (some s0) (zc2 h):=hF.fin
     exact zfx .nil (.trans (.perm ((pt2 _ _ _ _).trans (.cons _ ((pt2 _ _ _ _).trans (.cons _ (pt2 _ _ _ _))))) _) (.drop [_,_,_] _ _)) ⟨L,hF' ▸ hI,rfl⟩
theorem spoken (bh:Nat) (h:List Res):y8 Tryz.prog 141 [pZ bh] h (fun r h'=>∃b1,h'= .box b1 184 [pZ bh]::h∧r= .fn (.func 201) [] [pZ b1]):=by
 refine z6 Tryz.func141 rfl rfl rfl ?_
 refine rn ?_;refine z8 rfl (w9 rfl rfl rfl fun b1=> ?_)
 refine rn ?_;exact j9 rfl (.refl _ _) ⟨_,rfl,rfl⟩
def IJC (lp:LP) (q b2 b3:Nat):Option (List Int)→List Res→Prop
 |some m,L=>L=lp .ready none:: .defs q:: .box b3 156 ((m).map iv):: .box b2 33 [iv 0]:: [.glob 2 156 y5,.glob 4 305 y7,.glob 5 308 y2]∧m.length=4
 |none,L=>∃m:List Int,L=lp .done (some .ret):: .defs q:: .box b3 156 ((m).map iv):: .box b2 33 [iv 210]:: [.glob 2 156 y5,.glob 4 305 y7,.glob 5 308 y2]
theorem ys4 (h:Hist) (la:Lim 4611686018427387904 h):y8 Tryz.prog 93 [.agg (w7 h)] [.glob 2 156 y5,.glob 4 305 y7,.glob 5 308 y2] (fun r h'=>h'= [.glob 2 156 y5,.glob 4 305 y7,.glob 5 308 y2]∧r=iv (zee h)):=by
 refine z6 Tryz.func93 rfl rfl rfl ?_
 refine rn ?_;refine z8 rfl (w9 rfl rfl rfl fun b1=> ?_)
 refine z8 rfl (y3 rfl fun b2=> ?_)
 refine rn ?_;refine qv rfl rfl (y1 rfl rfl (y0.qt (y0.of_fun (yp1 h la)) ((pt2 _ _ _ _).trans (.cons _ ((pt2 _ _ _ _).trans (.cons _ (pt2 _ _ _ _))))))) ?_
 refine rn ?_;refine z7 rfl (fun hc10=> ?_) (fun hc10=> ?_)
 ·have hs:zad h=false:=zsv hc10
  refine rn ?_;exact ze0 (.cons _ _ _ _ (.one _ _ _ _ _ _ _ rfl inferInstance inferInstance rfl) .nil) (.drop [_,_] _ _) ⟨rfl,congrArg iv (yiy hs).symm⟩
 ·have hs:zad h=true:=zsw hc10
  refine rn ?_;refine z8 rfl (y3 rfl fun b3=> ?_)
  refine rn ?_;refine z8 rfl (v7 rfl rfl (y0.of_fun (spoken b1 _)) rfl ?_)
  rintro _ _ ⟨b1',rfl,rfl⟩
  refine rn ?_;refine zot (fun pend h''=>(pend=none∧∃m:List Int,zoq h=some m∧m.length=4∧h''= .box b1' 184 [pZ b1]:: .box b1 28 (w7 h):: .box b3 156 ((m).map iv):: .box b2 33 [iv 0]:: [.glob 2 156 y5,.glob 4 305 y7,.glob 5 308 y2])∨(pend=some .ret∧zoq h=none∧∃m:List Int,h''= .box b1' 184 [pZ b1]:: .box b1 28 (w7 h):: .box b3 156 ((m).map iv):: .box b2 33 [iv 210]:: [.glob 2 156 y5,.glob 4 305 y7,.glob 5 308 y2])) rfl (fun fn l q lp hlp=> ?_) (fun q h'' hK=> ?_) (fun q h'' c hK=> ?_)
  ·suffices hy:∀(s:List Int) (L:List Res) (sort:Nat) (n:Int) (cells:List AV),OkN h (sort,n)→IJC lp q b2 b3 (some s) L→y0 Tryz.prog (yv l) [iv sort,.pp (iv n::cells)] L (fun r h'=>r=bv (zba s (sort,n)).isSome∧IJC lp q b2 b3 (zba s (sort,n)) h') by
    refine y8.mono (y8.perm ((pt2 _ _ _ _).trans (.cons _ (pt4 _ _ _ _ _ _))) (yle zba (OkN h) (IJC lp q b2 b3) (yv l) rfl hy h la b1' b1 (zr0 hs) [0,0,0,0] _ ⟨rfl,rfl⟩)) ?_
    rintro _ _ ⟨L',hI,rfl⟩
    cases hm:goes zba (some [0,0,0,0]) (zc2 h) with
    |some m=>
     rw [hm] at hI
     obtain ⟨rfl,hl⟩:=hI
     exact ⟨_,_,_,((pt2 _ _ _ _).trans (.cons _ (pt2 _ _ _ _))),by simp,.inl ⟨rfl,m,hm,hl,rfl⟩⟩
    |none=>
     rw [hm] at hI
     obtain ⟨m,rfl⟩:=hI
     exact ⟨_,_,_,((pt2 _ _ _ _).trans (.cons _ (pt2 _ _ _ _))),by simp,.inr ⟨rfl,hm,m,rfl⟩⟩
   rintro m _ sort n cells ⟨hs4,hn0,hn1⟩ ⟨rfl,hl⟩
   simp only at hs4 hn0 hn1
   have hnm:=la.nm sort
   refine zxt hlp rfl rfl ?_
   refine rn ?_;refine ⟨[(4,iv sort),(5,.pp (iv n::cells)),(3,pZ b3),(2,pZ b2)],(v6 (.cons _ _ _ rfl (.cons _ _ _ rfl (.cons _ _ _ rfl (.cons _ _ _ rfl (.nil)))))),?_⟩
   refine rn ?_;refine k9 6 rfl ?_
   refine dq rfl rfl qrA ?_;refine dq rfl rfl qrA ?_;refine dq rfl rfl qrA ?_;refine dq rfl rfl qrA ?_;refine dq rfl rfl (zas rfl rfl hs4) ?_
   refine dq rfl rfl (zak rfl (yuz hl hs4)) ?_
   refine rn ?_;refine z7 rfl (fun hc20=> ?_) (fun hc20=> ?_)
   ·refine rn ?_;have hst:zba m (sort,n)=none:=by rw [zba];exact if_pos (by simpa using hc20)
    exact zur (.refl _) (by rw [hst];exact ⟨rfl,_,rfl⟩)
   ·refine rn ?_;refine k9 9 rfl ?_
    refine dq rfl rfl qrA ?_;refine dq rfl rfl qrA ?_;refine dq rfl rfl (zas rfl rfl hs4) ?_
    refine dq rfl rfl (zak rfl (yuz hl hs4)) ?_
    refine rn2 ?_;refine qq rfl rfl (zas rfl rfl hs4) ?_
    refine z8 rfl (zan rfl rfl rfl rfl (by simp [hl];omega) ?_)
    refine rn ?_;have hst:zba m (sort,n)=some (m.set sort (max (m.getD sort 0) (n+1))):=by rw [zba];exact if_neg (by simpa using hc20)
    exact zem (.refl _) (by rw [hst];exact ⟨rfl,by rw [←yv7 hl hs4];rfl,by simpa using hl⟩)
  ·obtain ⟨_,m,hm,hl,rfl⟩|⟨hc,_⟩:=hK
   rotate_left
   ·cases hc
   refine rn ?_;refine qv rfl rfl (y1 rfl rfl (u5 (yne _) (Sbs.refl _))) ?_
   refine rn ?_;refine zaa (fun k:Nat=>k≤4∧∀j,j < k→m.getD j 0=(nmK h j).length) (fun k=>⟨[(33,iv k),(32,.agg (zli h)),(3,pZ b3),(2,pZ b2)],.defs q:: .box b1' 184 [pZ b1]:: .box b1 28 (w7 h):: .box b3 156 ((m).map iv):: .box b2 33 [iv 0]:: [.glob 2 156 y5,.glob 4 305 y7,.glob 5 308 y2],[q]⟩) (fun k=>4 - k) 0 ⟨by omega,fun j hj=>absurd hj (Nat.not_lt_zero j)⟩
    (v6 (.cons _ _ _ rfl (.cons _ _ _ rfl (.cons _ _ _ rfl (.cons _ _ _ rfl (.nil)))))) ?_
   rintro k ⟨hk,hz⟩
   refine rn ?_;refine z7 rfl (fun hc34=> ?_) (fun hc34=> ?_)
   ·have hk4:k < 4:=by simp at hc34;omega
    refine za2 ?_;refine zai ?_;refine w8 ?_;refine zcz ?_;refine w8 (y4 ?_)
    refine q1 ?_;refine qq rfl rfl (zdp rfl rfl (by omega) (by have:=yck h hk4;simpa using this)) ?_
    refine q1 ?_;refine q1 ?_;refine u9 (zai ?_)
    refine w8 (y4 ?_)
    refine q1 ?_;refine qq rfl rfl (zas rfl rfl hk4) ?_
    refine qq rfl rfl (zak rfl (yuz hl hk4)) ?_
    refine rn ?_;refine z7 rfl (fun hc42=> ?_) (fun hc42=> ?_)
    ·refine rn ?_;exact zi1 (.refl _) (.cons _ _ _ _ (.one _ _ _ _ _ _ _ rfl inferInstance inferInstance rfl) .nil) (.drop [_,_,_,_] _ _) ⟨rfl,congrArg iv (yiz hm hk4 (by simpa using hc42)).symm⟩
    ·refine rn ?_;exact ⟨k+1,⟨by omega,fun j hj=>by
      by_cases hjk:j=k
      ·subst hjk;simpa using hc42
      ·exact hz j (by omega)⟩,(v6 (.cons _ _ _ rfl (.cons _ _ _ rfl (.cons _ _ _ rfl (.cons _ _ _ rfl (.nil)))))),by omega⟩
   ·have hk4:k=4:=by simp at hc34;omega
    subst hk4
    refine rn ?_;exact zi1 (.refl _) (.cons _ _ _ _ (.one _ _ _ _ _ _ _ rfl inferInstance inferInstance rfl) .nil) (.drop [_,_,_,_] _ _) ⟨rfl,congrArg iv (yi0 hs hm hl hz).symm⟩
  ·obtain ⟨hc,_⟩|⟨hc,hm,m,rfl⟩:=hK
   ·cases hc
   obtain rfl:c= .ret:=by simpa using hc
   refine rn ?_;exact zi1 (.refl _) (.cons _ _ _ _ (.one _ _ _ _ _ _ _ rfl inferInstance inferInstance rfl) .nil) (.drop [_,_,_,_] _ _) ⟨rfl,congrArg iv (zz3 hm).symm⟩
attribute [local irreducible] zei jch zfs
def u0:List AV:= [.any,.fn (.func 300) [] [],.fn (.func 307) [] [],.fn (.func 308) [] [],.fn (.func 309) [] [],.fn (.func 310) [] [],.fn (.func 311) [] [],.fn (.func 312) [] [],.fn (.func 313) [] [],.fn (.func 314) [] [],.fn (.func 315) [] []]
def ytt (k:Nat):AV:=u0.getD k .any
theorem yo0 {k:Nat} (h2:k≤10):u0[k]? =some (ytt k):=by
 have:k < u0.length:=by show k < 11;omega
 rw [ytt,List.getD_eq_getElem?_getD,List.getElem?_eq_getElem this];rfl
theorem yi8 (h:Hist) (la:Lim 3000 h) (b:Nat) (G:List Res) {k:Nat} (h1:1≤k) (h2:k≤10):y0 Tryz.prog (ytt k) [pZ b] (.box b 252 (zce h)::G) (fun r h'=>h'=G∧r=zbs (zc5 h k)):=by
 match k,h1,h2 with
 |1,_,_=>exact y0.of_acall (fs:= []) (cs:= []) (yq1 h la b G)
 |2,_,_=>exact y0.of_acall (fs:= []) (cs:= []) (ywl h la b G)
 |3,_,_=>exact y0.of_acall (fs:= []) (cs:= []) (yq0 h la b G)
 |4,_,_=>exact y0.of_acall (fs:= []) (cs:= []) (ygs h la b G)
 |5,_,_=>exact y0.of_acall (fs:= []) (cs:= []) (ywh h la b G)
 |6,_,_=>exact y0.of_acall (fs:= []) (cs:= []) (yt9 h la b G)
 |7,_,_=>exact y0.of_acall (fs:= []) (cs:= []) (yqv h la b G)
 |8,_,_=>exact y0.of_acall (fs:= []) (cs:= []) (ygv h la b G)
 |9,_,_=>exact y0.of_acall (fs:= []) (cs:= []) (yqy h la b G)
 |10,_,_=>exact y0.of_acall (fs:= []) (cs:= []) (yt7 h la b G)
 |k+11,_,h2=>omega
theorem ym0 {o:Option Nat} {i:Int} {b:Bool} (h:zbs o= .tup [iv i,bv b]):i=ywo o∧b=o.isSome:=by
 cases o with
 |none=>simp only [zbs,AV.tup.injEq,List.cons.injEq,AV.v.injEq,Value.int.injEq,Value.bool.injEq,true_and,and_true] at h;exact ⟨h.1.symm,h.2.symm⟩
 |some n=>simp only [zbs,AV.tup.injEq,List.cons.injEq,AV.v.injEq,Value.int.injEq,Value.bool.injEq,true_and,and_true] at h;exact ⟨h.1.symm,h.2.symm⟩
theorem zqo {h:Hist} (hm:zfz h=true):Lim 3000 h:=by
 unfold zfz at hm;simp only [Bool.and_eq_true] at hm;exact zo1 hm.1
theorem yqz (h:Hist) (la:Lim 4611686018427387904 h):y8 Tryz.prog 143 [.agg (w7 h)] [.glob 2 156 y5,.glob 4 305 y7,.glob 5 308 y2,.glob 3 246 u0] (fun r h'=>h'= [.glob 2 156 y5,.glob 4 305 y7,.glob 5 308 y2,.glob 3 246 u0]∧r=zib h):=by
 refine z6 Tryz.func143 rfl rfl rfl ?_
 refine rn ?_;refine z8 rfl (w9 rfl rfl rfl fun b1=> ?_)
 refine z8 rfl (y3 rfl fun b2=> ?_)
 refine rn ?_;refine qv rfl rfl (y1 rfl rfl (y0.qt (y0.of_fun (ys4 h la)) ((pt2 _ _ _ _).trans (.cons _ ((pt2 _ _ _ _).trans (.cons _ (pt2 _ _ _ _))))))) ?_
 refine rn ?_;refine z7 rfl (fun hc12=> ?_) (fun hc12=> ?_)
 ·have hm:¬zfz h=true:=by intro q;rw [zee,if_pos q] at hc12;cases hc12
  have he:zee h=210:=by rw [zee,if_neg hm]
  refine rn ?_;exact ze0 (.cons _ _ _ _ (.agg _ _ _ _ _ _ _ rfl inferInstance inferInstance inferInstance rfl) (.cons _ _ _ _ (.tmp _ _ rfl) (.cons _ _ _ _ (.tmp _ _ rfl) .nil))) (.drop [_,_] _ _) ⟨rfl,by rw [zib,if_neg hm,he];rfl⟩
 ·have hm:zfz h=true:=yeb.1 (by simpa using hc12)
  have la3:=zqo hm
  refine rn ?_;refine zif (fun k:Nat=>(1≤k∧k≤11)∧za6 (zc5 h) rules10=za6 (zc5 h) (rules10.drop (k - 1))) (fun k=>⟨[(6,iv k),(1,pZ b1),(2,pZ b2)],(.box b2 158 [iv 0,iv 0]:: .box b1 28 (w7 h):: .glob 2 156 y5:: .glob 4 305 y7:: .glob 5 308 y2:: .glob 3 246 u0:: []),[]⟩) (fun k=>11 - k) 1 ⟨by omega,rfl⟩ es ?_
  rintro k ⟨⟨k1,k3⟩,zk⟩
  obtain ⟨pi,pb,hpv⟩:∃i b,zbs (zc5 h k)= .tup [iv i,bv b]:=zd8 _
  obtain ⟨ei,eb⟩:=ym0 hpv
  refine rn ?_;refine z7 rfl (fun hc16=> ?_) (fun hc16=> ?_)
  ·have k2:k≤10:=by have:=oT hc16;omega
   refine za2 ?_;refine rn0 ?_;refine w8 ?_;refine zcz ?_;refine w8 ?_;refine zig 11 [5,6] [7,8,9,10] (fun he=>he=(.box b2 158 [iv 0,iv 0]:: .box b1 28 (w7 h):: .glob 2 156 y5:: .glob 4 305 y7:: .glob 5 308 y2:: .glob 3 246 u0:: [])∨∃b,he= .box b 252 (zce h)::(.box b2 158 [iv 0,iv 0]:: .box b1 28 (w7 h):: .glob 2 156 y5:: .glob 4 305 y7:: .glob 5 308 y2:: .glob 3 246 u0:: [])) rfl rfl (.inl rfl) ?_
   refine jq rfl (fun he hC=>by rcases hC with rfl|⟨b,rfl⟩ <;> exact qrA) ?_
   refine jq rfl (fun he hC=>by rcases hC with rfl|⟨b,rfl⟩ <;> exact (by exact zas rfl rfl (by show k < 11;omega))) ?_
   refine jq rfl (fun he hC=>by rcases hC with rfl|⟨b,rfl⟩ <;> exact (by exact zak rfl (show u0[0+k * 1]? =some (ytt k) by rw [Nat.zero_add,Nat.mul_one];exact yo0 k2))) ?_
   refine jq rfl (fun he hC=>by rcases hC with rfl|⟨b,rfl⟩ <;> exact qrA) ?_
   refine jq rfl (fun he hC=>by rcases hC with rfl|⟨b,rfl⟩ <;> exact (by exact zae (out:=zce h) rfl (by rfl))) ?_
   refine je rfl ?_;refine je rfl ?_;refine je rfl ?_;refine je rfl ?_;refine je rfl ?_;refine je rfl ?_;refine yib ?_;refine jce rfl fun u=> ?_
   refine w9 rfl rfl rfl fun b5=>⟨_,_,rfl,.inr ⟨_,rfl⟩,?_⟩
   refine jce rfl fun u=> ?_
   refine v7 rfl rfl (yi8 h la3 b5 _ k1 k2) rfl ?_
   rintro _ _ ⟨rfl,rfl⟩
   rw [hpv]
   refine ⟨_,_,rfl,.inl rfl,?_⟩
   refine jcn ?_;refine lq rfl rfl (by exact qrA) ?_
   refine lq rfl rfl (by exact qrA) ?_
   refine lq rfl rfl (by exact qrA) ?_
   refine lq rfl rfl (by exact qrA) ?_
   refine ln ?_;refine rn ?_;refine z7 rfl (fun hc29=> ?_) (fun hc29=> ?_)
   ·refine rn ?_;exact ze0 (.cons _ _ _ _ (.agg _ _ _ _ _ _ _ rfl inferInstance inferInstance inferInstance rfl) (.cons _ _ _ _ (.tmp _ _ rfl) (.cons _ _ _ _ (.tmp _ _ rfl) .nil))) (.drop [_,_] _ _) ⟨rfl,by
     cases hp:zc5 h k with
     |none=>rw [hp] at eb;rw [eb] at hc29;cases hc29
     |some n=>rw [hp] at ei;subst ei;rw [zib,if_pos hm,zj1,zte k1 k2 zk hp];rfl⟩
   ·refine rn ?_;exact ⟨k+1,⟨by omega,zpj k1 k2 zk (by cases hp:zc5 h k with|none=>rfl|some n=>rw [hp] at eb;rw [eb] at hc29;cases hc29)⟩,eA,by omega⟩
  ·have k2:11≤k:=by have:=oF hc16;omega
   refine rn ?_;exact ze0 (.cons _ _ _ _ (.agg _ _ _ _ _ _ _ rfl inferInstance inferInstance inferInstance rfl) (.cons _ _ _ _ (.tmp _ _ rfl) (.cons _ _ _ _ (.tmp _ _ rfl) .nil))) (.drop [_,_] _ _) ⟨rfl,by rw [zib,if_pos hm,zj1,zpk k2 k3 zk];rfl⟩
theorem yqq (h:Hist) (la:Lim 4611686018427387904 h):y8 Tryz.prog 94 [.agg (w7 h)] [.glob 2 156 y5,.glob 4 305 y7,.glob 5 308 y2,.glob 3 246 u0] (fun r h'=>h'= [.glob 2 156 y5,.glob 4 305 y7,.glob 5 308 y2,.glob 3 246 u0]∧r=bv (za0 h)):=by
 refine z6 Tryz.func94 rfl rfl rfl ?_
 refine rn ?_;refine z8 rfl (w9 rfl rfl rfl fun b1=> ?_)
 refine q1 ?_;refine u9 (zai ?_)
 refine w8 (y4 ?_)
 obtain ⟨fi,fj,fb,fe,hf,hfb⟩:=ztf h
 refine rn ?_;refine qv rfl rfl (y1 rfl rfl (y0.qt (y0.of_fun (yqz h la)) ((pt1 _ _ _).trans (.cons _ ((pt1 _ _ _).trans (.cons _ ((pt1 _ _ _).trans (.cons _ (pt1 _ _ _))))))))) ?_
 rw [hf]
 refine rn ?_;refine z8 rfl (y3 rfl fun b3=> ?_)
 refine rn ?_;refine w6 (fun hg2_2=> ?_) (fun hg2_2=> ?_)
 ·refine rn ?_;refine rq 2 ?_
  exact ⟨rfl,congrArg bv (by rw [hfb];simp_all)⟩
 ·refine rn ?_;refine rq 2 ?_
  exact ⟨rfl,congrArg bv (by rw [hfb];simp_all)⟩
end Go.Proofs
set_option maxRecDepth 100000
namespace Go.Proofs.YtfmcbdjnmlcacaaGreatDoor
open Go Go.Ab Go.H
def yoz:DataW Unit:=match (Rows.laid_yardarm_rules_asks:DataW Unit) with| .iface _ d=>d|d=>d
def ycm:List (List UInt8):=match yoz with| .agg ds=>ds.map (fun d=>match d with| .iface _ (.lit (.string b))=>b|_=> [])|_=> []
def nm (k:Nat):List UInt8:=ycm.getD (k+1) []
theorem yep:yoz.funcsOut= .agg (.nil::(ycm.drop 1).map .held):=by kernel_rfl
theorem zqz {w:World} {c:Array Value} {T0:TypeId} {fr:Nat×Nat} {g:Nat} {T:TypeId} {vs:List AV} (hh:w.heap[g]? =some (.cells c T0 fr)) (hl:vs.length=c.size) (h:∀j (h1:j < vs.length) (h2:j < c.size),Rel w noX vs[j] c[j]):(Res.glob g T vs).holds w noX:=
 ⟨fun h=>h,(Array.getElem?_eq_some_iff.1 hh).1,c,T0,fr,hh,hl,fun j h1 h2=>h j h1 h2⟩
theorem ykg (w:World) (f:Nat):Rel w noX (.fn (.func f) [] []) (.func (.func f) #[] #[]):= .fn _ _ _ _ _ rfl rfl (fun j h=>absurd h (Nat.not_lt_zero _)) (fun j h=>absurd h (Nat.not_lt_zero _))
def fnA:List Nat:= [300,307,308,309,310,311,312,313,314,315]
theorem yi7 (k:Nat) (hk:k < 10):∃b r,ycm[k+1]? =some (b::r)∧((List.range Tryz.prog.funcs.size).filter fun f=>(Tryz.prog.funcs[f]?).any (·.name.toUTF8.data.toList==b::r))= [fnA.getD k 0]∧u0[k+1]? =some (.fn (.func (fnA.getD k 0)) [] []):=by
 match k,hk with
 |0,_=>exact ⟨(nm 0).headD 0,(nm 0).tail,by kernel_rfl,by kernel_rfl,by kernel_rfl⟩
 |1,_=>exact ⟨(nm 1).headD 0,(nm 1).tail,by kernel_rfl,by kernel_rfl,by kernel_rfl⟩
 |2,_=>exact ⟨(nm 2).headD 0,(nm 2).tail,by kernel_rfl,by kernel_rfl,by kernel_rfl⟩
 |3,_=>exact ⟨(nm 3).headD 0,(nm 3).tail,by kernel_rfl,by kernel_rfl,by kernel_rfl⟩
 |4,_=>exact ⟨(nm 4).headD 0,(nm 4).tail,by kernel_rfl,by kernel_rfl,by kernel_rfl⟩
 |5,_=>exact ⟨(nm 5).headD 0,(nm 5).tail,by kernel_rfl,by kernel_rfl,by kernel_rfl⟩
 |6,_=>exact ⟨(nm 6).headD 0,(nm 6).tail,by kernel_rfl,by kernel_rfl,by kernel_rfl⟩
 |7,_=>exact ⟨(nm 7).headD 0,(nm 7).tail,by kernel_rfl,by kernel_rfl,by kernel_rfl⟩
 |8,_=>exact ⟨(nm 8).headD 0,(nm 8).tail,by kernel_rfl,by kernel_rfl,by kernel_rfl⟩
 |9,_=>exact ⟨(nm 9).headD 0,(nm 9).tail,by kernel_rfl,by kernel_rfl,by kernel_rfl⟩
end Go.Proofs.YtfmcbdjnmlcacaaGreatDoor
namespace Go.Proofs
open Go Go.Ab
open Go.H
def ypc (l:List Int):List AV:= [za1 l]
theorem yq4 {P:Program} {h:List Res} {f:Operand→Option AV} {o:Oper} {b c:Bool} (hq:QR P h f o (.v (.bool b))) (e:b=c):QR P h f o (.v (.bool c)):=by subst e;exact hq
theorem nzT {a:Int} (h:(a !=0)=true):a≠0:=by simpa using h
theorem nzF {a:Int} (h:(a !=0)=false):a=0:=by simpa using h
theorem yos (l:List Ev):(zfm l).length≤l.length:=by rw [zfm,(zcl _).length_eq,oM];exact List.length_filter_le _ _
def dnM (l:List Int):List (Int×Bool):=zr3 (fun _:Int=>true) (fun t:Int=>t) [] l
theorem yu8 {l:List Int} {k:Nat} (hk:k < l.length):dnM (l.take (k+1))=zeo l[k] true (dnM (l.take k)):=by
 rw [dnM,dnM,zr3,zr3,List.take_succ_eq_append_getElem hk,List.foldl_append];rfl
theorem zht (l:List Ev) (t:Int):(zbm t (dnM (zfm l))).getD false=zf1 l t 5:=by
 rw [dnM,zgo]
 cases hq:zf1 l t 5 with
 |true=>rw [if_pos (by rw [List.any_eq_true];exact ⟨t,zq9.2 hq,by simp⟩)];rfl
 |false=>
  rw [if_neg (fun q=>by
   obtain ⟨x,hx,e⟩:=List.any_eq_true.1 q
   have e:x=t:=by simpa using e
   rw [e,zq9,hq] at hx;cases hx)]
  rfl
def evD (l:List Ev) (n:Int):Ev:=(l[n.toNat]?).getD ⟨0,0,0,0,0,⟨0,0⟩,0,[]⟩
theorem zxu {l:List Ev} {a:Nat} (ha:a < l.length):evD l (a:Int)=l[a]:=by rw [evD,Int.toNat_natCast,List.getElem?_eq_getElem ha];rfl
def ze3 (h:Hist) (n:Int):Int:=if u6 h=0 then (if 0≤n∧n < h.evs.length∧(evD h.evs n).kind=4 then 0 else 2) else u6 h
def zo0 (h:Hist) (n:Int):List Seen:=if ze3 h n=0 then ylk h (evD h.evs n) n.toNat else []
theorem yv6 {h:Hist} {n:Int} (hc:u6 h≠0):ze3 h n=u6 h∧zo0 h n= []:=by
 have e:ze3 h n=u6 h:=by rw [ze3,if_neg hc]
 exact ⟨e,by rw [zo0,e,if_neg hc]⟩
theorem yv5 {h:Hist} {n:Int} (hc:u6 h=0) (hn:¬(0≤n∧n < h.evs.length∧(evD h.evs n).kind=4)):ze3 h n=2∧zo0 h n= []:=by
 have e:ze3 h n=2:=by rw [ze3,if_pos hc,if_neg hn]
 exact ⟨e,by rw [zo0,e];rfl⟩
theorem yv4 {h:Hist} {a:Nat} (hc:u6 h=0) (ha:a < h.evs.length) (h4:h.evs[a].kind=4):ze3 h a=0∧zo0 h a=(upR h.os.length).map (yjm h.evs h.evs[a].t h.evs[a].scan a):=by
 have e:ze3 h a=0:=by rw [ze3,if_pos hc,if_pos ⟨by omega,by omega,by rw [zxu ha];exact h4⟩]
 exact ⟨e,by rw [zo0,e,if_pos rfl,zxu ha,Int.toNat_natCast];rfl⟩
set_option maxRecDepth 10000
instance:EqInts Tryz.prog 41 7:=⟨by kernel_rfl,fun w xs ys h1 h2=>match xs,ys,h1,h2 with
 | [a0,a1,a2,a3,a4,a5,a6],[c0,c1,c2,c3,c4,c5,c6],_,_=>by
   rw [run_equalIn_struct w 9999 41 _ _ (by kernel_rfl) (by kernel_rfl)]
   simp only [Program.fieldsOf,Tryz.underlying41]
   simp [Op.eqFields,part,run_equalIn_int _ 9998 3 .i64 .i64 _ _ Tryz.underlying3]
   by_cases h0:a0=c0
   case neg=>simp [h0]
   subst h0
   by_cases h1:a1=c1
   case neg=>simp [h1]
   subst h1
   by_cases h2:a2=c2
   case neg=>simp [h2]
   subst h2
   by_cases h3:a3=c3
   case neg=>simp [h3]
   subst h3
   by_cases h4:a4=c4
   case neg=>simp [h4]
   subst h4
   by_cases h5:a5=c5
   case neg=>simp [h5]
   subst h5
   by_cases h6:a6=c6
   case neg=>simp [h6]
   subst h6
   simp⟩
end Go.Proofs
namespace Go.Ab
open Go
end Go.Ab
set_option maxRecDepth 10000
namespace Go.Proofs
open Go Go.Ab
attribute [local irreducible] QR QV OE zcp aw zdd zcj zbo za7 thn zft zei jch zfs
open Go.H
theorem yr3 (a:Int):y8 Tryz.prog 204 [iv a] [] (fun r h'=>h'= []∧r=bv false):=by
 refine z6 Tryz.func204 rfl rfl rfl ?_
 refine rn ?_;refine rq 0 ?_
 exact ⟨rfl,congrArg bv (bne_self_eq_false a)⟩
def ykl (a b:Int):Int:=if a < b then -1 else if b < a then 1 else 0
theorem ztt (a b:Int) (l m:List Int):zhx (a::l) (b::m)=if ykl a b=0 then zhx l m else ykl a b:=by
 rw [zhx,ykl]
 by_cases h1:a < b
 ·rw [if_pos h1,if_pos h1];rfl
 ·rw [if_neg h1,if_neg h1]
  by_cases h2:b < a
  ·rw [if_pos h2,if_pos h2];rfl
  ·rw [if_neg h2,if_neg h2];rfl
theorem zz0:∀(l:List Int),l≠ []→zhx l []=1
 | [],h=>absurd rfl h
 |_::_,_=>rfl
theorem zz1:∀(l:List Int),l≠ []→zhx [] l= -1
 | [],h=>absurd rfl h
 |_::_,_=>rfl
theorem ys2 (a b:Int):y8 Tryz.prog 144 [iv a,iv b] [] (fun r h'=>h'= []∧r=iv (ykl a b)):=by
 refine z6 Tryz.func144 rfl rfl rfl ?_
 refine rn ?_;refine qv rfl rfl (y1 rfl rfl (u5 (yr3 _) (Sbs.refl _))) ?_
 refine rn ?_;refine qv rfl rfl (y1 rfl rfl (u5 (yr3 _) (Sbs.refl _))) ?_
 refine rn ?_;refine z7 rfl (fun hc11=> ?_) (fun hc11=> ?_)
 ·exact absurd hc11 (by decide)
 ·refine rn ?_;refine z7 rfl (fun hc13=> ?_) (fun hc13=> ?_)
  ·exact absurd hc13 (by decide)
  ·refine rn ?_;refine z7 rfl (fun hc16=> ?_) (fun hc16=> ?_)
   ·refine rn ?_;refine rq 0 ?_
    exact ⟨rfl,congrArg iv (by rw [ykl,if_pos (oT hc16)])⟩
   ·refine rn ?_;refine z7 rfl (fun hc19=> ?_) (fun hc19=> ?_)
    ·refine rn ?_;refine rq 0 ?_
     exact ⟨rfl,congrArg iv (by rw [ykl,if_neg (oF hc16),if_pos (oT hc19)])⟩
    ·refine rn ?_;refine rq 0 ?_
     exact ⟨rfl,congrArg iv (by rw [ykl,if_neg (oF hc16),if_neg (oF hc19)])⟩
theorem yav {f g:Bool} (l m:List Int) (hl:l.length≤4611686018427387904) (hm:m.length≤4611686018427387904):y8 Tryz.prog 96 [.list f 1 (l.map zac),.list g 1 (m.map zac)] [] (fun r h'=>h'= []∧r=iv (zhx l m)):=by
 refine z6 Tryz.func96 rfl rfl rfl ?_
 refine rn ?_;refine zcy (l.length) (fun k:Nat=>k≤m.length∧zhx l m=zhx (l.drop k) (m.drop k)) (fun k=> [(11,iv k)]) [(0,_),(1,_),(9,_),(10,_)] ⟨Nat.zero_le _,rfl⟩ ?_
 rintro k lk ⟨km,zk⟩
 refine rn ?_;refine z7 rfl (fun hc12=> ?_) (fun hc12=> ?_)
 ·have hk:=za3 hc12
  have rk:=zal (f:=zac) hk
  refine rn ?_;refine z7 rfl (fun hc19=> ?_) (fun hc19=> ?_)
  ·have q:=oT hc19
   rw [oM] at q
   have qm:k=m.length:=by omega
   refine rn ?_;refine rq 0 ?_
   exact ⟨rfl,congrArg iv (by rw [zk,qm,List.drop_length,zz0 _ (by rw [List.drop_eq_getElem_cons (by omega)];exact List.cons_ne_nil _ _)])⟩
  ·have q:=oF hc19
   rw [oM] at q
   have hkm:k < m.length:=by omega
   have rm:=zal (f:=zac) hkm
   refine rn ?_;refine qv rfl rfl (y1 rfl rfl (u5 (ys2 l[k] m[k]) (Sbs.refl _))) ?_
   refine rn ?_;refine z7 rfl (fun hc28=> ?_) (fun hc28=> ?_)
   ·have hn:¬ykl l[k] m[k]=0:=by simpa using hc28
    refine rn ?_;refine rq 0 ?_
    exact ⟨rfl,congrArg iv (by rw [zk,List.drop_eq_getElem_cons hk,List.drop_eq_getElem_cons hkm,ztt,if_neg hn])⟩
   ·refine rn ?_;exact ⟨hk,⟨hkm,by rw [zk,List.drop_eq_getElem_cons hk,List.drop_eq_getElem_cons hkm,ztt,if_pos (by simpa using hc28)]⟩,eA⟩
 ·have qk:=za4 hc12 lk
  refine rn ?_;refine z7 rfl (fun hc35=> ?_) (fun hc35=> ?_)
  ·have q:=oT hc35
   rw [oM,oM] at q
   refine rn ?_;refine rq 0 ?_
   exact ⟨rfl,congrArg iv (by rw [zk,qk,List.drop_length,zz1 _ (by rw [List.drop_eq_getElem_cons (by omega)];exact List.cons_ne_nil _ _)])⟩
  ·have q:=oF hc35
   rw [oM,oM] at q
   have qm:k=m.length:=by omega
   refine rn ?_;refine rq 0 ?_
   exact ⟨rfl,congrArg iv (by rw [zk,List.drop_eq_nil_of_le (by omega),List.drop_eq_nil_of_le (by omega)];rfl)⟩
def zj6 (a b:Conf):Bool:=([a.f,a.t,a.k,a.a,a.b,a.o,a.p]:List Int)== [b.f,b.t,b.k,b.a,b.b,b.o,b.p]
theorem zj5 (a b:Conf):zj6 a b=decide (a=b):=by
 rw [zj6,Bool.eq_iff_iff,decide_eq_true_iff]
 obtain ⟨a1,a2,a3,a4,a5,a6,a7⟩:=a
 obtain ⟨b1,b2,b3,b4,b5,b6,b7⟩:=b
 simp
theorem zwc (c:Conf):y8 Tryz.prog 95 [.agg (k8 c)] [] (fun r h'=>h'= []∧r= .agg (k8 c)):=by
 refine z6 Tryz.func95 rfl rfl rfl ?_
 refine rn ?_;refine z8 rfl (w9 rfl rfl rfl fun b1=> ?_)
 refine z8 rfl (y3 rfl fun b2=> ?_)
 refine u9 (zai ?_)
 refine w8 (y4 ?_)
 refine q1 ?_;refine q1 ?_;refine q1 ?_;refine q1 ?_;refine q1 ?_;refine q1 ?_;refine q1 ?_;refine q1 ?_;refine q1 ?_;refine q1 ?_;refine q1 ?_;refine q1 ?_;refine q1 ?_;refine q1 ?_;refine qq rfl rfl (zdu (out:=k8 c) rfl (by rfl)) ?_
 refine rn ?_;exact ze0 (.cons _ _ _ _ (.agg _ _ _ _ _ _ _ rfl inferInstance inferInstance inferInstance rfl) .nil) (.drop [_,_] _ _) ⟨rfl,rfl⟩
theorem zrl (a b:Conf):y8 Tryz.prog 39 [.agg (k8 a),.agg (k8 b)] [] (fun r h'=>h'= []∧r=iv (zid a b)):=by
 refine z6 Tryz.func39 rfl rfl rfl ?_
 refine rn ?_;refine z8 rfl (w9 rfl rfl rfl fun b2=> ?_)
 refine z8 rfl (w9 rfl rfl rfl fun b3=> ?_)
 refine rn ?_;refine z7 rfl (fun hc9=> ?_) (fun hc9=> ?_)
 ·have he:a=b:=oT (by rw [←zj5];exact hc9)
  refine rn ?_;refine rq 2 ?_
  exact ⟨rfl,congrArg iv (by rw [he,zj8])⟩
 ·refine rn ?_;refine k9 6 rfl ?_
  refine rn ?_;refine dv rfl rfl (by exact y1 rfl rfl (u5 (zwc a) (Sbs.refl _))) ?_
  refine rn ?_;refine dv rfl rfl (by exact y1 rfl rfl (u5 (zwc b) (Sbs.refl _))) ?_
  refine rn ?_;refine zxy rfl fun b5=> ?_
  refine zxy rfl fun b6=> ?_
  refine rn ?_;refine k9 2 rfl ?_
  refine dq rfl rfl (zle rfl) ?_
  refine dq rfl rfl (zle rfl) ?_
  refine rn2 ?_;refine zyf b5 ?_
  refine zyf b6 ?_
  show zcp _ _ _ _ _ _ ⟨_,.row (ypn b6 7) 1 124 ((yfd b).map zac):: .row (ypn b5 7) 1 124 ((yfd a).map zac):: .box b3 41 (k8 b):: .box b2 41 (k8 a):: [],_⟩
  refine qv rfl rfl (y1 rfl rfl (y0.lend (R:=fun x=>x=iv (zid a b)) (y0.of_fun (yav (yfd a) (yfd b) (by show 7≤4611686018427387904;decide) (by show 7≤4611686018427387904;decide))) (fun r hr=>by rw [hr];rfl) (.refl _ _) (by exact ⟨zk8,zk8,trivial⟩))) ?_
  refine rn ?_;refine rq 4 ?_
  exact ⟨rfl,rfl⟩
def zeh (sz:Nat) (T:TypeId) {α:Type} (R:α→List AV) (x:List (SV×List α)):List Res:=x.map fun p=> .row p.1.v sz T (p.2.map R)
abbrev zcg {α:Type} (x:List (SV×List α)):List (List AV):=x.map fun p=> [.v p.1.v]
theorem zkk {sz:Nat} {T:TypeId} {α:Type} {R:α→List AV} (x:List (SV×List α)) (p:SV×List α):zeh sz T R (x++ [p])=zeh sz T R x++ [.row p.1.v sz T (p.2.map R)]:=by simp [zeh]
theorem zja {α:Type} (x:List (SV×List α)) (p:SV×List α):zcg (x++ [p])=zcg x++ [[.v p.1.v]]:=by simp [zcg]
theorem zgh {α:Type} (x:List (SV×List α)):(zcg x).length=x.length:=oM
theorem zm1 (sz:Nat) (T:TypeId) {α:Type} (R:α→List AV):zeh sz T R []= []:=rfl
theorem zkl {sz:Nat} {T:TypeId} {α:Type} {R:α→List AV} {x:List (SV×List α)} {k:Nat} (hk:k < x.length):zeh sz T R (x.drop k)= .row (x[k]).1.v sz T ((x[k]).2.map R)::zeh sz T R (x.drop (k+1)):=by
 rw [List.drop_eq_getElem_cons hk];rfl
theorem zn1 {α:Type} {x:List (SV×List α)} {k:Nat} (hk:k < x.length):(zcg x)[k]? =some [.v (x[k]).1.v]:=by simp [zcg,hk]
theorem yb9 {β:Type} (m:β) (A B:List β):(m::(A++B)).Perm (A++(B++ [m])):=by
 rw [←List.append_assoc];exact List.perm_append_comm (l₁:= [m])
theorem zyk {sz:Nat} {T:TypeId} {α:Type} {R:α→List AV} (x:List (SV×List α)):zeh sz T R x=zeh sz T R (x.drop (2 * 0))++zeh sz T R []:=by rw [Nat.mul_zero,List.drop_zero,zm1,List.append_nil]
theorem yft {sz:Nat} {T:TypeId} {α:Type} {R:α→List AV} {x y:List (SV×List α)} {n:Nat} (h:x.length≤2 * n):zeh sz T R (x.drop (2 * n))++zeh sz T R y=zeh sz T R y:=by rw [List.drop_eq_nil_of_le h,zm1,List.nil_append]
theorem yfs {sz:Nat} {T:TypeId} {α:Type} {R:α→List AV} {x y:List (SV×List α)} {i:Nat} (h:2 * i+1=x.length):(zeh sz T R (x.drop (2 * i))++zeh sz T R y).Perm (zeh sz T R (x.drop (2 * (i+1)))++zeh sz T R (y++ [x[2 * i]'(by omega)])):=by
 rw [List.drop_eq_nil_of_le (show x.length≤2 * (i+1) by omega),zkl (by omega),List.drop_eq_nil_of_le (by omega),zm1,List.nil_append,zkk]
 exact List.perm_append_comm
theorem yfr {sz:Nat} {T:TypeId} {α:Type} {R:α→List AV} {x y:List (SV×List α)} {i:Nat} {m:SV} {l:List α}:(.row m.v sz T (l.map R)::(zeh sz T R (x.drop (2 * i+1+1))++zeh sz T R y)).Perm (zeh sz T R (x.drop (2 * (i+1)))++zeh sz T R (y++ [(m,l)])):=by
 rw [zkk,show 2 * (i+1)=2 * i+1+1 by omega]
 exact yb9 _ _ _
theorem znf (s:SV):∀r∈([[.v s.v]]:List (List AV)),r.all AV.one=true:=by
 intro r hr;rw [List.mem_singleton.1 hr];rfl
theorem yfq {β:Type} {l:List β} {k:Nat} (hk:k < l.length):(l.take (k+1)).drop k= [l[k]]:=by
 rw [List.take_succ_eq_append_getElem hk,List.drop_left' (by simp;omega)]
theorem ycq (a b:List Conf) (fv:AV) (cmp:Conf→Conf→Int) (hp:∀x y,y0 Tryz.prog fv [.agg (k8 x),.agg (k8 y)] [] (fun r h'=>h'= []∧r=iv (cmp x y))) (ha:a.length≤1000000000) (hb:b.length≤1000000000):y8 Tryz.prog 170 [.list false 7 (a.map k8),.list false 7 (b.map k8),fv] [] (fun r h'=>∃s:SV,h'= [.row s.v 7 41 ((mrg cmp a b).map k8)]∧r= .v s.v):=by
 refine z6 Tryz.func170 rfl rfl rfl ?_
 refine rn ?_;refine zj9 ?_;refine w8 (y4 ?_)
 refine q1 ?_;refine q1 ?_;refine q1 ?_;refine q1 ?_;refine qq rfl rfl (zci rfl rfl rfl (by simp only [oM];omega)) ?_
 refine z8 rfl (zxa (n:=0) (c:=((a.map k8).length+(b.map k8).length)) rfl rfl rfl (Nat.zero_le _) (by simp only [oM];omega) (hk:=fun b7=> ?_))
 refine j8 (.slice (some ⟨b7,0,none⟩) 0 ((a.map k8).length+(b.map k8).length)) fun s0 hs0=> ?_
 rw [hs0]
 clear hs0
 refine rn ?_;refine zif (fun x:Nat×Nat×List Conf×SV=>x.1≤a.length∧x.2.1≤b.length∧x.2.2.1.length=x.1+x.2.1∧x.2.2.1++mrg cmp (a.drop x.1) (b.drop x.2.1)=mrg cmp a b) (fun x=>⟨[(0,.list false 7 ((a.drop x.1).map k8)),(1,.list false 7 ((b.drop x.2.1).map k8)),(2,fv),(7,.v x.2.2.2.v)],.row x.2.2.2.v 7 41 (x.2.2.1.map k8):: [],[]⟩) (fun x=>(a.length - x.1)+(b.length - x.2.1)) (0,0,[],s0) ⟨Nat.zero_le _,Nat.zero_le _,rfl,rfl⟩ es ?_
 rintro ⟨i,j,p,s⟩ ⟨hi0,hj0,hpl,hm⟩
 simp only at hi0 hj0 hpl hm
 show aw _ _ _ _ _ ⟨[(0,.list false 7 ((a.drop i).map k8)),(1,.list false 7 ((b.drop j).map k8)),(2,fv),(7,.v s.v)],.row s.v 7 41 (p.map k8):: [],[]⟩
 refine rn ?_;refine w6 (fun hg3_3=> ?_) (fun hg3_3=> ?_)
 ·refine rn ?_;refine zc0 rfl ?_;have hov:a.drop i= []∨b.drop j= []:=by first|(have q:=hg3_3;simp at q;exact .inl (List.drop_eq_nil_of_le (by omega)))|(have q:=hc22;simp at q;exact .inr (List.drop_eq_nil_of_le (by omega)))
  refine rn ?_;refine z8 rfl (u4 rfl rfl (by simp only [oM,List.length_drop];omega) rfl (fun s51=> ?_) (ze9 _))
  refine j8 s51 fun sv1 hsv1=> ?_
  subst hsv1
  refine rn ?_;refine z8 rfl (u4 rfl rfl (by simp only [oM,List.length_append,List.length_drop];omega) rfl (fun s53=> ?_) (ze9 _))
  refine j8 s53 fun sv2 hsv2=> ?_
  subst hsv2
  refine rn ?_;refine ⟨fun l h=>(by cases h),?_⟩
  exact j9 rfl (.refl _ _) ⟨sv2,by rw [←hm,zxd cmp hov,List.map_append,List.map_append,List.append_assoc],rfl⟩
 ·refine rn ?_;refine z7 rfl (fun hc22=> ?_) (fun hc22=> ?_)
  ·have hov:a.drop i= []∨b.drop j= []:=by first|(have q:=hg3_3;simp at q;exact .inl (List.drop_eq_nil_of_le (by omega)))|(have q:=hc22;simp at q;exact .inr (List.drop_eq_nil_of_le (by omega)))
   refine rn ?_;refine z8 rfl (u4 rfl rfl (by simp only [oM,List.length_drop];omega) rfl (fun s51=> ?_) (ze9 _))
   refine j8 s51 fun sv1 hsv1=> ?_
   subst hsv1
   refine rn ?_;refine z8 rfl (u4 rfl rfl (by simp only [oM,List.length_append,List.length_drop];omega) rfl (fun s53=> ?_) (ze9 _))
   refine j8 s53 fun sv2 hsv2=> ?_
   subst hsv2
   refine rn ?_;refine ⟨fun l h=>(by cases h),?_⟩
   exact j9 rfl (.refl _ _) ⟨sv2,by rw [←hm,zxd cmp hov,List.map_append,List.map_append,List.append_assoc],rfl⟩
  ·have hi:i < a.length:=by have q:=hg3_3;simp at q;omega
   have hj:j < b.length:=by have q:=hc22;simp at q;omega
   have ia:((a.drop i).map k8)[0]? =some (k8 a[i]):=by rw [List.getElem?_map,List.getElem?_drop,Nat.add_zero,List.getElem?_eq_getElem hi];rfl
   have ib:((b.drop j).map k8)[0]? =some (k8 b[j]):=by rw [List.getElem?_map,List.getElem?_drop,Nat.add_zero,List.getElem?_eq_getElem hj];rfl
   refine rn ?_;refine k9 7 rfl ?_
   refine dq rfl rfl qrA ?_;refine dq rfl rfl qrA ?_;refine dq rfl rfl (zav rfl rfl (by decide) ib) ?_
   refine dq rfl rfl qrA ?_;refine dq rfl rfl qrA ?_;refine dq rfl rfl (zav rfl rfl (by decide) ia) ?_
   refine rn ?_;refine qv rfl rfl (y1 rfl rfl (y0.pure (R:=fun r=>r=iv (cmp b[j] a[i])) (hp b[j] a[i]))) ?_
   refine rn ?_;refine z7 rfl (fun hc31=> ?_) (fun hc31=> ?_)
   ·have hlt:cmp b[j] a[i] < 0:=oT hc31
    refine zyc 9 [5] [8] (fun he=>∃s' rows,he= [.row s' 7 41 rows]) rfl rfl ⟨_,_,rfl⟩ ?_
    refine jq rfl (fun he hC=>by obtain ⟨s2,rows,rfl⟩:=hC <;> exact qrA) ?_
    refine jq rfl (fun he hC=>by obtain ⟨s2,rows,rfl⟩:=hC <;> exact qrA) ?_
    refine jq rfl (fun he hC=>by obtain ⟨s2,rows,rfl⟩:=hC <;> exact (by exact zav rfl rfl (by decide) ib)) ?_
    refine jq rfl (fun he hC=>by obtain ⟨s2,rows,rfl⟩:=hC <;> exact qrA) ?_
    refine jv rfl (fun he hC=>by obtain ⟨s2,rows,rfl⟩:=hC <;> exact (by exact q6 rfl rfl)) ?_
    refine je rfl ?_;refine jq rfl (fun he hC=>by obtain ⟨s2,rows,rfl⟩:=hC <;> exact qrA) ?_
    refine jq rfl (fun he hC=>by obtain ⟨s2,rows,rfl⟩:=hC <;> exact (by exact zjq (zh7 (l:=1) rfl rfl (by simp;omega)) (show AV.list false 7 _= .list false 7 ((b.drop (j+1)).map k8) by rw [←List.map_drop,List.drop_drop]))) ?_
    refine je rfl ?_;refine yib ?_;refine jce rfl fun u=> ?_
    refine u4 rfl rfl (by simp only [oM,List.length_cons,List.length_nil];omega) rfl (fun s46=>⟨_,_,rfl,⟨_,_,rfl⟩,?_⟩) (ze9 [b[j]])
    refine jcn ?_;refine lq rfl rfl (by exact qrA) ?_
    refine ln ?_;refine j8 s46 fun sv hsv=> ?_
    subst hsv
    refine rn ?_;exact ⟨(i,j+1,p++ [b[j]],sv),⟨hi0,hj,by simp;omega,by rw [←hm,yuo cmp hi hj hlt,List.append_assoc];rfl⟩,by rw [List.map_append];exact eA,by simp only;omega⟩
   ·have hlt:¬cmp b[j] a[i] < 0:=oF hc31
    refine zyc 9 [5] [8] (fun he=>∃s' rows,he= [.row s' 7 41 rows]) rfl rfl ⟨_,_,rfl⟩ ?_
    refine jq rfl (fun he hC=>by obtain ⟨s2,rows,rfl⟩:=hC <;> exact qrA) ?_
    refine jq rfl (fun he hC=>by obtain ⟨s2,rows,rfl⟩:=hC <;> exact qrA) ?_
    refine jq rfl (fun he hC=>by obtain ⟨s2,rows,rfl⟩:=hC <;> exact (by exact zav rfl rfl (by decide) ia)) ?_
    refine jq rfl (fun he hC=>by obtain ⟨s2,rows,rfl⟩:=hC <;> exact qrA) ?_
    refine jv rfl (fun he hC=>by obtain ⟨s2,rows,rfl⟩:=hC <;> exact (by exact q6 rfl rfl)) ?_
    refine je rfl ?_;refine jq rfl (fun he hC=>by obtain ⟨s2,rows,rfl⟩:=hC <;> exact qrA) ?_
    refine jq rfl (fun he hC=>by obtain ⟨s2,rows,rfl⟩:=hC <;> exact (by exact zjq (zh7 (l:=1) rfl rfl (by simp;omega)) (show AV.list false 7 _= .list false 7 ((a.drop (i+1)).map k8) by rw [←List.map_drop,List.drop_drop]))) ?_
    refine je rfl ?_;refine yib ?_;refine jce rfl fun u=> ?_
    refine u4 rfl rfl (by simp only [oM,List.length_cons,List.length_nil];omega) rfl (fun s46=>⟨_,_,rfl,⟨_,_,rfl⟩,?_⟩) (ze9 [a[i]])
    refine jcn ?_;refine lq rfl rfl (by exact qrA) ?_
    refine ln ?_;refine j8 s46 fun sv hsv=> ?_
    subst hsv
    refine rn ?_;exact ⟨(i+1,j,p++ [a[i]],sv),⟨hi,hj0,by simp;omega,by rw [←hm,yup cmp hi hj hlt,List.append_assoc];rfl⟩,by rw [List.map_append];exact eA,by simp only;omega⟩
end Go.Proofs
namespace Go.Ab
open Go
section
variable {P:Program} {ro:Option Nat} {nt:Nat} {c:Code} {Q:Exit→St→Prop} {t:Fr} {h:List Res} {ds:List Nat}
theorem zhz {σ:Type} (n:Nat) (p:Nat→σ→Prop) (inv:Nat→σ→St) (x0:σ) (hp:p 0 x0) (h0:Ent nt ⟨t,h,ds⟩ (inv 0 x0))
 (round:∀k x,k≤n→p k x→aw P ro nt c (thn (fun s'=>k < n∧∃x',p (k+1) x'∧Ent nt s' (inv (k+1) x')) Q) (inv k x)):aw P ro nt (.loop c) Q ⟨t,h,ds⟩:=
 zaa (fun x:Nat×σ=>x.1≤n∧p x.1 x.2) (fun x=>inv x.1 x.2) (fun x=>n - x.1) (0,x0) ⟨Nat.zero_le _,hp⟩ h0 fun x hk=>zf5 (fun e s' hq=>by
  cases e with
  |normal=>
   obtain ⟨h1,x',h2,h3⟩:=hq
   exact ⟨(x.1+1,x'),⟨h1,h2⟩,h3,by simp only;omega⟩
  |_=>exact hq) (round x.1 x.2 hk.1 hk.2)
end
end Go.Ab
set_option maxRecDepth 10000
namespace Go.Proofs
open Go Go.Ab
attribute [local irreducible] QR QV OE zcp aw zdd zcj zbo za7 thn zft zei jch zfs
open Go.H
theorem yei (x:List (SV×List Conf)) (sr:SV) (b5 b3 k:Nat) (hk:k+1=x.length) (hx:x.length≤1000000000):y8 Tryz.prog 169 [iv k,pZ b5,pZ b3] (.row sr.v 1 35 (zcg x):: .box b5 96 [.v sr.v]:: []) (fun r h'=>h'= .row sr.v 1 35 (zcg x):: .box b5 96 [.v sr.v]:: []∧r= .v (x[k]'(by omega)).1.v):=by
 refine z6 Tryz.func169 rfl rfl rfl ?_
 refine w8 (y4 ?_)
 refine q1 ?_;refine u9 (zai ?_)
 refine w8 ?_;refine w8 (y4 ?_)
 refine q1 ?_;refine qq rfl rfl (zci rfl rfl rfl (by omega)) ?_
 refine q1 ?_;refine q1 ?_;refine qq rfl rfl (zcw (c:=true) rfl rfl (congrArg some (by rw [oM];simp;omega))) ?_
 refine rn ?_;refine z7 rfl (fun hc9=> ?_) (fun hc9=> ?_)
 ·refine w8 (y4 ?_)
  refine q1 ?_;refine q1 ?_;refine qq rfl rfl (zc4 (k:=k) rfl rfl (by rw [oM];omega)) ?_
  refine qq rfl rfl (zcu rfl (zn1 (by omega)) rfl) ?_
  refine rn ?_;refine rq 0 ?_
  exact ⟨rfl,rfl⟩
 ·first|cases hc9|exact absurd hc9 (by decide)|(exfalso;simp_all;done)
theorem zwx (l:List Conf):∀r∈l.map k8,∀a∈r,Scal a:=by
 intro r hr a ha
 obtain ⟨c,_,rfl⟩:=List.mem_map.1 hr
 simp only [k8,List.mem_cons,List.not_mem_nil,or_false] at ha
 rcases ha with rfl|rfl|rfl|rfl|rfl|rfl|rfl <;> exact .v _
theorem yeh (x:List (SV×List Conf)) (sr:SV) (b5 b3 k:Nat) (hk:k+1 < x.length) (hx:x.length≤1000000000) (ha:∀p∈x,p.2.length≤1000000000) (fv:AV) (cmp:Conf→Conf→Int) (hp:∀x y,y0 Tryz.prog fv [.agg (k8 x),.agg (k8 y)] [] (fun r h'=>h'= []∧r=iv (cmp x y))):y8 Tryz.prog 169 [iv k,pZ b5,pZ b3] (.row sr.v 1 35 (zcg x):: .box b5 96 [.v sr.v]:: .box b3 64 [fv]:: .row (x[k]'(by omega)).1.v 7 41 ((x[k]'(by omega)).2.map k8):: .row (x[k+1]).1.v 7 41 ((x[k+1]).2.map k8):: []) (fun r h'=>∃s:SV,h'= .row s.v 7 41 ((mrg cmp (x[k]'(by omega)).2 (x[k+1]).2).map k8):: .row sr.v 1 35 (zcg x):: .box b5 96 [.v sr.v]:: .box b3 64 [fv]:: .row (x[k]'(by omega)).1.v 7 41 ((x[k]'(by omega)).2.map k8):: .row (x[k+1]).1.v 7 41 ((x[k+1]).2.map k8):: []∧r= .v s.v):=by
 refine z6 Tryz.func169 rfl rfl rfl ?_
 refine w8 (y4 ?_)
 refine q1 ?_;refine u9 (zai ?_)
 refine w8 ?_;refine w8 (y4 ?_)
 refine q1 ?_;refine qq rfl rfl (zci rfl rfl rfl (by omega)) ?_
 refine q1 ?_;refine q1 ?_;refine qq rfl rfl (zcw (c:=false) rfl rfl (congrArg some (by rw [oM];simp;omega))) ?_
 refine rn ?_;refine z7 rfl (fun hc9=> ?_) (fun hc9=> ?_)
 ·first|cases hc9|exact absurd hc9 (by decide)|(exfalso;simp_all;done)
 ·refine rn ?_;refine k9 10 rfl ?_
  refine dq rfl rfl qrA ?_;refine dq rfl rfl qrA ?_;refine dq rfl rfl (zc4 (k:=k) rfl rfl (by rw [oM];omega)) ?_
  refine dq rfl rfl (zcu rfl (zn1 (by omega)) rfl) ?_
  refine dq rfl rfl qrA ?_;refine dq rfl rfl qrA ?_;refine dq rfl rfl (zci rfl rfl rfl (by omega)) ?_
  refine dq rfl rfl (zc4 (k:=k+1) rfl rfl (by rw [oM];omega)) ?_
  refine dq rfl rfl (zcu rfl (zn1 hk) rfl) ?_
  refine rn ?_;refine z8 rfl (v7 rfl rfl (y0.lendG (y0.of_fun (ycq (x[k]'(by omega)).2 (x[k+1]).2 fv cmp hp (ha _ (List.getElem_mem _)) (ha _ (List.getElem_mem _)))) (by rintro _ _ ⟨s,rfl,rfl⟩;exact ⟨.v _,fun x hx=>by rw [List.mem_singleton.1 hx];exact zww (zwx _)⟩) (BLe.refl _ _) (by exact ⟨zk8,zk8,BLe.refl _ _,trivial⟩)) rfl ?_)
  rintro _ _ ⟨_,rfl,s,rfl,rfl⟩
  refine rn ?_;exact j9 rfl (.refl _ _) ⟨s,rfl,rfl⟩
theorem yf3 (l:List Conf) (fv:AV) (hone:fv.cellsOf=some [fv]) (cmp:Conf→Conf→Int) (hp:∀x y,y0 Tryz.prog fv [.agg (k8 x),.agg (k8 y)] [] (fun r h'=>h'= []∧r=iv (cmp x y))) (hl:l.length≤1000000000):y8 Tryz.prog 128 [.list false 7 (l.map k8),fv] [] (fun r h'=>∃s:SV,h'= [.row s.v 7 41 ((zkg cmp l).map k8)]∧r= .v s.v):=by
 refine z6 Tryz.func128 rfl rfl rfl ?_
 refine rn ?_;refine z8 rfl (w9 rfl hone rfl fun b3=> ?_)
 refine rn ?_;refine z8 rfl (y3 rfl fun b5=> ?_)
 refine rn ?_;refine zhz l.length (fun k (z:SV×List (SV×List Conf))=>z.2.map (·.2)=(l.take k).map fun a=> [a]) (fun k z=>⟨[(13,iv k),(0,.list false 7 (l.map k8)),(3,pZ b3),(5,pZ b5),(12,iv (l.map k8).length)],.row z.1.v 1 35 (zcg z.2):: .box b5 96 [.v z.1.v]:: .box b3 64 [fv]::zeh 7 41 k8 z.2,[]⟩) (⟨none,0,0⟩,[]) rfl (v8 (zao 1 35) es) ?_
 rintro k ⟨s,x⟩ lk zk
 simp only at zk
 have hxl:x.length=k:=by have q:=congrArg List.length zk;rw [oM,oM,List.length_take] at q;omega
 show aw _ _ _ _ _ ⟨[(13,iv k),(0,.list false 7 (l.map k8)),(3,pZ b3),(5,pZ b5),(12,iv (l.map k8).length)],.row s.v 1 35 (zcg x):: .box b5 96 [.v s.v]:: .box b3 64 [fv]::zeh 7 41 k8 x,[]⟩
 refine rn ?_;refine z7 rfl (fun hc14=> ?_) (fun hc14=> ?_)
 ·have hk:k < l.length:=by have q:=oT hc14;rw [oM] at q;omega
  refine rn ?_;refine z8 rfl (zxa (n:=1) (c:=1) rfl rfl rfl (Nat.le_refl _) (by decide) (hk:=fun b16=> ?_))
  refine j8 (.slice (some ⟨b16,0,none⟩) 1 1) fun s1 hs1=> ?_
  rw [hs1]
  clear hs1
  refine q1 ?_;refine u9 (zai ?_)
  refine w8 (y4 ?_)
  refine q1 ?_;refine q1 ?_;refine q1 ?_;refine q1 ?_;refine qq rfl rfl (zci rfl rfl rfl (by omega)) ?_
  refine q1 ?_;refine qq rfl rfl (zci rfl rfl rfl (by omega)) ?_
  refine qq rfl rfl (zjq (zsk (l:=k) (k:=k+1) rfl rfl rfl rfl (by omega) (by rw [oM];exact hk)) (show AV.list true 7 _= .list true 7 [k8 l[k]] by rw [yfq (by rw [oM];exact hk),List.getElem_map])) ?_
  refine z8 rfl (zzo 1 rfl rfl rfl rfl (hk:= ?_) (ze9 [l[k]]))
  refine rn ?_;refine qv rfl rfl (q6 rfl rfl) ?_
  refine z8 rfl (u4 rfl rfl (by simp only [oM,List.length_cons,List.length_nil];omega) rfl (fun s29=> ?_) (znf s1))
  refine j8 s29 fun sv hsv=> ?_
  subst hsv
  refine rn ?_;exact ⟨hk,(sv,x++ [(s1,[l[k]])]),by simp only;rw [List.map_append,zk,List.take_succ_eq_append_getElem hk,List.map_append];rfl,v8 (zaz (zdj [_] _)) (by simp only;rw [zja,zkk];exact es)⟩
 ·have qk:k=l.length:=by have q:=oF hc14;rw [oM] at q;omega
  refine rn ?_;refine zif (fun z:SV×List (SV×List Conf)=>zru cmp (z.2.map (·.2))=zru cmp (l.map fun a=> [a])∧(z.2.map (·.2)).flatten.length=l.length∧z.2.length≤l.length) (fun z=>⟨[(5,pZ b5),(8,.fn (.func 169) [] [pZ b5,pZ b3])],.row z.1.v 1 35 (zcg z.2):: .box b5 96 [.v z.1.v]:: .box b3 64 [fv]::zeh 7 41 k8 z.2,[]⟩) (fun z=>z.2.length) (s,x) ⟨by simp only;rw [zk,qk,List.take_length],by simp only;rw [zk,qk,List.take_length,yhh],by simp only;omega⟩ es ?_
  rintro ⟨sr,x⟩ ⟨zk,hfl,hxl⟩
  simp only at zk hfl hxl
  show aw _ _ _ _ _ ⟨[(5,pZ b5),(8,.fn (.func 169) [] [pZ b5,pZ b3])],.row sr.v 1 35 (zcg x):: .box b5 96 [.v sr.v]:: .box b3 64 [fv]::zeh 7 41 k8 x,[]⟩
  refine rn ?_;refine z7 rfl (fun hc34=> ?_) (fun hc34=> ?_)
  ·have h1:1 < x.length:=by have q:=oT hc34;rw [zgh] at q;omega
   have hcl:=zgh x
   have hxa:∀p∈x,p.2.length≤1000000000:=fun p hm=>Nat.le_trans (yik (show p.2∈x.map (·.2) from List.mem_map_of_mem hm)) (by rw [hfl];exact hl)
   refine za2 ?_;refine zai ?_;refine zcz ?_;refine w8 (y4 ?_)
   refine q1 ?_;refine u9 (zai ?_)
   refine w8 ?_;refine w8 (y4 ?_)
   refine q1 ?_;refine q1 ?_;refine qq rfl rfl (zci rfl rfl rfl (by omega)) ?_
   refine qq rfl rfl (yq2 (c:=(((((zcg x).length+1) / 2):Nat):Int)) rfl rfl (by decide) rfl (by omega)) ?_
   refine rn ?_;rw [zyk x]
   refine zhz (((zcg x).length+1) / 2) (fun i (z:SV×List (SV×List Conf))=>z.2.map (·.2)=(zbt cmp (x.map (·.2))).take i) (fun i z=>⟨[(39,iv i),(9,.v z.1.v),(5,pZ b5),(8,.fn (.func 169) [] [pZ b5,pZ b3]),(38,iv ((((zcg x).length+1) / 2):Nat))],.row z.1.v 1 35 (zcg z.2):: .row sr.v 1 35 (zcg x):: .box b5 96 [.v sr.v]:: .box b3 64 [fv]::(zeh 7 41 k8 (x.drop (2 * i))++zeh 7 41 k8 z.2),[]⟩) (⟨none,0,0⟩,[]) rfl (v8 (zao 1 35) es) ?_
   rintro i ⟨sn,y⟩ li zi
   simp only at zi
   show aw _ _ _ _ _ ⟨[(39,iv i),(9,.v sn.v),(5,pZ b5),(8,.fn (.func 169) [] [pZ b5,pZ b3]),(38,iv ((((zcg x).length+1) / 2):Nat))],.row sn.v 1 35 (zcg y):: .row sr.v 1 35 (zcg x):: .box b5 96 [.v sr.v]:: .box b3 64 [fv]::(zeh 7 41 k8 (x.drop (2 * i))++zeh 7 41 k8 y),[]⟩
   refine rn ?_;refine z7 rfl (fun hc40=> ?_) (fun hc40=> ?_)
   ·have hi:i < (((zcg x).length+1) / 2):=by have q:=oT hc40;omega
    have hyl:y.length=i:=by have q:=congrArg List.length zi;rw [oM,List.length_take,zcv,oM] at q;omega
    refine za2 ?_;refine zai ?_;refine w8 ?_;refine zcz ?_;refine w8 (y4 ?_)
    refine q1 ?_;refine q1 ?_;refine u9 (zai ?_)
    refine y4 ?_;refine q1 ?_;refine q1 ?_;refine q1 ?_;refine qq rfl rfl (zci rfl rfl rfl (by omega)) ?_
    by_cases ho:2 * i+1=x.length
    refine z8 rfl (v7 rfl rfl (y0.qt (y0.of_acall (fs:= []) (cs:= [pZ b5,pZ b3]) (yei x sr b5 b3 (2 * i) ho (by omega))) ((pt1 _ _ _).trans (.cons _ (pt1 _ _ _)))) rfl ?_)
    rintro _ _ ⟨rfl,rfl⟩
    rotate_left
    rw [zkl (x:=x) (k:=2 * i) (by omega),zkl (x:=x) (k:=2 * i+1) (by omega),List.cons_append,List.cons_append]
    refine z8 rfl (v7 rfl rfl (y0.fr (y0.of_acall (fs:= []) (cs:= [pZ b5,pZ b3]) (yeh x sr b5 b3 (2 * i) (by omega) (by omega) hxa fv cmp hp)) ((pt1 _ _ _).trans (.cons _ ((pt1 _ _ _).trans (.cons _ ((pt1 _ _ _).trans (.cons _ ((pt1 _ _ _).trans (.cons _ (pt1 _ _ _)))))))))) rfl ?_)
    rintro _ _ ⟨_,rfl,m,rfl,rfl⟩
    refine zka (zaz (pt6 _ _ _ _ _ _ _ _)) ?_
    rotate_right
    ·refine qv rfl rfl (q6 rfl rfl) ?_
     refine z8 rfl (u4 rfl rfl (by simp only [oM,List.length_cons,List.length_nil];omega) rfl (fun s48=> ?_) (znf _))
     refine j8 s48 fun sv hsv=> ?_
     subst hsv
     refine rn ?_;exact ⟨hi,(sv,y++ [x[2 * i]'(by omega)]),by simp only;rw [List.map_append,zi,zsr cmp (by rw [oM];omega),yg9 cmp (by rw [oM];exact ho),List.getElem_map];rfl,v8 (zaz (.cons _ (.cons _ (.cons _ (.cons _ (yfs ho)))))) (by simp only;rw [zja];exact es)⟩
    ·refine qv rfl rfl (q6 rfl rfl) ?_
     refine z8 rfl (u4 rfl rfl (by simp only [oM,List.length_cons,List.length_nil];omega) rfl (fun s48=> ?_) (znf _))
     refine j8 s48 fun sv hsv=> ?_
     subst hsv
     refine rn ?_;exact ⟨hi,(sv,y++ [(m,mrg cmp (x[2 * i]'(by omega)).2 (x[2 * i+1]'(by omega)).2)]),by simp only;rw [List.map_append,zi,zsr cmp (by rw [oM];omega),yg8 cmp (by rw [oM];omega),List.getElem_map,List.getElem_map];rfl,v8 (zaz ((pt5 _ _ _ _ _ _ _).trans (.cons _ ((pt5 _ _ _ _ _ _ _).trans (.cons _ (.cons _ ((pt1 _ _ _).trans (.cons _ ((pt1 _ _ _).trans (.cons _ (pt1 _ _ _))))))))))) (v8 (zdr (h1:= [_,_])) (v8 (zaz (.cons _ (.cons _ (.cons _ (.cons _ yfr))))) (by simp only;rw [zja];exact es)))⟩
   ·have qi:i=(((zcg x).length+1) / 2):=by have q:=oF hc40;omega
    refine rn ?_;exact ⟨(sn,y),⟨by simp only;rw [zi,zl4 cmp (by rw [oM];omega),←zp9 cmp (by rw [oM];exact h1)];exact zk,by simp only;rw [zi,zl4 cmp (by rw [oM];omega),(zi2 cmp _).length_eq];exact hfl,by simp only;have q:=congrArg List.length zi;rw [oM,zl4 cmp (by rw [oM];omega),zcv,oM] at q;omega⟩,v8 (zaz (pt1 _ _ _)) (v8 (zdr (h1:= [_])) (by rw [yft (by omega)];exact es)),by simp only;have q:=congrArg List.length zi;rw [oM,zl4 cmp (by rw [oM];omega),zcv,oM] at q;omega⟩
  ·have h1:¬1 < x.length:=by have q:=oF hc34;rw [zgh] at q;omega
   refine rn ?_;refine z7 rfl (fun hc53=> ?_) (fun hc53=> ?_)
   ·have h0:x.length=0:=by have q:=oT (show decide (((zcg x).length:Int)=0)=true from hc53);rw [zgh] at q;omega
    obtain rfl:=List.length_eq_zero_iff.1 h0
    refine rn ?_;exact j9 rfl (.trans (.drop [_,_,_] _ _) (zah 7 41 _)) ⟨⟨none,0,0⟩,by rw [yf1 cmp zk rfl];rfl,rfl⟩
   ·have h0:¬x.length=0:=by intro q;have e:(((zcg x).length:Int)==0)=false:=hc53;rw [zgh,q] at e;cases e
    obtain ⟨p,rfl⟩:=List.length_eq_one_iff.1 (show x.length=1 by omega)
    refine za2 ?_;refine zai ?_;refine w8 (y4 ?_)
    refine q1 ?_;refine qq rfl rfl (zc4 (k:=0) rfl rfl (show 0 < (zcg [p]).length from Nat.zero_lt_one)) ?_
    refine qq rfl rfl (zcu rfl rfl rfl) ?_
    refine rn ?_;exact j9 rfl (.drop [_,_,_] _ _) ⟨p.1,by rw [yf0 cmp zk];rfl,rfl⟩
theorem yn3 (h:Hist) (la:Lim 4611686018427387904 h):y8 Tryz.prog 38 [.agg (w7 h)] [.glob 2 156 y5,.glob 4 305 y7,.glob 5 308 y2,.glob 3 246 u0] (fun r h'=>h'= [.glob 2 156 y5,.glob 4 305 y7,.glob 5 308 y2,.glob 3 246 u0]∧r=iv (u6 h)):=by
 refine z6 Tryz.func38 rfl rfl rfl ?_
 refine rn ?_;refine z8 rfl (w9 rfl rfl rfl fun b1=> ?_)
 refine rn ?_;refine qv rfl rfl (y1 rfl rfl (y0.qt (y0.of_fun (ys4 h la)) ((pt1 _ _ _).trans (.cons _ ((pt1 _ _ _).trans (.cons _ (pt1 _ _ _))))))) ?_
 refine rn ?_;refine z7 rfl (fun hc7=> ?_) (fun hc7=> ?_)
 ·have hm:¬zfz h=true:=by intro q;rw [zee,if_pos q] at hc7;cases hc7
  have he:zee h=210:=by rw [zee,if_neg hm]
  refine rn ?_;refine rq 1 ?_
  exact ⟨rfl,by rw [u6,if_neg hm,he];rfl⟩
 ·have hm:zfz h=true:=yeb.1 (by simpa using hc7)
  refine rn ?_;refine qv rfl rfl (y1 rfl rfl (y0.qt (y0.of_fun (yqq h la)) ((pt1 _ _ _).trans (.cons _ ((pt1 _ _ _).trans (.cons _ ((pt1 _ _ _).trans (.cons _ (pt1 _ _ _))))))))) ?_
  refine rn ?_;refine z7 rfl (fun hc11=> ?_) (fun hc11=> ?_)
  ·refine rn ?_;refine rq 1 ?_
   exact ⟨rfl,by rw [u6,if_pos hm];simp_all;rfl⟩
  ·refine rn ?_;refine rq 1 ?_
   exact ⟨rfl,by rw [u6,if_pos hm];simp_all;rfl⟩
theorem zxk (h:Hist) (kd:Int) (W:List Res):y8 Tryz.prog 218 [.agg (w7 h),iv kd] W (fun r h'=>∃b1 b2,h'= .box b1 28 (w7 h):: .box b2 3 [iv kd]::W∧r= .fn (.func 264) [] [pZ b1,pZ b2]):=by
 refine z6 Tryz.func218 rfl rfl rfl ?_
 refine rn ?_;refine z8 rfl (w9 rfl rfl rfl fun b2=> ?_)
 refine z8 rfl (w9 rfl rfl rfl fun b3=> ?_)
 refine rn ?_;exact j9 rfl (.perm (pt1 _ _ _) _) ⟨_,_,rfl,rfl⟩
theorem zs4 {σ:Type} (h:Hist) (la:h.evs.length≤1000000) (kd:Int) (y:AV) (b1 b2:Nat) (p q:Nat→σ→Prop) (I F:Nat→σ→List Res) (x0:σ) (hp0:p 0 x0) (hy:∀k x,(hk:k < h.evs.length)→p k x→(h.evs[k].kind==kd)=true→y0 Tryz.prog y [iv k,.agg (evR h.evs[k])] (.box b1 28 (w7 h):: .box b2 3 [iv kd]::I k x) (fun r h'=>∃x',(r=bv true∧p (k+1) x'∧h'= .box b1 28 (w7 h):: .box b2 3 [iv kd]::I (k+1) x')∨(r=bv false∧q k x'∧h'= .box b1 28 (w7 h):: .box b2 3 [iv kd]::F k x'))) (hs:∀k x,(hk:k < h.evs.length)→p k x→(h.evs[k].kind==kd)=false→∃x',p (k+1) x'∧I (k+1) x'=I k x):y8 Tryz.prog 264 [y,pZ b1,pZ b2] (.box b1 28 (w7 h):: .box b2 3 [iv kd]::I 0 x0) (fun r h'=>(∃x,p h.evs.length x∧h'=I h.evs.length x)∨∃k x,q k x∧h'=F k x):=by
 refine z6 Tryz.func264 rfl rfl rfl ?_
 refine rn ?_;refine zhz h.evs.length p (fun k x=>⟨[(9,iv k),(0,y),(2,pZ b2),(7,zq5 h.evs),(8,iv (h.evs.map evR).length)],.box b1 28 (w7 h):: .box b2 3 [iv kd]::I k x,[]⟩) x0 hp0 es ?_
 intro k x lk zk
 refine rn ?_;refine z7 rfl (fun hc10=> ?_) (fun hc10=> ?_)
 ·have hk:=za3 hc10
  have rk:=zal (f:=evR) hk
  refine rn ?_;refine z8 rfl (y3 rfl fun b5=> ?_)
  refine rn ?_;refine w6 (fun hg3_4=> ?_) (fun hg3_4=> ?_)
  ·refine q1 ?_;refine q1 ?_;refine q1 ?_;refine z8 rfl (v7 rfl rfl (y0.fr1 (hy k x hk zk (by simpa using hg3_4))) rfl ?_)
   rintro _ _ ⟨_,rfl,x',⟨rfl,hp,rfl⟩|⟨rfl,hq,rfl⟩⟩
   ·refine rn ?_;refine z7 rfl (fun hc24=> ?_) (fun hc24=> ?_)
    ·first|cases hc24|exact absurd hc24 (by decide)|(exfalso;simp_all;done)
    ·refine rn ?_;exact ⟨hk,x',hp,eA⟩
   ·refine rn ?_;refine z7 rfl (fun hc24=> ?_) (fun hc24=> ?_)
    ·refine rn ?_;exact ze0 .nil (.drop [_,_,_] _ _) (.inr ⟨k,x',hq,rfl⟩)
    ·first|cases hc24|exact absurd hc24 (by decide)|(exfalso;simp_all;done)
  ·refine rn ?_;refine zfu rfl ?_;refine rn ?_;obtain ⟨x',hp,e⟩:=hs k x hk zk (by simpa using hg3_4)
   exact ⟨hk,x',hp,by rw [e];exact eA⟩
 ·have qk:=za4 hc10 lk
  subst qk
  refine rn ?_;exact zfx .nil (.drop [_,_] _ _) (.inl ⟨x,zk,rfl⟩)
def zq1 {α:Type} (kd:Int) (x:Nat→Ev→α) (p:Nat→Ev→Bool) (k:Nat) (e:Ev):Option α:=if (e.kind==kd && p k e)=true then some (x k e) else none
theorem ysd {α:Type} {kd:Int} {x:Nat→Ev→α} {p:Nat→Ev→Bool} {k:Nat} {e:Ev} (h:(e.kind==kd)=false):zq1 kd x p k e=none:=by rw [zq1,h];simp
theorem ysc {α:Type} {kd:Int} {x:Nat→Ev→α} {p:Nat→Ev→Bool} {k:Nat} {e:Ev} (h:p k e=false):zq1 kd x p k e=none:=by rw [zq1,h];simp
theorem ysb {α:Type} {kd:Int} {x:Nat→Ev→α} {p:Nat→Ev→Bool} {k:Nat} {e:Ev} (h1:(e.kind==kd)=true) (h:p k e=true):zq1 kd x p k e=some (x k e):=by rw [zq1,h1,h];simp
theorem yke {α:Type} {f:Nat→Ev→Option α} {l:List Ev} {k:Nat} (h:k < l.length) (hf:f k l[k]=none):zmh f l (k+1)=zmh f l k:=by rw [ydb h,hf];simp
theorem ysa {α:Type} {f:Nat→Ev→Option α} {l:List Ev} {k:Nat} {a:α} (h:k < l.length) (hf:f k l[k]=some a):zmh f l (k+1)=zmh f l k++ [a]:=by rw [ydb h,hf];rfl
theorem yj8 (h:Hist) (la:h.evs.length≤1000000) (kd:Int) (fv:AV) (hone:fv.cellsOf=some [fv]) (W:List Res) (x:Nat→Ev→Int) (p:Nat→Ev→Bool) (hp:∀k,(hk:k < h.evs.length)→(h.evs[k].kind==kd)=true→y0 Tryz.prog fv [iv k,.agg (evR h.evs[k])] W (fun r h'=>h'=W∧r= .tup [iv (x k h.evs[k]),bv (p k h.evs[k])])):y8 Tryz.prog 173 [.agg (w7 h),iv kd,fv] W (fun r h'=>∃s:SV,h'= .row s.v 1 3 ((zmh (zq1 kd x p) h.evs h.evs.length).map zac)::W∧r= .v s.v):=by
 refine z6 Tryz.func173 rfl rfl rfl ?_
 refine rn ?_;refine z8 rfl (w9 rfl rfl rfl fun b3=> ?_)
 refine z8 rfl (w9 rfl hone rfl fun b5=> ?_)
 refine rn ?_;refine z8 rfl (y3 rfl fun b7=> ?_)
 refine rn ?_;refine z8 rfl (v7 rfl rfl (y0.of_fun (zxk h kd _)) rfl ?_)
 rintro _ _ ⟨b1,b2,rfl,rfl⟩
 refine rn ?_;refine zgj (s':=⟨[(14,.fn (.func 264) [] [pZ b1,pZ b2]),(5,pZ b5),(7,pZ b7)],.box b1 28 (w7 h):: .box b2 3 [iv kd]:: .box b7 29 [.v (⟨none,0,0⟩:SV).v]:: .row (⟨none,0,0⟩:SV).v 1 3 ((zmh (zq1 kd x p) h.evs 0).map zac):: .box b5 216 [fv]:: .box b3 28 (w7 h)::W,[]⟩) (v8 (v8 (zao 1 3) (zaz ((pt1 _ _ _).trans (.cons _ ((pt1 _ _ _).trans (.cons _ (pt1 _ _ _))))))) es) ?_
 refine zot (fun pend h''=>pend=none∧∃s:SV,h''= .box b7 29 [.v s.v]:: .row s.v 1 3 ((zmh (zq1 kd x p) h.evs h.evs.length).map zac):: .box b5 216 [fv]:: .box b3 28 (w7 h)::W) rfl (fun fn l q lp hlp=> ?_) (fun q h'' hK=> ?_) (fun q h'' c hK=> ?_)
 ·suffices hy:∀k (s:SV),(hk:k < h.evs.length)→True→(h.evs[k].kind==kd)=true→y0 Tryz.prog (yv l) [iv k,.agg (evR h.evs[k])] (.box b1 28 (w7 h):: .box b2 3 [iv kd]::lp .ready none:: .defs q:: .box b7 29 [.v s.v]:: .row s.v 1 3 ((zmh (zq1 kd x p) h.evs k).map zac):: .box b5 216 [fv]:: .box b3 28 (w7 h)::W) (fun r h'=>∃s':SV,(r=bv true∧True∧h'= .box b1 28 (w7 h):: .box b2 3 [iv kd]::lp .ready none:: .defs q:: .box b7 29 [.v s'.v]:: .row s'.v 1 3 ((zmh (zq1 kd x p) h.evs (k+1)).map zac):: .box b5 216 [fv]:: .box b3 28 (w7 h)::W)∨(r=bv false∧False∧h'= .box b1 28 (w7 h):: .box b2 3 [iv kd]:: [])) by
   refine y8.mono (y8.perm ((pt2 _ _ _ _).trans (.cons _ (pt2 _ _ _ _))) (zs4 h la kd (yv l) b1 b2 (fun _ _=>True) (fun _ _=>False) (fun k (s:SV)=>lp .ready none:: .defs q:: .box b7 29 [.v s.v]:: .row s.v 1 3 ((zmh (zq1 kd x p) h.evs k).map zac):: .box b5 216 [fv]:: .box b3 28 (w7 h)::W) (fun _ _=> []) ⟨none,0,0⟩ trivial hy (fun k s hk _ hn=>⟨s,trivial,by rw [yke hk (ysd hn)]⟩))) ?_
   rintro _ _ (⟨s,_,rfl⟩|⟨_,_,hF,_⟩)
   ·exact ⟨none,.ready,_,.refl _,by simp,rfl,s,rfl⟩
   ·exact hF.elim
  intro k s hk _ hkd
  refine y0.perm (pt2 _ _ _ _) (y0.ventE ?_)
  refine zey hlp rfl rfl ?_
  refine rn ?_;refine z8 rfl (y3 rfl fun b9=> ?_)
  refine rn ?_;refine ⟨[(8,iv k),(9,pZ b9),(5,pZ b5),(7,pZ b7)],.box b9 60 (evR h.evs[k]):: .box b1 28 (w7 h):: .box b2 3 [iv kd]:: .defs q:: .box b7 29 [.v s.v]:: .row s.v 1 3 ((zmh (zq1 kd x p) h.evs k).map zac):: .box b5 216 [fv]:: .box b3 28 (w7 h)::W,v8 (zaz (pt1 _ _ _)) es,?_⟩
  refine rn ?_;refine qv rfl rfl (y1 rfl rfl (y0.qt (h2:= [_,_,_,_,_,_,_,_,_]) (hp k hk hkd) (zdj [_,_,_,_,_,_,_,_,_] _))) ?_
  refine rn ?_;refine z7 rfl (fun hc24=> ?_) (fun hc24=> ?_)
  ·refine y4 ?_;refine q1 ?_;refine q1 ?_;refine q1 ?_;refine q1 ?_;refine q1 ?_;refine qq rfl rfl (zzg rfl (by rfl) (by rfl)) ?_
   refine rn ?_;refine qv rfl rfl (q6 rfl rfl) ?_
   refine yi9 s.v ?_
   refine z8 rfl (u4 rfl rfl (by simp only [oM,List.length_cons,List.length_nil];have:=zmg (zq1 kd x p) h.evs k;omega) rfl (fun s33=> ?_) (zgt [x k h.evs[k]]))
   refine j8 s33 fun sv hsv=> ?_
   subst hsv
   refine rn ?_;exact zem (.refl _) ⟨_,_,.trans (.perm ((pt1 _ _ _).trans (.cons _ ((pt1 _ _ _).trans (.cons _ (pt1 _ _ _))))) _) (.drop [_] _ _),sv,.inl ⟨rfl,trivial,by rw [ysa hk (ysb hkd hc24),List.map_append];rfl⟩⟩
  ·refine rn ?_;exact zem (.refl _) ⟨_,_,.trans (.perm ((pt1 _ _ _).trans (.cons _ ((pt1 _ _ _).trans (.cons _ (pt1 _ _ _))))) _) (.drop [_] _ _),s,.inl ⟨rfl,trivial,by rw [yke hk (ysc hc24)]⟩⟩
 ·obtain ⟨_,s,rfl⟩:=hK
  refine rn ?_;exact zi1 (.refl _) (.cons _ _ _ _ (.tmp _ _ rfl) .nil) (.trans (.drop1 _ _ _) (.trans (.perm (pt1 _ _ _) _) (.trans (.drop [_] _ _) (.trans (.perm (pt1 _ _ _) _) (.drop [_] _ _))))) ⟨s,rfl,rfl⟩
 ·obtain ⟨hc,_⟩:=hK
  exact absurd hc (by simp)
theorem yny (k:Int) (e:Ev):y8 Tryz.prog 174 [iv k,.agg (evR e)] [] (fun r h'=>h'= []∧r= .tup [iv e.t,bv true]):=by
 refine z6 Tryz.func174 rfl rfl rfl ?_
 refine rn ?_;refine z8 rfl (w9 rfl rfl rfl fun b3=> ?_)
 refine rn ?_;refine rq 1 ?_
 exact ⟨rfl,rfl⟩
theorem ynx (k s:Int) (e:Ev) (b2 b3 rm:Nat) (M:List (Int×Bool)):y8 Tryz.prog 209 [iv k,.agg (evR e),pZ b2,pZ b3] [.box b2 3 [iv s],.box b3 115 [mpv rm],.map rm (zaq intK (zbq bv M))] (fun r h'=>h'= [.box b2 3 [iv s],.box b3 115 [mpv rm],.map rm (zaq intK (zbq bv M))]∧r= .tup [iv e.t,bv (e.o==s && (zbm e.t M).getD false)]):=by
 refine z6 Tryz.func209 rfl rfl rfl ?_
 refine rn ?_;refine z8 rfl (w9 rfl rfl rfl fun b5=> ?_)
 refine rn ?_;refine k9 13 rfl ?_
 refine rn ?_;refine zd2 (fun hg1_6=> ?_) (fun hg1_6=> ?_)
 ·refine dq rfl rfl qrA ?_;refine dq rfl rfl qrA ?_;refine dq rfl rfl qrA ?_;refine dq rfl rfl (zb8 (enc:=intK) (k:=e.t) false rfl rfl) ?_
  refine rn ?_;refine rq 1 ?_
  exact ⟨rfl,by rw [hg1_6];rfl⟩
 ·refine rn ?_;refine rq 1 ?_
  exact ⟨rfl,by rw [hg1_6];rfl⟩
theorem yuu (x:Int) (s:Ord) (b1:Nat):y8 Tryz.prog 207 [.agg (zeg s),pZ b1] [.box b1 3 [iv x]] (fun r h'=>h'= [.box b1 3 [iv x]]∧r=bv (s.o==x)):=by
 refine z6 Tryz.func207 rfl rfl rfl ?_
 refine rn ?_;refine z8 rfl (w9 rfl rfl rfl fun b2=> ?_)
 refine rn ?_;refine rq 1 ?_
 exact ⟨rfl,rfl⟩
theorem yn0 (h:Hist) (la:h.evs.length≤1000000) (W:List Res):y8 Tryz.prog 208 [.agg (w7 h)] W (fun r h'=>∃rm,h'= .map rm (zaq intK (zbq bv (zpn h.evs)))::W∧r=mpv rm):=by
 refine z6 Tryz.func208 rfl rfl rfl ?_
 refine rn ?_;refine z8 rfl (w9 rfl rfl rfl fun b1=> ?_)
 refine rn ?_;refine z8 rfl (za9 (enc:=intK) rfl fun b6=> ?_)
 refine z8 rfl (y3 rfl fun b3=> ?_)
 refine rn ?_;refine z8 rfl (v7 rfl rfl (y0.of_fun (zxk h 5 _)) rfl ?_)
 rintro _ _ ⟨e1,e2,rfl,rfl⟩
 refine rn ?_;refine zgj (s':=⟨[(8,.fn (.func 264) [] [pZ e1,pZ e2]),(3,pZ b3)],.box e1 28 (w7 h):: .box e2 3 [iv 5]:: .box b3 115 [mpv b6]:: .map b6 (zaq intK (zbq bv (zpn (h.evs.take 0)))):: .box b1 28 (w7 h)::W,[]⟩) es ?_
 refine zot (fun pend h''=>pend=none∧h''= .box b3 115 [mpv b6]:: .map b6 (zaq intK (zbq bv (zpn (h.evs.take h.evs.length)))):: .box b1 28 (w7 h)::W) rfl (fun fn l q lp hlp=> ?_) (fun q h'' hK=> ?_) (fun q h'' c hK=> ?_)
 ·suffices hy:∀k (x:Unit),(hk:k < h.evs.length)→True→(h.evs[k].kind==5)=true→y0 Tryz.prog (yv l) [iv k,.agg (evR h.evs[k])] (.box e1 28 (w7 h):: .box e2 3 [iv 5]::lp .ready none:: .defs q:: .box b3 115 [mpv b6]:: .map b6 (zaq intK (zbq bv (zpn (h.evs.take k)))):: .box b1 28 (w7 h)::W) (fun r h'=>∃x':Unit,(r=bv true∧True∧h'= .box e1 28 (w7 h):: .box e2 3 [iv 5]::lp .ready none:: .defs q:: .box b3 115 [mpv b6]:: .map b6 (zaq intK (zbq bv (zpn (h.evs.take (k+1))))):: .box b1 28 (w7 h)::W)∨(r=bv false∧False∧h'= .box e1 28 (w7 h):: .box e2 3 [iv 5]:: [])) by
   refine y8.mono (y8.perm ((pt2 _ _ _ _).trans (.cons _ (pt2 _ _ _ _))) (zs4 h la 5 (yv l) e1 e2 (fun _ _=>True) (fun _ _=>False) (fun k (_:Unit)=>lp .ready none:: .defs q:: .box b3 115 [mpv b6]:: .map b6 (zaq intK (zbq bv (zpn (h.evs.take k)))):: .box b1 28 (w7 h)::W) (fun _ _=> []) () trivial hy (fun k s hk _ hn=>⟨s,trivial,by rw [ysz hk hn]⟩))) ?_
   rintro _ _ (⟨s,_,rfl⟩|⟨_,_,hF,_⟩)
   ·exact ⟨none,.ready,_,.refl _,by simp,rfl,rfl⟩
   ·exact hF.elim
  intro k s hk _ hkd
  refine y0.perm (pt2 _ _ _ _) (y0.ventE ?_)
  refine zey hlp rfl rfl ?_
  refine rn ?_;refine z8 rfl (y3 rfl fun b5=> ?_)
  refine rn ?_;refine ⟨[(5,pZ b5),(3,pZ b3)],.box b5 60 (evR h.evs[k]):: .box e1 28 (w7 h):: .box e2 3 [iv 5]:: .defs q:: .box b3 115 [mpv b6]:: .map b6 (zaq intK (zbq bv (zpn (h.evs.take k)))):: .box b1 28 (w7 h)::W,v8 (zaz (pt1 _ _ _)) es,?_⟩
  refine rn ?_;refine z8 rfl (za5 (g:=bv) (enc:=intK) (k:=h.evs[k].t) (v:=true) rfl rfl rfl ?_)
  refine rn ?_;exact zem (.refl _) ⟨_,_,.trans (.perm ((pt1 _ _ _).trans (.cons _ ((pt1 _ _ _).trans (.cons _ (pt1 _ _ _))))) _) (.drop [_] _ _),(),.inl ⟨rfl,trivial,by rw [ysy hk hkd]⟩⟩
 ·obtain ⟨_,rfl⟩:=hK
  refine rn ?_;exact zi1 (.refl _) (.cons _ _ _ _ (.tmp _ _ rfl) .nil) (.trans (.drop1 _ _ _) (.trans (.perm (pt1 _ _ _) _) (.drop [_] _ _))) ⟨b6,by rw [List.take_length],rfl⟩
 ·obtain ⟨hc,_⟩:=hK
  exact absurd hc (by simp)
theorem yeq {h:Hist} {n many:Int} (he:zg8 h n many≠0) (X:List Int):(onE (zg8 h n many) X).map zac= []:=by rw [onE,if_neg he];rfl
theorem yda {α:Type} (kd:Int) (g:Ev→α) (q:Ev→Bool) (l:List Ev):zmh (zq1 kd (fun _ e=>g e) (fun _ e=>q e)) l l.length=(l.filter fun e=>e.kind==kd && q e).map g:=yie (fun _ _=>rfl) l
theorem yka (h:Hist) (la:Lim 4611686018427387904 h) (n many:Int) (fv:AV) (hone:fv.cellsOf=some [fv]) (X:List Int) (W:List Res) (hp:zg8 h n many=0→y0 Tryz.prog fv [] (.glob 2 156 y5:: .glob 4 305 y7:: .glob 5 308 y2:: .glob 3 246 u0::W) (fun r h'=>∃s:SV,h'= .row s.v 1 3 (X.map zac):: .glob 2 156 y5:: .glob 4 305 y7:: .glob 5 308 y2:: .glob 3 246 u0::W∧r= .v s.v)):y8 Tryz.prog 150 [.agg (w7 h),iv n,iv many,fv] (.glob 2 156 y5:: .glob 4 305 y7:: .glob 5 308 y2:: .glob 3 246 u0::W) (fun r h'=>∃s:SV,h'= .row s.v 1 3 ((onE (zg8 h n many) X).map zac):: .glob 2 156 y5:: .glob 4 305 y7:: .glob 5 308 y2:: .glob 3 246 u0::W∧r= .tup [.v s.v,iv (zg8 h n many)]):=by
 refine z6 Tryz.func150 rfl rfl rfl ?_
 refine rn ?_;refine z8 rfl (w9 rfl rfl rfl fun b4=> ?_)
 refine rn ?_;refine qv rfl rfl (y1 rfl rfl (y0.qt (y0.of_fun (yn3 h la)) ((pt1 _ _ _).trans (.cons _ ((pt1 _ _ _).trans (.cons _ ((pt1 _ _ _).trans (.cons _ (pt1 _ _ _))))))))) ?_
 refine rn ?_;refine z7 rfl (fun hc15=> ?_) (fun hc15=> ?_)
 ·have hc:u6 h≠0:=by simpa using hc15
  refine rn ?_;exact zb2 rfl rfl (.trans (.drop [_] _ _) (zah 1 3 _)) ⟨⟨none,0,0⟩,by rw [yeq (by rw [ask_c hc];exact hc)];rfl,by rw [ask_c hc];rfl⟩
 ·have hc:u6 h=0:=by simpa using hc15
  refine rn ?_;refine w6 (fun hg5_2=> ?_) (fun hg5_2=> ?_)
  ·refine rn ?_;refine zc0 rfl ?_;have hn:¬(0≤n∧n < many):=by first|(have q:=oT hg5_2;omega)|(have q:=oT hc24;omega)
   refine rn ?_;exact zb2 rfl rfl (.trans (.drop [_] _ _) (zah 1 3 _)) ⟨⟨none,0,0⟩,by rw [yeq (by rw [zz5 hc hn];decide)];rfl,by rw [zz5 hc hn];rfl⟩
  ·refine rn ?_;refine z7 rfl (fun hc24=> ?_) (fun hc24=> ?_)
   ·have hn:¬(0≤n∧n < many):=by first|(have q:=oT hg5_2;omega)|(have q:=oT hc24;omega)
    refine rn ?_;exact zb2 rfl rfl (.trans (.drop [_] _ _) (zah 1 3 _)) ⟨⟨none,0,0⟩,by rw [yeq (by rw [zz5 hc hn];decide)];rfl,by rw [zz5 hc hn];rfl⟩
   ·have hn:0≤n∧n < many:=by have q:=oF hg5_2;have q':=oF hc24;omega
    refine rn ?_;refine z8 rfl (v7 rfl rfl (y0.fr1 (hp (zv9 hc hn))) rfl ?_)
    rintro _ _ ⟨_,rfl,s,rfl,rfl⟩
    refine rn ?_;exact zb2 rfl rfl (.drop [_] _ _) ⟨s,by rw [zv9 hc hn];rfl,by rw [zv9 hc hn];rfl⟩
theorem yer {h:Hist} {n many:Int} (he:zg8 h n many=0):Lim 3000 h:=zqo (zff (yo2 he).1).1
theorem yo1 {h:Hist} {n many:Int} (he:zg8 h n many=0):h.evs.length≤1000000:=Nat.le_trans (yer he).evs (by decide)
theorem zes {h:Hist} (he:u6 h=0):Lim 3000 h:=zqo (zff (zbd.1 he)).1
theorem yiw (l:List Ev):srt (zmh (zq1 5 (fun _ e=>e.t) (fun _ _=>true)) l l.length)=zfm l:=by
 rw [zfm,yda 5 Ev.t (fun _=>true)];simp only [Bool.and_true]
theorem yn7 (l:List Ev) (x:Int):zmh (zq1 2 (fun _ e=>e.t) (fun _ e=>e.o==x && (zbm e.t (zpn l)).getD false)) l l.length=ypi l x:=by
 rw [yda 2 Ev.t (fun e=>e.o==x && (zbm e.t (zpn l)).getD false),ypi];simp only [yis]
theorem yrb {h:Hist} {x:Int} (hc:decide (zbr (fun o:Ord=>o.o==x) 0 h.ords ≥ 0)=true):∃k,∃hk:k < h.ords.length,zbr (fun o:Ord=>o.o==x) 0 h.ords=(k:Int)∧zbz h x=h.ords[k].ts:=by
 have:=zge (fun o:Ord=>o.o==x) h.ords 0
 cases hf:h.ords.find? (fun o=>o.o==x) with
 |none=>rw [hf] at this;simp only at this;rw [this] at hc;exact absurd hc (by decide)
 |some o=>
  rw [hf] at this
  obtain ⟨k,hk,e,eo,_⟩:=this
  exact ⟨k,hk,by rw [e,Nat.zero_add],by rw [zbz,hf,eo]⟩
theorem yra {h:Hist} {x:Int} (hc:decide (zbr (fun o:Ord=>o.o==x) 0 h.ords ≥ 0)=false):zbz h x=zb4 (ypi h.evs x):=by
 have:=zge (fun o:Ord=>o.o==x) h.ords 0
 cases hf:h.ords.find? (fun o=>o.o==x) with
 |none=>rw [zbz,hf]
 |some o=>
  rw [hf] at this
  obtain ⟨k,hk,e,eo,_⟩:=this
  rw [e] at hc
  have:=oF hc
  omega
theorem yn1 (h:Hist) (la:h.evs.length≤1000000) (b1:Nat):y8 Tryz.prog 172 [pZ b1] (.glob 2 156 y5:: .glob 4 305 y7:: .glob 5 308 y2:: .glob 3 246 u0:: .box b1 28 (w7 h):: []) (fun r h'=>∃s:SV,h'= .row s.v 1 3 ((zfm h.evs).map zac):: .glob 2 156 y5:: .glob 4 305 y7:: .glob 5 308 y2:: .glob 3 246 u0:: .box b1 28 (w7 h):: []∧r= .v s.v):=by
 refine z6 Tryz.func172 rfl rfl rfl ?_
 refine rn ?_;refine z8 rfl (v7 rfl rfl (y0.of_fun (yj8 h la 5 _ rfl _ (fun _ e=>e.t) (fun _ _=>true) (fun k hk _=>y0.pure (R:=fun r=>r=_) (y0.of_fun (yny k h.evs[k]))))) rfl ?_)
 rintro _ _ ⟨s,rfl,rfl⟩
 refine rn ?_;refine z8 rfl (v7 rfl rfl (zgf (y0.of_fun (yat s _ (by have:=(zmg (zq1 5 (fun _ e=>e.t) (fun _ e=>true)) h.evs h.evs.length);omega)))) rfl ?_)
 rintro _ _ ⟨rfl,rfl⟩
 refine rn ?_;exact j9 rfl (.refl _ _) ⟨s,by rw [yiw],rfl⟩
theorem yn2 (h:Hist) (la:Lim 4611686018427387904 h):y8 Tryz.prog 133 [.agg (w7 h)] (.glob 2 156 y5:: .glob 4 305 y7:: .glob 5 308 y2:: .glob 3 246 u0:: []) (fun r h'=>∃s:SV,h'= .row s.v 1 3 ((onE (u6 h) (zfm h.evs)).map zac):: .glob 2 156 y5:: .glob 4 305 y7:: .glob 5 308 y2:: .glob 3 246 u0:: []∧r= .tup [.v s.v,iv (u6 h)]):=by
 refine z6 Tryz.func133 rfl rfl rfl ?_
 refine rn ?_;refine z8 rfl (w9 rfl rfl rfl fun b1=> ?_)
 refine rn ?_;refine z8 rfl (v7 rfl rfl (y0.perm ((pt1 _ _ _).trans (.cons _ ((pt1 _ _ _).trans (.cons _ ((pt1 _ _ _).trans (.cons _ (pt1 _ _ _))))))) (y0.of_fun (yka h la 0 1 (.fn (.func 172) [] [pZ b1]) rfl (zfm h.evs) [.box b1 28 (w7 h)] (fun he=>y0.of_acall (fs:= []) (cs:= [pZ b1]) (yn1 h (yo1 he) b1))))) rfl ?_)
 rintro _ _ ⟨s,rfl,rfl⟩
 refine rn ?_;exact zb2 rfl rfl (.trans (.perm (pt5 _ _ _ _ _ _ _) _) (.drop [_] _ _)) ⟨s,by rw [ykq],by rw [ykq];rfl⟩
theorem yj9 (h:Hist) (la:Lim 4611686018427387904 h):y8 Tryz.prog 133 [.agg (w7 h)] (.glob 2 156 y5:: .glob 4 305 y7:: .glob 5 308 y2:: .glob 3 246 u0:: []) (fun r h'=>h'= .glob 2 156 y5:: .glob 4 305 y7:: .glob 5 308 y2:: .glob 3 246 u0:: []∧r= .tup [za1 (onE (u6 h) (zfm h.evs)),iv (u6 h)]):=
 (yn2 h la).ventR (by rintro _ _ ⟨s,rfl,rfl⟩;exact ⟨_,_,zbf [] [_],rfl,rfl⟩)
theorem yr2 (h:Hist) (la:Lim 3000 h) (x:Int) (W:List Res):y8 Tryz.prog 152 [.agg (w7 h),iv x] W (fun r h'=>∃s:SV,h'= .row s.v 1 3 ((zbz h x).map zac)::W∧r= .v s.v):=by
 refine z6 Tryz.func152 rfl rfl rfl ?_
 have le:h.evs.length≤1000000:=Nat.le_trans la.evs (by decide)
 have lo:=la.ords
 refine rn ?_;refine z8 rfl (w9 rfl rfl rfl fun b2=> ?_)
 refine z8 rfl (w9 rfl rfl rfl fun b3=> ?_)
 refine rn ?_;refine qv rfl rfl (y1 rfl rfl (y0.of_fun (zln h.ords _ (fun o:Ord=>o.o==x) _ (fun a _=>y0.qt (y0.of_acall (fs:= []) (cs:= [pZ b3]) (yuu x a b3)) (.refl _)) (Nat.le_trans la.ords (by decide))))) ?_
 refine rn ?_;refine z7 rfl (fun hc13=> ?_) (fun hc13=> ?_)
 ·obtain ⟨k,hk,ek,hx⟩:=yrb hc13
  have rk:=zal (f:=zeg) hk
  rw [ek]
  refine rn ?_;refine z8 rfl (v7 rfl rfl (y0.fr (y0.rowS (y0.of_fun (zn0 (h.ords[k].ts.map zac) (by rw [oM];exact Nat.le_trans (la.ordts h.ords[k] (List.getElem_mem hk)) (by decide)) (zgt _)))) (.refl _)) rfl ?_)
  rintro _ _ ⟨_,rfl,s,rfl,rfl⟩
  refine rn ?_;exact j9 rfl (.trans (.perm ((pt1 _ _ _).trans (.cons _ (pt1 _ _ _))) _) (.drop [_,_] _ _)) ⟨s,by rw [hx],rfl⟩
 ·have hx:=yra hc13
  refine rn ?_;refine z8 rfl (v7 rfl rfl (y0.of_fun (yn0 h le _)) rfl ?_)
  rintro _ _ ⟨rm,rfl,rfl⟩
  refine z8 rfl (y3 rfl fun b6=> ?_)
  refine rn ?_;refine z8 rfl (v7 rfl rfl (y0.of_fun (yj8 h le 2 _ rfl _ (fun _ e=>e.t) (fun _ e=>e.o==x && (zbm e.t (zpn h.evs)).getD false) (fun k hk _=>y0.qt (y0.of_acall (fs:= []) (cs:= [pZ b3,pZ b6]) (ynx k x h.evs[k] b3 b6 rm (zpn h.evs))) (pt2 _ _ _ _)))) rfl ?_)
  rintro _ _ ⟨s,rfl,rfl⟩
  refine rn ?_;refine z8 rfl (v7 rfl rfl (zax (y0.of_fun (yd5 s _ (by have:=(zmg (zq1 2 (fun _ e=>e.t) (fun _ e=>e.o==x && (zbm e.t (zpn h.evs)).getD false)) h.evs h.evs.length);omega)))) rfl ?_)
  rintro _ _ ⟨s',rfl,rfl⟩
  refine rn ?_;exact j9 rfl (.trans (.perm ((pt1 _ _ _).trans (.cons _ ((pt1 _ _ _).trans (.cons _ ((pt1 _ _ _).trans (.cons _ (pt1 _ _ _))))))) _) (.drop [_,_,_,_] _ _)) ⟨s',by rw [hx,yn7],rfl⟩
theorem yr1 (h:Hist) (la:Lim 3000 h) (x:Int) (b2 b3:Nat):y8 Tryz.prog 151 [pZ b2,pZ b3] (.glob 2 156 y5:: .glob 4 305 y7:: .glob 5 308 y2:: .glob 3 246 u0:: .box b2 28 (w7 h):: .box b3 3 [iv x]:: []) (fun r h'=>∃s:SV,h'= .row s.v 1 3 ((zbz h x).map zac):: .glob 2 156 y5:: .glob 4 305 y7:: .glob 5 308 y2:: .glob 3 246 u0:: .box b2 28 (w7 h):: .box b3 3 [iv x]:: []∧r= .v s.v):=by
 refine z6 Tryz.func151 rfl rfl rfl ?_
 refine rn ?_;refine z8 rfl (v7 rfl rfl (y0.of_fun (yr2 h la x _)) rfl ?_)
 rintro _ _ ⟨s,rfl,rfl⟩
 refine rn ?_;exact j9 rfl (.refl _ _) ⟨s,rfl,rfl⟩
theorem ynz (h:Hist) (la:Lim 4611686018427387904 h) (x:Int):y8 Tryz.prog 101 [.agg (w7 h),iv x] (.glob 2 156 y5:: .glob 4 305 y7:: .glob 5 308 y2:: .glob 3 246 u0:: []) (fun r h'=>∃s:SV,h'= .row s.v 1 3 ((onE (zg8 h x h.os.length) (zbz h x)).map zac):: .glob 2 156 y5:: .glob 4 305 y7:: .glob 5 308 y2:: .glob 3 246 u0:: []∧r= .tup [.v s.v,iv (zg8 h x h.os.length)]):=by
 refine z6 Tryz.func101 rfl rfl rfl ?_
 refine rn ?_;refine z8 rfl (w9 rfl rfl rfl fun b2=> ?_)
 refine z8 rfl (w9 rfl rfl rfl fun b3=> ?_)
 refine rn ?_;refine z8 rfl (v7 rfl rfl (y0.perm ((pt2 _ _ _ _).trans (.cons _ ((pt2 _ _ _ _).trans (.cons _ ((pt2 _ _ _ _).trans (.cons _ ((pt2 _ _ _ _).trans (.cons _ (pt1 _ _ _))))))))) (y0.of_fun (yka h la x (h.os.map zfe).length (.fn (.func 151) [] [pZ b2,pZ b3]) rfl (zbz h x) [.box b2 28 (w7 h),.box b3 3 [iv x]] (fun he=>y0.of_acall (fs:= []) (cs:= [pZ b2,pZ b3]) (yr1 h (yer he) x b2 b3))))) rfl ?_)
 rintro _ _ ⟨s,rfl,rfl⟩
 refine rn ?_;exact zb2 rfl rfl (.trans (.perm ((pt5 _ _ _ _ _ _ _).trans (.cons _ (pt5 _ _ _ _ _ _ _))) _) (.drop [_,_] _ _)) ⟨s,by simp only [oM],by simp only [oM];rfl⟩
theorem yj7 (h:Hist) (la:Lim 4611686018427387904 h) (x:Int):y8 Tryz.prog 101 [.agg (w7 h),iv x] (.glob 2 156 y5:: .glob 4 305 y7:: .glob 5 308 y2:: .glob 3 246 u0:: []) (fun r h'=>h'= .glob 2 156 y5:: .glob 4 305 y7:: .glob 5 308 y2:: .glob 3 246 u0:: []∧r= .tup [za1 (onE (zg8 h x h.os.length) (zbz h x)),iv (zg8 h x h.os.length)]):=
 (ynz h la x).ventR (by rintro _ _ ⟨s,rfl,rfl⟩;exact ⟨_,_,zbf [] [_],rfl,rfl⟩)
end Go.Proofs
namespace Go.Ab
open Go
section
variable {P:Program} {ro:Option Nat} {nt:Nat} {c:Code} {Q:Exit→St→Prop} {t:Fr} {h:List Res} {ds:List Nat}
theorem zv7 {σ:Type} (n:Nat) (p:Nat→σ→Prop) (v:Nat→σ→Fr) (cs:Fr) (x0:σ) (hp:p 0 x0)
 (round:∀k x,k≤n→p k x→aw P ro nt c (thn (fun s'=>k < n∧∃x',p (k+1) x'∧Ent nt s' ⟨v (k+1) x'++cs,h,ds⟩) Q) ⟨v k x++cs,h,ds⟩)
 (hs:SubF t (v 0 x0++cs):=by repeat (first|exact .nil|refine .cons _ _ _ rfl ?_)):aw P ro nt (.loop c) Q ⟨t,h,ds⟩:=
 zaa (fun x:Nat×σ=>x.1≤n∧p x.1 x.2) (fun x=>⟨v x.1 x.2++cs,h,ds⟩) (fun x=>n - x.1) (0,x0) ⟨Nat.zero_le _,hp⟩ (v6 hs) fun x hk=>zf5 (fun e s' hq=>by
  cases e with
  |normal=>
   obtain ⟨h1,x',h2,h3⟩:=hq
   exact ⟨(x.1+1,x'),⟨h1,h2⟩,h3,by simp only;omega⟩
  |_=>exact hq) (round x.1 x.2 hk.1 hk.2)
end
end Go.Ab
set_option maxRecDepth 10000
namespace Go.Proofs
open Go Go.Ab
attribute [local irreducible] QR QV OE zcp aw zdd zcj zbo za7 thn zft
open Go.H
theorem yme {f g:Bool} (l m:List Seen) (hl:l.length≤4611686018427387904) (hm:m.length≤4611686018427387904):y8 Tryz.prog 130 [.list f 3 (l.map zam),.list g 3 (m.map zam)] [] (fun r h'=>h'= []∧r=bv (eqF zf7 l m)):=by
 refine z6 Tryz.func130 rfl rfl rfl ?_
 refine rn ?_;refine z7 rfl (fun hc10=> ?_) (fun hc10=> ?_)
 ·refine rn ?_;have hne:(l.length==m.length)=false:=beq_eq_false_iff_ne.2 fun q=>by simp [q] at hc10
  exact j9 rfl (.refl _ _) ⟨rfl,by rw [eqF,hne,Bool.false_and];rfl⟩
 ·have hlm:l.length=m.length:=by simp at hc10;omega
  refine rn ?_;refine zaa (fun k:Nat=>k≤l.length∧zje zf7 l m=zje zf7 (l.drop k) (m.drop k)) (fun k=>⟨[(13,iv k),(12,iv (l.map zam).length),(0,.list f 3 (l.map zam)),(1,.list g 3 (m.map zam))],[],[]⟩) (fun k=>l.length - k) 0 ⟨Nat.zero_le _,by simp⟩
   (v6 (.cons _ _ _ rfl (.cons _ _ _ rfl (.cons _ _ _ rfl (.cons _ _ _ rfl (.nil)))))) ?_
  rintro k ⟨hk,hz⟩
  refine rn ?_;refine z7 rfl (fun hc14=> ?_) (fun hc14=> ?_)
  ·have hk2:k < l.length:=by simpa using hc14
   have hk3:k < m.length:=by omega
   have hrow1:(l.map zam)[k]? =some (zam l[k]):=by simp [hk2]
   have hrow2:(m.map zam)[k]? =some (zam m[k]):=by simp [hk3]
   have hd1:=List.drop_eq_getElem_cons hk2
   have hd2:=List.drop_eq_getElem_cons hk3
   refine rn ?_;refine k9 8 rfl ?_
   refine rn ?_;refine z7 rfl (fun hc24=> ?_) (fun hc24=> ?_)
   ·refine rn ?_;exact j9 rfl (.refl _ _) ⟨rfl,by rw [eqF,hz,hd1,hd2,zje,show zf7 l[k] m[k]=false from zsv hc24,Bool.false_and,Bool.and_false];rfl⟩
   ·refine rn ?_;exact ⟨k+1,⟨by omega,by rw [hz,hd1,hd2,zje,show zf7 l[k] m[k]=true from zsw hc24,Bool.true_and]⟩,(v6 (.cons _ _ _ rfl (.cons _ _ _ rfl (.cons _ _ _ rfl (.cons _ _ _ rfl (.nil)))))),by omega⟩
  ·have hk3:k=l.length:=by
    have:l.length≤k:=by simpa using hc14
    omega
   refine rn ?_;exact j9 rfl (.refl _ _) ⟨rfl,by rw [eqF,hz,hk3,List.drop_length,zh0,hlm,beq_self_eq_true];rfl⟩
theorem ygo {f g:Bool} (l m:List ByteArray) (hl:l.length≤4611686018427387904) (hm:m.length≤4611686018427387904):y8 Tryz.prog 78 [.list f 1 (l.map zfe),.list g 1 (m.map zfe)] [] (fun r h'=>h'= []∧r=bv (eqF zrr l m)):=by
 refine z6 Tryz.func78 rfl rfl rfl ?_
 refine rn ?_;refine z7 rfl (fun hc10=> ?_) (fun hc10=> ?_)
 ·refine rn ?_;have hne:(l.length==m.length)=false:=beq_eq_false_iff_ne.2 fun q=>by simp [q] at hc10
  exact j9 rfl (.refl _ _) ⟨rfl,by rw [eqF,hne,Bool.false_and];rfl⟩
 ·have hlm:l.length=m.length:=by simp at hc10;omega
  refine rn ?_;refine zaa (fun k:Nat=>k≤l.length∧zje zrr l m=zje zrr (l.drop k) (m.drop k)) (fun k=>⟨[(13,iv k),(12,iv (l.map zfe).length),(0,.list f 1 (l.map zfe)),(1,.list g 1 (m.map zfe))],[],[]⟩) (fun k=>l.length - k) 0 ⟨Nat.zero_le _,by simp⟩
   (v6 (.cons _ _ _ rfl (.cons _ _ _ rfl (.cons _ _ _ rfl (.cons _ _ _ rfl (.nil)))))) ?_
  rintro k ⟨hk,hz⟩
  refine rn ?_;refine z7 rfl (fun hc14=> ?_) (fun hc14=> ?_)
  ·have hk2:k < l.length:=by simpa using hc14
   have hk3:k < m.length:=by omega
   have hrow1:(l.map zfe)[k]? =some (zfe l[k]):=by simp [hk2]
   have hrow2:(m.map zfe)[k]? =some (zfe m[k]):=by simp [hk3]
   have hd1:=List.drop_eq_getElem_cons hk2
   have hd2:=List.drop_eq_getElem_cons hk3
   refine rn ?_;refine k9 8 rfl ?_
   refine rn ?_;refine z7 rfl (fun hc24=> ?_) (fun hc24=> ?_)
   ·refine rn ?_;exact j9 rfl (.refl _ _) ⟨rfl,by rw [eqF,hz,hd1,hd2,zje,show zrr l[k] m[k]=false from zsv hc24,Bool.false_and,Bool.and_false];rfl⟩
   ·refine rn ?_;exact ⟨k+1,⟨by omega,by rw [hz,hd1,hd2,zje,show zrr l[k] m[k]=true from zsw hc24,Bool.true_and]⟩,(v6 (.cons _ _ _ rfl (.cons _ _ _ rfl (.cons _ _ _ rfl (.cons _ _ _ rfl (.nil)))))),by omega⟩
  ·have hk3:k=l.length:=by
    have:l.length≤k:=by simpa using hc14
    omega
   refine rn ?_;exact j9 rfl (.refl _ _) ⟨rfl,by rw [eqF,hz,hk3,List.drop_length,zh0,hlm,beq_self_eq_true];rfl⟩
theorem zy0 {f g:Bool} (l m:List Int) (hl:l.length≤4611686018427387904) (hm:m.length≤4611686018427387904):y8 Tryz.prog 80 [.list f 1 (l.map zac),.list g 1 (m.map zac)] [] (fun r h'=>h'= []∧r=bv (eqF zkv l m)):=by
 refine z6 Tryz.func80 rfl rfl rfl ?_
 refine rn ?_;refine z7 rfl (fun hc10=> ?_) (fun hc10=> ?_)
 ·refine rn ?_;have hne:(l.length==m.length)=false:=beq_eq_false_iff_ne.2 fun q=>by simp [q] at hc10
  exact j9 rfl (.refl _ _) ⟨rfl,by rw [eqF,hne,Bool.false_and];rfl⟩
 ·have hlm:l.length=m.length:=by simp at hc10;omega
  refine rn ?_;refine zaa (fun k:Nat=>k≤l.length∧zje zkv l m=zje zkv (l.drop k) (m.drop k)) (fun k=>⟨[(13,iv k),(12,iv (l.map zac).length),(0,.list f 1 (l.map zac)),(1,.list g 1 (m.map zac))],[],[]⟩) (fun k=>l.length - k) 0 ⟨Nat.zero_le _,by simp⟩
   (v6 (.cons _ _ _ rfl (.cons _ _ _ rfl (.cons _ _ _ rfl (.cons _ _ _ rfl (.nil)))))) ?_
  rintro k ⟨hk,hz⟩
  refine rn ?_;refine z7 rfl (fun hc14=> ?_) (fun hc14=> ?_)
  ·have hk2:k < l.length:=by simpa using hc14
   have hk3:k < m.length:=by omega
   have hrow1:(l.map zac)[k]? =some (zac l[k]):=by simp [hk2]
   have hrow2:(m.map zac)[k]? =some (zac m[k]):=by simp [hk3]
   have hd1:=List.drop_eq_getElem_cons hk2
   have hd2:=List.drop_eq_getElem_cons hk3
   refine rn ?_;refine k9 8 rfl ?_
   refine rn ?_;refine z7 rfl (fun hc24=> ?_) (fun hc24=> ?_)
   ·refine rn ?_;exact j9 rfl (.refl _ _) ⟨rfl,by rw [eqF,hz,hd1,hd2,zje,show zkv l[k] m[k]=false from zsv hc24,Bool.false_and,Bool.and_false];rfl⟩
   ·refine rn ?_;exact ⟨k+1,⟨by omega,by rw [hz,hd1,hd2,zje,show zkv l[k] m[k]=true from zsw hc24,Bool.true_and]⟩,(v6 (.cons _ _ _ rfl (.cons _ _ _ rfl (.cons _ _ _ rfl (.cons _ _ _ rfl (.nil)))))),by omega⟩
  ·have hk3:k=l.length:=by
    have:l.length≤k:=by simpa using hc14
    omega
   refine rn ?_;exact j9 rfl (.refl _ _) ⟨rfl,by rw [eqF,hz,hk3,List.drop_length,zh0,hlm,beq_self_eq_true];rfl⟩
theorem zij (n m:Int):y8 Tryz.prog 21 [iv n,iv m] [] (fun r h'=>h'= []∧r=bv (isB n m)):=by
 refine z6 Tryz.func21 rfl rfl rfl ?_
 refine rn ?_;refine w6 (fun hg1_2=> ?_) (fun hg1_2=> ?_)
 ·refine rn ?_;exact j9 rfl (.refl _ _) ⟨rfl,congrArg bv (by first|(simp only [isB, *,Bool.true_and,Bool.false_and,Bool.and_false,Bool.and_true,Bool.true_or,Bool.or_false,Bool.false_or,Bool.or_true,if_true,if_false,Bool.false_eq_true,Bool.not_true,Bool.not_false];done)|(simp_all [isB];done)|(simp_all [isB] <;> omega))⟩
 ·refine rn ?_;exact j9 rfl (.refl _ _) ⟨rfl,congrArg bv (by first|(simp only [isB, *,Bool.true_and,Bool.false_and,Bool.and_false,Bool.and_true,Bool.true_or,Bool.or_false,Bool.false_or,Bool.or_true,if_true,if_false,Bool.false_eq_true,Bool.not_true,Bool.not_false];done)|(simp_all [isB];done)|(simp_all [isB] <;> omega))⟩
theorem bvz0_2013 {a b:Bool} (h:a=b:=by first|(simp only [zfw, *,Bool.true_and,Bool.false_and,Bool.and_false,Bool.and_true,Bool.true_or,Bool.or_false,Bool.false_or,Bool.or_true,if_true,if_false,Bool.false_eq_true,Bool.not_true,Bool.not_false];done)|(simp_all [zfw];done)|(simp_all [zfw] <;> omega)):bv a=bv b:=congrArg bv h
theorem zgb (v:Ver) (m:Int):y8 Tryz.prog 216 [.agg (yfm v),iv m] [] (fun r h'=>h'= []∧r=bv (zfw v m)):=by
 refine z6 Tryz.func216 rfl rfl rfl ?_
 refine rn ?_;refine z8 rfl (w9 rfl rfl rfl fun b2=> ?_)
 refine rn ?_;refine w6 (fun hg1_3=> ?_) (fun hg1_3=> ?_)
 ·refine rn ?_;exact j9 rfl (.drop [_] _ _) ⟨rfl,bvz0_2013⟩
 ·refine rn ?_;refine qv rfl rfl (y1 rfl rfl (u5 (zij _ _) (Sbs.refl _))) ?_
  refine rn ?_;refine w6 (fun hg1_8=> ?_) (fun hg1_8=> ?_)
  ·refine rn ?_;refine w6 (fun hg1_13=> ?_) (fun hg1_13=> ?_)
   ·refine rn ?_;exact j9 rfl (.drop [_] _ _) ⟨rfl,bvz0_2013⟩
   ·refine rn ?_;exact j9 rfl (.drop [_] _ _) ⟨rfl,bvz0_2013⟩
  ·refine rn ?_;exact j9 rfl (.drop [_] _ _) ⟨rfl,bvz0_2013⟩
theorem bvz1_1221 {a b:Bool} (h:a=b:=by first|(simp only [zj3, *,Bool.true_and,Bool.false_and,Bool.and_false,Bool.and_true,Bool.true_or,Bool.or_false,Bool.false_or,Bool.or_true,if_true,if_false,Bool.false_eq_true,Bool.not_true,Bool.not_false];done)|(simp_all [zj3];done)|(simp_all [zj3] <;> omega)):bv a=bv b:=congrArg bv h
theorem zfy (a b:Ev) (ha:a.scan.length≤4611686018427387904) (hb:b.scan.length≤4611686018427387904):y8 Tryz.prog 79 [.agg (evR a),.agg (evR b)] [] (fun r h'=>h'= []∧r=bv (zj3 a b)):=by
 refine z6 Tryz.func79 rfl rfl rfl ?_
 refine rn ?_;refine z8 rfl (w9 rfl rfl rfl fun b2=> ?_)
 refine z8 rfl (w9 rfl rfl rfl fun b3=> ?_)
 refine rn ?_;refine w6 (fun hg1_5=> ?_) (fun hg1_5=> ?_)
 ·refine rn ?_;refine w6 (fun hg1_12=> ?_) (fun hg1_12=> ?_)
  ·refine rn ?_;refine w6 (fun hg1_19=> ?_) (fun hg1_19=> ?_)
   ·refine rn ?_;refine w6 (fun hg1_26=> ?_) (fun hg1_26=> ?_)
    ·refine rn ?_;refine w6 (fun hg1_33=> ?_) (fun hg1_33=> ?_)
     ·refine rn ?_;refine w6 (fun hg1_40=> ?_) (fun hg1_40=> ?_)
      ·refine rn ?_;refine w6 (fun hg1_47=> ?_) (fun hg1_47=> ?_)
       ·refine rn ?_;refine qv rfl rfl (y1 rfl rfl (u5 (yme _ _ ha hb) (Sbs.refl _))) ?_
        refine rn ?_;exact j9 rfl (.drop [_,_] _ _) ⟨rfl,bvz1_1221⟩
       ·refine rn ?_;exact j9 rfl (.drop [_,_] _ _) ⟨rfl,bvz1_1221⟩
      ·refine rn ?_;exact j9 rfl (.drop [_,_] _ _) ⟨rfl,bvz1_1221⟩
     ·refine rn ?_;exact j9 rfl (.drop [_,_] _ _) ⟨rfl,bvz1_1221⟩
    ·refine rn ?_;exact j9 rfl (.drop [_,_] _ _) ⟨rfl,bvz1_1221⟩
   ·refine rn ?_;exact j9 rfl (.drop [_,_] _ _) ⟨rfl,bvz1_1221⟩
  ·refine rn ?_;exact j9 rfl (.drop [_,_] _ _) ⟨rfl,bvz1_1221⟩
 ·refine rn ?_;exact j9 rfl (.drop [_,_] _ _) ⟨rfl,bvz1_1221⟩
theorem ygq {f:Bool} (l:List Int) (n:Int) (hl:l.length≤4611686018427387904):y8 Tryz.prog 77 [.list f 1 (l.map zac),iv n] [] (fun r h'=>h'= []∧r=iv (atI n 0 l)):=by
 refine z6 Tryz.func77 rfl rfl rfl ?_
 refine rn ?_;refine zaa (fun k:Nat=>k≤l.length∧atI n 0 l=atI n k (l.drop k)) (fun k=>⟨[(9,iv k),(8,iv (l.map zac).length),(7,.list f 1 (l.map zac)),(1,iv n)],[],[]⟩) (fun k=>l.length - k) 0 ⟨Nat.zero_le _,by simp⟩
  (v6 (.cons _ _ _ rfl (.cons _ _ _ rfl (.cons _ _ _ rfl (.cons _ _ _ rfl (.nil)))))) ?_
 rintro k ⟨hk,hz⟩
 refine rn ?_;refine z7 rfl (fun hc10=> ?_) (fun hc10=> ?_)
 ·have hk2:k < l.length:=by simpa using hc10
  have hrow:(l.map zac)[k]? =some (zac l[k]):=by simp [hk2]
  have hd:=List.drop_eq_getElem_cons hk2
  refine rn ?_;refine z7 rfl (fun hc16=> ?_) (fun hc16=> ?_)
  ·have hx:l[k]=n:=by simpa using hc16
   refine rn ?_;exact j9 rfl (.refl _ _) ⟨rfl,congrArg iv (by rw [hz,hd,atI,if_pos hx])⟩
  ·have hx:¬l[k]=n:=by simpa using hc16
   refine rn ?_;exact ⟨k+1,⟨by omega,by rw [hz,hd,atI,if_neg hx]⟩,(v6 (.cons _ _ _ rfl (.cons _ _ _ rfl (.cons _ _ _ rfl (.cons _ _ _ rfl (.nil)))))),by omega⟩
 ·have hk3:k=l.length:=by
   have:l.length≤k:=by simpa using hc10
   omega
  refine rn ?_;exact j9 rfl (.refl _ _) ⟨rfl,congrArg iv (by rw [hz,hk3,List.drop_length];rfl)⟩
attribute [local irreducible] zei jch zfs
theorem yqm (h:Hist) (t c:Int) (la:Lim 4611686018427387904 h):y8 Tryz.prog 91 [.agg (w7 h),iv t,iv c] [] (fun r h'=>h'= []∧r=bv (zf1 h.evs t c)):=by
 refine z6 Tryz.func91 rfl rfl rfl ?_
 refine rn ?_;refine z8 rfl (w9 rfl rfl rfl fun b3=> ?_)
 refine rn ?_;refine zcy (h.evs.length) (fun k:Nat=>h.evs.all (fun e:Ev=> !(e.t==t && e.kind==c))=(h.evs.drop k).all (fun e:Ev=> !(e.t==t && e.kind==c))) (fun k=> [(12,iv k)]) [(1,_),(2,_),(10,_),(11,_)] rfl ?_
 intro k lk zk
 refine rn ?_;refine z7 rfl (fun hc13=> ?_) (fun hc13=> ?_)
 ·have hk:=za3 hc13
  have rk:=zal (f:=evR) hk
  have bk:=la.evs
  refine rn ?_;refine z8 rfl (y3 rfl fun b8=> ?_)
  refine rn ?_;refine w6 (fun hg4_4=> ?_) (fun hg4_4=> ?_)
  ·refine rn ?_;refine z7 rfl (fun hc25=> ?_) (fun hc25=> ?_)
   ·refine rn ?_;refine rq 2 ?_
    exact ⟨rfl,congrArg bv (by rw [zf1,zt8 hk (by simp_all)];rfl)⟩
   ·refine rn ?_;exact ⟨hk,zwa hk zk (by simp_all),eA⟩
  ·refine rn ?_;refine zfu rfl ?_;refine rn ?_;exact ⟨hk,zwa hk zk (by simp_all),eA⟩
 ·have qk:=za4 hc13 lk
  have ak:=yad qk zk
  refine rn ?_;refine rq 1 ?_
  exact ⟨rfl,congrArg bv (by rw [zf1,ak];rfl)⟩
theorem zqf (h:Hist) (t:Int) (la:Lim 4611686018427387904 h):y8 Tryz.prog 36 [.agg (w7 h),iv t] [] (fun r h'=>h'= []∧r=bv (zf1 h.evs t 5)):=by
 refine z6 Tryz.func36 rfl rfl rfl ?_
 refine rn ?_;refine z8 rfl (w9 rfl rfl rfl fun b2=> ?_)
 refine rn ?_;refine qv rfl rfl (y1 rfl rfl (u5 (yqm h t 5 la) (Sbs.refl _))) ?_
 refine rn ?_;refine rq 1 ?_
 exact ⟨rfl,rfl⟩
theorem zut (ts f:List Int) (hl:ts.length≤4611686018427387904) (hm:f.length≤4611686018427387904):y8 Tryz.prog 276 [za1 ts,za1 f] [] (fun r h'=>h'= []∧r=bv (zgn ts f)):=by
 refine z6 Tryz.func276 rfl rfl rfl ?_
 refine rn ?_;refine zcy (ts.length) (fun k:Nat=>yjd ts f k) (fun k=> [(9,iv k)]) [(0,_),(1,_),(7,_),(8,_)] (fun j _ h=>absurd h (Nat.not_lt_zero _)) ?_
 intro k lk zk
 refine rn ?_;refine z7 rfl (fun hc10=> ?_) (fun hc10=> ?_)
 ·have hk:=za3 hc10
  have rk:=zal (f:=zac) hk
  refine rn ?_;refine qv rfl rfl (y1 rfl rfl (u5 (ygq f ts[k] hm) (Sbs.refl _))) ?_
  refine rn ?_;refine w6 (fun hg4_4=> ?_) (fun hg4_4=> ?_)
  ·refine rn ?_;refine zc0 rfl ?_;refine rn ?_;refine rq 0 ?_
   exact ⟨rfl,congrArg bv (by rw [yjl hk (by first|exact .inl hg4_4|exact .inr (by simpa using hc24))])⟩
  ·refine rn ?_;refine qv rfl rfl (y1 rfl rfl (u5 (ygq ts ts[k] hl) (Sbs.refl _))) ?_
   refine rn ?_;refine z7 rfl (fun hc24=> ?_) (fun hc24=> ?_)
   ·refine rn ?_;refine rq 0 ?_
    exact ⟨rfl,congrArg bv (by rw [yjl hk (by first|exact .inl hg4_4|exact .inr (by simpa using hc24))])⟩
   ·refine rn ?_;exact ⟨hk,ylg hk zk (by simp_all) (by simp_all),eA⟩
 ·have qk:=za4 hc10 lk
  refine rn ?_;refine rq 0 ?_
  exact ⟨rfl,congrArg bv (by rw [ypz (qk ▸ zk)])⟩
theorem zh6 (h:Hist) (x:Int) (la:Lim 1000000 h):y8 Tryz.prog 129 [.agg (w7 h),iv x] [] (fun r h'=>h'= []∧r=za1 (zbi h x)):=by
 refine z6 Tryz.func129 rfl rfl rfl ?_
 have be:=la.evs
 have bt:=la.ts
 refine rn ?_;refine z8 rfl (w9 rfl rfl rfl fun b2=> ?_)
 refine rn0 ?_;refine w8 (y4 ?_)
 refine rn0 ?_;refine w8 ?_;refine w8 ?_;refine zgj (zao 1 3) ?_
 refine rn ?_;refine ze2 h.ts.length (fun k s=>⟨[(13,iv k),(5,.v s.v),(1,iv x),(2,pZ b2),(12,iv (h.ts.map zfe).length)],.row s.v 1 3 ((zdn h x k).map zac):: .box b2 28 (w7 h):: [],[]⟩) ⟨none,0,0⟩ es ?_
 intro k s lk
 refine rn ?_;refine z7 rfl (fun hc14=> ?_) (fun hc14=> ?_)
 ·have hk:=za3 hc14
  have rk:=zal (f:=zfe) hk
  refine rn ?_;refine zv7 h.evs.length (fun j wb=>wb=(h.evs.take j).any (zar k x)) (fun j wb=> [(19,iv j),(7,bv wb)]) [(1,_),(2,_),(5,_),(6,_),(12,_),(13,_),(17,_),(18,_)] false rfl ?_
  intro j wb lj zj
  refine rn ?_;refine z7 rfl (fun hc20=> ?_) (fun hc20=> ?_)
  ·have hj:=za3 hc20
   have rj:=zal (f:=evR) hj
   refine rn ?_;refine z8 rfl (y3 rfl fun b9=> ?_)
   refine rn ?_;refine w6 (fun hg9_1=> ?_) (fun hg9_1=> ?_)
   ·refine rn ?_;refine ⟨hj,_,?_,eA⟩
    rw [za8 hj,←zj]
    simp_all [zar]
   ·refine rn ?_;refine w6 (fun hg9_5=> ?_) (fun hg9_5=> ?_)
    ·refine rn ?_;refine w6 (fun hg9_11=> ?_) (fun hg9_11=> ?_)
     ·refine rn ?_;refine ⟨hj,_,?_,eA⟩
      rw [za8 hj,←zj]
      simp_all [zar]
     ·refine rn ?_;refine ⟨hj,_,?_,eA⟩
      rw [za8 hj,←zj]
      simp_all [zar]
    ·refine rn ?_;refine ⟨hj,_,?_,eA⟩
     rw [za8 hj,←zj]
     simp_all [zar]
  ·have qj:=za4 hc20 lj
   have wq:wb=h.evs.any (zar k x):=by rw [zj,qj,List.take_length]
   refine rn ?_;refine w6 (fun hg11_1=> ?_) (fun hg11_1=> ?_)
   ·refine rn ?_;refine qv rfl rfl (y1 rfl rfl (u5 (zqf h k (la.mono (by decide))) (Sbs.refl _))) ?_
    refine rn ?_;refine z7 rfl (fun hc47=> ?_) (fun hc47=> ?_)
    ·refine rn ?_;refine qv rfl rfl (q6 rfl rfl) ?_
     refine z8 rfl (u4 rfl rfl (by simp only [oM];have:=zk9 h x k;simp;omega) rfl (fun s51=> ?_) (zgt [(k:Int)]))
     refine j8 s51 fun sv hsv=> ?_
     subst hsv
     refine rn ?_;first|exact ⟨hk,sv,by rw [zkd (by simp_all) (by simp_all),List.map_append];exact eA⟩|exact ⟨hk,s,by rw [zke (by simp_all)];exact eA⟩
    ·refine rn ?_;first|exact ⟨hk,sv,by rw [zkd (by simp_all) (by simp_all),List.map_append];exact eA⟩|exact ⟨hk,s,by rw [zke (by simp_all)];exact eA⟩
   ·refine rn ?_;refine zfu rfl ?_;refine rn ?_;first|exact ⟨hk,sv,by rw [zkd (by simp_all) (by simp_all),List.map_append];exact eA⟩|exact ⟨hk,s,by rw [zke (by simp_all)];exact eA⟩
 ·have qk:=za4 hc14 lk
  refine rn ?_;exact j9 rfl (.trans zc1 (.drop1 _ _ _)) ⟨rfl,by rw [qk,zrm];rfl⟩
theorem ygn (h:Hist) (i:Nat) (hi:i < h.ords.length) (la:Lim 1000000 h):y8 Tryz.prog 259 [.agg (w7 h),iv i] [] (fun r h'=>h'= []∧r=bv (zjt h i h.ords[i])):=by
 refine z6 Tryz.func259 rfl rfl rfl ?_
 have ri:=zal (f:=zeg) hi
 have bo:=la.ords
 have si:=la.ordts h.ords[i] (List.getElem_mem hi)
 refine rn ?_;refine z8 rfl (w9 rfl rfl rfl fun b2=> ?_)
 refine rn ?_;refine z8 rfl (y3 rfl fun b5=> ?_)
 first|refine z8 rfl (k7 rfl rfl rfl ?_)|refine z8 rfl (zan rfl rfl rfl rfl (Nat.le_of_ble_eq_true rfl) ?_)
 refine u9 (zai ?_)
 refine w8 ?_;refine w8 (y4 ?_)
 refine q1 ?_;refine q1 ?_;refine q1 ?_;refine qq rfl rfl (zcd (k:=i) rfl rfl (by simp;omega)) ?_
 rw [←List.map_take]
 refine rn ?_;refine zcy ((h.ords.take i).length) (fun j:Nat=>(h.ords.take i).all (fun p:Ord=> !(p.o==h.ords[i].o))=((h.ords.take i).drop j).all (fun p:Ord=> !(p.o==h.ords[i].o))) (fun j=> [(19,iv j)]) [(2,_),(5,_),(17,_),(18,_)] rfl ?_
 intro j lj zj
 refine rn ?_;refine z7 rfl (fun hc20=> ?_) (fun hc20=> ?_)
 ·have hj:=za3 hc20
  have rj:=zal (f:=zeg) hj
  have bj:(h.ords.take i).length≤4611686018427387904:=by simp;omega
  refine rn ?_;refine z8 rfl (y3 rfl fun b7=> ?_)
  refine rn ?_;refine z7 rfl (fun hc27=> ?_) (fun hc27=> ?_)
  ·refine rn ?_;refine rq 3 ?_
   exact ⟨rfl,congrArg bv (by rw [yhf (zt8 hj (by simpa using hc27))])⟩
  ·refine rn ?_;exact ⟨hj,zwa hj zj (by simpa using hc27),eA⟩
 ·have qj:=za4 hc20 lj
  have aj:=yad qj zj
  refine rn ?_;refine qv rfl rfl (y1 rfl rfl (u5 (zh6 h h.ords[i].o la) (Sbs.refl _))) ?_
  refine rn ?_;refine qv rfl rfl (y1 rfl rfl (u5 (zut h.ords[i].ts (zbi h h.ords[i].o) (Nat.le_trans si (by decide)) (Nat.le_trans (zgl _ _) (Nat.le_trans la.ts (by decide)))) (Sbs.refl _))) ?_
  refine rn ?_;refine w6 (fun hg9_5=> ?_) (fun hg9_5=> ?_)
  ·refine rn ?_;refine rq 2 ?_
   exact ⟨rfl,congrArg bv (by rw [zw9 aj];simp_all)⟩
  ·refine rn ?_;refine qv rfl rfl (y1 rfl rfl (u5 (zut (zbi h h.ords[i].o) h.ords[i].ts (Nat.le_trans (zgl _ _) (Nat.le_trans la.ts (by decide))) (Nat.le_trans si (by decide))) (Sbs.refl _))) ?_
   refine rn ?_;refine rq 2 ?_
   exact ⟨rfl,congrArg bv (by rw [zw9 aj];simp_all)⟩
theorem zy1 (h:Hist) (x:Int) (la:Lim 1000000 h):y8 Tryz.prog 260 [.agg (w7 h),iv x] [] (fun r h'=>h'= []∧r=bv (zop h x)):=by
 refine z6 Tryz.func260 rfl rfl rfl ?_
 refine rn ?_;refine z8 rfl (w9 rfl rfl rfl fun b2=> ?_)
 refine rn ?_;refine zcy (h.ords.length) (fun j:Nat=>h.ords.all (fun p:Ord=> !(p.o==x))=(h.ords.drop j).all (fun p:Ord=> !(p.o==x))) (fun j=> [(10,iv j)]) [(1,_),(2,_),(8,_),(9,_)] rfl ?_
 intro j lj zj
 refine rn ?_;refine z7 rfl (fun hc11=> ?_) (fun hc11=> ?_)
 ·have hj:=za3 hc11
  have rj:=zal (f:=zeg) hj
  have bo:=la.ords
  refine rn ?_;refine z8 rfl (y3 rfl fun b6=> ?_)
  refine rn ?_;refine z7 rfl (fun hc17=> ?_) (fun hc17=> ?_)
  ·refine rn ?_;refine rq 2 ?_
   exact ⟨rfl,congrArg bv (by rw [yni (zt8 hj (by simpa using hc17))])⟩
  ·refine rn ?_;exact ⟨hj,zwa hj zj (by simpa using hc17),eA⟩
 ·have qj:=za4 hc11 lj
  have aj:=yad qj zj
  refine rn ?_;refine qv rfl rfl (y1 rfl rfl (u5 (zh6 h x la) (Sbs.refl _))) ?_
  refine rn ?_;refine rq 1 ?_
  exact ⟨rfl,congrArg bv (by rw [ynj aj];simp;omega)⟩
theorem ygp (h:Hist) (i:Nat) (hi:i < h.mats.length) (la:Lim 1000000 h):y8 Tryz.prog 261 [.agg (w7 h),iv i] [] (fun r h'=>h'= []∧r=bv (zjx h i h.mats[i])):=by
 refine z6 Tryz.func261 rfl rfl rfl ?_
 have ri:=zal (f:=zd3) hi
 have bo:=la.mats
 have si:=la.matts h.mats[i] (List.getElem_mem hi)
 refine rn ?_;refine z8 rfl (w9 rfl rfl rfl fun b2=> ?_)
 refine rn ?_;refine z8 rfl (y3 rfl fun b5=> ?_)
 first|refine z8 rfl (k7 rfl rfl rfl ?_)|refine z8 rfl (zan rfl rfl rfl rfl (Nat.le_of_ble_eq_true rfl) ?_)
 refine u9 (zai ?_)
 refine w8 ?_;refine w8 (y4 ?_)
 refine q1 ?_;refine q1 ?_;refine q1 ?_;refine qq rfl rfl (zcd (k:=i) rfl rfl (by simp;omega)) ?_
 rw [←List.map_take]
 refine rn ?_;refine zcy ((h.mats.take i).length) (fun j:Nat=>(h.mats.take i).all (fun p:Mat=> !(p.p==h.mats[i].p && p.o==h.mats[i].o))=((h.mats.take i).drop j).all (fun p:Mat=> !(p.p==h.mats[i].p && p.o==h.mats[i].o))) (fun j=> [(18,iv j)]) [(2,_),(5,_),(16,_),(17,_)] rfl ?_
 intro j lj zj
 refine rn ?_;refine z7 rfl (fun hc19=> ?_) (fun hc19=> ?_)
 ·have hj:=za3 hc19
  have rj:=zal (f:=zd3) hj
  have bj:(h.mats.take i).length≤4611686018427387904:=by simp;omega
  refine rn ?_;refine z8 rfl (y3 rfl fun b7=> ?_)
  refine rn ?_;refine w6 (fun hg5_5=> ?_) (fun hg5_5=> ?_)
  ·refine rn ?_;refine z7 rfl (fun hc33=> ?_) (fun hc33=> ?_)
   ·refine rn ?_;refine rq 3 ?_
    exact ⟨rfl,congrArg bv (by rw [yhr (zt8 hj (by simp_all))])⟩
   ·refine rn ?_;exact ⟨hj,zwa hj zj (by simp_all),eA⟩
  ·refine rn ?_;refine zfu rfl ?_;refine rn ?_;exact ⟨hj,zwa hj zj (by simp_all),eA⟩
 ·have qj:=za4 hc19 lj
  have aj:=yad qj zj
  refine rn ?_;refine k9 6 rfl ?_
  refine rn ?_;refine dv rfl rfl (by exact y1 rfl rfl (u5 (zh6 h h.mats[i].o la) (Sbs.refl _))) ?_
  refine rn ?_;refine qv rfl rfl (y1 rfl rfl (u5 (zut h.mats[i].ts (zbi h h.mats[i].o) (Nat.le_trans si (by decide)) (Nat.le_trans (zgl _ _) (Nat.le_trans la.ts (by decide)))) (Sbs.refl _))) ?_
  refine rn ?_;refine rq 2 ?_
  exact ⟨rfl,congrArg bv (by rw [yhs aj])⟩
theorem ymd (h:Hist) (i:Nat) (hi:i < h.wants.length) (la:Lim 1000000 h):y8 Tryz.prog 262 [.agg (w7 h),iv i] [] (fun r h'=>h'= []∧r=bv (zkf h i h.wants[i])):=by
 refine z6 Tryz.func262 rfl rfl rfl ?_
 have ri:=zal (f:=zfq) hi
 have bo:=la.wants
 refine rn ?_;refine z8 rfl (w9 rfl rfl rfl fun b2=> ?_)
 refine q1 ?_;refine u9 (zai ?_)
 refine w8 ?_;refine w8 (y4 ?_)
 refine q1 ?_;refine q1 ?_;refine q1 ?_;refine qq rfl rfl (zcd (k:=i) rfl rfl (by simp;omega)) ?_
 rw [←List.map_take]
 refine rn ?_;refine zcy ((h.wants.take i).length) (fun j:Nat=>(h.wants.take i).all (fun p:Wan=> !(p.s==h.wants[i].s))=((h.wants.take i).drop j).all (fun p:Wan=> !(p.s==h.wants[i].s))) (fun j=> [(14,iv j)]) [(1,_),(2,_),(12,_),(13,_)] rfl ?_
 intro j lj zj
 refine rn ?_;refine z7 rfl (fun hc15=> ?_) (fun hc15=> ?_)
 ·have hj:=za3 hc15
  have rj:=zal (f:=zfq) hj
  have bj:(h.wants.take i).length≤4611686018427387904:=by simp;omega
  refine rn ?_;refine z8 rfl (y3 rfl fun b6=> ?_)
  refine rn ?_;refine k9 8 rfl ?_
  refine rn ?_;refine z7 rfl (fun hc26=> ?_) (fun hc26=> ?_)
  ·refine rn ?_;refine rq 2 ?_
   exact ⟨rfl,congrArg bv (by rw [yk2 (zt8 hj (by simpa using hc26))])⟩
  ·refine rn ?_;exact ⟨hj,zwa hj zj (by simpa using hc26),eA⟩
 ·have qj:=za4 hc15 lj
  have aj:=yad qj zj
  refine rn ?_;refine zcy (h.evs.length) (fun k:Nat=>h.evs.all (fun e:Ev=> !(e.kind==1 && e.s==h.wants[i].s))=(h.evs.drop k).all (fun e:Ev=> !(e.kind==1 && e.s==h.wants[i].s))) (fun k=> [(31,iv k)]) [(1,_),(2,_),(29,_),(30,_)] rfl ?_
  intro k lk zk
  refine rn ?_;refine z7 rfl (fun hc32=> ?_) (fun hc32=> ?_)
  ·have hk:=za3 hc32
   have rk:=zal (f:=evR) hk
   have bk:=la.evs
   refine rn ?_;refine z8 rfl (y3 rfl fun b8=> ?_)
   refine rn ?_;refine k9 12 rfl ?_
   refine rn ?_;refine zd2 (fun hg10_3=> ?_) (fun hg10_3=> ?_)
   ·refine rn ?_;refine z7 rfl (fun hc48=> ?_) (fun hc48=> ?_)
    ·refine rn ?_;refine rq 2 ?_
     exact ⟨rfl,congrArg bv (by rw [yaj aj (zt8 hk (by simp_all))])⟩
    ·refine rn ?_;exact ⟨hk,zwa hk zk (by simp_all),eA⟩
   ·refine rn ?_;refine zfu rfl ?_;refine rn ?_;exact ⟨hk,zwa hk zk (by simp_all),eA⟩
  ·have qk:=za4 hc32 lk
   have ak:=yad qk zk
   refine rn ?_;refine rq 1 ?_
   exact ⟨rfl,congrArg bv (by rw [yaj aj ak])⟩
theorem ybo (e:Ev):y8 Tryz.prog 278 [.agg (evR e)] [] (fun r h'=>h'= []∧r=zfg (j3 e)):=by
 refine z6 Tryz.func278 rfl rfl rfl ?_
 refine rn ?_;refine z8 rfl (w9 rfl rfl rfl fun b1=> ?_)
 refine rn ?_;refine z7 rfl (fun hc5=> ?_) (fun hc5=> ?_)
 ·refine rn ?_;refine qv rfl rfl (q6 rfl rfl) ?_
  refine rn ?_;exact j9 rfl (.trans (.drop [_] _ _) (.le Sb.unfull.le)) ⟨rfl,by rw [j3,if_pos (by simpa using hc5)];rfl⟩
 ·refine rn ?_;refine rq 1 ?_
  exact ⟨rfl,by rw [j3,if_neg (by simpa using hc5)];rfl⟩
theorem zw3 (l:List Ev) (t x:Int) (la:l.length≤1000000):y8 Tryz.prog 277 [zq5 l,iv t,iv x] [] (fun r h'=>h'= []∧r=zq5 (zcq l t x)):=by
 refine z6 Tryz.func277 rfl rfl rfl ?_
 refine w8 (y4 ?_)
 refine rn0 ?_;refine w8 (y4 ?_)
 refine rn0 ?_;refine w8 ?_;refine w8 ?_;refine zgj (zao 9 60) ?_
 refine rn ?_;refine ze2 l.length (fun k s=>⟨[(12,iv k),(7,.v s.v),(1,iv t),(2,iv x),(10,zq5 l),(11,iv (l.map evR).length)],.row s.v 9 60 ((zcq (l.take k) t x).map evR):: [],[]⟩) ⟨none,0,0⟩ es ?_
 intro k s lk
 refine rn ?_;refine z7 rfl (fun hc13=> ?_) (fun hc13=> ?_)
 ·have hk:=za3 hc13
  have rk:=zal (f:=evR) hk
  refine rn ?_;refine z8 rfl (y3 rfl fun b9=> ?_)
  refine rn ?_;refine w6 (fun hg5_3=> ?_) (fun hg5_3=> ?_)
  ·refine rn ?_;refine w6 (fun hg5_9=> ?_) (fun hg5_9=> ?_)
   ·refine rn ?_;refine z7 rfl (fun hc30=> ?_) (fun hc30=> ?_)
    ·refine rn ?_;refine qv rfl rfl (q6 rfl rfl) ?_
     refine z8 rfl (u4 rfl rfl (by simp only [oM];have:=yfg l t x k;simp;omega) rfl (fun s34=> ?_) (yjz [l[k]]))
     refine j8 s34 fun sv hsv=> ?_
     subst hsv
     refine rn ?_;first|exact ⟨hk,sv,by rw [zp1 hk (by simp_all),List.map_append];exact eA⟩|exact ⟨hk,s,by rw [zp2 hk (by simp_all)];exact eA⟩
    ·refine rn ?_;first|exact ⟨hk,sv,by rw [zp1 hk (by simp_all),List.map_append];exact eA⟩|exact ⟨hk,s,by rw [zp2 hk (by simp_all)];exact eA⟩
   ·refine rn ?_;refine zfu rfl ?_;refine rn ?_;first|exact ⟨hk,sv,by rw [zp1 hk (by simp_all),List.map_append];exact eA⟩|exact ⟨hk,s,by rw [zp2 hk (by simp_all)];exact eA⟩
  ·refine rn ?_;refine zfu rfl ?_;refine rn ?_;first|exact ⟨hk,sv,by rw [zp1 hk (by simp_all),List.map_append];exact eA⟩|exact ⟨hk,s,by rw [zp2 hk (by simp_all)];exact eA⟩
 ·have qk:=za4 hc13 lk
  refine rn ?_;exact j9 rfl zc1 ⟨rfl,by rw [qk,List.take_length];rfl⟩
theorem bvz2_2828 {a b:Bool} (h:a=b:=by subst e1;show _=(zg7 l e.t && e.kind==1|| !zg7 l e.t && e.kind !=1);rw [←zB];clear zb zo zB zO;simp_all):bv a=bv b:=congrArg bv h
theorem zy3 (rl:Nat) (e:Ev) (l:List Ev) (h1:1≤rl) (h6:rl≤6) (la:l.length≤1000000) (hl:e.scan.length≤1000000):y8 Tryz.prog 263 [iv rl,.agg (evR e),zq5 l] [] (fun r h'=>h'= []∧r=bv (zdf rl e l)):=by
 refine z6 Tryz.func263 rfl rfl rfl ?_
 refine rn ?_;refine z8 rfl (w9 rfl rfl rfl fun b4=> ?_)
 refine rn ?_;refine zv7 l.length (fun j x=>x.1=(l.take j).any (fun y:Ev=>y.t==e.t && y.kind==1)∧x.2=(l.take j).any (fun y:Ev=>y.t==e.t && (y.kind==5||y.kind==6))) (fun j x=> [(21,iv j),(7,bv x.1),(8,bv x.2)]) [(0,_),(2,_),(4,_),(19,_),(20,_)] (false,false) ⟨rfl,rfl⟩ ?_
 rintro j ⟨bg,ov⟩ lj ⟨zb,zo⟩
 refine rn ?_;refine z7 rfl (fun hc22=> ?_) (fun hc22=> ?_)
 ·have hj:=za3 hc22
  have rj:=zal (f:=evR) hj
  refine rn ?_;refine z8 rfl (y3 rfl fun b10=> ?_)
  refine rn ?_;refine z7 rfl (fun hc29=> ?_) (fun hc29=> ?_)
  ·refine rn ?_;refine w6 (fun hg6_1=> ?_) (fun hg6_1=> ?_)
   ·refine rn ?_;refine w6 (fun hg7_1=> ?_) (fun hg7_1=> ?_)
    ·refine rn ?_;refine ⟨hj,(_,_),?_,eA⟩
     rw [za8 hj,za8 hj]
     generalize (l.take j).any (fun y:Ev=>y.t==e.t && y.kind==1)=A at *
     generalize (l.take j).any (fun y:Ev=>y.t==e.t && (y.kind==5||y.kind==6))=B at *
     simp_all
    ·refine rn ?_;refine w6 (fun hg7_6=> ?_) (fun hg7_6=> ?_)
     ·refine rn ?_;refine ⟨hj,(_,_),?_,eA⟩
      rw [za8 hj,za8 hj]
      generalize (l.take j).any (fun y:Ev=>y.t==e.t && y.kind==1)=A at *
      generalize (l.take j).any (fun y:Ev=>y.t==e.t && (y.kind==5||y.kind==6))=B at *
      simp_all
     ·refine rn ?_;refine ⟨hj,(_,_),?_,eA⟩
      rw [za8 hj,za8 hj]
      generalize (l.take j).any (fun y:Ev=>y.t==e.t && y.kind==1)=A at *
      generalize (l.take j).any (fun y:Ev=>y.t==e.t && (y.kind==5||y.kind==6))=B at *
      simp_all
   ·refine rn ?_;refine w6 (fun hg7_1=> ?_) (fun hg7_1=> ?_)
    ·refine rn ?_;refine ⟨hj,(_,_),?_,eA⟩
     rw [za8 hj,za8 hj]
     generalize (l.take j).any (fun y:Ev=>y.t==e.t && y.kind==1)=A at *
     generalize (l.take j).any (fun y:Ev=>y.t==e.t && (y.kind==5||y.kind==6))=B at *
     simp_all
    ·refine rn ?_;refine w6 (fun hg7_6=> ?_) (fun hg7_6=> ?_)
     ·refine rn ?_;refine ⟨hj,(_,_),?_,eA⟩
      rw [za8 hj,za8 hj]
      generalize (l.take j).any (fun y:Ev=>y.t==e.t && y.kind==1)=A at *
      generalize (l.take j).any (fun y:Ev=>y.t==e.t && (y.kind==5||y.kind==6))=B at *
      simp_all
     ·refine rn ?_;refine ⟨hj,(_,_),?_,eA⟩
      rw [za8 hj,za8 hj]
      generalize (l.take j).any (fun y:Ev=>y.t==e.t && y.kind==1)=A at *
      generalize (l.take j).any (fun y:Ev=>y.t==e.t && (y.kind==5||y.kind==6))=B at *
      simp_all
  ·refine rn ?_;refine ⟨hj,(_,_),?_,eA⟩
   rw [za8 hj,za8 hj]
   generalize (l.take j).any (fun y:Ev=>y.t==e.t && y.kind==1)=A at *
   generalize (l.take j).any (fun y:Ev=>y.t==e.t && (y.kind==5||y.kind==6))=B at *
   simp_all
 ·have qj:=za4 hc22 lj
  have zB:bg=zg7 l e.t:=by rw [yel,zx9];simpa [qj] using zb
  have zO:ov=zss l e.t:=by rw [zss];simpa [qj] using zo
  refine rn ?_;refine z7 rfl (fun hc49=> ?_) (fun hc49=> ?_)
  ·have e1:rl=1:=by have h:=hc49;simp at h;omega
   refine rn ?_;refine w6 (fun hg11_1=> ?_) (fun hg11_1=> ?_)
   ·refine rn ?_;refine w6 (fun hg11_6=> ?_) (fun hg11_6=> ?_)
    ·refine rn ?_;refine rq 1 ?_
     exact ⟨rfl,bvz2_2828⟩
    ·refine rn ?_;refine w6 (fun hg11_9=> ?_) (fun hg11_9=> ?_)
     ·refine rn ?_;refine rq 1 ?_
      exact ⟨rfl,bvz2_2828⟩
     ·refine rn ?_;refine rq 1 ?_
      exact ⟨rfl,bvz2_2828⟩
   ·refine rn ?_;refine w6 (fun hg11_9=> ?_) (fun hg11_9=> ?_)
    ·refine rn ?_;refine rq 1 ?_
     exact ⟨rfl,bvz2_2828⟩
    ·refine rn ?_;refine rq 1 ?_
     exact ⟨rfl,bvz2_2828⟩
  ·have n1:rl≠1:=by intro h;subst h;exact absurd hc49 (by decide)
   refine rn ?_;refine z7 rfl (fun hc66=> ?_) (fun hc66=> ?_)
   ·have e2:rl=2:=by have h:=hc66;simp at h;omega
    refine rn ?_;refine rq 1 ?_
    exact ⟨rfl,congrArg bv (by subst e2;show _=zss l e.t;rw [←zO])⟩
   ·have n2:rl≠2:=by intro h;subst h;exact absurd hc66 (by decide)
    refine rn ?_;refine z7 rfl (fun hc69=> ?_) (fun hc69=> ?_)
    ·have e3:rl=3:=by have h:=hc69;simp at h;omega
     refine rn ?_;refine k9 15 rfl ?_
     refine rn ?_;refine zd2 (fun hg15_3=> ?_) (fun hg15_3=> ?_)
     ·refine rn ?_;refine dv rfl rfl (by exact y1 rfl rfl (u5 (zw3 l e.t e.o la) (Sbs.refl _))) ?_
      refine dq rfl rfl qrA ?_;first|refine ds rfl rfl ?_|refine dq rfl rfl (zci rfl rfl rfl (by rw [oM];have:=zhb l e.t e.o;omega)) ?_
      refine rn ?_;refine rq 1 ?_
      exact ⟨rfl,congrArg bv (by subst e3;simp_all [zdf])⟩
     ·refine rn ?_;refine rq 1 ?_
      exact ⟨rfl,congrArg bv (by subst e3;simp_all [zdf])⟩
    ·have n3:rl≠3:=by intro h;subst h;exact absurd hc69 (by decide)
     refine rn ?_;refine qv rfl rfl (y1 rfl rfl (u5 (ybo e) (Sbs.refl _))) ?_
     refine rn ?_;refine zcy ((j3 e).length) (fun k:Nat=>OkS rl e l k) (fun k=> [(91,iv k)]) [(0,_),(2,_),(4,_),(89,_),(90,_)] (fun i _ h=>absurd h (Nat.not_lt_zero _)) ?_
     intro k lk zk
     refine rn ?_;refine z7 rfl (fun hc92=> ?_) (fun hc92=> ?_)
     ·have hk:=za3 hc92
      have rk:=zal (f:=zam) hk
      have sl:=zki (e:=e) (Nat.le_trans hl (by decide))
      refine rn ?_;refine z8 rfl (y3 rfl fun b12=> ?_)
      refine rn ?_;refine qv rfl rfl (y1 rfl rfl (u5 (zw3 l e.t (j3 e)[k].o la) (Sbs.refl _))) ?_
      refine rn ?_;refine zv7 l.length (fun m x=>x=((j3 e)[k].v.k==0||(l.take m).any (fun y:Ev=>y.kind==2 && y.o==(j3 e)[k].o && y.v==(j3 e)[k].v))) (fun m x=> [(108,iv m),(14,bv x)]) [(0,_),(2,_),(4,_),(11,_),(12,_),(13,_),(89,_),(90,_),(91,_),(106,_),(107,_)] ((j3 e)[k].v.k==0) (by simp) ?_
      intro m th lm zm
      refine rn ?_;refine z7 rfl (fun hc109=> ?_) (fun hc109=> ?_)
      ·have hm:=za3 hc109
       have rm:=zal (f:=evR) hm
       refine rn ?_;refine z8 rfl (y3 rfl fun b16=> ?_)
       refine rn ?_;refine w6 (fun hg24_1=> ?_) (fun hg24_1=> ?_)
       ·refine rn ?_;refine ⟨hm,_,?_,eA⟩
        try rw [zck]
        rw [za8 hm]
        generalize (l.take m).any (fun y:Ev=>y.kind==2 && y.o==(j3 e)[k].o && y.v==(j3 e)[k].v)=A at *
        generalize ((j3 e)[k].v.k==0)=B at *
        generalize (l[m].v==(j3 e)[k].v)=D at *
        cases A <;> cases B <;> simp_all
       ·refine rn ?_;refine w6 (fun hg24_5=> ?_) (fun hg24_5=> ?_)
        ·refine rn ?_;refine w6 (fun hg24_12=> ?_) (fun hg24_12=> ?_)
         ·refine rn ?_;refine ⟨hm,_,?_,eA⟩
          try rw [zck]
          rw [za8 hm]
          generalize (l.take m).any (fun y:Ev=>y.kind==2 && y.o==(j3 e)[k].o && y.v==(j3 e)[k].v)=A at *
          generalize ((j3 e)[k].v.k==0)=B at *
          generalize (l[m].v==(j3 e)[k].v)=D at *
          cases A <;> cases B <;> simp_all
         ·refine rn ?_;refine ⟨hm,_,?_,eA⟩
          try rw [zck]
          rw [za8 hm]
          generalize (l.take m).any (fun y:Ev=>y.kind==2 && y.o==(j3 e)[k].o && y.v==(j3 e)[k].v)=A at *
          generalize ((j3 e)[k].v.k==0)=B at *
          generalize (l[m].v==(j3 e)[k].v)=D at *
          cases A <;> cases B <;> simp_all
        ·refine rn ?_;refine ⟨hm,_,?_,eA⟩
         try rw [zck]
         rw [za8 hm]
         generalize (l.take m).any (fun y:Ev=>y.kind==2 && y.o==(j3 e)[k].o && y.v==(j3 e)[k].v)=A at *
         generalize ((j3 e)[k].v.k==0)=B at *
         generalize (l[m].v==(j3 e)[k].v)=D at *
         cases A <;> cases B <;> simp_all
      ·have qm:=za4 hc109 lm
       have zT:th=((j3 e)[k].v.k==0||zfd l (j3 e)[k].o (j3 e)[k].v):=by rw [zm,qm,List.take_length];rfl
       refine rn ?_;refine z7 rfl (fun hc134=> ?_) (fun hc134=> ?_)
       ·have e4:rl=4:=by have h:=hc134;simp at h;omega
        refine rn ?_;refine z7 rfl (fun hc137=> ?_) (fun hc137=> ?_)
        ·refine rn ?_;refine rq 2 ?_
         exact ⟨rfl,congrArg bv (by subst e4;rw [zp3 (by omega) hk (by show (!((j3 e)[k].v.k==0||zfd l (j3 e)[k].o (j3 e)[k].v))=true;rw [←zT];exact hc137)])⟩
        ·refine rn ?_;exact ⟨hk,yci hk zk (by first|(subst e4;show (!((j3 e)[k].v.k==0||zfd l (j3 e)[k].o (j3 e)[k].v))=false;rw [←zT];exact hc137)|(subst e5;rw [zkj hw1,bne,←zck];exact hc154)|(subst e5;exact zmz hg31_3)|(subst e6;show ((j3 e).take k).any _=false;rw [ze5,au];rfl)|(exfalso;omega)),eA⟩
       ·have n4:rl≠4:=by intro h;subst h;exact absurd hc134 (by decide)
        refine rn ?_;refine z7 rfl (fun hc138=> ?_) (fun hc138=> ?_)
        ·have e5:rl=5:=by have h:=hc138;simp at h;omega
         refine rn ?_;refine k9 13 rfl ?_
         refine rn ?_;refine zd2 (fun hg31_3=> ?_) (fun hg31_3=> ?_)
         ·try obtain ⟨w,hw1,hw2,hw3⟩:=zxi hg31_3
          refine dq rfl rfl qrA ?_;refine dq rfl rfl qrA ?_;refine dq rfl rfl qrA ?_;first|refine ds rfl rfl ?_|refine dq rfl rfl (zci rfl rfl rfl (by rw [oM];have:=zhb l e.t (j3 e)[k].o;omega)) ?_
          first|refine ds rfl rfl ?_|refine dq rfl rfl (zav rfl rfl hw3 hw2) ?_
          refine rn ?_;refine z7 rfl (fun hc154=> ?_) (fun hc154=> ?_)
          ·refine rn ?_;refine rq 2 ?_
           exact ⟨rfl,congrArg bv (by subst e5;rw [zp3 (by omega) hk (by rw [zkj hw1,bne,←zck];exact hc154)])⟩
          ·refine rn ?_;exact ⟨hk,yci hk zk (by first|(subst e4;show (!((j3 e)[k].v.k==0||zfd l (j3 e)[k].o (j3 e)[k].v))=false;rw [←zT];exact hc137)|(subst e5;rw [zkj hw1,bne,←zck];exact hc154)|(subst e5;exact zmz hg31_3)|(subst e6;show ((j3 e).take k).any _=false;rw [ze5,au];rfl)|(exfalso;omega)),eA⟩
         ·try obtain ⟨w,hw1,hw2,hw3⟩:=zxi hg31_3
          refine rn ?_;refine zfu rfl ?_;refine rn ?_;exact ⟨hk,yci hk zk (by first|(subst e4;show (!((j3 e)[k].v.k==0||zfd l (j3 e)[k].o (j3 e)[k].v))=false;rw [←zT];exact hc137)|(subst e5;rw [zkj hw1,bne,←zck];exact hc154)|(subst e5;exact zmz hg31_3)|(subst e6;show ((j3 e).take k).any _=false;rw [ze5,au];rfl)|(exfalso;omega)),eA⟩
        ·have n5:rl≠5:=by intro h;subst h;exact absurd hc138 (by decide)
         refine rn ?_;refine z7 rfl (fun hc155=> ?_) (fun hc155=> ?_)
         ·have e6:rl=6:=by have h:=hc155;simp at h;omega
          refine rn ?_;refine qv rfl rfl (y1 rfl rfl (u5 (ybo e) (Sbs.refl _))) ?_
          refine q1 ?_;refine qq rfl rfl (zcd (k:=k) rfl rfl (by simp;omega)) ?_
          rw [←List.map_take]
          refine rn ?_;refine zcy (((j3 e).take k).length) (fun u:Nat=>((j3 e).take k).all (fun p:Seen=> !(p.o==(j3 e)[k].o))=(((j3 e).take k).drop u).all (fun p:Seen=> !(p.o==(j3 e)[k].o))) (fun u=> [(162,iv u)]) [(0,_),(2,_),(4,_),(12,_),(89,_),(90,_),(91,_),(160,_),(161,_)] rfl ?_
          intro u lu zu
          refine rn ?_;refine z7 rfl (fun hc163=> ?_) (fun hc163=> ?_)
          ·have hu:=za3 hc163
           have ru:=zal (f:=zam) hu
           have bu:((j3 e).take k).length≤4611686018427387904:=by simp;omega
           refine rn ?_;refine z8 rfl (y3 rfl fun b18=> ?_)
           refine rn ?_;refine z7 rfl (fun hc170=> ?_) (fun hc170=> ?_)
           ·refine rn ?_;refine rq 3 ?_
            exact ⟨rfl,congrArg bv (by subst e6;rw [zp3 (by omega) hk (by show ((j3 e).take k).any _=true;rw [ze5,zt8 hu (by simpa using hc170)];rfl)])⟩
           ·refine rn ?_;exact ⟨hu,zwa hu zu (by simpa using hc170),eA⟩
          ·have qu:=za4 hc163 lu
           have au:=yad qu zu
           refine rn ?_;exact ⟨hk,yci hk zk (by first|(subst e4;show (!((j3 e)[k].v.k==0||zfd l (j3 e)[k].o (j3 e)[k].v))=false;rw [←zT];exact hc137)|(subst e5;rw [zkj hw1,bne,←zck];exact hc154)|(subst e5;exact zmz hg31_3)|(subst e6;show ((j3 e).take k).any _=false;rw [ze5,au];rfl)|(exfalso;omega)),eA⟩
         ·have n6:rl≠6:=by intro h;subst h;exact absurd hc155 (by decide)
          refine rn ?_;exact ⟨hk,yci hk zk (by first|(subst e4;show (!((j3 e)[k].v.k==0||zfd l (j3 e)[k].o (j3 e)[k].v))=false;rw [←zT];exact hc137)|(subst e5;rw [zkj hw1,bne,←zck];exact hc154)|(subst e5;exact zmz hg31_3)|(subst e6;show ((j3 e).take k).any _=false;rw [ze5,au];rfl)|(exfalso;omega)),eA⟩
     ·have qk:=za4 hc92 lk
      refine rn ?_;refine rq 1 ?_
      exact ⟨rfl,congrArg bv (by rw [yfi (by omega) (qk ▸ zk)])⟩
theorem ybu (h:Hist) (rl i:Nat) (h1:1≤rl) (h10:rl≤10) (hi:i < zgv h rl) (la:Lim 1000000 h):y8 Tryz.prog 217 [.agg (w7 h),iv rl,iv i] [] (fun r h'=>h'= []∧r=bv (zg5 h rl i)):=by
 refine z6 Tryz.func217 rfl rfl rfl ?_
 refine rn ?_;refine z8 rfl (w9 rfl rfl rfl fun b3=> ?_)
 refine rn ?_;refine z7 rfl (fun hc8=> ?_) (fun hc8=> ?_)
 ·obtain rfl:rl=7:=by have q:=hc8;simp at q;omega
  have hi2:i < h.ords.length:=hi
  refine rn ?_;refine qv rfl rfl (y1 rfl rfl (u5 (ygn h i hi2 la) (Sbs.refl _))) ?_
  refine rn ?_;refine rq 1 ?_
  exact ⟨rfl,congrArg bv (by exact (zlv hi2).symm)⟩
 ·have n7:rl≠7:=by intro q;subst q;exact absurd hc8 (by decide)
  refine rn ?_;refine z7 rfl (fun hc13=> ?_) (fun hc13=> ?_)
  ·obtain rfl:rl=8:=by have q:=hc13;simp at q;omega
   have hi2:i < h.os.length:=hi
   refine rn ?_;refine qv rfl rfl (y1 rfl rfl (u5 (zy1 h i la) (Sbs.refl _))) ?_
   refine rn ?_;refine rq 1 ?_
   exact ⟨rfl,congrArg bv (by exact (zlv (w:=fun x _=>zop h (x:Int)) hi2).symm)⟩
  ·have n8:rl≠8:=by intro q;subst q;exact absurd hc13 (by decide)
   refine rn ?_;refine z7 rfl (fun hc18=> ?_) (fun hc18=> ?_)
   ·obtain rfl:rl=9:=by have q:=hc18;simp at q;omega
    have hi2:i < h.mats.length:=hi
    refine rn ?_;refine qv rfl rfl (y1 rfl rfl (u5 (ygp h i hi2 la) (Sbs.refl _))) ?_
    refine rn ?_;refine rq 1 ?_
    exact ⟨rfl,congrArg bv (by exact (zlv hi2).symm)⟩
   ·have n9:rl≠9:=by intro q;subst q;exact absurd hc18 (by decide)
    refine rn ?_;refine z7 rfl (fun hc23=> ?_) (fun hc23=> ?_)
    ·obtain rfl:rl=10:=by have q:=hc23;simp at q;omega
     have hi2:i < h.wants.length:=hi
     refine rn ?_;refine qv rfl rfl (y1 rfl rfl (u5 (ymd h i hi2 la) (Sbs.refl _))) ?_
     refine rn ?_;refine rq 1 ?_
     exact ⟨rfl,congrArg bv (by exact (zlv hi2).symm)⟩
    ·have n10:rl≠10:=by intro q;subst q;exact absurd hc23 (by decide)
     have hi2:i < h.evs.length:=by rw [←ycs n7 n8 n9 n10];exact hi
     have ri:=zal (f:=evR) hi2
     have be:=la.evs
     have sc:=la.scans h.evs[i] (List.getElem_mem hi2)
     refine rn ?_;refine k9 10 rfl ?_
     refine dq rfl rfl qrA ?_;refine dq rfl rfl qrA ?_;refine dq rfl rfl qrA ?_;refine dq rfl rfl qrA ?_;refine dq rfl rfl qrA ?_;refine dq rfl rfl qrA ?_;refine dq rfl rfl qrA ?_;refine dq rfl rfl qrA ?_;refine dq rfl rfl qrA ?_;refine dq rfl rfl (zcd (k:=i) rfl rfl (by simp;omega)) ?_
     rw [←List.map_take]
     refine rn ?_;refine qv rfl rfl (y1 rfl rfl (u5 (zy3 rl h.evs[i] (h.evs.take i) h1 (by omega) (by simp;omega) sc) (Sbs.refl _))) ?_
     refine rn ?_;refine rq 1 ?_
     exact ⟨rfl,congrArg bv (by rw [yef n7 n8 n9 n10,zlv hi2])⟩
theorem ygm (h:Hist) (rl:Nat) (h1:1≤rl) (h10:rl≤10) (la:Lim 1000000 h):y8 Tryz.prog 168 [.agg (w7 h),iv rl] [] (fun r h'=>h'= []∧r=iv (zw7 (ze4 h rl))):=by
 refine z6 Tryz.func168 rfl rfl rfl ?_
 refine rn ?_;refine z8 rfl (w9 rfl rfl rfl fun b2=> ?_)
 refine rn0 ?_;refine w8 (y4 ?_)
 refine rn0 ?_;refine zpx (⟨[(5,iv (zgv h rl)),(1,iv rl),(2,pZ b2)],.box b2 28 (w7 h):: [],[]⟩) ?_ ?_
 ·refine rn ?_;refine z7 rfl (fun hc11=> ?_) (fun hc11=> ?_)
  ·obtain rfl:rl=7:=by have q:=hc11;simp at q;omega
   refine rn ?_;first|(rw [ycw];exact es)|(rw [ycv];exact es)|(rw [ycu];exact es)|(rw [zsy];exact es)|(rw [yct n7 n8 n9 n10];exact es)
  ·have n7:rl≠7:=by intro q;subst q;exact absurd hc11 (by decide)
   refine rn ?_;refine z7 rfl (fun hc16=> ?_) (fun hc16=> ?_)
   ·obtain rfl:rl=8:=by have q:=hc16;simp at q;omega
    refine rn ?_;first|(rw [ycw];exact es)|(rw [ycv];exact es)|(rw [ycu];exact es)|(rw [zsy];exact es)|(rw [yct n7 n8 n9 n10];exact es)
   ·have n8:rl≠8:=by intro q;subst q;exact absurd hc16 (by decide)
    refine rn ?_;refine z7 rfl (fun hc21=> ?_) (fun hc21=> ?_)
    ·obtain rfl:rl=9:=by have q:=hc21;simp at q;omega
     refine rn ?_;first|(rw [ycw];exact es)|(rw [ycv];exact es)|(rw [ycu];exact es)|(rw [zsy];exact es)|(rw [yct n7 n8 n9 n10];exact es)
    ·have n9:rl≠9:=by intro q;subst q;exact absurd hc21 (by decide)
     refine rn ?_;refine z7 rfl (fun hc26=> ?_) (fun hc26=> ?_)
     ·obtain rfl:rl=10:=by have q:=hc26;simp at q;omega
      refine rn ?_;first|(rw [ycw];exact es)|(rw [ycv];exact es)|(rw [ycu];exact es)|(rw [zsy];exact es)|(rw [yct n7 n8 n9 n10];exact es)
     ·have n10:rl≠10:=by intro q;subst q;exact absurd hc26 (by decide)
      refine rn ?_;first|(rw [ycw];exact es)|(rw [ycv];exact es)|(rw [ycu];exact es)|(rw [zsy];exact es)|(rw [yct n7 n8 n9 n10];exact es)
 ·refine rn ?_;refine zcy (zgv h rl) (fun k:Nat=>∀j,j < k→zg5 h rl j=false) (fun k=> [(32,iv k)]) [(1,_),(2,_),(31,_)] (fun j q=>absurd q (Nat.not_lt_zero _)) ?_
  intro k lk zk
  refine rn ?_;refine z7 rfl (fun hc33=> ?_) (fun hc33=> ?_)
  ·have hk:k < zgv h rl:=by have q:=hc33;simp at q;omega
   have mb:zgv h rl≤1000000:=yhx la
   refine rn ?_;refine qv rfl rfl (y1 rfl rfl (u5 (ybu h rl k h1 h10 hk la) (Sbs.refl _))) ?_
   refine rn ?_;refine z7 rfl (fun hc38=> ?_) (fun hc38=> ?_)
   ·refine rn ?_;refine rq 1 ?_
    exact ⟨rfl,by rw [yb6 hk hc38 zk];rfl⟩
   ·refine rn ?_;exact ⟨hk,yk5 zk hc38,eA⟩
  ·have qk:k=zgv h rl:=by have q:=hc33;simp at q;omega
   refine rn ?_;refine rq 1 ?_
   exact ⟨rfl,by rw [zzi (qk ▸ zk)];rfl⟩
theorem yb8 {o:Option Nat} (h:decide (zw7 o ≥ 0)=true):∃n,o=some n:=by
 cases o with
 |none=>exact absurd h (by decide)
 |some n=>exact ⟨n,rfl⟩
theorem yb7 {o:Option Nat} (h:decide (zw7 o ≥ 0)=false):o=none:=by
 cases o with
 |none=>rfl
 |some n=>have:=oF h;simp [zw7] at this
theorem zy2 (h:Hist) (la:Lim 1000000 h):y8 Tryz.prog 124 [.agg (w7 h)] [] (fun r h'=>h'= []∧r= .tup [.agg (yvc (za6 (ze4 h) rules10)),bv (za6 (ze4 h) rules10).isSome]):=by
 refine z6 Tryz.func124 rfl rfl rfl ?_
 refine rn ?_;refine z8 rfl (w9 rfl rfl rfl fun b1=> ?_)
 refine z8 rfl (y3 rfl fun b2=> ?_)
 refine rn ?_;refine zif (fun k:Nat=>(1≤k∧k≤11)∧za6 (ze4 h) rules10=za6 (ze4 h) (rules10.drop (k - 1))) (fun k=>⟨[(4,iv k),(1,pZ b1),(2,pZ b2)],(.box b2 158 [iv 0,iv 0]:: .box b1 28 (w7 h):: []),[]⟩) (fun k=>11 - k) 1 ⟨by omega,rfl⟩ es ?_
 rintro k ⟨⟨k1,k3⟩,zk⟩
 refine rn ?_;refine z7 rfl (fun hc7=> ?_) (fun hc7=> ?_)
 ·have k2:k≤10:=by have:=oT hc7;omega
  refine rn ?_;refine qv rfl rfl (y1 rfl rfl (u5 (ygm h k k1 k2 la) (Sbs.refl _))) ?_
  refine rn ?_;refine z7 rfl (fun hc14=> ?_) (fun hc14=> ?_)
  ·refine rn ?_;exact ze0 (.cons _ _ _ _ (.agg _ _ _ _ _ _ _ rfl inferInstance inferInstance inferInstance rfl) (.cons _ _ _ _ (.tmp _ _ rfl) .nil)) (.drop [_,_] _ _) ⟨rfl,by
    obtain ⟨n,hp⟩:=yb8 hc14
    rw [zte k1 k2 zk hp,hp];rfl⟩
  ·refine rn ?_;exact ⟨k+1,⟨by omega,zpj k1 k2 zk (yb7 hc14)⟩,eA,by omega⟩
 ·have k2:11≤k:=by have:=oF hc7;omega
  refine rn ?_;exact ze0 (.cons _ _ _ _ (.agg _ _ _ _ _ _ _ rfl inferInstance inferInstance inferInstance rfl) (.cons _ _ _ _ (.tmp _ _ rfl) .nil)) (.drop [_,_] _ _) ⟨rfl,by rw [zpk k2 k3 zk];rfl⟩
theorem ywd (l:Int):y8 Tryz.prog 215 [iv l] [] (fun r h'=>h'= []∧r=bv (ziq l)):=by
 refine z6 Tryz.func215 rfl rfl rfl ?_
 refine rn ?_;refine w6 (fun hg1_2=> ?_) (fun hg1_2=> ?_)
 ·refine rn ?_;exact j9 rfl (.refl _ _) ⟨rfl,congrArg bv (by first|(simp only [ziq, *,Bool.true_and,Bool.false_and,Bool.and_false,Bool.and_true,Bool.true_or,Bool.or_false,Bool.false_or,Bool.or_true,if_true,if_false,Bool.false_eq_true,Bool.not_true,Bool.not_false];done)|(simp_all [ziq];done)|(simp_all [ziq] <;> omega))⟩
 ·refine rn ?_;exact j9 rfl (.refl _ _) ⟨rfl,congrArg bv (by first|(simp only [ziq, *,Bool.true_and,Bool.false_and,Bool.and_false,Bool.and_true,Bool.true_or,Bool.or_false,Bool.false_or,Bool.or_true,if_true,if_false,Bool.false_eq_true,Bool.not_true,Bool.not_false];done)|(simp_all [ziq];done)|(simp_all [ziq] <;> omega))⟩
theorem bvz3_3893 {a b:Bool} (h:a=b:=by first|(simp only [zs3, *,Bool.true_and,Bool.false_and,Bool.and_false,Bool.and_true,Bool.true_or,Bool.or_false,Bool.false_or,Bool.or_true,if_true,if_false,Bool.false_eq_true,Bool.not_true,Bool.not_false];done)|(simp_all [zs3];done)|(simp_all [zs3] <;> omega)):bv a=bv b:=congrArg bv h
theorem zy5 (c:Int):y8 Tryz.prog 257 [.v (.int .i32 c)] [] (fun r h'=>h'= []∧r=bv (zs3 c)):=by
 refine z6 Tryz.func257 rfl rfl rfl ?_
 refine rn ?_;refine w6 (fun hg1_2=> ?_) (fun hg1_2=> ?_)
 ·refine rn ?_;refine w6 (fun hg1_6=> ?_) (fun hg1_6=> ?_)
  ·refine rn ?_;exact j9 rfl (.refl _ _) ⟨rfl,bvz3_3893⟩
  ·refine rn ?_;refine w6 (fun hg1_9=> ?_) (fun hg1_9=> ?_)
   ·refine rn ?_;refine w6 (fun hg1_14=> ?_) (fun hg1_14=> ?_)
    ·refine rn ?_;exact j9 rfl (.refl _ _) ⟨rfl,bvz3_3893⟩
    ·refine rn ?_;refine w6 (fun hg1_18=> ?_) (fun hg1_18=> ?_)
     ·refine rn ?_;exact j9 rfl (.refl _ _) ⟨rfl,bvz3_3893⟩
     ·refine rn ?_;exact j9 rfl (.refl _ _) ⟨rfl,bvz3_3893⟩
   ·refine rn ?_;refine w6 (fun hg1_18=> ?_) (fun hg1_18=> ?_)
    ·refine rn ?_;exact j9 rfl (.refl _ _) ⟨rfl,bvz3_3893⟩
    ·refine rn ?_;exact j9 rfl (.refl _ _) ⟨rfl,bvz3_3893⟩
 ·refine rn ?_;refine w6 (fun hg1_9=> ?_) (fun hg1_9=> ?_)
  ·refine rn ?_;refine w6 (fun hg1_14=> ?_) (fun hg1_14=> ?_)
   ·refine rn ?_;exact j9 rfl (.refl _ _) ⟨rfl,bvz3_3893⟩
   ·refine rn ?_;refine w6 (fun hg1_18=> ?_) (fun hg1_18=> ?_)
    ·refine rn ?_;exact j9 rfl (.refl _ _) ⟨rfl,bvz3_3893⟩
    ·refine rn ?_;exact j9 rfl (.refl _ _) ⟨rfl,bvz3_3893⟩
  ·refine rn ?_;refine w6 (fun hg1_18=> ?_) (fun hg1_18=> ?_)
   ·refine rn ?_;exact j9 rfl (.refl _ _) ⟨rfl,bvz3_3893⟩
   ·refine rn ?_;exact j9 rfl (.refl _ _) ⟨rfl,bvz3_3893⟩
theorem zsh (c:Int):y8 Tryz.prog 258 [.v (.int .i32 c)] [] (fun r h'=>h'= []∧r=bv (zkb c)):=by
 refine z6 Tryz.func258 rfl rfl rfl ?_
 refine rn ?_;refine w6 (fun hg1_2=> ?_) (fun hg1_2=> ?_)
 ·refine rn ?_;exact j9 rfl (.refl _ _) ⟨rfl,congrArg bv (by first|(simp only [zkb, *,Bool.true_and,Bool.false_and,Bool.and_false,Bool.and_true,Bool.true_or,Bool.or_false,Bool.false_or,Bool.or_true,if_true,if_false,Bool.false_eq_true,Bool.not_true,Bool.not_false];done)|(simp_all [zkb];done)|(simp_all [zkb] <;> omega))⟩
 ·refine rn ?_;exact j9 rfl (.refl _ _) ⟨rfl,congrArg bv (by first|(simp only [zkb, *,Bool.true_and,Bool.false_and,Bool.and_false,Bool.and_true,Bool.true_or,Bool.or_false,Bool.false_or,Bool.or_true,if_true,if_false,Bool.false_eq_true,Bool.not_true,Bool.not_false];done)|(simp_all [zkb];done)|(simp_all [zkb] <;> omega))⟩
theorem yql {f:Bool} (h:Hist) (l:List Int) (hl:l.length≤4611686018427387904):y8 Tryz.prog 165 [.agg (w7 h),.list f 1 (l.map zac)] [] (fun r h'=>h'= []∧r=bv (zgq h l)):=by
 refine z6 Tryz.func165 rfl rfl rfl ?_
 refine rn ?_;refine z8 rfl (w9 rfl rfl rfl fun b2=> ?_)
 refine rn ?_;refine zaa (fun k:Nat=>k≤l.length∧l.all (fun t=>isB t h.ts.length)=(l.drop k).all (fun t=>isB t h.ts.length)) (fun k=>⟨[(9,iv k),(8,iv (l.map zac).length),(7,.list f 1 (l.map zac)),(1,.list f 1 (l.map zac)),(2,pZ b2)],[.box b2 28 (w7 h)],[]⟩) (fun k=>l.length - k) 0 ⟨Nat.zero_le _,by simp⟩
  (v6 (.cons _ _ _ rfl (.cons _ _ _ rfl (.cons _ _ _ rfl (.cons _ _ _ rfl (.cons _ _ _ rfl (.nil))))))) ?_
 rintro k ⟨hk,hz⟩
 refine rn ?_;refine z7 rfl (fun hc10=> ?_) (fun hc10=> ?_)
 ·have hk2:k < l.length:=by simpa using hc10
  have hrow:(l.map zac)[k]? =some (zac l[k]):=by simp [hk2]
  have hd:=List.drop_eq_getElem_cons hk2
  refine rn ?_;refine qv rfl rfl (y1 rfl rfl (u5 (zij _ _) (Sbs.refl _))) ?_
  refine rn ?_;refine z7 rfl (fun hc18=> ?_) (fun hc18=> ?_)
  ·have hx:isB l[k] h.ts.length=false:=by simpa using hc18
   refine rn ?_;exact j9 rfl (.drop [_] _ _) ⟨rfl,congrArg bv (by rw [zgq,hz,hd,List.all_cons,hx,Bool.false_and];rfl)⟩
  ·have hx:isB l[k] h.ts.length=true:=by simpa using hc18
   refine rn ?_;exact ⟨k+1,⟨by omega,by rw [hz,hd,List.all_cons,hx,Bool.true_and]⟩,(v6 (.cons _ _ _ rfl (.cons _ _ _ rfl (.cons _ _ _ rfl (.cons _ _ _ rfl (.cons _ _ _ rfl (.nil))))))),by omega⟩
 ·have hk3:k=l.length:=by
   have:l.length≤k:=by simpa using hc10
   omega
  refine rn ?_;exact j9 rfl (.drop [_] _ _) ⟨rfl,congrArg bv (by rw [zgq,hz,hk3,List.drop_length];simp)⟩
end Go.Proofs
