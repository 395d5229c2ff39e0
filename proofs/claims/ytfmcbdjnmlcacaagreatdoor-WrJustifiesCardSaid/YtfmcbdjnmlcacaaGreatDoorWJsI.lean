/- The walk of history.spoken, reading. Conditions: none. -/
import Derived.Test.YtfmcbdjnmlcacaaGreatDoorWJsH
set_option maxHeartbeats 4000000
set_option linter.unusedSectionVars false
set_option linter.unusedSimpArgs false
set_option linter.unusedVariables false
set_option maxRecDepth 10000
namespace Go.Proofs
open Go Go.Ab
attribute [local irreducible] QR QV OE zcr aw zdc zdn zbj zcg thn zff
open Go.H
theorem zyp {σ:Type} (step:σ→Nat×Int→Option σ) (ok:Nat×Int→Prop) (IJ:Option σ→List Res→Prop) (y:AV) (hy:∀(s:σ) (L:List Res) (sort:Nat) (n:Int) (cells:List AV),ok (sort,n)→IJ (some s) L→y0 Tryz.prog y [iv sort,.pp (iv n::cells)] L (fun r h'=>r=bv (step s (sort,n)).isSome∧IJ (step s (sort,n)) h')) (sort:Nat) (n:Int) (hs:ok (sort,n)) (cells:List AV) (bm by_:Nat) (st:Option σ) (L:List Res) (hI:IJ st L):y7 Tryz.prog 202 [iv sort,.pp (iv n::cells),pZ bm,pZ by_] (.box bm 4 [bv (st).isSome]:: .box by_ 239 [y]::L) (fun r h'=>∃L',IJ (goes step st [(sort,n)]) L'∧h'= .box bm 4 [bv (goes step st [(sort,n)]).isSome]:: .box by_ 239 [y]::L'):=by
 refine z6 Tryz.func202 rfl rfl rfl ?_
 refine rn ?_;refine w7 (fun hg0_1=> ?_) (fun hg0_1=> ?_)
 ·refine rn ?_;obtain ⟨s,rfl⟩:=Option.isSome_iff_exists.1 hg0_1
  refine z8 rfl (v2 rfl rfl (y0.fr2 (hy s L sort n cells hs hI)) rfl ?_)
  rintro _ _ ⟨L2,rfl,rfl,hI2⟩
  refine rn ?_;first
   |exact zd2 .nil (.refl _ _) ⟨L2,hI2,rfl⟩
   |(obtain rfl:=Option.not_isSome_iff_eq_none.1 (show ¬st.isSome=true by simp [hg0_1])
     exact zd2 .nil (.refl _ _) ⟨L,hI,rfl⟩)
 ·refine rn ?_;first
   |exact zd2 .nil (.refl _ _) ⟨L2,hI2,rfl⟩
   |(obtain rfl:=Option.not_isSome_iff_eq_none.1 (show ¬st.isSome=true by simp [hg0_1])
     exact zd2 .nil (.refl _ _) ⟨L,hI,rfl⟩)
theorem ynl {σ:Type} (step:σ→Nat×Int→Option σ) (ok:Nat×Int→Prop) (IJ:Option σ→List Res→Prop) (y:AV) (hy:∀(s:σ) (L:List Res) (sort:Nat) (n:Int) (cells:List AV),ok (sort,n)→IJ (some s) L→y0 Tryz.prog y [iv sort,.pp (iv n::cells)] L (fun r h'=>r=bv (step s (sort,n)).isSome∧IJ (step s (sort,n)) h')) (v:Ver) (hv:∀x∈zg0 v,ok x) (cells:List AV) (bs bm by_:Nat) (st:Option σ) (L:List Res) (hI:IJ st L):y7 Tryz.prog 203 [.pp (iv v.t::iv v.k::cells),pZ bs] (.box bs 240 [.fn (.func 202) [] [pZ bm,pZ by_]]:: .box bm 4 [bv (st).isSome]:: .box by_ 239 [y]::L) (fun r h'=>∃L',IJ (goes step st (zg0 v)) L'∧h'= .box bs 240 [.fn (.func 202) [] [pZ bm,pZ by_]]:: .box bm 4 [bv (goes step st (zg0 v)).isSome]:: .box by_ 239 [y]::L'):=by
 refine z6 Tryz.func203 rfl rfl rfl ?_
 refine rn ?_;refine z7 rfl (fun hc7=> ?_) (fun hc7=> ?_)
 ·refine j4 4 rfl ?_
  refine rn ?_;refine z8 rfl (v2 rfl rfl (y0.fr1 (y0.of_acall (fs:= []) (cs:= [pZ bm,pZ by_]) (zyp step ok IJ y hy 0 v.t (hv _ (by rw [zg0,if_pos hc7];simp)) (iv v.k::cells) bm by_ _ _ hI))) rfl ?_)
  rintro _ _ ⟨_,rfl,L2,hI2,rfl⟩
  refine rn ?_;first
   |(have hm:zg0 v= [(0,v.t)]:=by rw [zg0,if_pos hc7]
     rw [hm];exact zd2 .nil (.refl _ _) ⟨L2,hI2,rfl⟩)
   |(have hm:zg0 v= []:=by rw [zg0,if_neg (by rw [hc7];decide)]
     rw [hm];exact zd2 .nil (.refl _ _) ⟨L,hI,rfl⟩)
 ·refine rn ?_;first
   |(have hm:zg0 v= [(0,v.t)]:=by rw [zg0,if_pos hc7]
     rw [hm];exact zd2 .nil (.refl _ _) ⟨L2,hI2,rfl⟩)
   |(have hm:zg0 v= []:=by rw [zg0,if_neg (by rw [hc7];decide)]
     rw [hm];exact zd2 .nil (.refl _ _) ⟨L,hI,rfl⟩)
theorem ylx {σ:Type} (step:σ→Nat×Int→Option σ) (ok:Nat×Int→Prop) (IJ:Option σ→List Res→Prop) (y:AV) (hone:y.cellsOf=some [y]) (hy:∀(s:σ) (L:List Res) (sort:Nat) (n:Int) (cells:List AV),ok (sort,n)→IJ (some s) L→y0 Tryz.prog y [iv sort,.pp (iv n::cells)] L (fun r h'=>r=bv (step s (sort,n)).isSome∧IJ (step s (sort,n)) h')) (h:Hist) (la:Lim 4611686018427387904 h) (b1 bh:Nat) (hok:∀x∈zc5 h,ok x) (s0:σ) (L0:List Res) (h0:IJ (some s0) L0):y7 Tryz.prog 201 [y,pZ b1] (.box b1 184 [pZ bh]:: .box bh 28 (y9 h)::L0) (fun r h'=>∃L',IJ (goes step (some s0) (zc5 h)) L'∧h'= .box b1 184 [pZ bh]:: .box bh 28 (y9 h)::L'):=by
 refine z6 Tryz.func201 rfl rfl rfl ?_
 refine rn ?_;refine z8 rfl (w8 rfl hone rfl fun by_=> ?_)
 refine rn ?_;refine z8 rfl (y5 rfl fun bm=> ?_)
 refine rn ?_;refine z8 rfl (y5 rfl fun bs=> ?_)
 refine rn ?_;refine zab (fun x:Nat×Option σ×List Res=>x.1≤h.evs.length∧IJ x.2.1 x.2.2∧Rem step ok x.2.1 (((h.evs.drop x.1).flatMap evL)++(h.ords.flatMap yj7++(h.mats.flatMap yfn++h.wants.flatMap yak))) (goes step (some s0) (zc5 h))) (fun x=>⟨[(22,iv x.1),(21,iv (h.evs.map evR).length),(1,pZ b1),(4,pZ bs),(5,.fn (.func 203) [] [pZ bs])],.box b1 184 [pZ bh]:: .box bh 28 (y9 h):: .box bs 240 [.fn (.func 202) [] [pZ bm,pZ by_]]:: .box bm 4 [bv (x.2.1).isSome]:: .box by_ 239 [y]::x.2.2,[]⟩) (fun x=>h.evs.length - x.1) (0,some s0,L0) ⟨by omega,h0,rfl,hok⟩
  (v8 (zbd ((pt3 _ _ _ _ _).trans (.cons _ (pt3 _ _ _ _ _)))) (v7 (.cons _ _ _ rfl (.cons _ _ _ rfl (.cons _ _ _ rfl (.cons _ _ _ rfl (.cons _ _ _ rfl (.nil)))))))) ?_
 rintro ⟨k,st,L⟩ ⟨hk,hI,hF⟩
 simp only at hk hI hF
 refine rn ?_;refine z7 rfl (fun hc23=> ?_) (fun hc23=> ?_)
 ·have k2:k < h.evs.length:=by simpa using hc23
  obtain ⟨e,he⟩:∃e,e=h.evs[k]:=⟨_,rfl⟩
  have hrowe:(h.evs.map evR)[k]? =some (evR e):=by rw [he];simp [k2]
  have hde:=List.drop_eq_getElem_cons k2
  rw [hde,←he] at hF
  simp only [List.flatMap_cons,evL,List.cons_append,List.append_assoc] at hF
  obtain ⟨hx,hF⟩:=hF.cons
  obtain ⟨hkx,hF⟩:=hF.app
  have hle:=la.evs
  have hls:=la.scans e (by rw [he];simp)
  refine rn ?_;refine j4 4 rfl ?_
  refine rn ?_;refine z8 rfl (v2 rfl rfl (y0.fr3 (y0.of_acall (fs:= []) (cs:= [pZ bm,pZ by_]) (zyp step ok IJ y hy 0 e.t hx _ bm by_ _ _ hI))) rfl ?_)
  rintro _ _ ⟨_,rfl,L,hI,rfl⟩
  refine rn0 ?_;refine zv4 (fun L=>IJ (goes step (goes step st [(0,e.t)]) (zg2 e)) L) (fun L=>⟨[(7,.pp (evR e)),(22,iv k),(21,iv (h.evs.map evR).length),(1,pZ b1),(4,pZ bs),(5,.fn (.func 203) [] [pZ bs])],.box b1 184 [pZ bh]:: .box bh 28 (y9 h):: .box bs 240 [.fn (.func 202) [] [pZ bm,pZ by_]]:: .box bm 4 [bv (goes step (goes step st [(0,e.t)]) (zg2 e)).isSome]:: .box by_ 239 [y]::L,[]⟩) ?_ ?_
  ·refine rn ?_;refine z7 rfl (fun hc40=> ?_) (fun hc40=> ?_)
   ·have hkl:=yc8 (e:=e) (by simpa using hc40)
    refine j4 4 rfl ?_
    refine rn ?_;refine z8 rfl (v2 rfl rfl (y0.fr3 (y0.of_acall (fs:= []) (cs:= [pZ bm,pZ by_]) (zyp step ok IJ y hy 1 e.s (hkx _ (by rw [hkl];simp)) _ bm by_ _ _ hI))) rfl ?_)
    rintro _ _ ⟨_,rfl,L,hI,rfl⟩
    refine rn ?_;refine ⟨L,?_,?_⟩
    ·show IJ (goes step _ (zg2 e)) L
     rw [hkl];exact hI
    ·rw [hkl];exact (v7 (.cons _ _ _ rfl (.cons _ _ _ rfl (.cons _ _ _ rfl (.cons _ _ _ rfl (.cons _ _ _ rfl (.cons _ _ _ rfl (.nil))))))))
   ·have hn1:e.kind≠1:=by simpa using hc40
    refine rn ?_;refine z7 rfl (fun hc47=> ?_) (fun hc47=> ?_)
    ·have hk23:e.kind=2∨e.kind=3:=by simp at hc47;omega
     have hkl:=znr hk23
     refine rn ?_;refine z7 rfl (fun hc47=> ?_) (fun hc47=> ?_)
     ·have hk23:e.kind=2∨e.kind=3:=by simp at hc47;omega
      have hkl:=znr hk23
      refine rn ?_;refine j4 4 rfl ?_
      refine rn ?_;refine z8 rfl (v2 rfl rfl (y0.fr3 (y0.of_acall (fs:= []) (cs:= [pZ bm,pZ by_]) (zyp step ok IJ y hy 2 e.o (hkx _ (by rw [hkl];simp)) _ bm by_ _ _ hI))) rfl ?_)
      rintro _ _ ⟨_,rfl,L,hI,rfl⟩
      refine rn ?_;refine z8 rfl (v2 rfl rfl (y0.fr2 (y0.of_acall (fs:= []) (cs:= [pZ bs]) (ynl step ok IJ y hy e.v (fun x hx=>hkx x (by rw [hkl];simp [hx])) _ bs bm by_ _ _ hI))) rfl ?_)
      rintro _ _ ⟨_,rfl,L,hI,rfl⟩
      refine rn ?_;refine ⟨L,?_,?_⟩
      ·show IJ (goes step _ (zg2 e)) L
       rw [hkl];exact hI
      ·rw [hkl];exact (v7 (.cons _ _ _ rfl (.cons _ _ _ rfl (.cons _ _ _ rfl (.cons _ _ _ rfl (.cons _ _ _ rfl (.cons _ _ _ rfl (.nil))))))))
     ·first|cases hc47|exact absurd hc47 (by decide)|(exfalso;simp_all;done)
    ·have hn23:=hc47
     simp at hn23
     refine rn ?_;refine z7 rfl (fun hc47=> ?_) (fun hc47=> ?_)
     ·have hk23:e.kind=2∨e.kind=3:=by simp at hc47;omega
      have hkl:=znr hk23
      refine rn ?_;refine j4 4 rfl ?_
      refine rn ?_;refine z8 rfl (v2 rfl rfl (y0.fr3 (y0.of_acall (fs:= []) (cs:= [pZ bm,pZ by_]) (zyp step ok IJ y hy 2 e.o (hkx _ (by rw [hkl];simp)) _ bm by_ _ _ hI))) rfl ?_)
      rintro _ _ ⟨_,rfl,L,hI,rfl⟩
      refine rn ?_;refine z8 rfl (v2 rfl rfl (y0.fr2 (y0.of_acall (fs:= []) (cs:= [pZ bs]) (ynl step ok IJ y hy e.v (fun x hx=>hkx x (by rw [hkl];simp [hx])) _ bs bm by_ _ _ hI))) rfl ?_)
      rintro _ _ ⟨_,rfl,L,hI,rfl⟩
      refine rn ?_;refine ⟨L,?_,?_⟩
      ·show IJ (goes step _ (zg2 e)) L
       rw [hkl];exact hI
      ·rw [hkl];exact (v7 (.cons _ _ _ rfl (.cons _ _ _ rfl (.cons _ _ _ rfl (.cons _ _ _ rfl (.cons _ _ _ rfl (.cons _ _ _ rfl (.nil))))))))
     ·have hn23:=hc47
      simp at hn23
      refine rn ?_;refine z7 rfl (fun hc60=> ?_) (fun hc60=> ?_)
      ·have hkl:=yc7 (e:=e) (by simpa using hc60)
       refine j4 4 rfl ?_
       refine rn ?_;refine z8 rfl (v2 rfl rfl (y0.fr3 (y0.of_acall (fs:= []) (cs:= [pZ bm,pZ by_]) (zyp step ok IJ y hy 3 e.p (hkx _ (by rw [hkl];simp)) _ bm by_ _ _ hI))) rfl ?_)
       rintro _ _ ⟨_,rfl,L,hI,rfl⟩
       refine rn ?_;refine ⟨L,?_,?_⟩
       ·show IJ (goes step _ (zg2 e)) L
        rw [hkl];exact hI
       ·rw [hkl];exact (v7 (.cons _ _ _ rfl (.cons _ _ _ rfl (.cons _ _ _ rfl (.cons _ _ _ rfl (.cons _ _ _ rfl (.cons _ _ _ rfl (.nil))))))))
      ·have hn4:e.kind≠4:=by simpa using hc60
       have hkl:=yc9 (e:=e) hn1 (by omega) (by omega) hn4
       refine rn ?_;refine ⟨L,?_,?_⟩
       ·show IJ (goes step _ (zg2 e)) L
        rw [hkl];exact hI
       ·rw [hkl];exact (v7 (.cons _ _ _ rfl (.cons _ _ _ rfl (.cons _ _ _ rfl (.cons _ _ _ rfl (.cons _ _ _ rfl (.cons _ _ _ rfl (.nil))))))))
  ·rintro L hI
   revert hI hF
   generalize goes step (goes step st [(0,e.t)]) (zg2 e)=st2
   intro hF hI
   refine rn ?_;refine zab (fun x:Nat×Option σ×List Res=>x.1≤e.scan.length∧IJ x.2.1 x.2.2∧Rem step ok x.2.1 (((e.scan.drop x.1).flatMap zui)++(((h.evs.drop (k+1)).flatMap evL)++(h.ords.flatMap yj7++(h.mats.flatMap yfn++h.wants.flatMap yak)))) (goes step (some s0) (zc5 h))) (fun x=>⟨[(72,iv x.1),(71,iv (e.scan.map zah).length),(7,.pp (evR e)),(22,iv k),(21,iv (h.evs.map evR).length),(1,pZ b1),(4,pZ bs),(5,.fn (.func 203) [] [pZ bs])],.box b1 184 [pZ bh]:: .box bh 28 (y9 h):: .box bs 240 [.fn (.func 202) [] [pZ bm,pZ by_]]:: .box bm 4 [bv (x.2.1).isSome]:: .box by_ 239 [y]::x.2.2,[]⟩) (fun x=>e.scan.length - x.1) (0,st2,L) ⟨by omega,hI,hF⟩
    (v7 (.cons _ _ _ rfl (.cons _ _ _ rfl (.cons _ _ _ rfl (.cons _ _ _ rfl (.cons _ _ _ rfl (.cons _ _ _ rfl (.cons _ _ _ rfl (.cons _ _ _ rfl (.nil)))))))))) ?_
   rintro ⟨j,st,L⟩ ⟨hj,hI,hF⟩
   simp only at hj hI hF
   refine rn ?_;refine z7 rfl (fun hc73=> ?_) (fun hc73=> ?_)
   ·have j2:j < e.scan.length:=by simpa using hc73
    obtain ⟨x,hx⟩:∃x,x=e.scan[j]:=⟨_,rfl⟩
    have hrowx:(e.scan.map zah)[j]? =some (zah x):=by rw [hx];simp [j2]
    have hdx:=List.drop_eq_getElem_cons j2
    rw [hdx,←hx] at hF
    simp only [List.flatMap_cons,zui,List.cons_append,List.append_assoc] at hF
    obtain ⟨hx,hF⟩:=hF.cons
    obtain ⟨hkx,hF⟩:=hF.app
    refine rn ?_;refine j4 8 rfl ?_
    refine rn ?_;refine z8 rfl (v2 rfl rfl (y0.fr3 (y0.of_acall (fs:= []) (cs:= [pZ bm,pZ by_]) (zyp step ok IJ y hy 2 x.o hx _ bm by_ _ _ hI))) rfl ?_)
    rintro _ _ ⟨_,rfl,L,hI,rfl⟩
    refine rn ?_;refine z8 rfl (v2 rfl rfl (y0.fr2 (y0.of_acall (fs:= []) (cs:= [pZ bs]) (ynl step ok IJ y hy x.v hkx _ bs bm by_ _ _ hI))) rfl ?_)
    rintro _ _ ⟨_,rfl,L,hI,rfl⟩
    refine rn ?_;exact ⟨(j+1,_,L),⟨by omega,hI,hF⟩,(v7 (.cons _ _ _ rfl (.cons _ _ _ rfl (.cons _ _ _ rfl (.cons _ _ _ rfl (.cons _ _ _ rfl (.cons _ _ _ rfl (.cons _ _ _ rfl (.cons _ _ _ rfl (.nil)))))))))),by simp only;omega⟩
   ·obtain rfl:j=e.scan.length:=by
     have:e.scan.length≤j:=by simpa using hc73
     omega
    rw [List.drop_length,List.flatMap_nil,List.nil_append] at hF
    refine rn ?_;exact ⟨(k+1,_,L),⟨by omega,hI,hF⟩,(v7 (.cons _ _ _ rfl (.cons _ _ _ rfl (.cons _ _ _ rfl (.cons _ _ _ rfl (.cons _ _ _ rfl (.nil))))))),by simp only;omega⟩
 ·obtain rfl:k=h.evs.length:=by
   have:h.evs.length≤k:=by simpa using hc23
   omega
  rw [List.drop_length,List.flatMap_nil,List.nil_append] at hF
  refine rn ?_;refine zab (fun x:Nat×Option σ×List Res=>x.1≤h.ords.length∧IJ x.2.1 x.2.2∧Rem step ok x.2.1 (((h.ords.drop x.1).flatMap yj7)++(h.mats.flatMap yfn++h.wants.flatMap yak)) (goes step (some s0) (zc5 h))) (fun x=>⟨[(100,iv x.1),(99,iv (h.ords.map zez).length),(1,pZ b1),(4,pZ bs),(5,.fn (.func 203) [] [pZ bs])],.box b1 184 [pZ bh]:: .box bh 28 (y9 h):: .box bs 240 [.fn (.func 202) [] [pZ bm,pZ by_]]:: .box bm 4 [bv (x.2.1).isSome]:: .box by_ 239 [y]::x.2.2,[]⟩) (fun x=>h.ords.length - x.1) (0,st,L) ⟨by omega,hI,hF⟩
   (v7 (.cons _ _ _ rfl (.cons _ _ _ rfl (.cons _ _ _ rfl (.cons _ _ _ rfl (.cons _ _ _ rfl (.nil))))))) ?_
  rintro ⟨k,st,L⟩ ⟨hk,hI,hF⟩
  simp only at hk hI hF
  refine rn ?_;refine z7 rfl (fun hc101=> ?_) (fun hc101=> ?_)
  ·have k2:k < h.ords.length:=by simpa using hc101
   obtain ⟨r,hr⟩:∃r,r=h.ords[k]:=⟨_,rfl⟩
   have hrowr:(h.ords.map zez)[k]? =some (zez r):=by rw [hr];simp [k2]
   have hdr:=List.drop_eq_getElem_cons k2
   rw [hdr,←hr] at hF
   simp only [List.flatMap_cons,yj7,List.cons_append,List.append_assoc] at hF
   obtain ⟨hx,hF⟩:=hF.cons
   have hle:=la.ords
   have hls:=la.ordts r (by rw [hr];simp)
   refine rn ?_;refine j4 8 rfl ?_
   refine rn ?_;refine z8 rfl (v2 rfl rfl (y0.fr3 (y0.of_acall (fs:= []) (cs:= [pZ bm,pZ by_]) (zyp step ok IJ y hy 2 r.o hx _ bm by_ _ _ hI))) rfl ?_)
   rintro _ _ ⟨_,rfl,L,hI,rfl⟩
   refine rn ?_;refine zab (fun x:Nat×Option σ×List Res=>x.1≤r.ts.length∧IJ x.2.1 x.2.2∧Rem step ok x.2.1 (((r.ts.drop x.1).map fun t=>((0:Nat),t))++(((h.ords.drop (k+1)).flatMap yj7)++(h.mats.flatMap yfn++h.wants.flatMap yak))) (goes step (some s0) (zc5 h))) (fun x=>⟨[(121,iv x.1),(120,iv (r.ts.map zai).length),(9,iv k),(100,iv k),(99,iv (h.ords.map zez).length),(1,pZ b1),(4,pZ bs),(5,.fn (.func 203) [] [pZ bs])],.box b1 184 [pZ bh]:: .box bh 28 (y9 h):: .box bs 240 [.fn (.func 202) [] [pZ bm,pZ by_]]:: .box bm 4 [bv (x.2.1).isSome]:: .box by_ 239 [y]::x.2.2,[]⟩) (fun x=>r.ts.length - x.1) (0,_,L) ⟨by omega,hI,hF⟩
    (v7 (.cons _ _ _ rfl (.cons _ _ _ rfl (.cons _ _ _ rfl (.cons _ _ _ rfl (.cons _ _ _ rfl (.cons _ _ _ rfl (.cons _ _ _ rfl (.cons _ _ _ rfl (.nil)))))))))) ?_
   rintro ⟨j,st,L⟩ ⟨hj,hI,hF⟩
   simp only at hj hI hF
   refine rn ?_;refine z7 rfl (fun hc122=> ?_) (fun hc122=> ?_)
   ·have j2:j < r.ts.length:=by simpa using hc122
    obtain ⟨t,ht⟩:∃t,t=r.ts[j]:=⟨_,rfl⟩
    have hrowt:(r.ts.map zai)[j]? =some (zai t):=by rw [ht];simp [j2]
    have hdt:=List.drop_eq_getElem_cons j2
    rw [hdt,←ht] at hF
    simp only [List.map_cons,List.cons_append] at hF
    obtain ⟨hx,hF⟩:=hF.cons
    refine rn ?_;refine j4 11 rfl ?_
    refine rn ?_;refine z8 rfl (v2 rfl rfl (y0.fr3 (y0.of_acall (fs:= []) (cs:= [pZ bm,pZ by_]) (zyp step ok IJ y hy 0 t hx _ bm by_ _ _ hI))) rfl ?_)
    rintro _ _ ⟨_,rfl,L,hI,rfl⟩
    refine rn ?_;exact ⟨(j+1,_,L),⟨by omega,hI,hF⟩,(v7 (.cons _ _ _ rfl (.cons _ _ _ rfl (.cons _ _ _ rfl (.cons _ _ _ rfl (.cons _ _ _ rfl (.cons _ _ _ rfl (.cons _ _ _ rfl (.cons _ _ _ rfl (.nil)))))))))),by simp only;omega⟩
   ·obtain rfl:j=r.ts.length:=by
     have:r.ts.length≤j:=by simpa using hc122
     omega
    rw [List.drop_length,List.map_nil,List.nil_append] at hF
    refine rn ?_;exact ⟨(k+1,_,L),⟨by omega,hI,hF⟩,(v7 (.cons _ _ _ rfl (.cons _ _ _ rfl (.cons _ _ _ rfl (.cons _ _ _ rfl (.cons _ _ _ rfl (.nil))))))),by simp only;omega⟩
  ·obtain rfl:k=h.ords.length:=by
    have:h.ords.length≤k:=by simpa using hc101
    omega
   rw [List.drop_length,List.flatMap_nil,List.nil_append] at hF
   refine rn ?_;refine zab (fun x:Nat×Option σ×List Res=>x.1≤h.mats.length∧IJ x.2.1 x.2.2∧Rem step ok x.2.1 (((h.mats.drop x.1).flatMap yfn)++h.wants.flatMap yak) (goes step (some s0) (zc5 h))) (fun x=>⟨[(143,iv x.1),(142,iv (h.mats.map zeq).length),(1,pZ b1),(4,pZ bs),(5,.fn (.func 203) [] [pZ bs])],.box b1 184 [pZ bh]:: .box bh 28 (y9 h):: .box bs 240 [.fn (.func 202) [] [pZ bm,pZ by_]]:: .box bm 4 [bv (x.2.1).isSome]:: .box by_ 239 [y]::x.2.2,[]⟩) (fun x=>h.mats.length - x.1) (0,st,L) ⟨by omega,hI,hF⟩
    (v7 (.cons _ _ _ rfl (.cons _ _ _ rfl (.cons _ _ _ rfl (.cons _ _ _ rfl (.cons _ _ _ rfl (.nil))))))) ?_
   rintro ⟨k,st,L⟩ ⟨hk,hI,hF⟩
   simp only at hk hI hF
   refine rn ?_;refine z7 rfl (fun hc144=> ?_) (fun hc144=> ?_)
   ·have k2:k < h.mats.length:=by simpa using hc144
    obtain ⟨r,hr⟩:∃r,r=h.mats[k]:=⟨_,rfl⟩
    have hrowr:(h.mats.map zeq)[k]? =some (zeq r):=by rw [hr];simp [k2]
    have hdr:=List.drop_eq_getElem_cons k2
    rw [hdr,←hr] at hF
    simp only [List.flatMap_cons,yfn,List.cons_append,List.append_assoc] at hF
    obtain ⟨hx,hF⟩:=hF.cons
    obtain ⟨hx2,hF⟩:=hF.cons
    have hle:=la.mats
    have hls:=la.matts r (by rw [hr];simp)
    refine rn ?_;refine j4 4 rfl ?_
    refine rn ?_;refine z8 rfl (v2 rfl rfl (y0.fr3 (y0.of_acall (fs:= []) (cs:= [pZ bm,pZ by_]) (zyp step ok IJ y hy 3 r.p hx _ bm by_ _ _ hI))) rfl ?_)
    rintro _ _ ⟨_,rfl,L,hI,rfl⟩
    refine rn ?_;refine j4 4 rfl ?_
    refine rn ?_;refine z8 rfl (v2 rfl rfl (y0.fr3 (y0.of_acall (fs:= []) (cs:= [pZ bm,pZ by_]) (zyp step ok IJ y hy 2 r.o hx2 _ bm by_ _ _ hI))) rfl ?_)
    rintro _ _ ⟨_,rfl,L,hI,rfl⟩
    refine rn ?_;refine zab (fun x:Nat×Option σ×List Res=>x.1≤r.ts.length∧IJ x.2.1 x.2.2∧Rem step ok x.2.1 (((r.ts.drop x.1).map fun t=>((0:Nat),t))++(((h.mats.drop (k+1)).flatMap yfn)++h.wants.flatMap yak)) (goes step (some s0) (zc5 h))) (fun x=>⟨[(167,iv x.1),(166,iv (r.ts.map zai).length),(12,.pp (zeq r)),(143,iv k),(142,iv (h.mats.map zeq).length),(1,pZ b1),(4,pZ bs),(5,.fn (.func 203) [] [pZ bs])],.box b1 184 [pZ bh]:: .box bh 28 (y9 h):: .box bs 240 [.fn (.func 202) [] [pZ bm,pZ by_]]:: .box bm 4 [bv (x.2.1).isSome]:: .box by_ 239 [y]::x.2.2,[]⟩) (fun x=>r.ts.length - x.1) (0,_,L) ⟨by omega,hI,hF⟩
     (v7 (.cons _ _ _ rfl (.cons _ _ _ rfl (.cons _ _ _ rfl (.cons _ _ _ rfl (.cons _ _ _ rfl (.cons _ _ _ rfl (.cons _ _ _ rfl (.cons _ _ _ rfl (.nil)))))))))) ?_
    rintro ⟨j,st,L⟩ ⟨hj,hI,hF⟩
    simp only at hj hI hF
    refine rn ?_;refine z7 rfl (fun hc168=> ?_) (fun hc168=> ?_)
    ·have j2:j < r.ts.length:=by simpa using hc168
     obtain ⟨t,ht⟩:∃t,t=r.ts[j]:=⟨_,rfl⟩
     have hrowt:(r.ts.map zai)[j]? =some (zai t):=by rw [ht];simp [j2]
     have hdt:=List.drop_eq_getElem_cons j2
     rw [hdt,←ht] at hF
     simp only [List.map_cons,List.cons_append] at hF
     obtain ⟨hx,hF⟩:=hF.cons
     refine rn ?_;refine j4 7 rfl ?_
     refine rn ?_;refine z8 rfl (v2 rfl rfl (y0.fr3 (y0.of_acall (fs:= []) (cs:= [pZ bm,pZ by_]) (zyp step ok IJ y hy 0 t hx _ bm by_ _ _ hI))) rfl ?_)
     rintro _ _ ⟨_,rfl,L,hI,rfl⟩
     refine rn ?_;exact ⟨(j+1,_,L),⟨by omega,hI,hF⟩,(v7 (.cons _ _ _ rfl (.cons _ _ _ rfl (.cons _ _ _ rfl (.cons _ _ _ rfl (.cons _ _ _ rfl (.cons _ _ _ rfl (.cons _ _ _ rfl (.cons _ _ _ rfl (.nil)))))))))),by simp only;omega⟩
    ·obtain rfl:j=r.ts.length:=by
      have:r.ts.length≤j:=by simpa using hc168
      omega
     rw [List.drop_length,List.map_nil,List.nil_append] at hF
     refine rn ?_;exact ⟨(k+1,_,L),⟨by omega,hI,hF⟩,(v7 (.cons _ _ _ rfl (.cons _ _ _ rfl (.cons _ _ _ rfl (.cons _ _ _ rfl (.cons _ _ _ rfl (.nil))))))),by simp only;omega⟩
   ·obtain rfl:k=h.mats.length:=by
     have:h.mats.length≤k:=by simpa using hc144
     omega
    rw [List.drop_length,List.flatMap_nil,List.nil_append] at hF
    refine rn ?_;refine zab (fun x:Nat×Option σ×List Res=>x.1≤h.wants.length∧IJ x.2.1 x.2.2∧Rem step ok x.2.1 (((h.wants.drop x.1).flatMap yak)++ []) (goes step (some s0) (zc5 h))) (fun x=>⟨[(185,iv x.1),(184,iv (h.wants.map zf4).length),(1,pZ b1),(4,pZ bs),(5,.fn (.func 203) [] [pZ bs])],.box b1 184 [pZ bh]:: .box bh 28 (y9 h):: .box bs 240 [.fn (.func 202) [] [pZ bm,pZ by_]]:: .box bm 4 [bv (x.2.1).isSome]:: .box by_ 239 [y]::x.2.2,[]⟩) (fun x=>h.wants.length - x.1) (0,st,L) ⟨by omega,hI,by rw [List.append_nil];exact hF⟩
     (v7 (.cons _ _ _ rfl (.cons _ _ _ rfl (.cons _ _ _ rfl (.cons _ _ _ rfl (.cons _ _ _ rfl (.nil))))))) ?_
    rintro ⟨k,st,L⟩ ⟨hk,hI,hF⟩
    simp only at hk hI hF
    refine rn ?_;refine z7 rfl (fun hc186=> ?_) (fun hc186=> ?_)
    ·have k2:k < h.wants.length:=by simpa using hc186
     obtain ⟨r,hr⟩:∃r,r=h.wants[k]:=⟨_,rfl⟩
     have hrowr:(h.wants.map zf4)[k]? =some (zf4 r):=by rw [hr];simp [k2]
     have hdr:=List.drop_eq_getElem_cons k2
     rw [hdr,←hr] at hF
     simp only [List.flatMap_cons,yak,List.cons_append,List.append_assoc,List.nil_append] at hF
     obtain ⟨hx,hF⟩:=hF.cons
     have hle:=la.wants
     refine rn ?_;refine j4 8 rfl ?_
     refine rn ?_;refine z8 rfl (v2 rfl rfl (y0.fr3 (y0.of_acall (fs:= []) (cs:= [pZ bm,pZ by_]) (zyp step ok IJ y hy 1 r.s hx _ bm by_ _ _ hI))) rfl ?_)
     rintro _ _ ⟨_,rfl,L,hI,rfl⟩
     refine rn ?_;exact ⟨(k+1,_,L),⟨by omega,hI,hF⟩,(v7 (.cons _ _ _ rfl (.cons _ _ _ rfl (.cons _ _ _ rfl (.cons _ _ _ rfl (.cons _ _ _ rfl (.nil))))))),by simp only;omega⟩
    ·obtain rfl:k=h.wants.length:=by
      have:h.wants.length≤k:=by simpa using hc186
      omega
     rw [List.drop_length,List.flatMap_nil,List.nil_append] at hF
     refine rn ?_;have hF':st=goes step (some s0) (zc5 h):=hF.fin
     exact zd2 .nil (.trans (.perm ((pt2 _ _ _ _).trans (.cons _ ((pt2 _ _ _ _).trans (.cons _ (pt2 _ _ _ _))))) _) (.drop [_,_,_] _ _)) ⟨L,hF' ▸ hI,rfl⟩
theorem spoken (bh:Nat) (h:List Res):y7 Tryz.prog 141 [pZ bh] h (fun r h'=>∃b1,h'= .box b1 184 [pZ bh]::h∧r= .fn (.func 201) [] [pZ b1]):=by
 refine z6 Tryz.func141 rfl rfl rfl ?_
 refine rn ?_;refine z8 rfl (w8 rfl rfl rfl fun b1=> ?_)
 refine rn ?_;exact j9 rfl (.refl _ _) ⟨_,rfl,rfl⟩
def IJC (lp:LP) (q b2 b3:Nat):Option (List Int)→List Res→Prop
 |some m,L=>L=lp .ready none:: .defs q:: .box b3 156 ((m).map iv):: .box b2 33 [iv 0]:: [.glob 2 156 y3,.glob 4 305 y4,.glob 5 308 y1]∧m.length=4
 |none,L=>∃m:List Int,L=lp .done (some .ret):: .defs q:: .box b3 156 ((m).map iv):: .box b2 33 [iv 210]:: [.glob 2 156 y3,.glob 4 305 y4,.glob 5 308 y1]
theorem ysm (h:Hist) (la:Lim 4611686018427387904 h):y7 Tryz.prog 93 [.agg (y9 h)] [.glob 2 156 y3,.glob 4 305 y4,.glob 5 308 y1] (fun r h'=>h'= [.glob 2 156 y3,.glob 4 305 y4,.glob 5 308 y1]∧r=iv (zd8 h)):=by
 refine z6 Tryz.func93 rfl rfl rfl ?_
 refine rn ?_;refine z8 rfl (w8 rfl rfl rfl fun b1=> ?_)
 refine z8 rfl (y5 rfl fun b2=> ?_)
 refine rn ?_;refine qv rfl rfl (y2 rfl rfl (y0.qt (y0.of_fun (ypq h la)) ((pt2 _ _ _ _).trans (.cons _ ((pt2 _ _ _ _).trans (.cons _ (pt2 _ _ _ _))))))) ?_
 refine rn ?_;refine z7 rfl (fun hc10=> ?_) (fun hc10=> ?_)
 ·have hs:zae h=false:=ycm hc10
  refine rn ?_;exact zef (.cons _ _ _ _ (.one _ _ _ _ _ _ _ rfl inferInstance inferInstance rfl) .nil) (.drop [_,_] _ _) ⟨rfl,congrArg iv (yi2 hs).symm⟩
 ·have hs:zae h=true:=ycn hc10
  refine rn ?_;refine z8 rfl (y5 rfl fun b3=> ?_)
  refine rn ?_;refine z8 rfl (v2 rfl rfl (y0.of_fun (spoken b1 _)) rfl ?_)
  rintro _ _ ⟨b1',rfl,rfl⟩
  refine rn ?_;refine zl9 (fun pend h''=>(pend=none∧∃m:List Int,zow h=some m∧m.length=4∧h''= .box b1' 184 [pZ b1]:: .box b1 28 (y9 h):: .box b3 156 ((m).map iv):: .box b2 33 [iv 0]:: [.glob 2 156 y3,.glob 4 305 y4,.glob 5 308 y1])∨(pend=some .ret∧zow h=none∧∃m:List Int,h''= .box b1' 184 [pZ b1]:: .box b1 28 (y9 h):: .box b3 156 ((m).map iv):: .box b2 33 [iv 210]:: [.glob 2 156 y3,.glob 4 305 y4,.glob 5 308 y1])) rfl (fun fn l q lp hlp=> ?_) (fun q h'' hK=> ?_) (fun q h'' c hK=> ?_)
  ·suffices hy:∀(s:List Int) (L:List Res) (sort:Nat) (n:Int) (cells:List AV),OkN h (sort,n)→IJC lp q b2 b3 (some s) L→y0 Tryz.prog (yv l) [iv sort,.pp (iv n::cells)] L (fun r h'=>r=bv (zbc s (sort,n)).isSome∧IJC lp q b2 b3 (zbc s (sort,n)) h') by
    refine y7.mono (y7.perm ((pt2 _ _ _ _).trans (.cons _ (pt4 _ _ _ _ _ _))) (ylx zbc (OkN h) (IJC lp q b2 b3) (yv l) rfl hy h la b1' b1 (zr8 hs) [0,0,0,0] _ ⟨rfl,rfl⟩)) ?_
    rintro _ _ ⟨L',hI,rfl⟩
    cases hm:goes zbc (some [0,0,0,0]) (zc5 h) with
    |some m=>
     rw [hm] at hI
     obtain ⟨rfl,hl⟩:=hI
     exact ⟨_,_,_,((pt2 _ _ _ _).trans (.cons _ (pt2 _ _ _ _))),by simp,.inl ⟨rfl,m,hm,hl,rfl⟩⟩
    |none=>
     rw [hm] at hI
     obtain ⟨m,rfl⟩:=hI
     exact ⟨_,_,_,((pt2 _ _ _ _).trans (.cons _ (pt2 _ _ _ _))),by simp,.inr ⟨rfl,hm,m,rfl⟩⟩
   rintro m _ sort n cells ⟨hs4,hn0,hn1⟩ ⟨rfl,hl⟩
   simp only at hs4 hn0 hn1
   have hnm:=la.nm sort
   refine zxs hlp rfl rfl ?_
   refine rn ?_;refine ⟨[(4,iv sort),(5,.pp (iv n::cells)),(3,pZ b3),(2,pZ b2)],(v7 (.cons _ _ _ rfl (.cons _ _ _ rfl (.cons _ _ _ rfl (.cons _ _ _ rfl (.nil)))))),?_⟩
   refine rn ?_;refine j4 6 rfl ?_
   refine dq rfl rfl qrA ?_;refine dq rfl rfl qrA ?_;refine dq rfl rfl qrA ?_;refine dq rfl rfl qrA ?_;refine dq rfl rfl (zav rfl rfl hs4) ?_
   refine dq rfl rfl (zap rfl (yu3 hl hs4)) ?_
   refine rn ?_;refine z7 rfl (fun hc20=> ?_) (fun hc20=> ?_)
   ·refine rn ?_;have hst:zbc m (sort,n)=none:=by rw [zbc];exact if_pos (by simpa using hc20)
    exact zqu (.refl _) (by rw [hst];exact ⟨rfl,_,rfl⟩)
   ·refine rn ?_;refine j4 9 rfl ?_
    refine dq rfl rfl qrA ?_;refine dq rfl rfl qrA ?_;refine dq rfl rfl (zav rfl rfl hs4) ?_
    refine dq rfl rfl (zap rfl (yu3 hl hs4)) ?_
    refine rn2 ?_;refine qq rfl rfl (zav rfl rfl hs4) ?_
    refine z8 rfl (zak rfl rfl rfl rfl (by simp [hl];omega) ?_)
    refine rn ?_;have hst:zbc m (sort,n)=some (m.set sort (max (m.getD sort 0) (n+1))):=by rw [zbc];exact if_neg (by simpa using hc20)
    exact zdg (.refl _) (by rw [hst];exact ⟨rfl,by rw [←ywi hl hs4];rfl,by simpa using hl⟩)
  ·obtain ⟨_,m,hm,hl,rfl⟩|⟨hc,_⟩:=hK
   rotate_left
   ·cases hc
   refine rn ?_;refine qv rfl rfl (y2 rfl rfl (u3 (ym7 _) (Sbs.refl _))) ?_
   refine rn ?_;refine zab (fun k:Nat=>k≤4∧∀j,j < k→m.getD j 0=(nmK h j).length) (fun k=>⟨[(33,iv k),(32,.agg (zlp h)),(3,pZ b3),(2,pZ b2)],.defs q:: .box b1' 184 [pZ b1]:: .box b1 28 (y9 h):: .box b3 156 ((m).map iv):: .box b2 33 [iv 0]:: [.glob 2 156 y3,.glob 4 305 y4,.glob 5 308 y1],[q]⟩) (fun k=>4 - k) 0 ⟨by omega,fun j hj=>absurd hj (Nat.not_lt_zero j)⟩
    (v7 (.cons _ _ _ rfl (.cons _ _ _ rfl (.cons _ _ _ rfl (.cons _ _ _ rfl (.nil)))))) ?_
   rintro k ⟨hk,hz⟩
   refine rn ?_;refine z7 rfl (fun hc34=> ?_) (fun hc34=> ?_)
   ·have hk4:k < 4:=by simp at hc34;omega
    refine za7 ?_;refine zac ?_;refine w9 ?_;refine zb9 ?_;refine w9 (y6 ?_)
    refine q1 ?_;refine qq rfl rfl (zct rfl rfl (by omega) (by have:=yco h hk4;simpa using this)) ?_
    refine q1 ?_;refine q1 ?_;refine u4 (zac ?_)
    refine w9 (y6 ?_)
    refine q1 ?_;refine qq rfl rfl (zav rfl rfl hk4) ?_
    refine qq rfl rfl (zap rfl (yu3 hl hk4)) ?_
    refine rn ?_;refine z7 rfl (fun hc42=> ?_) (fun hc42=> ?_)
    ·refine rn ?_;exact zhu (.refl _) (.cons _ _ _ _ (.one _ _ _ _ _ _ _ rfl inferInstance inferInstance rfl) .nil) (.drop [_,_,_,_] _ _) ⟨rfl,congrArg iv (yi3 hm hk4 (by simpa using hc42)).symm⟩
    ·refine rn ?_;exact ⟨k+1,⟨by omega,fun j hj=>by
      by_cases hjk:j=k
      ·subst hjk;simpa using hc42
      ·exact hz j (by omega)⟩,(v7 (.cons _ _ _ rfl (.cons _ _ _ rfl (.cons _ _ _ rfl (.cons _ _ _ rfl (.nil)))))),by omega⟩
   ·have hk4:k=4:=by simp at hc34;omega
    subst hk4
    refine rn ?_;exact zhu (.refl _) (.cons _ _ _ _ (.one _ _ _ _ _ _ _ rfl inferInstance inferInstance rfl) .nil) (.drop [_,_,_,_] _ _) ⟨rfl,congrArg iv (yi4 hs hm hl hz).symm⟩
  ·obtain ⟨hc,_⟩|⟨hc,hm,m,rfl⟩:=hK
   ·cases hc
   obtain rfl:c= .ret:=by simpa using hc
   refine rn ?_;exact zhu (.refl _) (.cons _ _ _ _ (.one _ _ _ _ _ _ _ rfl inferInstance inferInstance rfl) .nil) (.drop [_,_,_,_] _ _) ⟨rfl,congrArg iv (zzv hm).symm⟩
attribute [local irreducible] zeb jch zfn
def q7:List AV:= [.any,.fn (.func 300) [] [],.fn (.func 307) [] [],.fn (.func 308) [] [],.fn (.func 309) [] [],.fn (.func 310) [] [],.fn (.func 311) [] [],.fn (.func 312) [] [],.fn (.func 313) [] [],.fn (.func 314) [] [],.fn (.func 315) [] []]
def ytk (k:Nat):AV:=q7.getD k .any
theorem yop {k:Nat} (h2:k≤10):q7[k]? =some (ytk k):=by
 have:k < q7.length:=by show k < 11;omega
 rw [ytk,List.getD_eq_getElem?_getD,List.getElem?_eq_getElem this];rfl
theorem yjb (h:Hist) (la:Lim 3000 h) (b:Nat) (G:List Res) {k:Nat} (h1:1≤k) (h2:k≤10):y0 Tryz.prog (ytk k) [pZ b] (.box b 252 (zcd h)::G) (fun r h'=>h'=G∧r=zbt (zcy h k)):=by
 match k,h1,h2 with
 |1,_,_=>exact y0.of_acall (fs:= []) (cs:= []) (yqn h la b G)
 |2,_,_=>exact y0.of_acall (fs:= []) (cs:= []) (yws h la b G)
 |3,_,_=>exact y0.of_acall (fs:= []) (cs:= []) (yql h la b G)
 |4,_,_=>exact y0.of_acall (fs:= []) (cs:= []) (yg0 h la b G)
 |5,_,_=>exact y0.of_acall (fs:= []) (cs:= []) (ywo h la b G)
 |6,_,_=>exact y0.of_acall (fs:= []) (cs:= []) (yub h la b G)
 |7,_,_=>exact y0.of_acall (fs:= []) (cs:= []) (yqf h la b G)
 |8,_,_=>exact y0.of_acall (fs:= []) (cs:= []) (yg3 h la b G)
 |9,_,_=>exact y0.of_acall (fs:= []) (cs:= []) (yqi h la b G)
 |10,_,_=>exact y0.of_acall (fs:= []) (cs:= []) (yt9 h la b G)
 |k+11,_,h2=>omega
theorem ymz {o:Option Nat} {i:Int} {b:Bool} (h:zbt o= .tup [iv i,bv b]):i=ywv o∧b=o.isSome:=by
 cases o with
 |none=>simp only [zbt,AV.tup.injEq,List.cons.injEq,AV.v.injEq,Value.int.injEq,Value.bool.injEq,true_and,and_true] at h;exact ⟨h.1.symm,h.2.symm⟩
 |some n=>simp only [zbt,AV.tup.injEq,List.cons.injEq,AV.v.injEq,Value.int.injEq,Value.bool.injEq,true_and,and_true] at h;exact ⟨h.1.symm,h.2.symm⟩
theorem zq4 {h:Hist} (hm:zfs h=true):Lim 3000 h:=by
 unfold zfs at hm;simp only [Bool.and_eq_true] at hm;exact zo7 hm.1
theorem yqk (h:Hist) (la:Lim 4611686018427387904 h):y7 Tryz.prog 143 [.agg (y9 h)] [.glob 2 156 y3,.glob 4 305 y4,.glob 5 308 y1,.glob 3 246 q7] (fun r h'=>h'= [.glob 2 156 y3,.glob 4 305 y4,.glob 5 308 y1,.glob 3 246 q7]∧r=zik h):=by
 refine z6 Tryz.func143 rfl rfl rfl ?_
 refine rn ?_;refine z8 rfl (w8 rfl rfl rfl fun b1=> ?_)
 refine z8 rfl (y5 rfl fun b2=> ?_)
 refine rn ?_;refine qv rfl rfl (y2 rfl rfl (y0.qt (y0.of_fun (ysm h la)) ((pt2 _ _ _ _).trans (.cons _ ((pt2 _ _ _ _).trans (.cons _ (pt2 _ _ _ _))))))) ?_
 refine rn ?_;refine z7 rfl (fun hc12=> ?_) (fun hc12=> ?_)
 ·have hm:¬zfs h=true:=by intro q;rw [zd8,if_pos q] at hc12;cases hc12
  have he:zd8 h=210:=by rw [zd8,if_neg hm]
  refine rn ?_;exact zef (.cons _ _ _ _ (.agg _ _ _ _ _ _ _ rfl inferInstance inferInstance inferInstance rfl) (.cons _ _ _ _ (.tmp _ _ rfl) (.cons _ _ _ _ (.tmp _ _ rfl) .nil))) (.drop [_,_] _ _) ⟨rfl,by rw [zik,if_neg hm,he];rfl⟩
 ·have hm:zfs h=true:=yeo.1 (by simpa using hc12)
  have la3:=zq4 hm
  refine rn ?_;refine zmy (fun k:Nat=>(1≤k∧k≤11)∧zba (zcy h) rules10=zba (zcy h) (rules10.drop (k - 1))) (fun k=>⟨[(6,iv k),(1,pZ b1),(2,pZ b2)],(.box b2 158 [iv 0,iv 0]:: .box b1 28 (y9 h):: .glob 2 156 y3:: .glob 4 305 y4:: .glob 5 308 y1:: .glob 3 246 q7:: []),[]⟩) (fun k=>11 - k) 1 ⟨by omega,rfl⟩ es ?_
  rintro k ⟨⟨k1,k3⟩,zk⟩
  obtain ⟨pi,pb,hpv⟩:∃i b,zbt (zcy h k)= .tup [iv i,bv b]:=zd3 _
  obtain ⟨ei,eb⟩:=ymz hpv
  refine rn ?_;refine z7 rfl (fun hc16=> ?_) (fun hc16=> ?_)
  ·have k2:k≤10:=by have:=oT hc16;omega
   refine za7 ?_;refine rn0 ?_;refine w9 ?_;refine zb9 ?_;refine w9 ?_;refine zio 11 [5,6] [7,8,9,10] (fun he=>he=(.box b2 158 [iv 0,iv 0]:: .box b1 28 (y9 h):: .glob 2 156 y3:: .glob 4 305 y4:: .glob 5 308 y1:: .glob 3 246 q7:: [])∨∃b,he= .box b 252 (zcd h)::(.box b2 158 [iv 0,iv 0]:: .box b1 28 (y9 h):: .glob 2 156 y3:: .glob 4 305 y4:: .glob 5 308 y1:: .glob 3 246 q7:: [])) rfl rfl (.inl rfl) ?_
   refine jq rfl (fun he hC=>by rcases hC with rfl|⟨b,rfl⟩ <;> exact qrA) ?_
   refine jq rfl (fun he hC=>by rcases hC with rfl|⟨b,rfl⟩ <;> exact (by exact zav rfl rfl (by show k < 11;omega))) ?_
   refine jq rfl (fun he hC=>by rcases hC with rfl|⟨b,rfl⟩ <;> exact (by exact zap rfl (show q7[0+k * 1]? =some (ytk k) by rw [Nat.zero_add,Nat.mul_one];exact yop k2))) ?_
   refine jq rfl (fun he hC=>by rcases hC with rfl|⟨b,rfl⟩ <;> exact qrA) ?_
   refine jq rfl (fun he hC=>by rcases hC with rfl|⟨b,rfl⟩ <;> exact (by exact j6 (out:=zcd h) rfl (by rfl))) ?_
   refine je rfl ?_;refine je rfl ?_;refine je rfl ?_;refine je rfl ?_;refine je rfl ?_;refine je rfl ?_;refine ynn ?_;refine jce rfl fun u=> ?_
   refine w8 rfl rfl rfl fun b5=>⟨_,_,rfl,.inr ⟨_,rfl⟩,?_⟩
   refine jce rfl fun u=> ?_
   refine v2 rfl rfl (yjb h la3 b5 _ k1 k2) rfl ?_
   rintro _ _ ⟨rfl,rfl⟩
   rw [hpv]
   refine ⟨_,_,rfl,.inl rfl,?_⟩
   refine jcn ?_;refine lq rfl rfl (by exact qrA) ?_
   refine lq rfl rfl (by exact qrA) ?_
   refine lq rfl rfl (by exact qrA) ?_
   refine lq rfl rfl (by exact qrA) ?_
   refine ln ?_;refine rn ?_;refine z7 rfl (fun hc29=> ?_) (fun hc29=> ?_)
   ·refine rn ?_;exact zef (.cons _ _ _ _ (.agg _ _ _ _ _ _ _ rfl inferInstance inferInstance inferInstance rfl) (.cons _ _ _ _ (.tmp _ _ rfl) (.cons _ _ _ _ (.tmp _ _ rfl) .nil))) (.drop [_,_] _ _) ⟨rfl,by
     cases hp:zcy h k with
     |none=>rw [hp] at eb;rw [eb] at hc29;cases hc29
     |some n=>rw [hp] at ei;subst ei;rw [zik,if_pos hm,zkf,zs6 k1 k2 zk hp];rfl⟩
   ·refine rn ?_;exact ⟨k+1,⟨by omega,zps k1 k2 zk (by cases hp:zcy h k with|none=>rfl|some n=>rw [hp] at eb;rw [eb] at hc29;cases hc29)⟩,eA,by omega⟩
  ·have k2:11≤k:=by have:=oF hc16;omega
   refine rn ?_;exact zef (.cons _ _ _ _ (.agg _ _ _ _ _ _ _ rfl inferInstance inferInstance inferInstance rfl) (.cons _ _ _ _ (.tmp _ _ rfl) (.cons _ _ _ _ (.tmp _ _ rfl) .nil))) (.drop [_,_] _ _) ⟨rfl,by rw [zik,if_pos hm,zkf,zpt k2 k3 zk];rfl⟩
theorem yqa (h:Hist) (la:Lim 4611686018427387904 h):y7 Tryz.prog 94 [.agg (y9 h)] [.glob 2 156 y3,.glob 4 305 y4,.glob 5 308 y1,.glob 3 246 q7] (fun r h'=>h'= [.glob 2 156 y3,.glob 4 305 y4,.glob 5 308 y1,.glob 3 246 q7]∧r=bv (zar h)):=by
 refine z6 Tryz.func94 rfl rfl rfl ?_
 refine rn ?_;refine z8 rfl (w8 rfl rfl rfl fun b1=> ?_)
 refine q1 ?_;refine u4 (zac ?_)
 refine w9 (y6 ?_)
 obtain ⟨fi,fj,fb,fe,hf,hfb⟩:=zs7 h
 refine rn ?_;refine qv rfl rfl (y2 rfl rfl (y0.qt (y0.of_fun (yqk h la)) ((pt1 _ _ _).trans (.cons _ ((pt1 _ _ _).trans (.cons _ ((pt1 _ _ _).trans (.cons _ (pt1 _ _ _))))))))) ?_
 rw [hf]
 refine rn ?_;refine z8 rfl (y5 rfl fun b3=> ?_)
 refine rn ?_;refine w7 (fun hg2_2=> ?_) (fun hg2_2=> ?_)
 ·refine rn ?_;refine rq 2 ?_
  exact ⟨rfl,congrArg bv (by rw [hfb];simp_all)⟩
 ·refine rn ?_;refine rq 2 ?_
  exact ⟨rfl,congrArg bv (by rw [hfb];simp_all)⟩
end Go.Proofs
set_option maxRecDepth 100000
namespace Go.Proofs.YtfmcbdjnmlcacaaGreatDoor
open Go Go.Ab Go.H
def yoo:DataW Unit:=match (Rows.laid_yardarm_rules_asks:DataW Unit) with| .iface _ d=>d|d=>d
def ycp:List (List UInt8):=match yoo with| .agg ds=>ds.map (fun d=>match d with| .iface _ (.lit (.string b))=>b|_=> [])|_=> []
def nm (k:Nat):List UInt8:=ycp.getD (k+1) []
theorem ye1:yoo.funcsOut= .agg (.nil::(ycp.drop 1).map .held):=by kernel_rfl
theorem yie {w:World} {c:Array Value} {T0:TypeId} {fr:Nat×Nat} {g:Nat} {T:TypeId} {vs:List AV} (hh:w.heap[g]? =some (.cells c T0 fr)) (hl:vs.length=c.size) (h:∀j (h1:j < vs.length) (h2:j < c.size),Rel w noX vs[j] c[j]):(Res.glob g T vs).holds w noX:=
 ⟨fun h=>h,(Array.getElem?_eq_some_iff.1 hh).1,c,T0,fr,hh,hl,fun j h1 h2=>h j h1 h2⟩
theorem yr0 (w:World) (f:Nat):Rel w noX (.fn (.func f) [] []) (.func (.func f) #[] #[]):= .fn _ _ _ _ _ rfl rfl (fun j h=>absurd h (Nat.not_lt_zero _)) (fun j h=>absurd h (Nat.not_lt_zero _))
def fnA:List Nat:= [300,307,308,309,310,311,312,313,314,315]
theorem yja (k:Nat) (hk:k < 10):∃b r,ycp[k+1]? =some (b::r)∧((List.range Tryz.prog.funcs.size).filter fun f=>(Tryz.prog.funcs[f]?).any (·.name.toUTF8.data.toList==b::r))= [fnA.getD k 0]∧q7[k+1]? =some (.fn (.func (fnA.getD k 0)) [] []):=by
 match k,hk with
 |0,_=>exact ⟨(nm 0).headD 0,(nm 0).tail,by kernel_rfl,by kernel_rfl,by kernel_rfl⟩
 |1,_=>exact ⟨(nm 1).headD 0,(nm 1).tail,by kernel_rfl,by kernel_rfl,by kernel_rfl⟩
 |2,_=>exact ⟨(nm 2).headD 0,(nm 2).tail,by kernel_rfl,by kernel_rfl,by kernel_rfl⟩
 |3,_=>exact ⟨(nm 3).headD 0,(nm 3).tail,by kernel_rfl,by kernel_rfl,by kernel_rfl⟩
 |4,_=>exact ⟨(nm 4).headD 0,(nm 4).tail,by kernel_rfl,by kernel_rfl,by kernel_rfl⟩
 |5,_=>exact ⟨(nm 5).headD 0,(nm 5).tail,by kernel_rfl,by kernel_rfl,by kernel_rfl⟩
 |6,_=>exact ⟨(nm 6).headD 0,(nm 6).tail,by kernel_rfl,by kernel_rfl,by kernel_rfl⟩
 |7,_=>exact ⟨(nm 7).headD 0,(nm 7).tail,by kernel_rfl,by kernel_rfl,by kernel_rfl⟩
 |8,_=>exact ⟨(nm 8).headD 0,(nm 8).tail,by kernel_rfl,by kernel_rfl,by kernel_rfl⟩
 |9,_=>exact ⟨(nm 9).headD 0,(nm 9).tail,by kernel_rfl,by kernel_rfl,by kernel_rfl⟩
theorem yuz {w:World} (h:laidMetH Tryz.prog zq7 w):(Res.glob 3 246 q7).holds w noX:=by
 obtain ⟨g,t,cs,fuel,p,hg,ht,hv,hd⟩:=h.funcs (n:= "yardarm/rules.asks") (d:=yoo) (.tail _ (.tail _ (.head _)))
 obtain rfl:=Option.some.inj ((show Tryz.prog.globalNamed "yardarm/rules.asks" =some 3 by kernel_rfl).symm.trans hg)
 obtain rfl:=Option.some.inj ((show (Tryz.prog.globals[3]?).map (·.type)=some 246 by kernel_rfl).symm.trans ht)
 rw [ye1] at hd
 have c1:Tryz.prog.cellsOf 245=1:=by kernel_rfl
 have c11:Tryz.prog.cellsOf 246=11:=by kernel_rfl
 have hlen:cs.toList.length=11:=by
  obtain ⟨_,_,_,_,hl,_⟩:=DataW.trod_array Tryz.underlying246 hd
  rw [hl,c11]
 unfold World.var? at hv
 rw [hg] at hv
 simp only [Option.bind_some] at hv
 split at hv
 ·rename_i c T0 fr hh
  cases hv
  refine yie hh (by rw [show q7.length=11 from rfl];simpa using hlen.symm) fun j h1 h2=> ?_
  cases j with
  |zero=>exact .any _
  |succ k=>
   have hk:k < 10:=by have:q7.length=11:=rfl;omega
   obtain ⟨b,r,hn,hone,ha⟩:=yja k hk
   obtain ⟨f',d,q,e1,e2⟩:=Lib.array_elem Tryz.underlying246 hd (k+1) (by omega)
   have e1':d= .held (b::r):=by
    rw [List.getElem?_cons_succ,List.getElem?_map,List.getElem?_drop,Nat.add_comm 1 k,hn] at e1
    exact (Option.some.inj e1).symm
   subst e1'
   rw [c1,Nat.mul_one,List.drop_eq_getElem_cons (by simpa using h2),List.take_succ_cons,List.take_zero] at e2
   have:=func_of_trod (f0:=fnA.getD k 0) Tryz.underlying245 hone e2
   rw [Array.getElem_toList] at this
   rw [this,show q7[k+1]= .fn (.func (fnA.getD k 0)) [] [] from Option.some.inj ((List.getElem?_eq_getElem h1).symm.trans ha)]
   exact yr0 _ _
 ·cases hv
theorem zzj {W:World} (h:laidMetH Tryz.prog zq7 W):HRel noX W [.glob 2 156 y3,.glob 4 305 y4,.glob 5 308 y1,.glob 3 246 q7]:=by
 obtain ⟨a,b,c,d⟩:=yc6 h
 have hO:OO [.glob 2 156 y3,.glob 4 305 y4,.glob 5 308 y1] noX=noX:=yvp
 have hO':OO [.glob 2 156 y3,.glob 4 305 y4,.glob 5 308 y1,.glob 3 246 q7] noX=noX:=by funext b;simp [OO,k8,noX,Res.own]
 refine ⟨by simp [k8,Res.own],fun b hb=>by simp [k8,Res.own] at hb,fun b hb=>hb.elim,fun r hr=> ?_⟩
 rw [hO']
 rw [hO] at d
 simp only [List.mem_cons,List.not_mem_nil,or_false] at hr
 rcases hr with rfl|rfl|rfl|rfl
 ·exact d _ (by simp)
 ·exact d _ (by simp)
 ·exact d _ (by simp)
 ·exact yuz h
theorem ys3:OO [.glob 2 156 y3,.glob 4 305 y4,.glob 5 308 y1,.glob 3 246 q7] noX=noX:=by funext b;simp [OO,k8,noX,Res.own]
end Go.Proofs.YtfmcbdjnmlcacaaGreatDoor
namespace Go.Proofs
open Go Go.Ab
open Go.H
def ygq (l:List Int):List AV:= [zaq l]
theorem yj0 {P:Program} {h:List Res} {f:Operand→Option AV} {o:Oper} {b c:Bool} (hq:QR P h f o (.v (.bool b))) (e:b=c):QR P h f o (.v (.bool c)):=by subst e;exact hq
theorem nzT {a:Int} (h:(a !=0)=true):a≠0:=by simpa using h
theorem nzF {a:Int} (h:(a !=0)=false):a=0:=by simpa using h
theorem zvy (l:List Ev):(zdd l).length≤l.length:=by rw [zdd,(zcx _).length_eq,oM];exact List.length_filter_le _ _
def dnM (l:List Int):List (Int×Bool):=zsb (fun _:Int=>true) (fun t:Int=>t) [] l
theorem ysi {l:List Int} {k:Nat} (hk:k < l.length):dnM (l.take (k+1))=zdw l[k] true (dnM (l.take k)):=by
 rw [dnM,dnM,zsb,zsb,List.take_succ_eq_append_getElem hk,List.foldl_append];rfl
theorem zf1 (l:List Ev) (t:Int):(za9 t (dnM (zdd l))).getD false=ze6 l t 5:=by
 rw [dnM,zgp]
 cases hq:ze6 l t 5 with
 |true=>rw [if_pos (by rw [List.any_eq_true];exact ⟨t,zkk.2 hq,by simp⟩)];rfl
 |false=>
  rw [if_neg (fun q=>by
   obtain ⟨x,hx,e⟩:=List.any_eq_true.1 q
   have e:x=t:=by simpa using e
   rw [e,zkk,hq] at hx;cases hx)]
  rfl
def evD (l:List Ev) (n:Int):Ev:=(l[n.toNat]?).getD ⟨0,0,0,0,0,⟨0,0⟩,0,[]⟩
theorem ztc {l:List Ev} {a:Nat} (ha:a < l.length):evD l (a:Int)=l[a]:=by rw [evD,Int.toNat_natCast,List.getElem?_eq_getElem ha];rfl
def zed (h:Hist) (n:Int):Int:=if v6 h=0 then (if 0≤n∧n < h.evs.length∧(evD h.evs n).kind=4 then 0 else 2) else v6 h
def zo6 (h:Hist) (n:Int):List Seen:=if zed h n=0 then yl0 h (evD h.evs n) n.toNat else []
theorem ywh {h:Hist} {n:Int} (hc:v6 h≠0):zed h n=v6 h∧zo6 h n= []:=by
 have e:zed h n=v6 h:=by rw [zed,if_neg hc]
 exact ⟨e,by rw [zo6,e,if_neg hc]⟩
theorem ywg {h:Hist} {n:Int} (hc:v6 h=0) (hn:¬(0≤n∧n < h.evs.length∧(evD h.evs n).kind=4)):zed h n=2∧zo6 h n= []:=by
 have e:zed h n=2:=by rw [zed,if_pos hc,if_neg hn]
 exact ⟨e,by rw [zo6,e];rfl⟩
theorem ywf {h:Hist} {a:Nat} (hc:v6 h=0) (ha:a < h.evs.length) (h4:h.evs[a].kind=4):zed h a=0∧zo6 h a=(upR h.os.length).map (yjt h.evs h.evs[a].t h.evs[a].scan a):=by
 have e:zed h a=0:=by rw [zed,if_pos hc,if_pos ⟨by omega,by omega,by rw [ztc ha];exact h4⟩]
 exact ⟨e,by rw [zo6,e,if_pos rfl,ztc ha,Int.toNat_natCast];rfl⟩
set_option maxRecDepth 10000
instance:EqInts Tryz.prog 41 7:=⟨by kernel_rfl,fun w xs ys h1 h2=>match xs,ys,h1,h2 with
 | [a0,a1,a2,a3,a4,a5,a6],[c0,c1,c2,c3,c4,c5,c6],_,_=>by
   rw [run_equalIn_struct w 9999 41 _ _ (by kernel_rfl) (by kernel_rfl)]
   simp only [Program.fieldsOf,Tryz.underlying41]
   simp [Op.eqFields,part,run_equalIn_int _ 9998 3 .i64 .i64 _ _ Tryz.underlying3]
   by_cases h0:a0=c0
   case neg=>simp [h0]
   subst h0
   by_cases h1:a1=c1
   case neg=>simp [h1]
   subst h1
   by_cases h2:a2=c2
   case neg=>simp [h2]
   subst h2
   by_cases h3:a3=c3
   case neg=>simp [h3]
   subst h3
   by_cases h4:a4=c4
   case neg=>simp [h4]
   subst h4
   by_cases h5:a5=c5
   case neg=>simp [h5]
   subst h5
   by_cases h6:a6=c6
   case neg=>simp [h6]
   subst h6
   simp⟩
end Go.Proofs
namespace Go.Ab
open Go
end Go.Ab
set_option maxRecDepth 10000
namespace Go.Proofs
open Go Go.Ab
attribute [local irreducible] QR QV OE zcr aw zdc zdn zbj zcg thn zff zeb jch zfn
open Go.H
theorem yrp (a:Int):y7 Tryz.prog 204 [iv a] [] (fun r h'=>h'= []∧r=bv false):=by
 refine z6 Tryz.func204 rfl rfl rfl ?_
 refine rn ?_;refine rq 0 ?_
 exact ⟨rfl,congrArg bv (bne_self_eq_false a)⟩
def zrk (a b:Int):Int:=if a < b then -1 else if b < a then 1 else 0
theorem yej (a b:Int) (l m:List Int):zl8 (a::l) (b::m)=if zrk a b=0 then zl8 l m else zrk a b:=by
 rw [zl8,zrk]
 by_cases h1:a < b
 ·rw [if_pos h1,if_pos h1];rfl
 ·rw [if_neg h1,if_neg h1]
  by_cases h2:b < a
  ·rw [if_pos h2,if_pos h2];rfl
  ·rw [if_neg h2,if_neg h2];rfl
theorem zp4 (a b:Int):y7 Tryz.prog 144 [iv a,iv b] [] (fun r h'=>h'= []∧r=iv (zrk a b)):=by
 refine z6 Tryz.func144 rfl rfl rfl ?_
 refine rn ?_;refine qv rfl rfl (y2 rfl rfl (u3 (yrp _) (Sbs.refl _))) ?_
 refine rn ?_;refine qv rfl rfl (y2 rfl rfl (u3 (yrp _) (Sbs.refl _))) ?_
 refine rn ?_;refine z7 rfl (fun hc11=> ?_) (fun hc11=> ?_)
 ·exact absurd hc11 (by decide)
 ·refine rn ?_;refine z7 rfl (fun hc13=> ?_) (fun hc13=> ?_)
  ·exact absurd hc13 (by decide)
  ·refine rn ?_;refine z7 rfl (fun hc16=> ?_) (fun hc16=> ?_)
   ·refine rn ?_;refine rq 0 ?_
    exact ⟨rfl,congrArg iv (by rw [zrk,if_pos (oT hc16)])⟩
   ·refine rn ?_;refine z7 rfl (fun hc19=> ?_) (fun hc19=> ?_)
    ·refine rn ?_;refine rq 0 ?_
     exact ⟨rfl,congrArg iv (by rw [zrk,if_neg (oF hc16),if_pos (oT hc19)])⟩
    ·refine rn ?_;refine rq 0 ?_
     exact ⟨rfl,congrArg iv (by rw [zrk,if_neg (oF hc16),if_neg (oF hc19)])⟩
def zfj (a b:Conf):Bool:=([a.f,a.t,a.k,a.a,a.b,a.o,a.p]:List Int)== [b.f,b.t,b.k,b.a,b.b,b.o,b.p]
theorem zh7 (a b:Conf):zfj a b=decide (a=b):=by
 rw [zfj,Bool.eq_iff_iff,decide_eq_true_iff]
 obtain ⟨a1,a2,a3,a4,a5,a6,a7⟩:=a
 obtain ⟨b1,b2,b3,b4,b5,b6,b7⟩:=b
 simp
end Go.Proofs
namespace Go.Ab
open Go
section
variable {P:Program} {ro:Option Nat} {nt:Nat} {c:Code} {Q:Exit→St→Prop} {t:Fr} {h:List Res} {ds:List Nat}
theorem zha {σ:Type} (n:Nat) (p:Nat→σ→Prop) (inv:Nat→σ→St) (x0:σ) (hp:p 0 x0) (h0:Ent nt ⟨t,h,ds⟩ (inv 0 x0))
 (round:∀k x,k≤n→p k x→aw P ro nt c (thn (fun s'=>k < n∧∃x',p (k+1) x'∧Ent nt s' (inv (k+1) x')) Q) (inv k x)):aw P ro nt (.loop c) Q ⟨t,h,ds⟩:=
 zab (fun x:Nat×σ=>x.1≤n∧p x.1 x.2) (fun x=>inv x.1 x.2) (fun x=>n - x.1) (0,x0) ⟨Nat.zero_le _,hp⟩ h0 fun x hk=>zf3 (fun e s' hq=>by
  cases e with
  |normal=>
   obtain ⟨h1,x',h2,h3⟩:=hq
   exact ⟨(x.1+1,x'),⟨h1,h2⟩,h3,by simp only;omega⟩
  |_=>exact hq) (round x.1 x.2 hk.1 hk.2)
end
end Go.Ab
set_option maxRecDepth 10000
namespace Go.Proofs
open Go Go.Ab
attribute [local irreducible] QR QV OE zcr aw zdc zdn zbj zcg thn zff zeb jch zfn
open Go.H
abbrev zkj (ll:List (List Conf)):List (List AV):=ll.map fun l=> [.list false 7 (l.map zaf)]
theorem zrc {α:Type} (ll:List (List α)) (k:Nat):(ll.take k).flatten.length≤ll.flatten.length:=by
 conv=>rhs;rw [←List.take_append_drop k ll,List.flatten_append,List.length_append]
 omega
theorem yvz {α:Type} {ll:List (List α)} {k:Nat} (hk:k < ll.length):(ll.take (k+1)).flatten=(ll.take k).flatten++ll[k]:=by
 rw [List.take_succ_eq_append_getElem hk,List.flatten_append];simp
theorem yr3 {α:Type} {ll:List (List α)} {k:Nat} (hk:k < ll.length):(ll.take k).flatten.length+ll[k].length=(ll.take (k+1)).flatten.length:=by rw [yvz hk,List.length_append]
theorem ydd (h:Hist) (la:Lim 4611686018427387904 h):y7 Tryz.prog 38 [.agg (y9 h)] [.glob 2 156 y3,.glob 4 305 y4,.glob 5 308 y1,.glob 3 246 q7] (fun r h'=>h'= [.glob 2 156 y3,.glob 4 305 y4,.glob 5 308 y1,.glob 3 246 q7]∧r=iv (v6 h)):=by
 refine z6 Tryz.func38 rfl rfl rfl ?_
 refine rn ?_;refine z8 rfl (w8 rfl rfl rfl fun b1=> ?_)
 refine rn ?_;refine qv rfl rfl (y2 rfl rfl (y0.qt (y0.of_fun (ysm h la)) ((pt1 _ _ _).trans (.cons _ ((pt1 _ _ _).trans (.cons _ (pt1 _ _ _))))))) ?_
 refine rn ?_;refine z7 rfl (fun hc7=> ?_) (fun hc7=> ?_)
 ·have hm:¬zfs h=true:=by intro q;rw [zd8,if_pos q] at hc7;cases hc7
  have he:zd8 h=210:=by rw [zd8,if_neg hm]
  refine rn ?_;refine rq 1 ?_
  exact ⟨rfl,by rw [v6,if_neg hm,he];rfl⟩
 ·have hm:zfs h=true:=yeo.1 (by simpa using hc7)
  refine rn ?_;refine qv rfl rfl (y2 rfl rfl (y0.qt (y0.of_fun (yqa h la)) ((pt1 _ _ _).trans (.cons _ ((pt1 _ _ _).trans (.cons _ ((pt1 _ _ _).trans (.cons _ (pt1 _ _ _))))))))) ?_
  refine rn ?_;refine z7 rfl (fun hc11=> ?_) (fun hc11=> ?_)
  ·refine rn ?_;refine rq 1 ?_
   exact ⟨rfl,by rw [v6,if_pos hm];simp_all;rfl⟩
  ·refine rn ?_;refine rq 1 ?_
   exact ⟨rfl,by rw [v6,if_pos hm];simp_all;rfl⟩
theorem zq8 (h:Hist) (kd:Int) (W:List Res):y7 Tryz.prog 218 [.agg (y9 h),iv kd] W (fun r h'=>∃b1 b2,h'= .box b1 28 (y9 h):: .box b2 3 [iv kd]::W∧r= .fn (.func 264) [] [pZ b1,pZ b2]):=by
 refine z6 Tryz.func218 rfl rfl rfl ?_
 refine rn ?_;refine z8 rfl (w8 rfl rfl rfl fun b2=> ?_)
 refine z8 rfl (w8 rfl rfl rfl fun b3=> ?_)
 refine rn ?_;exact j9 rfl (.perm (pt1 _ _ _) _) ⟨_,_,rfl,rfl⟩
theorem zns {σ:Type} (h:Hist) (la:h.evs.length≤1000000) (kd:Int) (y:AV) (b1 b2:Nat) (p q:Nat→σ→Prop) (I F:Nat→σ→List Res) (x0:σ) (hp0:p 0 x0) (hy:∀k x,(hk:k < h.evs.length)→p k x→(h.evs[k].kind==kd)=true→y0 Tryz.prog y [iv k,.agg (evR h.evs[k])] (.box b1 28 (y9 h):: .box b2 3 [iv kd]::I k x) (fun r h'=>∃x',(r=bv true∧p (k+1) x'∧h'= .box b1 28 (y9 h):: .box b2 3 [iv kd]::I (k+1) x')∨(r=bv false∧q k x'∧h'= .box b1 28 (y9 h):: .box b2 3 [iv kd]::F k x'))) (hs:∀k x,(hk:k < h.evs.length)→p k x→(h.evs[k].kind==kd)=false→∃x',p (k+1) x'∧I (k+1) x'=I k x):y7 Tryz.prog 264 [y,pZ b1,pZ b2] (.box b1 28 (y9 h):: .box b2 3 [iv kd]::I 0 x0) (fun r h'=>(∃x,p h.evs.length x∧h'=I h.evs.length x)∨∃k x,q k x∧h'=F k x):=by
 refine z6 Tryz.func264 rfl rfl rfl ?_
 refine rn ?_;refine zha h.evs.length p (fun k x=>⟨[(9,iv k),(0,y),(2,pZ b2),(7,znz h.evs),(8,iv (h.evs.map evR).length)],.box b1 28 (y9 h):: .box b2 3 [iv kd]::I k x,[]⟩) x0 hp0 es ?_
 intro k x lk zk
 refine rn ?_;refine z7 rfl (fun hc10=> ?_) (fun hc10=> ?_)
 ·have hk:=zay hc10
  have rk:=zag (f:=evR) hk
  refine rn ?_;refine z8 rfl (y5 rfl fun b5=> ?_)
  refine rn ?_;refine w7 (fun hg3_4=> ?_) (fun hg3_4=> ?_)
  ·refine q1 ?_;refine q1 ?_;refine q1 ?_;refine z8 rfl (v2 rfl rfl (y0.fr1 (hy k x hk zk (by simpa using hg3_4))) rfl ?_)
   rintro _ _ ⟨_,rfl,x',⟨rfl,hp,rfl⟩|⟨rfl,hq,rfl⟩⟩
   ·refine rn ?_;refine z7 rfl (fun hc24=> ?_) (fun hc24=> ?_)
    ·first|cases hc24|exact absurd hc24 (by decide)|(exfalso;simp_all;done)
    ·refine rn ?_;exact ⟨hk,x',hp,eA⟩
   ·refine rn ?_;refine z7 rfl (fun hc24=> ?_) (fun hc24=> ?_)
    ·refine rn ?_;exact zef .nil (.drop [_,_,_] _ _) (.inr ⟨k,x',hq,rfl⟩)
    ·first|cases hc24|exact absurd hc24 (by decide)|(exfalso;simp_all;done)
  ·refine rn ?_;refine zd9 rfl ?_;refine rn ?_;obtain ⟨x',hp,e⟩:=hs k x hk zk (by simpa using hg3_4)
   exact ⟨hk,x',hp,by rw [e];exact eA⟩
 ·have qk:=zaz hc10 lk
  subst qk
  refine rn ?_;exact zd2 .nil (.drop [_,_] _ _) (.inl ⟨x,zk,rfl⟩)
def zk9 {α:Type} (kd:Int) (x:Nat→Ev→α) (p:Nat→Ev→Bool) (k:Nat) (e:Ev):Option α:=if (e.kind==kd && p k e)=true then some (x k e) else none
theorem ykr {α:Type} {kd:Int} {x:Nat→Ev→α} {p:Nat→Ev→Bool} {k:Nat} {e:Ev} (h:(e.kind==kd)=false):zk9 kd x p k e=none:=by rw [zk9,h];simp
theorem ykq {α:Type} {kd:Int} {x:Nat→Ev→α} {p:Nat→Ev→Bool} {k:Nat} {e:Ev} (h:p k e=false):zk9 kd x p k e=none:=by rw [zk9,h];simp
theorem ykp {α:Type} {kd:Int} {x:Nat→Ev→α} {p:Nat→Ev→Bool} {k:Nat} {e:Ev} (h1:(e.kind==kd)=true) (h:p k e=true):zk9 kd x p k e=some (x k e):=by rw [zk9,h1,h];simp
theorem zxi {α:Type} {f:Nat→Ev→Option α} {l:List Ev} {k:Nat} (h:k < l.length) (hf:f k l[k]=none):zd7 f l (k+1)=zd7 f l k:=by rw [znw h,hf];simp
theorem yko {α:Type} {f:Nat→Ev→Option α} {l:List Ev} {k:Nat} {a:α} (h:k < l.length) (hf:f k l[k]=some a):zd7 f l (k+1)=zd7 f l k++ [a]:=by rw [znw h,hf];rfl
def zlb (f:Ver×Nat):List AV:= [iv f.1.t,iv f.1.k,iv f.2]
theorem ym4 (l:List (Ver×Nat)):∀r∈l.map zlb,r.all AV.one=true:=by
 intro r hr;obtain ⟨a,_,rfl⟩:=List.mem_map.1 hr;rfl
theorem ykj (h:Hist) (la:h.evs.length≤1000000) (kd:Int) (fv:AV) (hone:fv.cellsOf=some [fv]) (W:List Res) (x:Nat→Ev→Int) (p:Nat→Ev→Bool) (hp:∀k,(hk:k < h.evs.length)→(h.evs[k].kind==kd)=true→y0 Tryz.prog fv [iv k,.agg (evR h.evs[k])] W (fun r h'=>h'=W∧r= .tup [iv (x k h.evs[k]),bv (p k h.evs[k])])):y7 Tryz.prog 173 [.agg (y9 h),iv kd,fv] W (fun r h'=>∃s:SV,h'= .row s.v 1 3 ((zd7 (zk9 kd x p) h.evs h.evs.length).map zai)::W∧r= .v s.v):=by
 refine z6 Tryz.func173 rfl rfl rfl ?_
 refine rn ?_;refine z8 rfl (w8 rfl rfl rfl fun b3=> ?_)
 refine z8 rfl (w8 rfl hone rfl fun b5=> ?_)
 refine rn ?_;refine z8 rfl (y5 rfl fun b7=> ?_)
 refine rn ?_;refine z8 rfl (v2 rfl rfl (y0.of_fun (zq8 h kd _)) rfl ?_)
 rintro _ _ ⟨b1,b2,rfl,rfl⟩
 refine rn ?_;refine zfv (s':=⟨[(14,.fn (.func 264) [] [pZ b1,pZ b2]),(5,pZ b5),(7,pZ b7)],.box b1 28 (y9 h):: .box b2 3 [iv kd]:: .box b7 29 [.v (⟨none,0,0⟩:SV).v]:: .row (⟨none,0,0⟩:SV).v 1 3 ((zd7 (zk9 kd x p) h.evs 0).map zai):: .box b5 216 [fv]:: .box b3 28 (y9 h)::W,[]⟩) (v8 (v8 (k9 1 3) (zbd ((pt1 _ _ _).trans (.cons _ ((pt1 _ _ _).trans (.cons _ (pt1 _ _ _))))))) es) ?_
 refine zl9 (fun pend h''=>pend=none∧∃s:SV,h''= .box b7 29 [.v s.v]:: .row s.v 1 3 ((zd7 (zk9 kd x p) h.evs h.evs.length).map zai):: .box b5 216 [fv]:: .box b3 28 (y9 h)::W) rfl (fun fn l q lp hlp=> ?_) (fun q h'' hK=> ?_) (fun q h'' c hK=> ?_)
 ·suffices hy:∀k (s:SV),(hk:k < h.evs.length)→True→(h.evs[k].kind==kd)=true→y0 Tryz.prog (yv l) [iv k,.agg (evR h.evs[k])] (.box b1 28 (y9 h):: .box b2 3 [iv kd]::lp .ready none:: .defs q:: .box b7 29 [.v s.v]:: .row s.v 1 3 ((zd7 (zk9 kd x p) h.evs k).map zai):: .box b5 216 [fv]:: .box b3 28 (y9 h)::W) (fun r h'=>∃s':SV,(r=bv true∧True∧h'= .box b1 28 (y9 h):: .box b2 3 [iv kd]::lp .ready none:: .defs q:: .box b7 29 [.v s'.v]:: .row s'.v 1 3 ((zd7 (zk9 kd x p) h.evs (k+1)).map zai):: .box b5 216 [fv]:: .box b3 28 (y9 h)::W)∨(r=bv false∧False∧h'= .box b1 28 (y9 h):: .box b2 3 [iv kd]:: [])) by
   refine y7.mono (y7.perm ((pt2 _ _ _ _).trans (.cons _ (pt2 _ _ _ _))) (zns h la kd (yv l) b1 b2 (fun _ _=>True) (fun _ _=>False) (fun k (s:SV)=>lp .ready none:: .defs q:: .box b7 29 [.v s.v]:: .row s.v 1 3 ((zd7 (zk9 kd x p) h.evs k).map zai):: .box b5 216 [fv]:: .box b3 28 (y9 h)::W) (fun _ _=> []) ⟨none,0,0⟩ trivial hy (fun k s hk _ hn=>⟨s,trivial,by rw [zxi hk (ykr hn)]⟩))) ?_
   rintro _ _ (⟨s,_,rfl⟩|⟨_,_,hF,_⟩)
   ·exact ⟨none,.ready,_,.refl _,by simp,rfl,s,rfl⟩
   ·exact hF.elim
  intro k s hk _ hkd
  refine y0.perm (pt2 _ _ _ _) (y0.ventE ?_)
  refine zdm hlp rfl rfl ?_
  refine rn ?_;refine z8 rfl (y5 rfl fun b9=> ?_)
  refine rn ?_;refine ⟨[(8,iv k),(9,pZ b9),(5,pZ b5),(7,pZ b7)],.box b9 60 (evR h.evs[k]):: .box b1 28 (y9 h):: .box b2 3 [iv kd]:: .defs q:: .box b7 29 [.v s.v]:: .row s.v 1 3 ((zd7 (zk9 kd x p) h.evs k).map zai):: .box b5 216 [fv]:: .box b3 28 (y9 h)::W,v8 (zbd (pt1 _ _ _)) es,?_⟩
  refine rn ?_;refine qv rfl rfl (y2 rfl rfl (y0.qt (h2:= [_,_,_,_,_,_,_,_,_]) (hp k hk hkd) (zdl [_,_,_,_,_,_,_,_,_] _))) ?_
  refine rn ?_;refine z7 rfl (fun hc24=> ?_) (fun hc24=> ?_)
  ·refine y6 ?_;refine q1 ?_;refine q1 ?_;refine q1 ?_;refine q1 ?_;refine q1 ?_;refine qq rfl rfl (zpg rfl (by rfl) (by rfl)) ?_
   refine rn ?_;refine qv rfl rfl (q6 rfl rfl) ?_
   refine zx9 s.v ?_
   refine z8 rfl (u7 rfl rfl (by simp only [oM,List.length_cons,List.length_nil];have:=zfu (zk9 kd x p) h.evs k;omega) rfl (fun s33=> ?_) (zgw [x k h.evs[k]]))
   refine k7 s33 fun sv hsv=> ?_
   subst hsv
   refine rn ?_;exact zdg (.refl _) ⟨_,_,.trans (.perm ((pt1 _ _ _).trans (.cons _ ((pt1 _ _ _).trans (.cons _ (pt1 _ _ _))))) _) (.drop [_] _ _),sv,.inl ⟨rfl,trivial,by rw [yko hk (ykp hkd hc24),List.map_append];rfl⟩⟩
  ·refine rn ?_;exact zdg (.refl _) ⟨_,_,.trans (.perm ((pt1 _ _ _).trans (.cons _ ((pt1 _ _ _).trans (.cons _ (pt1 _ _ _))))) _) (.drop [_] _ _),s,.inl ⟨rfl,trivial,by rw [zxi hk (ykq hc24)]⟩⟩
 ·obtain ⟨_,s,rfl⟩:=hK
  refine rn ?_;exact zhu (.refl _) (.cons _ _ _ _ (.tmp _ _ rfl) .nil) (.trans (.drop1 _ _ _) (.trans (.perm (pt1 _ _ _) _) (.trans (.drop [_] _ _) (.trans (.perm (pt1 _ _ _) _) (.drop [_] _ _))))) ⟨s,rfl,rfl⟩
 ·obtain ⟨hc,_⟩:=hK
  exact absurd hc (by simp)
theorem yrn (h:Hist) (la:h.evs.length≤1000000) (kd:Int) (fv:AV) (hone:fv.cellsOf=some [fv]) (W:List Res) (x:Nat→Ev→Ver×Nat) (p:Nat→Ev→Bool) (hp:∀k,(hk:k < h.evs.length)→(h.evs[k].kind==kd)=true→y0 Tryz.prog fv [iv k,.agg (evR h.evs[k])] W (fun r h'=>h'=W∧r= .tup [.agg (zlb (x k h.evs[k])),bv (p k h.evs[k])])):y7 Tryz.prog 210 [.agg (y9 h),iv kd,fv] W (fun r h'=>∃s:SV,h'= .row s.v 3 139 ((zd7 (zk9 kd x p) h.evs h.evs.length).map zlb)::W∧r= .v s.v):=by
 refine z6 Tryz.func210 rfl rfl rfl ?_
 refine rn ?_;refine z8 rfl (w8 rfl rfl rfl fun b3=> ?_)
 refine z8 rfl (w8 rfl hone rfl fun b5=> ?_)
 refine rn ?_;refine z8 rfl (y5 rfl fun b7=> ?_)
 refine rn ?_;refine z8 rfl (v2 rfl rfl (y0.of_fun (zq8 h kd _)) rfl ?_)
 rintro _ _ ⟨b1,b2,rfl,rfl⟩
 refine rn ?_;refine zfv (s':=⟨[(14,.fn (.func 264) [] [pZ b1,pZ b2]),(5,pZ b5),(7,pZ b7)],.box b1 28 (y9 h):: .box b2 3 [iv kd]:: .box b7 197 [.v (⟨none,0,0⟩:SV).v]:: .row (⟨none,0,0⟩:SV).v 3 139 ((zd7 (zk9 kd x p) h.evs 0).map zlb):: .box b5 257 [fv]:: .box b3 28 (y9 h)::W,[]⟩) (v8 (v8 (k9 3 139) (zbd ((pt1 _ _ _).trans (.cons _ ((pt1 _ _ _).trans (.cons _ (pt1 _ _ _))))))) es) ?_
 refine zl9 (fun pend h''=>pend=none∧∃s:SV,h''= .box b7 197 [.v s.v]:: .row s.v 3 139 ((zd7 (zk9 kd x p) h.evs h.evs.length).map zlb):: .box b5 257 [fv]:: .box b3 28 (y9 h)::W) rfl (fun fn l q lp hlp=> ?_) (fun q h'' hK=> ?_) (fun q h'' c hK=> ?_)
 ·suffices hy:∀k (s:SV),(hk:k < h.evs.length)→True→(h.evs[k].kind==kd)=true→y0 Tryz.prog (yv l) [iv k,.agg (evR h.evs[k])] (.box b1 28 (y9 h):: .box b2 3 [iv kd]::lp .ready none:: .defs q:: .box b7 197 [.v s.v]:: .row s.v 3 139 ((zd7 (zk9 kd x p) h.evs k).map zlb):: .box b5 257 [fv]:: .box b3 28 (y9 h)::W) (fun r h'=>∃s':SV,(r=bv true∧True∧h'= .box b1 28 (y9 h):: .box b2 3 [iv kd]::lp .ready none:: .defs q:: .box b7 197 [.v s'.v]:: .row s'.v 3 139 ((zd7 (zk9 kd x p) h.evs (k+1)).map zlb):: .box b5 257 [fv]:: .box b3 28 (y9 h)::W)∨(r=bv false∧False∧h'= .box b1 28 (y9 h):: .box b2 3 [iv kd]:: [])) by
   refine y7.mono (y7.perm ((pt2 _ _ _ _).trans (.cons _ (pt2 _ _ _ _))) (zns h la kd (yv l) b1 b2 (fun _ _=>True) (fun _ _=>False) (fun k (s:SV)=>lp .ready none:: .defs q:: .box b7 197 [.v s.v]:: .row s.v 3 139 ((zd7 (zk9 kd x p) h.evs k).map zlb):: .box b5 257 [fv]:: .box b3 28 (y9 h)::W) (fun _ _=> []) ⟨none,0,0⟩ trivial hy (fun k s hk _ hn=>⟨s,trivial,by rw [zxi hk (ykr hn)]⟩))) ?_
   rintro _ _ (⟨s,_,rfl⟩|⟨_,_,hF,_⟩)
   ·exact ⟨none,.ready,_,.refl _,by simp,rfl,s,rfl⟩
   ·exact hF.elim
  intro k s hk _ hkd
  refine y0.perm (pt2 _ _ _ _) (y0.ventE ?_)
  refine zdm hlp rfl rfl ?_
  refine rn ?_;refine z8 rfl (y5 rfl fun b9=> ?_)
  refine rn ?_;refine ⟨[(8,iv k),(9,pZ b9),(5,pZ b5),(7,pZ b7)],.box b9 60 (evR h.evs[k]):: .box b1 28 (y9 h):: .box b2 3 [iv kd]:: .defs q:: .box b7 197 [.v s.v]:: .row s.v 3 139 ((zd7 (zk9 kd x p) h.evs k).map zlb):: .box b5 257 [fv]:: .box b3 28 (y9 h)::W,v8 (zbd (pt1 _ _ _)) es,?_⟩
  refine rn ?_;refine qv rfl rfl (y2 rfl rfl (y0.qt (h2:= [_,_,_,_,_,_,_,_,_]) (hp k hk hkd) (zdl [_,_,_,_,_,_,_,_,_] _))) ?_
  refine rn ?_;refine z8 rfl (y5 rfl fun b10=> ?_)
  refine rn ?_;refine z7 rfl (fun hc24=> ?_) (fun hc24=> ?_)
  ·refine j4 8 rfl ?_
   refine dq rfl rfl qrA ?_;refine dq rfl rfl qrA ?_;refine dq rfl rfl qrA ?_;refine dq rfl rfl qrA ?_;refine dq rfl rfl qrA ?_;refine dq rfl rfl (zpg rfl (by rfl) (by rfl)) ?_
   refine rn ?_;refine dv rfl rfl (q6 rfl rfl) ?_
   refine rn ?_;refine zx9 s.v ?_
   refine z8 rfl (u7 rfl rfl (by simp only [oM,List.length_cons,List.length_nil];have:=zfu (zk9 kd x p) h.evs k;omega) rfl (fun s33=> ?_) (ym4 [x k h.evs[k]]))
   refine k7 s33 fun sv hsv=> ?_
   subst hsv
   refine rn ?_;exact zdg (pt1 _ _ _) ⟨_,_,.trans (.perm ((pt1 _ _ _).trans (.cons _ ((pt1 _ _ _).trans (.cons _ ((pt1 _ _ _).trans (.cons _ (pt1 _ _ _))))))) _) (.drop [_,_] _ _),sv,.inl ⟨rfl,trivial,by rw [yko hk (ykp hkd hc24),List.map_append];rfl⟩⟩
  ·refine rn ?_;exact zdg (pt1 _ _ _) ⟨_,_,.trans (.perm ((pt1 _ _ _).trans (.cons _ ((pt1 _ _ _).trans (.cons _ ((pt1 _ _ _).trans (.cons _ (pt1 _ _ _))))))) _) (.drop [_,_] _ _),s,.inl ⟨rfl,trivial,by rw [zxi hk (ykq hc24)]⟩⟩
 ·obtain ⟨_,s,rfl⟩:=hK
  refine rn ?_;exact zhu (.refl _) (.cons _ _ _ _ (.tmp _ _ rfl) .nil) (.trans (.drop1 _ _ _) (.trans (.perm (pt1 _ _ _) _) (.trans (.drop [_] _ _) (.trans (.perm (pt1 _ _ _) _) (.drop [_] _ _))))) ⟨s,rfl,rfl⟩
 ·obtain ⟨hc,_⟩:=hK
  exact absurd hc (by simp)
theorem ynq (k:Int) (e:Ev):y7 Tryz.prog 174 [iv k,.agg (evR e)] [] (fun r h'=>h'= []∧r= .tup [iv e.t,bv true]):=by
 refine z6 Tryz.func174 rfl rfl rfl ?_
 refine rn ?_;refine z8 rfl (w8 rfl rfl rfl fun b3=> ?_)
 refine rn ?_;refine rq 1 ?_
 exact ⟨rfl,rfl⟩
theorem ynp (k s:Int) (e:Ev) (b2 b3 rm:Nat) (M:List (Int×Bool)):y7 Tryz.prog 209 [iv k,.agg (evR e),pZ b2,pZ b3] [.box b2 3 [iv s],.box b3 115 [mpv rm],.map rm (zal intK (zbe bv M))] (fun r h'=>h'= [.box b2 3 [iv s],.box b3 115 [mpv rm],.map rm (zal intK (zbe bv M))]∧r= .tup [iv e.t,bv (e.o==s && (za9 e.t M).getD false)]):=by
 refine z6 Tryz.func209 rfl rfl rfl ?_
 refine rn ?_;refine z8 rfl (w8 rfl rfl rfl fun b5=> ?_)
 refine rn ?_;refine j4 13 rfl ?_
 refine rn ?_;refine zc0 (fun hg1_6=> ?_) (fun hg1_6=> ?_)
 ·refine dq rfl rfl qrA ?_;refine dq rfl rfl qrA ?_;refine dq rfl rfl qrA ?_;refine dq rfl rfl (zbm (enc:=intK) (k:=e.t) false rfl rfl) ?_
  refine rn ?_;refine rq 1 ?_
  exact ⟨rfl,by rw [hg1_6];rfl⟩
 ·refine rn ?_;refine rq 1 ?_
  exact ⟨rfl,by rw [hg1_6];rfl⟩
theorem yno (k a:Nat) (t x:Int) (e:Ev) (b2 b3 b4:Nat):y7 Tryz.prog 211 [iv k,.agg (evR e),pZ b2,pZ b3,pZ b4] [.box b2 3 [iv t],.box b3 3 [iv x],.box b4 3 [iv a]] (fun r h'=>h'= [.box b2 3 [iv t],.box b3 3 [iv x],.box b4 3 [iv a]]∧r= .tup [.agg (zlb (e.v,k)),bv (e.t==t && e.o==x && decide (k < a))]):=by
 refine z6 Tryz.func211 rfl rfl rfl ?_
 refine rn ?_;refine z8 rfl (w8 rfl rfl rfl fun b6=> ?_)
 refine z8 rfl (y5 rfl fun b7=> ?_)
 refine rn ?_;refine zc1 20 [(b7,139,_)] rfl (List.perm_append_comm (l₁:= [_])) ?_
 refine dq rfl rfl qrA ?_;refine dq rfl rfl qrA ?_;refine dq rfl rfl qrA ?_;refine dq rfl rfl (j6 (out:= [iv e.v.t,iv e.v.k,iv k]) rfl (by rfl)) ?_
 refine rn ?_;refine zc0 (fun hg1_8=> ?_) (fun hg1_8=> ?_)
 ·refine rn ?_;refine zc0 (fun hg1_14=> ?_) (fun hg1_14=> ?_)
  ·refine rn ?_;refine dw 0 rfl rfl rfl rfl rfl (Nat.le_of_ble_eq_true rfl) ?_
   refine rn2 ?_;show zcr _ _ _ _ _ _ ⟨_,.box b7 139 (zlb (e.v,k)):: .box b6 60 (evR e):: [.box b2 3 [iv t],.box b3 3 [iv x],.box b4 3 [iv a]],_⟩
   refine rn ?_;exact zef (.cons _ _ _ _ (.agg _ _ _ _ _ _ _ rfl inferInstance inferInstance inferInstance rfl) (.cons _ _ _ _ (.tmp _ _ rfl) .nil)) (.drop [_,_] _ _) ⟨rfl,by first|(rw [hg1_8,hg1_14];exact congrArg (fun b=>AV.tup [AV.agg (zlb (e.v,k)),bv b]) (by simp))|(rw [hg1_8];rfl)⟩
  ·refine rn ?_;refine dw 0 rfl rfl rfl rfl rfl (Nat.le_of_ble_eq_true rfl) ?_
   refine rn2 ?_;show zcr _ _ _ _ _ _ ⟨_,.box b7 139 (zlb (e.v,k)):: .box b6 60 (evR e):: [.box b2 3 [iv t],.box b3 3 [iv x],.box b4 3 [iv a]],_⟩
   refine rn ?_;exact zef (.cons _ _ _ _ (.agg _ _ _ _ _ _ _ rfl inferInstance inferInstance inferInstance rfl) (.cons _ _ _ _ (.tmp _ _ rfl) .nil)) (.drop [_,_] _ _) ⟨rfl,by first|(rw [hg1_8,hg1_14];exact congrArg (fun b=>AV.tup [AV.agg (zlb (e.v,k)),bv b]) (by simp))|(rw [hg1_8];rfl)⟩
 ·refine rn ?_;refine dw 0 rfl rfl rfl rfl rfl (Nat.le_of_ble_eq_true rfl) ?_
  refine rn2 ?_;show zcr _ _ _ _ _ _ ⟨_,.box b7 139 (zlb (e.v,k)):: .box b6 60 (evR e):: [.box b2 3 [iv t],.box b3 3 [iv x],.box b4 3 [iv a]],_⟩
  refine rn ?_;exact zef (.cons _ _ _ _ (.agg _ _ _ _ _ _ _ rfl inferInstance inferInstance inferInstance rfl) (.cons _ _ _ _ (.tmp _ _ rfl) .nil)) (.drop [_,_] _ _) ⟨rfl,by first|(rw [hg1_8,hg1_14];exact congrArg (fun b=>AV.tup [AV.agg (zlb (e.v,k)),bv b]) (by simp))|(rw [hg1_8];rfl)⟩
theorem yuw (x:Int) (s:Ord) (b1:Nat):y7 Tryz.prog 207 [.agg (zez s),pZ b1] [.box b1 3 [iv x]] (fun r h'=>h'= [.box b1 3 [iv x]]∧r=bv (s.o==x)):=by
 refine z6 Tryz.func207 rfl rfl rfl ?_
 refine rn ?_;refine z8 rfl (w8 rfl rfl rfl fun b2=> ?_)
 refine rn ?_;refine rq 1 ?_
 exact ⟨rfl,rfl⟩
theorem ynt (h:Hist) (la:h.evs.length≤1000000) (W:List Res):y7 Tryz.prog 208 [.agg (y9 h)] W (fun r h'=>∃rm,h'= .map rm (zal intK (zbe bv (zpx h.evs)))::W∧r=mpv rm):=by
 refine z6 Tryz.func208 rfl rfl rfl ?_
 refine rn ?_;refine z8 rfl (w8 rfl rfl rfl fun b1=> ?_)
 refine rn ?_;refine z8 rfl (zax (enc:=intK) rfl fun b6=> ?_)
 refine z8 rfl (y5 rfl fun b3=> ?_)
 refine rn ?_;refine z8 rfl (v2 rfl rfl (y0.of_fun (zq8 h 5 _)) rfl ?_)
 rintro _ _ ⟨e1,e2,rfl,rfl⟩
 refine rn ?_;refine zfv (s':=⟨[(8,.fn (.func 264) [] [pZ e1,pZ e2]),(3,pZ b3)],.box e1 28 (y9 h):: .box e2 3 [iv 5]:: .box b3 115 [mpv b6]:: .map b6 (zal intK (zbe bv (zpx (h.evs.take 0)))):: .box b1 28 (y9 h)::W,[]⟩) es ?_
 refine zl9 (fun pend h''=>pend=none∧h''= .box b3 115 [mpv b6]:: .map b6 (zal intK (zbe bv (zpx (h.evs.take h.evs.length)))):: .box b1 28 (y9 h)::W) rfl (fun fn l q lp hlp=> ?_) (fun q h'' hK=> ?_) (fun q h'' c hK=> ?_)
 ·suffices hy:∀k (x:Unit),(hk:k < h.evs.length)→True→(h.evs[k].kind==5)=true→y0 Tryz.prog (yv l) [iv k,.agg (evR h.evs[k])] (.box e1 28 (y9 h):: .box e2 3 [iv 5]::lp .ready none:: .defs q:: .box b3 115 [mpv b6]:: .map b6 (zal intK (zbe bv (zpx (h.evs.take k)))):: .box b1 28 (y9 h)::W) (fun r h'=>∃x':Unit,(r=bv true∧True∧h'= .box e1 28 (y9 h):: .box e2 3 [iv 5]::lp .ready none:: .defs q:: .box b3 115 [mpv b6]:: .map b6 (zal intK (zbe bv (zpx (h.evs.take (k+1))))):: .box b1 28 (y9 h)::W)∨(r=bv false∧False∧h'= .box e1 28 (y9 h):: .box e2 3 [iv 5]:: [])) by
   refine y7.mono (y7.perm ((pt2 _ _ _ _).trans (.cons _ (pt2 _ _ _ _))) (zns h la 5 (yv l) e1 e2 (fun _ _=>True) (fun _ _=>False) (fun k (_:Unit)=>lp .ready none:: .defs q:: .box b3 115 [mpv b6]:: .map b6 (zal intK (zbe bv (zpx (h.evs.take k)))):: .box b1 28 (y9 h)::W) (fun _ _=> []) () trivial hy (fun k s hk _ hn=>⟨s,trivial,by rw [ysh hk hn]⟩))) ?_
   rintro _ _ (⟨s,_,rfl⟩|⟨_,_,hF,_⟩)
   ·exact ⟨none,.ready,_,.refl _,by simp,rfl,rfl⟩
   ·exact hF.elim
  intro k s hk _ hkd
  refine y0.perm (pt2 _ _ _ _) (y0.ventE ?_)
  refine zdm hlp rfl rfl ?_
  refine rn ?_;refine z8 rfl (y5 rfl fun b5=> ?_)
  refine rn ?_;refine ⟨[(5,pZ b5),(3,pZ b3)],.box b5 60 (evR h.evs[k]):: .box e1 28 (y9 h):: .box e2 3 [iv 5]:: .defs q:: .box b3 115 [mpv b6]:: .map b6 (zal intK (zbe bv (zpx (h.evs.take k)))):: .box b1 28 (y9 h)::W,v8 (zbd (pt1 _ _ _)) es,?_⟩
  refine rn ?_;refine z8 rfl (zan (g:=bv) (enc:=intK) (k:=h.evs[k].t) (v:=true) rfl rfl rfl ?_)
  refine rn ?_;exact zdg (.refl _) ⟨_,_,.trans (.perm ((pt1 _ _ _).trans (.cons _ ((pt1 _ _ _).trans (.cons _ (pt1 _ _ _))))) _) (.drop [_] _ _),(),.inl ⟨rfl,trivial,by rw [ysg hk hkd]⟩⟩
 ·obtain ⟨_,rfl⟩:=hK
  refine rn ?_;exact zhu (.refl _) (.cons _ _ _ _ (.tmp _ _ rfl) .nil) (.trans (.drop1 _ _ _) (.trans (.perm (pt1 _ _ _) _) (.drop [_] _ _))) ⟨b6,by rw [List.take_length],rfl⟩
 ·obtain ⟨hc,_⟩:=hK
  exact absurd hc (by simp)
theorem ye2 {h:Hist} {n many:Int} (he:zhe h n many≠0) (X:List Int):(onE (zhe h n many) X).map zai= []:=by rw [onE,if_neg he];rfl
theorem ydp {α:Type} (kd:Int) (g:Ev→α) (q:Ev→Bool) (l:List Ev):zd7 (zk9 kd (fun _ e=>g e) (fun _ e=>q e)) l l.length=(l.filter fun e=>e.kind==kd && q e).map g:=yif (fun _ _=>rfl) l
theorem ykk (h:Hist) (la:Lim 4611686018427387904 h) (n many:Int) (fv:AV) (hone:fv.cellsOf=some [fv]) (X:List Int) (W:List Res) (hp:zhe h n many=0→y0 Tryz.prog fv [] (.glob 2 156 y3:: .glob 4 305 y4:: .glob 5 308 y1:: .glob 3 246 q7::W) (fun r h'=>∃s:SV,h'= .row s.v 1 3 (X.map zai):: .glob 2 156 y3:: .glob 4 305 y4:: .glob 5 308 y1:: .glob 3 246 q7::W∧r= .v s.v)):y7 Tryz.prog 150 [.agg (y9 h),iv n,iv many,fv] (.glob 2 156 y3:: .glob 4 305 y4:: .glob 5 308 y1:: .glob 3 246 q7::W) (fun r h'=>∃s:SV,h'= .row s.v 1 3 ((onE (zhe h n many) X).map zai):: .glob 2 156 y3:: .glob 4 305 y4:: .glob 5 308 y1:: .glob 3 246 q7::W∧r= .tup [.v s.v,iv (zhe h n many)]):=by
 refine z6 Tryz.func150 rfl rfl rfl ?_
 refine rn ?_;refine z8 rfl (w8 rfl rfl rfl fun b4=> ?_)
 refine rn ?_;refine qv rfl rfl (y2 rfl rfl (y0.qt (y0.of_fun (ydd h la)) ((pt1 _ _ _).trans (.cons _ ((pt1 _ _ _).trans (.cons _ ((pt1 _ _ _).trans (.cons _ (pt1 _ _ _))))))))) ?_
 refine rn ?_;refine z7 rfl (fun hc15=> ?_) (fun hc15=> ?_)
 ·have hc:v6 h≠0:=by simpa using hc15
  refine rn ?_;exact zbz rfl rfl (.trans (.drop [_] _ _) (zat 1 3 _)) ⟨⟨none,0,0⟩,by rw [ye2 (by rw [ask_c hc];exact hc)];rfl,by rw [ask_c hc];rfl⟩
 ·have hc:v6 h=0:=by simpa using hc15
  refine rn ?_;refine w7 (fun hg5_2=> ?_) (fun hg5_2=> ?_)
  ·refine rn ?_;refine zfp rfl ?_;have hn:¬(0≤n∧n < many):=by first|(have q:=oT hg5_2;omega)|(have q:=oT hc24;omega)
   refine rn ?_;exact zbz rfl rfl (.trans (.drop [_] _ _) (zat 1 3 _)) ⟨⟨none,0,0⟩,by rw [ye2 (by rw [zzw hc hn];decide)];rfl,by rw [zzw hc hn];rfl⟩
  ·refine rn ?_;refine z7 rfl (fun hc24=> ?_) (fun hc24=> ?_)
   ·have hn:¬(0≤n∧n < many):=by first|(have q:=oT hg5_2;omega)|(have q:=oT hc24;omega)
    refine rn ?_;exact zbz rfl rfl (.trans (.drop [_] _ _) (zat 1 3 _)) ⟨⟨none,0,0⟩,by rw [ye2 (by rw [zzw hc hn];decide)];rfl,by rw [zzw hc hn];rfl⟩
   ·have hn:0≤n∧n < many:=by have q:=oF hg5_2;have q':=oF hc24;omega
    refine rn ?_;refine z8 rfl (v2 rfl rfl (y0.fr1 (hp (zv6 hc hn))) rfl ?_)
    rintro _ _ ⟨_,rfl,s,rfl,rfl⟩
    refine rn ?_;exact zbz rfl rfl (.drop [_] _ _) ⟨s,by rw [zv6 hc hn];rfl,by rw [zv6 hc hn];rfl⟩
theorem zqx {P:Program} {h:List Res} {f:Operand→Option AV} {dst:Option Tmp} {ty:TypeId} {pos:String} {after:Array Edge} {guard:Option (Nat×Bool)} {x y:Operand} {T E:TypeId} {s:Value} {sz i:Nat} {k:Int} {E':TypeId} {rows:List (List AV)} (hx:f x=some (.v s)) (hy:f y=some (.v (.int .i64 k))) [hr:HasRow h s i sz E' rows] [Und P T (.slice E)] [Siz P E sz] (h0:0≤k) (hk:k.toNat < rows.length):
 QR P h f ⟨dst,.indexAddr T x y,ty,pos,after,guard⟩ (.rp s sz k.toNat 0):=zlm hx (by rw [Int.toNat_of_nonneg h0];exact hy) hk
theorem ye3 {h:Hist} {n many:Int} (he:zhe h n many=0):Lim 3000 h:=zq4 (zfc (yor he).1).1
theorem yoq {h:Hist} {n many:Int} (he:zhe h n many=0):h.evs.length≤1000000:=Nat.le_trans (ye3 he).evs (by decide)
theorem zb8 {h:Hist} (he:v6 h=0):Lim 3000 h:=zq4 (zfc (za6.1 he)).1
theorem yoh {h:Hist} (he:v6 h=0):h.evs.length≤1000000:=Nat.le_trans (zb8 he).evs (by decide)
theorem yiy (l:List Ev):srt (zd7 (zk9 5 (fun _ e=>e.t) (fun _ _=>true)) l l.length)=zdd l:=by
 rw [zdd,ydp 5 Ev.t (fun _=>true)];simp only [Bool.and_true]
theorem ynw (l:List Ev) (x:Int):zd7 (zk9 2 (fun _ e=>e.t) (fun _ e=>e.o==x && (za9 e.t (zpx l)).getD false)) l l.length=yo4 l x:=by
 rw [ydp 2 Ev.t (fun e=>e.o==x && (za9 e.t (zpx l)).getD false),yo4];simp only [yis]
theorem yqu {h:Hist} {x:Int} (hc:decide (zbq (fun o:Ord=>o.o==x) 0 h.ords ≥ 0)=true):∃k,∃hk:k < h.ords.length,zbq (fun o:Ord=>o.o==x) 0 h.ords=(k:Int)∧za0 h x=h.ords[k].ts:=by
 have:=zfg (fun o:Ord=>o.o==x) h.ords 0
 cases hf:h.ords.find? (fun o=>o.o==x) with
 |none=>rw [hf] at this;simp only at this;rw [this] at hc;exact absurd hc (by decide)
 |some o=>
  rw [hf] at this
  obtain ⟨k,hk,e,eo,_⟩:=this
  exact ⟨k,hk,by rw [e,Nat.zero_add],by rw [za0,hf,eo]⟩
theorem yqt {h:Hist} {x:Int} (hc:decide (zbq (fun o:Ord=>o.o==x) 0 h.ords ≥ 0)=false):za0 h x=zb6 (yo4 h.evs x):=by
 have:=zfg (fun o:Ord=>o.o==x) h.ords 0
 cases hf:h.ords.find? (fun o=>o.o==x) with
 |none=>rw [za0,hf]
 |some o=>
  rw [hf] at this
  obtain ⟨k,hk,e,eo,_⟩:=this
  rw [e] at hc
  have:=oF hc
  omega
theorem ynu (h:Hist) (la:h.evs.length≤1000000) (b1:Nat):y7 Tryz.prog 172 [pZ b1] (.glob 2 156 y3:: .glob 4 305 y4:: .glob 5 308 y1:: .glob 3 246 q7:: .box b1 28 (y9 h):: []) (fun r h'=>∃s:SV,h'= .row s.v 1 3 ((zdd h.evs).map zai):: .glob 2 156 y3:: .glob 4 305 y4:: .glob 5 308 y1:: .glob 3 246 q7:: .box b1 28 (y9 h):: []∧r= .v s.v):=by
 refine z6 Tryz.func172 rfl rfl rfl ?_
 refine rn ?_;refine z8 rfl (v2 rfl rfl (y0.of_fun (ykj h la 5 _ rfl _ (fun _ e=>e.t) (fun _ _=>true) (fun k hk _=>y0.pure (R:=fun r=>r=_) (y0.of_fun (ynq k h.evs[k]))))) rfl ?_)
 rintro _ _ ⟨s,rfl,rfl⟩
 refine rn ?_;refine z8 rfl (v2 rfl rfl (zgg (y0.of_fun (yay s _ (by have:=(zfu (zk9 5 (fun _ e=>e.t) (fun _ e=>true)) h.evs h.evs.length);omega)))) rfl ?_)
 rintro _ _ ⟨rfl,rfl⟩
 refine rn ?_;exact j9 rfl (.refl _ _) ⟨s,by rw [yiy],rfl⟩
theorem ynv (h:Hist) (la:Lim 4611686018427387904 h):y7 Tryz.prog 133 [.agg (y9 h)] (.glob 2 156 y3:: .glob 4 305 y4:: .glob 5 308 y1:: .glob 3 246 q7:: []) (fun r h'=>∃s:SV,h'= .row s.v 1 3 ((onE (v6 h) (zdd h.evs)).map zai):: .glob 2 156 y3:: .glob 4 305 y4:: .glob 5 308 y1:: .glob 3 246 q7:: []∧r= .tup [.v s.v,iv (v6 h)]):=by
 refine z6 Tryz.func133 rfl rfl rfl ?_
 refine rn ?_;refine z8 rfl (w8 rfl rfl rfl fun b1=> ?_)
 refine rn ?_;refine z8 rfl (v2 rfl rfl (y0.perm ((pt1 _ _ _).trans (.cons _ ((pt1 _ _ _).trans (.cons _ ((pt1 _ _ _).trans (.cons _ (pt1 _ _ _))))))) (y0.of_fun (ykk h la 0 1 (.fn (.func 172) [] [pZ b1]) rfl (zdd h.evs) [.box b1 28 (y9 h)] (fun he=>y0.of_acall (fs:= []) (cs:= [pZ b1]) (ynu h (yoq he) b1))))) rfl ?_)
 rintro _ _ ⟨s,rfl,rfl⟩
 refine rn ?_;exact zbz rfl rfl (.trans (.perm (pt5 _ _ _ _ _ _ _) _) (.drop [_] _ _)) ⟨s,by rw [yk0],by rw [yk0];rfl⟩
theorem ydc (h:Hist) (la:Lim 4611686018427387904 h):y7 Tryz.prog 133 [.agg (y9 h)] (.glob 2 156 y3:: .glob 4 305 y4:: .glob 5 308 y1:: .glob 3 246 q7:: []) (fun r h'=>h'= .glob 2 156 y3:: .glob 4 305 y4:: .glob 5 308 y1:: .glob 3 246 q7:: []∧r= .tup [zaq (onE (v6 h) (zdd h.evs)),iv (v6 h)]):=
 (ynv h la).ventR (by rintro _ _ ⟨s,rfl,rfl⟩;exact ⟨_,_,zbf [] [_],rfl,rfl⟩)
theorem yrm (h:Hist) (la:Lim 3000 h) (x:Int) (W:List Res):y7 Tryz.prog 152 [.agg (y9 h),iv x] W (fun r h'=>∃s:SV,h'= .row s.v 1 3 ((za0 h x).map zai)::W∧r= .v s.v):=by
 refine z6 Tryz.func152 rfl rfl rfl ?_
 have le:h.evs.length≤1000000:=Nat.le_trans la.evs (by decide)
 have lo:=la.ords
 refine rn ?_;refine z8 rfl (w8 rfl rfl rfl fun b2=> ?_)
 refine z8 rfl (w8 rfl rfl rfl fun b3=> ?_)
 refine rn ?_;refine qv rfl rfl (y2 rfl rfl (y0.of_fun (zlv h.ords _ (fun o:Ord=>o.o==x) _ (fun a _=>y0.qt (y0.of_acall (fs:= []) (cs:= [pZ b3]) (yuw x a b3)) (.refl _)) (Nat.le_trans la.ords (by decide))))) ?_
 refine rn ?_;refine z7 rfl (fun hc13=> ?_) (fun hc13=> ?_)
 ·obtain ⟨k,hk,ek,hx⟩:=yqu hc13
  have rk:=zag (f:=zez) hk
  rw [ek]
  refine rn ?_;refine z8 rfl (v2 rfl rfl (y0.fr (y0.rowS (y0.of_fun (zn7 (h.ords[k].ts.map zai) (by rw [oM];exact Nat.le_trans (la.ordts h.ords[k] (List.getElem_mem hk)) (by decide)) (zgw _)))) (.refl _)) rfl ?_)
  rintro _ _ ⟨_,rfl,s,rfl,rfl⟩
  refine rn ?_;exact j9 rfl (.trans (.perm ((pt1 _ _ _).trans (.cons _ (pt1 _ _ _))) _) (.drop [_,_] _ _)) ⟨s,by rw [hx],rfl⟩
 ·have hx:=yqt hc13
  refine rn ?_;refine z8 rfl (v2 rfl rfl (y0.of_fun (ynt h le _)) rfl ?_)
  rintro _ _ ⟨rm,rfl,rfl⟩
  refine z8 rfl (y5 rfl fun b6=> ?_)
  refine rn ?_;refine z8 rfl (v2 rfl rfl (y0.of_fun (ykj h le 2 _ rfl _ (fun _ e=>e.t) (fun _ e=>e.o==x && (za9 e.t (zpx h.evs)).getD false) (fun k hk _=>y0.qt (y0.of_acall (fs:= []) (cs:= [pZ b3,pZ b6]) (ynp k x h.evs[k] b3 b6 rm (zpx h.evs))) (pt2 _ _ _ _)))) rfl ?_)
  rintro _ _ ⟨s,rfl,rfl⟩
  refine rn ?_;refine z8 rfl (v2 rfl rfl (za3 (y0.of_fun (yeg s _ (by have:=(zfu (zk9 2 (fun _ e=>e.t) (fun _ e=>e.o==x && (za9 e.t (zpx h.evs)).getD false)) h.evs h.evs.length);omega)))) rfl ?_)
  rintro _ _ ⟨s',rfl,rfl⟩
  refine rn ?_;exact j9 rfl (.trans (.perm ((pt1 _ _ _).trans (.cons _ ((pt1 _ _ _).trans (.cons _ ((pt1 _ _ _).trans (.cons _ (pt1 _ _ _))))))) _) (.drop [_,_,_,_] _ _)) ⟨s',by rw [hx,ynw],rfl⟩
theorem yrl (h:Hist) (la:Lim 3000 h) (x:Int) (b2 b3:Nat):y7 Tryz.prog 151 [pZ b2,pZ b3] (.glob 2 156 y3:: .glob 4 305 y4:: .glob 5 308 y1:: .glob 3 246 q7:: .box b2 28 (y9 h):: .box b3 3 [iv x]:: []) (fun r h'=>∃s:SV,h'= .row s.v 1 3 ((za0 h x).map zai):: .glob 2 156 y3:: .glob 4 305 y4:: .glob 5 308 y1:: .glob 3 246 q7:: .box b2 28 (y9 h):: .box b3 3 [iv x]:: []∧r= .v s.v):=by
 refine z6 Tryz.func151 rfl rfl rfl ?_
 refine rn ?_;refine z8 rfl (v2 rfl rfl (y0.of_fun (yrm h la x _)) rfl ?_)
 rintro _ _ ⟨s,rfl,rfl⟩
 refine rn ?_;exact j9 rfl (.refl _ _) ⟨s,rfl,rfl⟩
theorem ynr (h:Hist) (la:Lim 4611686018427387904 h) (x:Int):y7 Tryz.prog 101 [.agg (y9 h),iv x] (.glob 2 156 y3:: .glob 4 305 y4:: .glob 5 308 y1:: .glob 3 246 q7:: []) (fun r h'=>∃s:SV,h'= .row s.v 1 3 ((onE (zhe h x h.os.length) (za0 h x)).map zai):: .glob 2 156 y3:: .glob 4 305 y4:: .glob 5 308 y1:: .glob 3 246 q7:: []∧r= .tup [.v s.v,iv (zhe h x h.os.length)]):=by
 refine z6 Tryz.func101 rfl rfl rfl ?_
 refine rn ?_;refine z8 rfl (w8 rfl rfl rfl fun b2=> ?_)
 refine z8 rfl (w8 rfl rfl rfl fun b3=> ?_)
 refine rn ?_;refine z8 rfl (v2 rfl rfl (y0.perm ((pt2 _ _ _ _).trans (.cons _ ((pt2 _ _ _ _).trans (.cons _ ((pt2 _ _ _ _).trans (.cons _ ((pt2 _ _ _ _).trans (.cons _ (pt1 _ _ _))))))))) (y0.of_fun (ykk h la x (h.os.map zeh).length (.fn (.func 151) [] [pZ b2,pZ b3]) rfl (za0 h x) [.box b2 28 (y9 h),.box b3 3 [iv x]] (fun he=>y0.of_acall (fs:= []) (cs:= [pZ b2,pZ b3]) (yrl h (ye3 he) x b2 b3))))) rfl ?_)
 rintro _ _ ⟨s,rfl,rfl⟩
 refine rn ?_;exact zbz rfl rfl (.trans (.perm ((pt5 _ _ _ _ _ _ _).trans (.cons _ (pt5 _ _ _ _ _ _ _))) _) (.drop [_,_] _ _)) ⟨s,by simp only [oM],by simp only [oM];rfl⟩
theorem ykh (h:Hist) (la:Lim 4611686018427387904 h) (x:Int):y7 Tryz.prog 101 [.agg (y9 h),iv x] (.glob 2 156 y3:: .glob 4 305 y4:: .glob 5 308 y1:: .glob 3 246 q7:: []) (fun r h'=>h'= .glob 2 156 y3:: .glob 4 305 y4:: .glob 5 308 y1:: .glob 3 246 q7:: []∧r= .tup [zaq (onE (zhe h x h.os.length) (za0 h x)),iv (zhe h x h.os.length)]):=
 (ynr h la x).ventR (by rintro _ _ ⟨s,rfl,rfl⟩;exact ⟨_,_,zbf [] [_],rfl,rfl⟩)
theorem yva {l:List Ev} {t x:Int} {a:Nat} (ha:l.length≤a) (h0:(((zd7 (zge t x a) l l.length).map zlb).length:Int)=0):zi0 l t x=none:=by
 have hl:=zla l t x a l.length (Nat.le_refl _)
 rw [Nat.min_eq_left ha] at hl
 rw [zi0,←hl]
 generalize zd7 (zge t x a) l l.length=L at *
 rw [oM] at h0
 cases L with
 |nil=>rfl
 |cons b r=>rw [List.length_cons] at h0;omega
theorem yu9 {l:List Ev} {t x:Int} {a:Nat} (h0:(((zd7 (zge t x a) l l.length).map zlb).length:Int)≠0):∃p,zc8 l t x (min l.length a)=some p∧((zd7 (zge t x a) l l.length).map zlb)[((((zd7 (zge t x a) l l.length).map zlb).length:Int) - 1).toNat]? =some (zlb p)∧0≤(((zd7 (zge t x a) l l.length).map zlb).length:Int) - 1∧((((zd7 (zge t x a) l l.length).map zlb).length:Int) - 1).toNat < ((zd7 (zge t x a) l l.length).map zlb).length:=by
 have hl:=zla l t x a l.length (Nat.le_refl _)
 generalize zd7 (zge t x a) l l.length=L at *
 rw [oM] at h0 ⊢
 have hn:0 < L.length:=by omega
 refine ⟨L[L.length - 1],?_,?_,by omega,by omega⟩
 ·rw [←hl,List.getLast?_eq_getElem?,List.getElem?_eq_getElem (by omega)]
 ·rw [show ((L.length:Int) - 1).toNat=L.length - 1 by omega,List.getElem?_map,List.getElem?_eq_getElem (by omega)];rfl
def yip (h:Hist) (t x:Int):Ver×Nat:=(zi0 h.evs t x).getD (⟨0,0⟩,0)
theorem yr5 (h:Hist) (t x:Int):(yip h t x).1=zqk (zi0 h.evs t x):=by rw [yip];cases zi0 h.evs t x <;> rfl
theorem yr6 (h:Hist) (t x:Int):(((yip h t x).2:Nat):Int)=atO (zi0 h.evs t x):=by rw [yip];cases zi0 h.evs t x <;> rfl
def yo5 (h:Hist) (t x:Int):Option (Ver×Nat):=if v6 h=0 then zi0 h.evs t x else none
theorem yh6 (h:Hist) (la:h.evs.length≤1000000) (t x:Int) (a:Nat) (W:List Res):y7 Tryz.prog 153 [.agg (y9 h),iv t,iv x,iv a] W (fun r h'=>∃s:SV,h'= .row s.v 3 139 ((zd7 (zge t x a) h.evs h.evs.length).map zlb)::W∧r= .v s.v):=by
 refine z6 Tryz.func153 rfl rfl rfl ?_
 refine rn ?_;refine z8 rfl (w8 rfl rfl rfl fun b4=> ?_)
 refine z8 rfl (w8 rfl rfl rfl fun b5=> ?_)
 refine z8 rfl (w8 rfl rfl rfl fun b6=> ?_)
 refine z8 rfl (w8 rfl rfl rfl fun b7=> ?_)
 refine rn ?_;refine z8 rfl (v2 rfl rfl (y0.of_fun (yrn h la 2 _ rfl _ (fun k e=>(e.v,k)) (fun k e=>e.t==t && e.o==x && decide (k < a)) (fun k hk _=>y0.qt (y0.of_acall (fs:= []) (cs:= [pZ b5,pZ b6,pZ b7]) (yno k a t x h.evs[k] b5 b6 b7)) ((pt2 _ _ _ _).trans (.cons _ (pt1 _ _ _)))))) rfl ?_)
 rintro _ _ ⟨s,rfl,rfl⟩
 refine rn ?_;exact j9 rfl (.trans (.perm ((pt1 _ _ _).trans (.cons _ ((pt1 _ _ _).trans (.cons _ ((pt1 _ _ _).trans (.cons _ (pt1 _ _ _))))))) _) (.drop [_,_,_,_] _ _)) ⟨s,rfl,rfl⟩
theorem yux (h:Hist) (la:h.evs.length≤1000000) (t x:Int) (W:List Res):y7 Tryz.prog 104 [.agg (y9 h),iv t,iv x] W (fun r h'=>h'=W∧r= .tup [.agg (zlb (yip h t x)),bv (zi0 h.evs t x).isSome]):=by
 refine z6 Tryz.func104 rfl rfl rfl ?_
 refine rn ?_;refine z8 rfl (w8 rfl rfl rfl fun b3=> ?_)
 refine z8 rfl (y5 rfl fun b6=> ?_)
 refine q1 ?_;refine u4 (zac ?_)
 refine w9 (y6 ?_)
 refine q1 ?_;refine q1 ?_;refine q1 ?_;refine q1 ?_;refine q1 ?_;refine q1 ?_;rw [oM]
 refine z8 rfl (v2 rfl rfl (y0.of_fun (yh6 h la t x h.evs.length _)) rfl ?_)
 rintro _ _ ⟨s,rfl,rfl⟩
 refine rn ?_;refine z7 rfl (fun hc18=> ?_) (fun hc18=> ?_)
 ·have hw:=yva (l:=h.evs) (t:=t) (x:=x) (a:=h.evs.length) (Nat.le_refl _) (by simpa using hc18)
  refine w9 (y6 ?_)
  refine qq rfl rfl (j6 (out:= [iv 0,iv 0,iv 0]) rfl (by rfl)) ?_
  refine rn ?_;exact zef (.cons _ _ _ _ (.agg _ _ _ _ _ _ _ rfl inferInstance inferInstance inferInstance rfl) (.cons _ _ _ _ (.tmp _ _ rfl) .nil)) (.drop [_,_,_] _ _) ⟨rfl,by rw [yip,hw];rfl⟩
 ·obtain ⟨p,hp,f1,f2,f3⟩:=yu9 (l:=h.evs) (t:=t) (x:=x) (a:=h.evs.length) (by simpa using hc18)
  rw [Nat.min_self] at hp
  have hL:=zfu (zge t x h.evs.length) h.evs h.evs.length
  refine za7 ?_;refine zac ?_;refine w9 (y6 ?_)
  refine q1 ?_;refine q1 ?_;refine q1 ?_;refine qq rfl rfl (zci rfl rfl rfl (by rw [oM];omega)) ?_
  refine qq rfl rfl (zqx rfl rfl f2 f3) ?_
  refine qq rfl rfl (zix rfl f1 rfl) ?_
  refine rn ?_;exact zef (.cons _ _ _ _ (.agg _ _ _ _ _ _ _ rfl inferInstance inferInstance inferInstance rfl) (.cons _ _ _ _ (.tmp _ _ rfl) .nil)) (.drop [_,_,_] _ _) ⟨rfl,by rw [yip,zi0,hp];rfl⟩
theorem yns (h:Hist) (la:Lim 4611686018427387904 h) (t x:Int):y7 Tryz.prog 121 [.agg (y9 h),iv t,iv x] (.glob 2 156 y3:: .glob 4 305 y4:: .glob 5 308 y1:: .glob 3 246 q7:: []) (fun r h'=>h'= .glob 2 156 y3:: .glob 4 305 y4:: .glob 5 308 y1:: .glob 3 246 q7:: []∧r= .tup [.agg (zyk (zqk (yo5 h t x))),iv (atO (yo5 h t x)),bv (yo5 h t x).isSome]):=by
 refine z6 Tryz.func121 rfl rfl rfl ?_
 refine rn ?_;refine z8 rfl (w8 rfl rfl rfl fun b3=> ?_)
 refine z8 rfl (y5 rfl fun b6=> ?_)
 refine rn ?_;refine qv rfl rfl (y2 rfl rfl (y0.qt (y0.of_fun (ydd h la)) ((pt2 _ _ _ _).trans (.cons _ ((pt2 _ _ _ _).trans (.cons _ ((pt2 _ _ _ _).trans (.cons _ (pt2 _ _ _ _))))))))) ?_
 refine rn ?_;refine z7 rfl (fun hc13=> ?_) (fun hc13=> ?_)
 ·have hc:v6 h≠0:=by simpa using hc13
  refine w9 (y6 ?_)
  refine qq rfl rfl (j6 (out:= [iv 0,iv 0]) rfl (by rfl)) ?_
  refine rn ?_;exact zef (.cons _ _ _ _ (.agg _ _ _ _ _ _ _ rfl inferInstance inferInstance inferInstance rfl) (.cons _ _ _ _ (.tmp _ _ rfl) (.cons _ _ _ _ (.tmp _ _ rfl) .nil))) (.drop [_,_] _ _) ⟨rfl,by rw [yo5,if_neg hc];rfl⟩
 ·have hc:v6 h=0:=by simpa using hc13
  refine rn ?_;refine qv rfl rfl (y2 rfl rfl (y0.of_fun (yux h (yoh hc) t x _))) ?_
  refine rn ?_;refine z8 rfl (y5 rfl fun b9=> ?_)
  refine rn ?_;refine zc1 7 [(b6,57,_)] rfl ((pt1 _ _ _).trans (List.perm_append_comm (l₁:= [_]))) ?_
  refine rn ?_;refine dw 0 rfl rfl rfl rfl rfl (Nat.le_of_ble_eq_true rfl) ?_
  refine rn2 ?_;show zcr _ _ _ _ _ _ ⟨_,.box b6 57 (zyk (yip h t x).1):: .box b9 139 (zlb (yip h t x)):: .box b3 28 (y9 h):: .glob 2 156 y3:: .glob 4 305 y4:: .glob 5 308 y1:: .glob 3 246 q7:: [],_⟩
  refine rn ?_;exact zef (.cons _ _ _ _ (.agg _ _ _ _ _ _ _ rfl inferInstance inferInstance inferInstance rfl) (.cons _ _ _ _ (.tmp _ _ rfl) (.cons _ _ _ _ (.tmp _ _ rfl) .nil))) (.drop [_,_,_] _ _) ⟨rfl,by rw [yo5,if_pos hc,←yr5,←yr6];rfl⟩
end Go.Proofs
namespace Go.Ab
open Go
section
variable {P:Program} {ro:Option Nat} {nt:Nat} {c:Code} {Q:Exit→St→Prop} {t:Fr} {h:List Res} {ds:List Nat}
theorem zv3 {σ:Type} (n:Nat) (p:Nat→σ→Prop) (v:Nat→σ→Fr) (cs:Fr) (x0:σ) (hp:p 0 x0)
 (round:∀k x,k≤n→p k x→aw P ro nt c (thn (fun s'=>k < n∧∃x',p (k+1) x'∧Ent nt s' ⟨v (k+1) x'++cs,h,ds⟩) Q) ⟨v k x++cs,h,ds⟩)
 (hs:SubF t (v 0 x0++cs):=by repeat (first|exact .nil|refine .cons _ _ _ rfl ?_)):aw P ro nt (.loop c) Q ⟨t,h,ds⟩:=
 zab (fun x:Nat×σ=>x.1≤n∧p x.1 x.2) (fun x=>⟨v x.1 x.2++cs,h,ds⟩) (fun x=>n - x.1) (0,x0) ⟨Nat.zero_le _,hp⟩ (v7 hs) fun x hk=>zf3 (fun e s' hq=>by
  cases e with
  |normal=>
   obtain ⟨h1,x',h2,h3⟩:=hq
   exact ⟨(x.1+1,x'),⟨h1,h2⟩,h3,by simp only;omega⟩
  |_=>exact hq) (round x.1 x.2 hk.1 hk.2)
end
end Go.Ab
set_option maxRecDepth 10000
namespace Go.Proofs
open Go Go.Ab
attribute [local irreducible] QR QV OE zcr aw zdc zdn zbj zcg thn zff
open Go.H
theorem ymi {f g:Bool} (l m:List Seen) (hl:l.length≤4611686018427387904) (hm:m.length≤4611686018427387904):y7 Tryz.prog 130 [.list f 3 (l.map zah),.list g 3 (m.map zah)] [] (fun r h'=>h'= []∧r=bv (eqF zf6 l m)):=by
 refine z6 Tryz.func130 rfl rfl rfl ?_
 refine rn ?_;refine z7 rfl (fun hc10=> ?_) (fun hc10=> ?_)
 ·refine rn ?_;have hne:(l.length==m.length)=false:=beq_eq_false_iff_ne.2 fun q=>by simp [q] at hc10
  exact j9 rfl (.refl _ _) ⟨rfl,by rw [eqF,hne,Bool.false_and];rfl⟩
 ·have hlm:l.length=m.length:=by simp at hc10;omega
  refine rn ?_;refine zab (fun k:Nat=>k≤l.length∧zrt zf6 l m=zrt zf6 (l.drop k) (m.drop k)) (fun k=>⟨[(13,iv k),(12,iv (l.map zah).length),(0,.list f 3 (l.map zah)),(1,.list g 3 (m.map zah))],[],[]⟩) (fun k=>l.length - k) 0 ⟨Nat.zero_le _,by simp⟩
   (v7 (.cons _ _ _ rfl (.cons _ _ _ rfl (.cons _ _ _ rfl (.cons _ _ _ rfl (.nil)))))) ?_
  rintro k ⟨hk,hz⟩
  refine rn ?_;refine z7 rfl (fun hc14=> ?_) (fun hc14=> ?_)
  ·have hk2:k < l.length:=by simpa using hc14
   have hk3:k < m.length:=by omega
   have hrow1:(l.map zah)[k]? =some (zah l[k]):=by simp [hk2]
   have hrow2:(m.map zah)[k]? =some (zah m[k]):=by simp [hk3]
   have hd1:=List.drop_eq_getElem_cons hk2
   have hd2:=List.drop_eq_getElem_cons hk3
   refine rn ?_;refine j4 8 rfl ?_
   refine rn ?_;refine z7 rfl (fun hc24=> ?_) (fun hc24=> ?_)
   ·refine rn ?_;exact j9 rfl (.refl _ _) ⟨rfl,by rw [eqF,hz,hd1,hd2,zrt,show zf6 l[k] m[k]=false from ycm hc24,Bool.false_and,Bool.and_false];rfl⟩
   ·refine rn ?_;exact ⟨k+1,⟨by omega,by rw [hz,hd1,hd2,zrt,show zf6 l[k] m[k]=true from ycn hc24,Bool.true_and]⟩,(v7 (.cons _ _ _ rfl (.cons _ _ _ rfl (.cons _ _ _ rfl (.cons _ _ _ rfl (.nil)))))),by omega⟩
  ·have hk3:k=l.length:=by
    have:l.length≤k:=by simpa using hc14
    omega
   refine rn ?_;exact j9 rfl (.refl _ _) ⟨rfl,by rw [eqF,hz,hk3,List.drop_length,zqd,hlm,beq_self_eq_true];rfl⟩
theorem zjc (n m:Int):y7 Tryz.prog 21 [iv n,iv m] [] (fun r h'=>h'= []∧r=bv (isB n m)):=by
 refine z6 Tryz.func21 rfl rfl rfl ?_
 refine rn ?_;refine w7 (fun hg1_2=> ?_) (fun hg1_2=> ?_)
 ·refine rn ?_;exact j9 rfl (.refl _ _) ⟨rfl,congrArg bv (by first|(simp only [isB, *,Bool.true_and,Bool.false_and,Bool.and_false,Bool.and_true,Bool.true_or,Bool.or_false,Bool.false_or,Bool.or_true,if_true,if_false,Bool.false_eq_true,Bool.not_true,Bool.not_false];done)|(simp_all [isB];done)|(simp_all [isB] <;> omega))⟩
 ·refine rn ?_;exact j9 rfl (.refl _ _) ⟨rfl,congrArg bv (by first|(simp only [isB, *,Bool.true_and,Bool.false_and,Bool.and_false,Bool.and_true,Bool.true_or,Bool.or_false,Bool.false_or,Bool.or_true,if_true,if_false,Bool.false_eq_true,Bool.not_true,Bool.not_false];done)|(simp_all [isB];done)|(simp_all [isB] <;> omega))⟩
theorem bvz0_2680 {a b:Bool} (h:a=b:=by first|(simp only [zfr, *,Bool.true_and,Bool.false_and,Bool.and_false,Bool.and_true,Bool.true_or,Bool.or_false,Bool.false_or,Bool.or_true,if_true,if_false,Bool.false_eq_true,Bool.not_true,Bool.not_false];done)|(simp_all [zfr];done)|(simp_all [zfr] <;> omega)):bv a=bv b:=congrArg bv h
theorem zgb (v:Ver) (m:Int):y7 Tryz.prog 216 [.agg (zyk v),iv m] [] (fun r h'=>h'= []∧r=bv (zfr v m)):=by
 refine z6 Tryz.func216 rfl rfl rfl ?_
 refine rn ?_;refine z8 rfl (w8 rfl rfl rfl fun b2=> ?_)
 refine rn ?_;refine w7 (fun hg1_3=> ?_) (fun hg1_3=> ?_)
 ·refine rn ?_;exact j9 rfl (.drop [_] _ _) ⟨rfl,bvz0_2680⟩
 ·refine rn ?_;refine qv rfl rfl (y2 rfl rfl (u3 (zjc _ _) (Sbs.refl _))) ?_
  refine rn ?_;refine w7 (fun hg1_8=> ?_) (fun hg1_8=> ?_)
  ·refine rn ?_;refine w7 (fun hg1_13=> ?_) (fun hg1_13=> ?_)
   ·refine rn ?_;exact j9 rfl (.drop [_] _ _) ⟨rfl,bvz0_2680⟩
   ·refine rn ?_;exact j9 rfl (.drop [_] _ _) ⟨rfl,bvz0_2680⟩
  ·refine rn ?_;exact j9 rfl (.drop [_] _ _) ⟨rfl,bvz0_2680⟩
theorem bvz1_8428 {a b:Bool} (h:a=b:=by first|(simp only [zkp, *,Bool.true_and,Bool.false_and,Bool.and_false,Bool.and_true,Bool.true_or,Bool.or_false,Bool.false_or,Bool.or_true,if_true,if_false,Bool.false_eq_true,Bool.not_true,Bool.not_false];done)|(simp_all [zkp];done)|(simp_all [zkp] <;> omega)):bv a=bv b:=congrArg bv h
theorem zgt (a b:Ev) (ha:a.scan.length≤4611686018427387904) (hb:b.scan.length≤4611686018427387904):y7 Tryz.prog 79 [.agg (evR a),.agg (evR b)] [] (fun r h'=>h'= []∧r=bv (zkp a b)):=by
 refine z6 Tryz.func79 rfl rfl rfl ?_
 refine rn ?_;refine z8 rfl (w8 rfl rfl rfl fun b2=> ?_)
 refine z8 rfl (w8 rfl rfl rfl fun b3=> ?_)
 refine rn ?_;refine w7 (fun hg1_5=> ?_) (fun hg1_5=> ?_)
 ·refine rn ?_;refine w7 (fun hg1_12=> ?_) (fun hg1_12=> ?_)
  ·refine rn ?_;refine w7 (fun hg1_19=> ?_) (fun hg1_19=> ?_)
   ·refine rn ?_;refine w7 (fun hg1_26=> ?_) (fun hg1_26=> ?_)
    ·refine rn ?_;refine w7 (fun hg1_33=> ?_) (fun hg1_33=> ?_)
     ·refine rn ?_;refine w7 (fun hg1_40=> ?_) (fun hg1_40=> ?_)
      ·refine rn ?_;refine w7 (fun hg1_47=> ?_) (fun hg1_47=> ?_)
       ·refine rn ?_;refine qv rfl rfl (y2 rfl rfl (u3 (ymi _ _ ha hb) (Sbs.refl _))) ?_
        refine rn ?_;exact j9 rfl (.drop [_,_] _ _) ⟨rfl,bvz1_8428⟩
       ·refine rn ?_;exact j9 rfl (.drop [_,_] _ _) ⟨rfl,bvz1_8428⟩
      ·refine rn ?_;exact j9 rfl (.drop [_,_] _ _) ⟨rfl,bvz1_8428⟩
     ·refine rn ?_;exact j9 rfl (.drop [_,_] _ _) ⟨rfl,bvz1_8428⟩
    ·refine rn ?_;exact j9 rfl (.drop [_,_] _ _) ⟨rfl,bvz1_8428⟩
   ·refine rn ?_;exact j9 rfl (.drop [_,_] _ _) ⟨rfl,bvz1_8428⟩
  ·refine rn ?_;exact j9 rfl (.drop [_,_] _ _) ⟨rfl,bvz1_8428⟩
 ·refine rn ?_;exact j9 rfl (.drop [_,_] _ _) ⟨rfl,bvz1_8428⟩
theorem zyz {f:Bool} (l:List Int) (n:Int) (hl:l.length≤4611686018427387904):y7 Tryz.prog 77 [.list f 1 (l.map zai),iv n] [] (fun r h'=>h'= []∧r=iv (atI n 0 l)):=by
 refine z6 Tryz.func77 rfl rfl rfl ?_
 refine rn ?_;refine zab (fun k:Nat=>k≤l.length∧atI n 0 l=atI n k (l.drop k)) (fun k=>⟨[(9,iv k),(8,iv (l.map zai).length),(7,.list f 1 (l.map zai)),(1,iv n)],[],[]⟩) (fun k=>l.length - k) 0 ⟨Nat.zero_le _,by simp⟩
  (v7 (.cons _ _ _ rfl (.cons _ _ _ rfl (.cons _ _ _ rfl (.cons _ _ _ rfl (.nil)))))) ?_
 rintro k ⟨hk,hz⟩
 refine rn ?_;refine z7 rfl (fun hc10=> ?_) (fun hc10=> ?_)
 ·have hk2:k < l.length:=by simpa using hc10
  have hrow:(l.map zai)[k]? =some (zai l[k]):=by simp [hk2]
  have hd:=List.drop_eq_getElem_cons hk2
  refine rn ?_;refine z7 rfl (fun hc16=> ?_) (fun hc16=> ?_)
  ·have hx:l[k]=n:=by simpa using hc16
   refine rn ?_;exact j9 rfl (.refl _ _) ⟨rfl,congrArg iv (by rw [hz,hd,atI,if_pos hx])⟩
  ·have hx:¬l[k]=n:=by simpa using hc16
   refine rn ?_;exact ⟨k+1,⟨by omega,by rw [hz,hd,atI,if_neg hx]⟩,(v7 (.cons _ _ _ rfl (.cons _ _ _ rfl (.cons _ _ _ rfl (.cons _ _ _ rfl (.nil)))))),by omega⟩
 ·have hk3:k=l.length:=by
   have:l.length≤k:=by simpa using hc10
   omega
  refine rn ?_;exact j9 rfl (.refl _ _) ⟨rfl,congrArg iv (by rw [hz,hk3,List.drop_length];rfl)⟩
attribute [local irreducible] zeb jch zfn
theorem yp6 (h:Hist) (t c:Int) (la:Lim 4611686018427387904 h):y7 Tryz.prog 91 [.agg (y9 h),iv t,iv c] [] (fun r h'=>h'= []∧r=bv (ze6 h.evs t c)):=by
 refine z6 Tryz.func91 rfl rfl rfl ?_
 refine rn ?_;refine z8 rfl (w8 rfl rfl rfl fun b3=> ?_)
 refine rn ?_;refine zcj (h.evs.length) (fun k:Nat=>h.evs.all (fun e:Ev=> !(e.t==t && e.kind==c))=(h.evs.drop k).all (fun e:Ev=> !(e.t==t && e.kind==c))) (fun k=> [(12,iv k)]) [(1,_),(2,_),(10,_),(11,_)] rfl ?_
 intro k lk zk
 refine rn ?_;refine z7 rfl (fun hc13=> ?_) (fun hc13=> ?_)
 ·have hk:=zay hc13
  have rk:=zag (f:=evR) hk
  have bk:=la.evs
  refine rn ?_;refine z8 rfl (y5 rfl fun b8=> ?_)
  refine rn ?_;refine w7 (fun hg4_4=> ?_) (fun hg4_4=> ?_)
  ·refine rn ?_;refine z7 rfl (fun hc25=> ?_) (fun hc25=> ?_)
   ·refine rn ?_;refine rq 2 ?_
    exact ⟨rfl,congrArg bv (by rw [ze6,zt4 hk (by simp_all)];rfl)⟩
   ·refine rn ?_;exact ⟨hk,zt3 hk zk (by simp_all),eA⟩
  ·refine rn ?_;refine zd9 rfl ?_;refine rn ?_;exact ⟨hk,zt3 hk zk (by simp_all),eA⟩
 ·have qk:=zaz hc13 lk
  have ak:=zzz qk zk
  refine rn ?_;refine rq 1 ?_
  exact ⟨rfl,congrArg bv (by rw [ze6,ak];rfl)⟩
theorem ybu (h:Hist) (t:Int) (la:Lim 4611686018427387904 h):y7 Tryz.prog 36 [.agg (y9 h),iv t] [] (fun r h'=>h'= []∧r=bv (ze6 h.evs t 5)):=by
 refine z6 Tryz.func36 rfl rfl rfl ?_
 refine rn ?_;refine z8 rfl (w8 rfl rfl rfl fun b2=> ?_)
 refine rn ?_;refine qv rfl rfl (y2 rfl rfl (u3 (yp6 h t 5 la) (Sbs.refl _))) ?_
 refine rn ?_;refine rq 1 ?_
 exact ⟨rfl,rfl⟩
theorem zun (ts f:List Int) (hl:ts.length≤4611686018427387904) (hm:f.length≤4611686018427387904):y7 Tryz.prog 276 [zaq ts,zaq f] [] (fun r h'=>h'= []∧r=bv (zgo ts f)):=by
 refine z6 Tryz.func276 rfl rfl rfl ?_
 refine rn ?_;refine zcj (ts.length) (fun k:Nat=>yje ts f k) (fun k=> [(9,iv k)]) [(0,_),(1,_),(7,_),(8,_)] (fun j _ h=>absurd h (Nat.not_lt_zero _)) ?_
 intro k lk zk
 refine rn ?_;refine z7 rfl (fun hc10=> ?_) (fun hc10=> ?_)
 ·have hk:=zay hc10
  have rk:=zag (f:=zai) hk
  refine rn ?_;refine qv rfl rfl (y2 rfl rfl (u3 (zyz f ts[k] hm) (Sbs.refl _))) ?_
  refine rn ?_;refine w7 (fun hg4_4=> ?_) (fun hg4_4=> ?_)
  ·refine rn ?_;refine zfp rfl ?_;refine rn ?_;refine rq 0 ?_
   exact ⟨rfl,congrArg bv (by rw [yjs hk (by first|exact .inl hg4_4|exact .inr (by simpa using hc24))])⟩
  ·refine rn ?_;refine qv rfl rfl (y2 rfl rfl (u3 (zyz ts ts[k] hl) (Sbs.refl _))) ?_
   refine rn ?_;refine z7 rfl (fun hc24=> ?_) (fun hc24=> ?_)
   ·refine rn ?_;refine rq 0 ?_
    exact ⟨rfl,congrArg bv (by rw [yjs hk (by first|exact .inl hg4_4|exact .inr (by simpa using hc24))])⟩
   ·refine rn ?_;exact ⟨hk,ylz hk zk (by simp_all) (by simp_all),eA⟩
 ·have qk:=zaz hc10 lk
  refine rn ?_;refine rq 0 ?_
  exact ⟨rfl,congrArg bv (by rw [ypp (qk ▸ zk)])⟩
theorem zii (h:Hist) (x:Int) (la:Lim 1000000 h):y7 Tryz.prog 129 [.agg (y9 h),iv x] [] (fun r h'=>h'= []∧r=zaq (zbl h x)):=by
 refine z6 Tryz.func129 rfl rfl rfl ?_
 have be:=la.evs
 have bt:=la.ts
 refine rn ?_;refine z8 rfl (w8 rfl rfl rfl fun b2=> ?_)
 refine rn0 ?_;refine w9 (y6 ?_)
 refine rn0 ?_;refine w9 ?_;refine w9 ?_;refine zfv (k9 1 3) ?_
 refine rn ?_;refine zda h.ts.length (fun k s=>⟨[(13,iv k),(5,.v s.v),(1,iv x),(2,pZ b2),(12,iv (h.ts.map zeh).length)],.row s.v 1 3 ((zdo h x k).map zai):: .box b2 28 (y9 h):: [],[]⟩) ⟨none,0,0⟩ es ?_
 intro k s lk
 refine rn ?_;refine z7 rfl (fun hc14=> ?_) (fun hc14=> ?_)
 ·have hk:=zay hc14
  have rk:=zag (f:=zeh) hk
  refine rn ?_;refine zv3 h.evs.length (fun j wb=>wb=(h.evs.take j).any (zam k x)) (fun j wb=> [(19,iv j),(7,bv wb)]) [(1,_),(2,_),(5,_),(6,_),(12,_),(13,_),(17,_),(18,_)] false rfl ?_
  intro j wb lj zj
  refine rn ?_;refine z7 rfl (fun hc20=> ?_) (fun hc20=> ?_)
  ·have hj:=zay hc20
   have rj:=zag (f:=evR) hj
   refine rn ?_;refine z8 rfl (y5 rfl fun b9=> ?_)
   refine rn ?_;refine w7 (fun hg9_1=> ?_) (fun hg9_1=> ?_)
   ·refine rn ?_;refine ⟨hj,_,?_,eA⟩
    rw [zbb hj,←zj]
    simp_all [zam]
   ·refine rn ?_;refine w7 (fun hg9_5=> ?_) (fun hg9_5=> ?_)
    ·refine rn ?_;refine w7 (fun hg9_11=> ?_) (fun hg9_11=> ?_)
     ·refine rn ?_;refine ⟨hj,_,?_,eA⟩
      rw [zbb hj,←zj]
      simp_all [zam]
     ·refine rn ?_;refine ⟨hj,_,?_,eA⟩
      rw [zbb hj,←zj]
      simp_all [zam]
    ·refine rn ?_;refine ⟨hj,_,?_,eA⟩
     rw [zbb hj,←zj]
     simp_all [zam]
  ·have qj:=zaz hc20 lj
   have wq:wb=h.evs.any (zam k x):=by rw [zj,qj,List.take_length]
   refine rn ?_;refine w7 (fun hg11_1=> ?_) (fun hg11_1=> ?_)
   ·refine rn ?_;refine qv rfl rfl (y2 rfl rfl (u3 (ybu h k (la.mono (by decide))) (Sbs.refl _))) ?_
    refine rn ?_;refine z7 rfl (fun hc47=> ?_) (fun hc47=> ?_)
    ·refine rn ?_;refine qv rfl rfl (q6 rfl rfl) ?_
     refine z8 rfl (u7 rfl rfl (by simp only [oM];have:=zli h x k;simp;omega) rfl (fun s51=> ?_) (zgw [(k:Int)]))
     refine k7 s51 fun sv hsv=> ?_
     subst hsv
     refine rn ?_;first|exact ⟨hk,sv,by rw [zkr (by simp_all) (by simp_all),List.map_append];exact eA⟩|exact ⟨hk,s,by rw [zks (by simp_all)];exact eA⟩
    ·refine rn ?_;first|exact ⟨hk,sv,by rw [zkr (by simp_all) (by simp_all),List.map_append];exact eA⟩|exact ⟨hk,s,by rw [zks (by simp_all)];exact eA⟩
   ·refine rn ?_;refine zd9 rfl ?_;refine rn ?_;first|exact ⟨hk,sv,by rw [zkr (by simp_all) (by simp_all),List.map_append];exact eA⟩|exact ⟨hk,s,by rw [zks (by simp_all)];exact eA⟩
 ·have qk:=zaz hc14 lk
  refine rn ?_;exact j9 rfl (.trans zbr (.drop1 _ _ _)) ⟨rfl,by rw [qk,zru];rfl⟩
theorem ygw (h:Hist) (i:Nat) (hi:i < h.ords.length) (la:Lim 1000000 h):y7 Tryz.prog 259 [.agg (y9 h),iv i] [] (fun r h'=>h'= []∧r=bv (zj6 h i h.ords[i])):=by
 refine z6 Tryz.func259 rfl rfl rfl ?_
 have ri:=zag (f:=zez) hi
 have bo:=la.ords
 have si:=la.ordts h.ords[i] (List.getElem_mem hi)
 refine rn ?_;refine z8 rfl (w8 rfl rfl rfl fun b2=> ?_)
 refine rn ?_;refine z8 rfl (y5 rfl fun b5=> ?_)
 first|refine z8 rfl (j5 rfl rfl rfl ?_)|refine z8 rfl (zak rfl rfl rfl rfl (Nat.le_of_ble_eq_true rfl) ?_)
 refine u4 (zac ?_)
 refine w9 ?_;refine w9 (y6 ?_)
 refine q1 ?_;refine q1 ?_;refine q1 ?_;refine qq rfl rfl (zcc (k:=i) rfl rfl (by simp;omega)) ?_
 rw [←List.map_take]
 refine rn ?_;refine zcj ((h.ords.take i).length) (fun j:Nat=>(h.ords.take i).all (fun p:Ord=> !(p.o==h.ords[i].o))=((h.ords.take i).drop j).all (fun p:Ord=> !(p.o==h.ords[i].o))) (fun j=> [(19,iv j)]) [(2,_),(5,_),(17,_),(18,_)] rfl ?_
 intro j lj zj
 refine rn ?_;refine z7 rfl (fun hc20=> ?_) (fun hc20=> ?_)
 ·have hj:=zay hc20
  have rj:=zag (f:=zez) hj
  have bj:(h.ords.take i).length≤4611686018427387904:=by simp;omega
  refine rn ?_;refine z8 rfl (y5 rfl fun b7=> ?_)
  refine rn ?_;refine z7 rfl (fun hc27=> ?_) (fun hc27=> ?_)
  ·refine rn ?_;refine rq 3 ?_
   exact ⟨rfl,congrArg bv (by rw [yhk (zt4 hj (by simpa using hc27))])⟩
  ·refine rn ?_;exact ⟨hj,zt3 hj zj (by simpa using hc27),eA⟩
 ·have qj:=zaz hc20 lj
  have aj:=zzz qj zj
  refine rn ?_;refine qv rfl rfl (y2 rfl rfl (u3 (zii h h.ords[i].o la) (Sbs.refl _))) ?_
  refine rn ?_;refine qv rfl rfl (y2 rfl rfl (u3 (zun h.ords[i].ts (zbl h h.ords[i].o) (Nat.le_trans si (by decide)) (Nat.le_trans (zgl _ _) (Nat.le_trans la.ts (by decide)))) (Sbs.refl _))) ?_
  refine rn ?_;refine w7 (fun hg9_5=> ?_) (fun hg9_5=> ?_)
  ·refine rn ?_;refine rq 2 ?_
   exact ⟨rfl,congrArg bv (by rw [zw7 aj];simp_all)⟩
  ·refine rn ?_;refine qv rfl rfl (y2 rfl rfl (u3 (zun (zbl h h.ords[i].o) h.ords[i].ts (Nat.le_trans (zgl _ _) (Nat.le_trans la.ts (by decide))) (Nat.le_trans si (by decide))) (Sbs.refl _))) ?_
   refine rn ?_;refine rq 2 ?_
   exact ⟨rfl,congrArg bv (by rw [zw7 aj];simp_all)⟩
theorem zyu (h:Hist) (x:Int) (la:Lim 1000000 h):y7 Tryz.prog 260 [.agg (y9 h),iv x] [] (fun r h'=>h'= []∧r=bv (zov h x)):=by
 refine z6 Tryz.func260 rfl rfl rfl ?_
 refine rn ?_;refine z8 rfl (w8 rfl rfl rfl fun b2=> ?_)
 refine rn ?_;refine zcj (h.ords.length) (fun j:Nat=>h.ords.all (fun p:Ord=> !(p.o==x))=(h.ords.drop j).all (fun p:Ord=> !(p.o==x))) (fun j=> [(10,iv j)]) [(1,_),(2,_),(8,_),(9,_)] rfl ?_
 intro j lj zj
 refine rn ?_;refine z7 rfl (fun hc11=> ?_) (fun hc11=> ?_)
 ·have hj:=zay hc11
  have rj:=zag (f:=zez) hj
  have bo:=la.ords
  refine rn ?_;refine z8 rfl (y5 rfl fun b6=> ?_)
  refine rn ?_;refine z7 rfl (fun hc17=> ?_) (fun hc17=> ?_)
  ·refine rn ?_;refine rq 2 ?_
   exact ⟨rfl,congrArg bv (by rw [ym9 (zt4 hj (by simpa using hc17))])⟩
  ·refine rn ?_;exact ⟨hj,zt3 hj zj (by simpa using hc17),eA⟩
 ·have qj:=zaz hc11 lj
  have aj:=zzz qj zj
  refine rn ?_;refine qv rfl rfl (y2 rfl rfl (u3 (zii h x la) (Sbs.refl _))) ?_
  refine rn ?_;refine rq 1 ?_
  exact ⟨rfl,congrArg bv (by rw [yna aj];simp;omega)⟩
theorem ygx (h:Hist) (i:Nat) (hi:i < h.mats.length) (la:Lim 1000000 h):y7 Tryz.prog 261 [.agg (y9 h),iv i] [] (fun r h'=>h'= []∧r=bv (zkb h i h.mats[i])):=by
 refine z6 Tryz.func261 rfl rfl rfl ?_
 have ri:=zag (f:=zeq) hi
 have bo:=la.mats
 have si:=la.matts h.mats[i] (List.getElem_mem hi)
 refine rn ?_;refine z8 rfl (w8 rfl rfl rfl fun b2=> ?_)
 refine rn ?_;refine z8 rfl (y5 rfl fun b5=> ?_)
 first|refine z8 rfl (j5 rfl rfl rfl ?_)|refine z8 rfl (zak rfl rfl rfl rfl (Nat.le_of_ble_eq_true rfl) ?_)
 refine u4 (zac ?_)
 refine w9 ?_;refine w9 (y6 ?_)
 refine q1 ?_;refine q1 ?_;refine q1 ?_;refine qq rfl rfl (zcc (k:=i) rfl rfl (by simp;omega)) ?_
 rw [←List.map_take]
 refine rn ?_;refine zcj ((h.mats.take i).length) (fun j:Nat=>(h.mats.take i).all (fun p:Mat=> !(p.p==h.mats[i].p && p.o==h.mats[i].o))=((h.mats.take i).drop j).all (fun p:Mat=> !(p.p==h.mats[i].p && p.o==h.mats[i].o))) (fun j=> [(18,iv j)]) [(2,_),(5,_),(16,_),(17,_)] rfl ?_
 intro j lj zj
 refine rn ?_;refine z7 rfl (fun hc19=> ?_) (fun hc19=> ?_)
 ·have hj:=zay hc19
  have rj:=zag (f:=zeq) hj
  have bj:(h.mats.take i).length≤4611686018427387904:=by simp;omega
  refine rn ?_;refine z8 rfl (y5 rfl fun b7=> ?_)
  refine rn ?_;refine w7 (fun hg5_5=> ?_) (fun hg5_5=> ?_)
  ·refine rn ?_;refine z7 rfl (fun hc33=> ?_) (fun hc33=> ?_)
   ·refine rn ?_;refine rq 3 ?_
    exact ⟨rfl,congrArg bv (by rw [yhr (zt4 hj (by simp_all))])⟩
   ·refine rn ?_;exact ⟨hj,zt3 hj zj (by simp_all),eA⟩
  ·refine rn ?_;refine zd9 rfl ?_;refine rn ?_;exact ⟨hj,zt3 hj zj (by simp_all),eA⟩
 ·have qj:=zaz hc19 lj
  have aj:=zzz qj zj
  refine rn ?_;refine j4 6 rfl ?_
  refine rn ?_;refine dv rfl rfl (by exact y2 rfl rfl (u3 (zii h h.mats[i].o la) (Sbs.refl _))) ?_
  refine rn ?_;refine qv rfl rfl (y2 rfl rfl (u3 (zun h.mats[i].ts (zbl h h.mats[i].o) (Nat.le_trans si (by decide)) (Nat.le_trans (zgl _ _) (Nat.le_trans la.ts (by decide)))) (Sbs.refl _))) ?_
  refine rn ?_;refine rq 2 ?_
  exact ⟨rfl,congrArg bv (by rw [yhs aj])⟩
theorem ymh (h:Hist) (i:Nat) (hi:i < h.wants.length) (la:Lim 1000000 h):y7 Tryz.prog 262 [.agg (y9 h),iv i] [] (fun r h'=>h'= []∧r=bv (zkt h i h.wants[i])):=by
 refine z6 Tryz.func262 rfl rfl rfl ?_
 have ri:=zag (f:=zf4) hi
 have bo:=la.wants
 refine rn ?_;refine z8 rfl (w8 rfl rfl rfl fun b2=> ?_)
 refine q1 ?_;refine u4 (zac ?_)
 refine w9 ?_;refine w9 (y6 ?_)
 refine q1 ?_;refine q1 ?_;refine q1 ?_;refine qq rfl rfl (zcc (k:=i) rfl rfl (by simp;omega)) ?_
 rw [←List.map_take]
 refine rn ?_;refine zcj ((h.wants.take i).length) (fun j:Nat=>(h.wants.take i).all (fun p:Wan=> !(p.s==h.wants[i].s))=((h.wants.take i).drop j).all (fun p:Wan=> !(p.s==h.wants[i].s))) (fun j=> [(14,iv j)]) [(1,_),(2,_),(12,_),(13,_)] rfl ?_
 intro j lj zj
 refine rn ?_;refine z7 rfl (fun hc15=> ?_) (fun hc15=> ?_)
 ·have hj:=zay hc15
  have rj:=zag (f:=zf4) hj
  have bj:(h.wants.take i).length≤4611686018427387904:=by simp;omega
  refine rn ?_;refine z8 rfl (y5 rfl fun b6=> ?_)
  refine rn ?_;refine j4 8 rfl ?_
  refine rn ?_;refine z7 rfl (fun hc26=> ?_) (fun hc26=> ?_)
  ·refine rn ?_;refine rq 2 ?_
   exact ⟨rfl,congrArg bv (by rw [ylk (zt4 hj (by simpa using hc26))])⟩
  ·refine rn ?_;exact ⟨hj,zt3 hj zj (by simpa using hc26),eA⟩
 ·have qj:=zaz hc15 lj
  have aj:=zzz qj zj
  refine rn ?_;refine zcj (h.evs.length) (fun k:Nat=>h.evs.all (fun e:Ev=> !(e.kind==1 && e.s==h.wants[i].s))=(h.evs.drop k).all (fun e:Ev=> !(e.kind==1 && e.s==h.wants[i].s))) (fun k=> [(31,iv k)]) [(1,_),(2,_),(29,_),(30,_)] rfl ?_
  intro k lk zk
  refine rn ?_;refine z7 rfl (fun hc32=> ?_) (fun hc32=> ?_)
  ·have hk:=zay hc32
   have rk:=zag (f:=evR) hk
   have bk:=la.evs
   refine rn ?_;refine z8 rfl (y5 rfl fun b8=> ?_)
   refine rn ?_;refine j4 12 rfl ?_
   refine rn ?_;refine zc0 (fun hg10_3=> ?_) (fun hg10_3=> ?_)
   ·refine rn ?_;refine z7 rfl (fun hc48=> ?_) (fun hc48=> ?_)
    ·refine rn ?_;refine rq 2 ?_
     exact ⟨rfl,congrArg bv (by rw [yaj aj (zt4 hk (by simp_all))])⟩
    ·refine rn ?_;exact ⟨hk,zt3 hk zk (by simp_all),eA⟩
   ·refine rn ?_;refine zd9 rfl ?_;refine rn ?_;exact ⟨hk,zt3 hk zk (by simp_all),eA⟩
  ·have qk:=zaz hc32 lk
   have ak:=zzz qk zk
   refine rn ?_;refine rq 1 ?_
   exact ⟨rfl,congrArg bv (by rw [yaj aj ak])⟩
theorem ybr (e:Ev):y7 Tryz.prog 278 [.agg (evR e)] [] (fun r h'=>h'= []∧r=zee (u6 e)):=by
 refine z6 Tryz.func278 rfl rfl rfl ?_
 refine rn ?_;refine z8 rfl (w8 rfl rfl rfl fun b1=> ?_)
 refine rn ?_;refine z7 rfl (fun hc5=> ?_) (fun hc5=> ?_)
 ·refine rn ?_;refine qv rfl rfl (q6 rfl rfl) ?_
  refine rn ?_;exact j9 rfl (.trans (.drop [_] _ _) (.le Sb.unfull.le)) ⟨rfl,by rw [u6,if_pos (by simpa using hc5)];rfl⟩
 ·refine rn ?_;refine rq 1 ?_
  exact ⟨rfl,by rw [u6,if_neg (by simpa using hc5)];rfl⟩
theorem zw0 (l:List Ev) (t x:Int) (la:l.length≤1000000):y7 Tryz.prog 277 [znz l,iv t,iv x] [] (fun r h'=>h'= []∧r=znz (zcs l t x)):=by
 refine z6 Tryz.func277 rfl rfl rfl ?_
 refine w9 (y6 ?_)
 refine rn0 ?_;refine w9 (y6 ?_)
 refine rn0 ?_;refine w9 ?_;refine w9 ?_;refine zfv (k9 9 60) ?_
 refine rn ?_;refine zda l.length (fun k s=>⟨[(12,iv k),(7,.v s.v),(1,iv t),(2,iv x),(10,znz l),(11,iv (l.map evR).length)],.row s.v 9 60 ((zcs (l.take k) t x).map evR):: [],[]⟩) ⟨none,0,0⟩ es ?_
 intro k s lk
 refine rn ?_;refine z7 rfl (fun hc13=> ?_) (fun hc13=> ?_)
 ·have hk:=zay hc13
  have rk:=zag (f:=evR) hk
  refine rn ?_;refine z8 rfl (y5 rfl fun b9=> ?_)
  refine rn ?_;refine w7 (fun hg5_3=> ?_) (fun hg5_3=> ?_)
  ·refine rn ?_;refine w7 (fun hg5_9=> ?_) (fun hg5_9=> ?_)
   ·refine rn ?_;refine z7 rfl (fun hc30=> ?_) (fun hc30=> ?_)
    ·refine rn ?_;refine qv rfl rfl (q6 rfl rfl) ?_
     refine z8 rfl (u7 rfl rfl (by simp only [oM];have:=yfw l t x k;simp;omega) rfl (fun s34=> ?_) (yqy [l[k]]))
     refine k7 s34 fun sv hsv=> ?_
     subst hsv
     refine rn ?_;first|exact ⟨hk,sv,by rw [zqe hk (by simp_all),List.map_append];exact eA⟩|exact ⟨hk,s,by rw [zqf hk (by simp_all)];exact eA⟩
    ·refine rn ?_;first|exact ⟨hk,sv,by rw [zqe hk (by simp_all),List.map_append];exact eA⟩|exact ⟨hk,s,by rw [zqf hk (by simp_all)];exact eA⟩
   ·refine rn ?_;refine zd9 rfl ?_;refine rn ?_;first|exact ⟨hk,sv,by rw [zqe hk (by simp_all),List.map_append];exact eA⟩|exact ⟨hk,s,by rw [zqf hk (by simp_all)];exact eA⟩
  ·refine rn ?_;refine zd9 rfl ?_;refine rn ?_;first|exact ⟨hk,sv,by rw [zqe hk (by simp_all),List.map_append];exact eA⟩|exact ⟨hk,s,by rw [zqf hk (by simp_all)];exact eA⟩
 ·have qk:=zaz hc13 lk
  refine rn ?_;exact j9 rfl zbr ⟨rfl,by rw [qk,List.take_length];rfl⟩
theorem bvz2_899 {a b:Bool} (h:a=b:=by subst e1;show _=(zhd l e.t && e.kind==1|| !zhd l e.t && e.kind !=1);rw [←zB];clear zb zo zB zO;simp_all):bv a=bv b:=congrArg bv h
theorem zyx (rl:Nat) (e:Ev) (l:List Ev) (h1:1≤rl) (h6:rl≤6) (la:l.length≤1000000) (hl:e.scan.length≤1000000):y7 Tryz.prog 263 [iv rl,.agg (evR e),znz l] [] (fun r h'=>h'= []∧r=bv (zdj rl e l)):=by
 refine z6 Tryz.func263 rfl rfl rfl ?_
 refine rn ?_;refine z8 rfl (w8 rfl rfl rfl fun b4=> ?_)
 refine rn ?_;refine zv3 l.length (fun j x=>x.1=(l.take j).any (fun y:Ev=>y.t==e.t && y.kind==1)∧x.2=(l.take j).any (fun y:Ev=>y.t==e.t && (y.kind==5||y.kind==6))) (fun j x=> [(21,iv j),(7,bv x.1),(8,bv x.2)]) [(0,_),(2,_),(4,_),(19,_),(20,_)] (false,false) ⟨rfl,rfl⟩ ?_
 rintro j ⟨bg,ov⟩ lj ⟨zb,zo⟩
 refine rn ?_;refine z7 rfl (fun hc22=> ?_) (fun hc22=> ?_)
 ·have hj:=zay hc22
  have rj:=zag (f:=evR) hj
  refine rn ?_;refine z8 rfl (y5 rfl fun b10=> ?_)
  refine rn ?_;refine z7 rfl (fun hc29=> ?_) (fun hc29=> ?_)
  ·refine rn ?_;refine w7 (fun hg6_1=> ?_) (fun hg6_1=> ?_)
   ·refine rn ?_;refine w7 (fun hg7_1=> ?_) (fun hg7_1=> ?_)
    ·refine rn ?_;refine ⟨hj,(_,_),?_,eA⟩
     rw [zbb hj,zbb hj]
     generalize (l.take j).any (fun y:Ev=>y.t==e.t && y.kind==1)=A at *
     generalize (l.take j).any (fun y:Ev=>y.t==e.t && (y.kind==5||y.kind==6))=B at *
     simp_all
    ·refine rn ?_;refine w7 (fun hg7_6=> ?_) (fun hg7_6=> ?_)
     ·refine rn ?_;refine ⟨hj,(_,_),?_,eA⟩
      rw [zbb hj,zbb hj]
      generalize (l.take j).any (fun y:Ev=>y.t==e.t && y.kind==1)=A at *
      generalize (l.take j).any (fun y:Ev=>y.t==e.t && (y.kind==5||y.kind==6))=B at *
      simp_all
     ·refine rn ?_;refine ⟨hj,(_,_),?_,eA⟩
      rw [zbb hj,zbb hj]
      generalize (l.take j).any (fun y:Ev=>y.t==e.t && y.kind==1)=A at *
      generalize (l.take j).any (fun y:Ev=>y.t==e.t && (y.kind==5||y.kind==6))=B at *
      simp_all
   ·refine rn ?_;refine w7 (fun hg7_1=> ?_) (fun hg7_1=> ?_)
    ·refine rn ?_;refine ⟨hj,(_,_),?_,eA⟩
     rw [zbb hj,zbb hj]
     generalize (l.take j).any (fun y:Ev=>y.t==e.t && y.kind==1)=A at *
     generalize (l.take j).any (fun y:Ev=>y.t==e.t && (y.kind==5||y.kind==6))=B at *
     simp_all
    ·refine rn ?_;refine w7 (fun hg7_6=> ?_) (fun hg7_6=> ?_)
     ·refine rn ?_;refine ⟨hj,(_,_),?_,eA⟩
      rw [zbb hj,zbb hj]
      generalize (l.take j).any (fun y:Ev=>y.t==e.t && y.kind==1)=A at *
      generalize (l.take j).any (fun y:Ev=>y.t==e.t && (y.kind==5||y.kind==6))=B at *
      simp_all
     ·refine rn ?_;refine ⟨hj,(_,_),?_,eA⟩
      rw [zbb hj,zbb hj]
      generalize (l.take j).any (fun y:Ev=>y.t==e.t && y.kind==1)=A at *
      generalize (l.take j).any (fun y:Ev=>y.t==e.t && (y.kind==5||y.kind==6))=B at *
      simp_all
  ·refine rn ?_;refine ⟨hj,(_,_),?_,eA⟩
   rw [zbb hj,zbb hj]
   generalize (l.take j).any (fun y:Ev=>y.t==e.t && y.kind==1)=A at *
   generalize (l.take j).any (fun y:Ev=>y.t==e.t && (y.kind==5||y.kind==6))=B at *
   simp_all
 ·have qj:=zaz hc22 lj
  have zB:bg=zhd l e.t:=by rw [yey,zx4];simpa [qj] using zb
  have zO:ov=zot l e.t:=by rw [zot];simpa [qj] using zo
  refine rn ?_;refine z7 rfl (fun hc49=> ?_) (fun hc49=> ?_)
  ·have e1:rl=1:=by have h:=hc49;simp at h;omega
   refine rn ?_;refine w7 (fun hg11_1=> ?_) (fun hg11_1=> ?_)
   ·refine rn ?_;refine w7 (fun hg11_6=> ?_) (fun hg11_6=> ?_)
    ·refine rn ?_;refine rq 1 ?_
     exact ⟨rfl,bvz2_899⟩
    ·refine rn ?_;refine w7 (fun hg11_9=> ?_) (fun hg11_9=> ?_)
     ·refine rn ?_;refine rq 1 ?_
      exact ⟨rfl,bvz2_899⟩
     ·refine rn ?_;refine rq 1 ?_
      exact ⟨rfl,bvz2_899⟩
   ·refine rn ?_;refine w7 (fun hg11_9=> ?_) (fun hg11_9=> ?_)
    ·refine rn ?_;refine rq 1 ?_
     exact ⟨rfl,bvz2_899⟩
    ·refine rn ?_;refine rq 1 ?_
     exact ⟨rfl,bvz2_899⟩
  ·have n1:rl≠1:=by intro h;subst h;exact absurd hc49 (by decide)
   refine rn ?_;refine z7 rfl (fun hc66=> ?_) (fun hc66=> ?_)
   ·have e2:rl=2:=by have h:=hc66;simp at h;omega
    refine rn ?_;refine rq 1 ?_
    exact ⟨rfl,congrArg bv (by subst e2;show _=zot l e.t;rw [←zO])⟩
   ·have n2:rl≠2:=by intro h;subst h;exact absurd hc66 (by decide)
    refine rn ?_;refine z7 rfl (fun hc69=> ?_) (fun hc69=> ?_)
    ·have e3:rl=3:=by have h:=hc69;simp at h;omega
     refine rn ?_;refine j4 15 rfl ?_
     refine rn ?_;refine zc0 (fun hg15_3=> ?_) (fun hg15_3=> ?_)
     ·refine rn ?_;refine dv rfl rfl (by exact y2 rfl rfl (u3 (zw0 l e.t e.o la) (Sbs.refl _))) ?_
      refine dq rfl rfl qrA ?_;first|refine ds rfl rfl ?_|refine dq rfl rfl (zci rfl rfl rfl (by rw [oM];have:=zhj l e.t e.o;omega)) ?_
      refine rn ?_;refine rq 1 ?_
      exact ⟨rfl,congrArg bv (by subst e3;simp_all [zdj])⟩
     ·refine rn ?_;refine rq 1 ?_
      exact ⟨rfl,congrArg bv (by subst e3;simp_all [zdj])⟩
    ·have n3:rl≠3:=by intro h;subst h;exact absurd hc69 (by decide)
     refine rn ?_;refine qv rfl rfl (y2 rfl rfl (u3 (ybr e) (Sbs.refl _))) ?_
     refine rn ?_;refine zcj ((u6 e).length) (fun k:Nat=>OkS rl e l k) (fun k=> [(91,iv k)]) [(0,_),(2,_),(4,_),(89,_),(90,_)] (fun i _ h=>absurd h (Nat.not_lt_zero _)) ?_
     intro k lk zk
     refine rn ?_;refine z7 rfl (fun hc92=> ?_) (fun hc92=> ?_)
     ·have hk:=zay hc92
      have rk:=zag (f:=zah) hk
      have sl:=zkw (e:=e) (Nat.le_trans hl (by decide))
      refine rn ?_;refine z8 rfl (y5 rfl fun b12=> ?_)
      refine rn ?_;refine qv rfl rfl (y2 rfl rfl (u3 (zw0 l e.t (u6 e)[k].o la) (Sbs.refl _))) ?_
      refine rn ?_;refine zv3 l.length (fun m x=>x=((u6 e)[k].v.k==0||(l.take m).any (fun y:Ev=>y.kind==2 && y.o==(u6 e)[k].o && y.v==(u6 e)[k].v))) (fun m x=> [(108,iv m),(14,bv x)]) [(0,_),(2,_),(4,_),(11,_),(12,_),(13,_),(89,_),(90,_),(91,_),(106,_),(107,_)] ((u6 e)[k].v.k==0) (by simp) ?_
      intro m th lm zm
      refine rn ?_;refine z7 rfl (fun hc109=> ?_) (fun hc109=> ?_)
      ·have hm:=zay hc109
       have rm:=zag (f:=evR) hm
       refine rn ?_;refine z8 rfl (y5 rfl fun b16=> ?_)
       refine rn ?_;refine w7 (fun hg24_1=> ?_) (fun hg24_1=> ?_)
       ·refine rn ?_;refine ⟨hm,_,?_,eA⟩
        try rw [zck]
        rw [zbb hm]
        generalize (l.take m).any (fun y:Ev=>y.kind==2 && y.o==(u6 e)[k].o && y.v==(u6 e)[k].v)=A at *
        generalize ((u6 e)[k].v.k==0)=B at *
        generalize (l[m].v==(u6 e)[k].v)=D at *
        cases A <;> cases B <;> simp_all
       ·refine rn ?_;refine w7 (fun hg24_5=> ?_) (fun hg24_5=> ?_)
        ·refine rn ?_;refine w7 (fun hg24_12=> ?_) (fun hg24_12=> ?_)
         ·refine rn ?_;refine ⟨hm,_,?_,eA⟩
          try rw [zck]
          rw [zbb hm]
          generalize (l.take m).any (fun y:Ev=>y.kind==2 && y.o==(u6 e)[k].o && y.v==(u6 e)[k].v)=A at *
          generalize ((u6 e)[k].v.k==0)=B at *
          generalize (l[m].v==(u6 e)[k].v)=D at *
          cases A <;> cases B <;> simp_all
         ·refine rn ?_;refine ⟨hm,_,?_,eA⟩
          try rw [zck]
          rw [zbb hm]
          generalize (l.take m).any (fun y:Ev=>y.kind==2 && y.o==(u6 e)[k].o && y.v==(u6 e)[k].v)=A at *
          generalize ((u6 e)[k].v.k==0)=B at *
          generalize (l[m].v==(u6 e)[k].v)=D at *
          cases A <;> cases B <;> simp_all
        ·refine rn ?_;refine ⟨hm,_,?_,eA⟩
         try rw [zck]
         rw [zbb hm]
         generalize (l.take m).any (fun y:Ev=>y.kind==2 && y.o==(u6 e)[k].o && y.v==(u6 e)[k].v)=A at *
         generalize ((u6 e)[k].v.k==0)=B at *
         generalize (l[m].v==(u6 e)[k].v)=D at *
         cases A <;> cases B <;> simp_all
      ·have qm:=zaz hc109 lm
       have zT:th=((u6 e)[k].v.k==0||zfb l (u6 e)[k].o (u6 e)[k].v):=by rw [zm,qm,List.take_length];rfl
       refine rn ?_;refine z7 rfl (fun hc134=> ?_) (fun hc134=> ?_)
       ·have e4:rl=4:=by have h:=hc134;simp at h;omega
        refine rn ?_;refine z7 rfl (fun hc137=> ?_) (fun hc137=> ?_)
        ·refine rn ?_;refine rq 2 ?_
         exact ⟨rfl,congrArg bv (by subst e4;rw [zqg (by omega) hk (by show (!((u6 e)[k].v.k==0||zfb l (u6 e)[k].o (u6 e)[k].v))=true;rw [←zT];exact hc137)])⟩
        ·refine rn ?_;exact ⟨hk,yck hk zk (by first|(subst e4;show (!((u6 e)[k].v.k==0||zfb l (u6 e)[k].o (u6 e)[k].v))=false;rw [←zT];exact hc137)|(subst e5;rw [zkx hw1,bne,←zck];exact hc154)|(subst e5;exact znd hg31_3)|(subst e6;show ((u6 e).take k).any _=false;rw [ze3,au];rfl)|(exfalso;omega)),eA⟩
       ·have n4:rl≠4:=by intro h;subst h;exact absurd hc134 (by decide)
        refine rn ?_;refine z7 rfl (fun hc138=> ?_) (fun hc138=> ?_)
        ·have e5:rl=5:=by have h:=hc138;simp at h;omega
         refine rn ?_;refine j4 13 rfl ?_
         refine rn ?_;refine zc0 (fun hg31_3=> ?_) (fun hg31_3=> ?_)
         ·try obtain ⟨w,hw1,hw2,hw3⟩:=zxf hg31_3
          refine dq rfl rfl qrA ?_;refine dq rfl rfl qrA ?_;refine dq rfl rfl qrA ?_;first|refine ds rfl rfl ?_|refine dq rfl rfl (zci rfl rfl rfl (by rw [oM];have:=zhj l e.t (u6 e)[k].o;omega)) ?_
          first|refine ds rfl rfl ?_|refine dq rfl rfl (zau rfl rfl hw3 hw2) ?_
          refine rn ?_;refine z7 rfl (fun hc154=> ?_) (fun hc154=> ?_)
          ·refine rn ?_;refine rq 2 ?_
           exact ⟨rfl,congrArg bv (by subst e5;rw [zqg (by omega) hk (by rw [zkx hw1,bne,←zck];exact hc154)])⟩
          ·refine rn ?_;exact ⟨hk,yck hk zk (by first|(subst e4;show (!((u6 e)[k].v.k==0||zfb l (u6 e)[k].o (u6 e)[k].v))=false;rw [←zT];exact hc137)|(subst e5;rw [zkx hw1,bne,←zck];exact hc154)|(subst e5;exact znd hg31_3)|(subst e6;show ((u6 e).take k).any _=false;rw [ze3,au];rfl)|(exfalso;omega)),eA⟩
         ·try obtain ⟨w,hw1,hw2,hw3⟩:=zxf hg31_3
          refine rn ?_;refine zd9 rfl ?_;refine rn ?_;exact ⟨hk,yck hk zk (by first|(subst e4;show (!((u6 e)[k].v.k==0||zfb l (u6 e)[k].o (u6 e)[k].v))=false;rw [←zT];exact hc137)|(subst e5;rw [zkx hw1,bne,←zck];exact hc154)|(subst e5;exact znd hg31_3)|(subst e6;show ((u6 e).take k).any _=false;rw [ze3,au];rfl)|(exfalso;omega)),eA⟩
        ·have n5:rl≠5:=by intro h;subst h;exact absurd hc138 (by decide)
         refine rn ?_;refine z7 rfl (fun hc155=> ?_) (fun hc155=> ?_)
         ·have e6:rl=6:=by have h:=hc155;simp at h;omega
          refine rn ?_;refine qv rfl rfl (y2 rfl rfl (u3 (ybr e) (Sbs.refl _))) ?_
          refine q1 ?_;refine qq rfl rfl (zcc (k:=k) rfl rfl (by simp;omega)) ?_
          rw [←List.map_take]
          refine rn ?_;refine zcj (((u6 e).take k).length) (fun u:Nat=>((u6 e).take k).all (fun p:Seen=> !(p.o==(u6 e)[k].o))=(((u6 e).take k).drop u).all (fun p:Seen=> !(p.o==(u6 e)[k].o))) (fun u=> [(162,iv u)]) [(0,_),(2,_),(4,_),(12,_),(89,_),(90,_),(91,_),(160,_),(161,_)] rfl ?_
          intro u lu zu
          refine rn ?_;refine z7 rfl (fun hc163=> ?_) (fun hc163=> ?_)
          ·have hu:=zay hc163
           have ru:=zag (f:=zah) hu
           have bu:((u6 e).take k).length≤4611686018427387904:=by simp;omega
           refine rn ?_;refine z8 rfl (y5 rfl fun b18=> ?_)
           refine rn ?_;refine z7 rfl (fun hc170=> ?_) (fun hc170=> ?_)
           ·refine rn ?_;refine rq 3 ?_
            exact ⟨rfl,congrArg bv (by subst e6;rw [zqg (by omega) hk (by show ((u6 e).take k).any _=true;rw [ze3,zt4 hu (by simpa using hc170)];rfl)])⟩
           ·refine rn ?_;exact ⟨hu,zt3 hu zu (by simpa using hc170),eA⟩
          ·have qu:=zaz hc163 lu
           have au:=zzz qu zu
           refine rn ?_;exact ⟨hk,yck hk zk (by first|(subst e4;show (!((u6 e)[k].v.k==0||zfb l (u6 e)[k].o (u6 e)[k].v))=false;rw [←zT];exact hc137)|(subst e5;rw [zkx hw1,bne,←zck];exact hc154)|(subst e5;exact znd hg31_3)|(subst e6;show ((u6 e).take k).any _=false;rw [ze3,au];rfl)|(exfalso;omega)),eA⟩
         ·have n6:rl≠6:=by intro h;subst h;exact absurd hc155 (by decide)
          refine rn ?_;exact ⟨hk,yck hk zk (by first|(subst e4;show (!((u6 e)[k].v.k==0||zfb l (u6 e)[k].o (u6 e)[k].v))=false;rw [←zT];exact hc137)|(subst e5;rw [zkx hw1,bne,←zck];exact hc154)|(subst e5;exact znd hg31_3)|(subst e6;show ((u6 e).take k).any _=false;rw [ze3,au];rfl)|(exfalso;omega)),eA⟩
     ·have qk:=zaz hc92 lk
      refine rn ?_;refine rq 1 ?_
      exact ⟨rfl,congrArg bv (by rw [yfy (by omega) (qk ▸ zk)])⟩
theorem ybv (h:Hist) (rl i:Nat) (h1:1≤rl) (h10:rl≤10) (hi:i < zgz h rl) (la:Lim 1000000 h):y7 Tryz.prog 217 [.agg (y9 h),iv rl,iv i] [] (fun r h'=>h'= []∧r=bv (zg9 h rl i)):=by
 refine z6 Tryz.func217 rfl rfl rfl ?_
 refine rn ?_;refine z8 rfl (w8 rfl rfl rfl fun b3=> ?_)
 refine rn ?_;refine z7 rfl (fun hc8=> ?_) (fun hc8=> ?_)
 ·obtain rfl:rl=7:=by have q:=hc8;simp at q;omega
  have hi2:i < h.ords.length:=hi
  refine rn ?_;refine qv rfl rfl (y2 rfl rfl (u3 (ygw h i hi2 la) (Sbs.refl _))) ?_
  refine rn ?_;refine rq 1 ?_
  exact ⟨rfl,congrArg bv (by exact (zl1 hi2).symm)⟩
 ·have n7:rl≠7:=by intro q;subst q;exact absurd hc8 (by decide)
  refine rn ?_;refine z7 rfl (fun hc13=> ?_) (fun hc13=> ?_)
  ·obtain rfl:rl=8:=by have q:=hc13;simp at q;omega
   have hi2:i < h.os.length:=hi
   refine rn ?_;refine qv rfl rfl (y2 rfl rfl (u3 (zyu h i la) (Sbs.refl _))) ?_
   refine rn ?_;refine rq 1 ?_
   exact ⟨rfl,congrArg bv (by exact (zl1 (w:=fun x _=>zov h (x:Int)) hi2).symm)⟩
  ·have n8:rl≠8:=by intro q;subst q;exact absurd hc13 (by decide)
   refine rn ?_;refine z7 rfl (fun hc18=> ?_) (fun hc18=> ?_)
   ·obtain rfl:rl=9:=by have q:=hc18;simp at q;omega
    have hi2:i < h.mats.length:=hi
    refine rn ?_;refine qv rfl rfl (y2 rfl rfl (u3 (ygx h i hi2 la) (Sbs.refl _))) ?_
    refine rn ?_;refine rq 1 ?_
    exact ⟨rfl,congrArg bv (by exact (zl1 hi2).symm)⟩
   ·have n9:rl≠9:=by intro q;subst q;exact absurd hc18 (by decide)
    refine rn ?_;refine z7 rfl (fun hc23=> ?_) (fun hc23=> ?_)
    ·obtain rfl:rl=10:=by have q:=hc23;simp at q;omega
     have hi2:i < h.wants.length:=hi
     refine rn ?_;refine qv rfl rfl (y2 rfl rfl (u3 (ymh h i hi2 la) (Sbs.refl _))) ?_
     refine rn ?_;refine rq 1 ?_
     exact ⟨rfl,congrArg bv (by exact (zl1 hi2).symm)⟩
    ·have n10:rl≠10:=by intro q;subst q;exact absurd hc23 (by decide)
     have hi2:i < h.evs.length:=by rw [←ycv n7 n8 n9 n10];exact hi
     have ri:=zag (f:=evR) hi2
     have be:=la.evs
     have sc:=la.scans h.evs[i] (List.getElem_mem hi2)
     refine rn ?_;refine j4 10 rfl ?_
     refine dq rfl rfl qrA ?_;refine dq rfl rfl qrA ?_;refine dq rfl rfl qrA ?_;refine dq rfl rfl qrA ?_;refine dq rfl rfl qrA ?_;refine dq rfl rfl qrA ?_;refine dq rfl rfl qrA ?_;refine dq rfl rfl qrA ?_;refine dq rfl rfl qrA ?_;refine dq rfl rfl (zcc (k:=i) rfl rfl (by simp;omega)) ?_
     rw [←List.map_take]
     refine rn ?_;refine qv rfl rfl (y2 rfl rfl (u3 (zyx rl h.evs[i] (h.evs.take i) h1 (by omega) (by simp;omega) sc) (Sbs.refl _))) ?_
     refine rn ?_;refine rq 1 ?_
     exact ⟨rfl,congrArg bv (by rw [yes n7 n8 n9 n10,zl1 hi2])⟩
theorem ygv (h:Hist) (rl:Nat) (h1:1≤rl) (h10:rl≤10) (la:Lim 1000000 h):y7 Tryz.prog 168 [.agg (y9 h),iv rl] [] (fun r h'=>h'= []∧r=iv (zw4 (ze2 h rl))):=by
 refine z6 Tryz.func168 rfl rfl rfl ?_
 refine rn ?_;refine z8 rfl (w8 rfl rfl rfl fun b2=> ?_)
 refine rn0 ?_;refine w9 (y6 ?_)
 refine rn0 ?_;refine zp9 (⟨[(5,iv (zgz h rl)),(1,iv rl),(2,pZ b2)],.box b2 28 (y9 h):: [],[]⟩) ?_ ?_
 ·refine rn ?_;refine z7 rfl (fun hc11=> ?_) (fun hc11=> ?_)
  ·obtain rfl:rl=7:=by have q:=hc11;simp at q;omega
   refine rn ?_;first|(rw [ycz];exact es)|(rw [ycy];exact es)|(rw [ycx];exact es)|(rw [zsv];exact es)|(rw [ycw n7 n8 n9 n10];exact es)
  ·have n7:rl≠7:=by intro q;subst q;exact absurd hc11 (by decide)
   refine rn ?_;refine z7 rfl (fun hc16=> ?_) (fun hc16=> ?_)
   ·obtain rfl:rl=8:=by have q:=hc16;simp at q;omega
    refine rn ?_;first|(rw [ycz];exact es)|(rw [ycy];exact es)|(rw [ycx];exact es)|(rw [zsv];exact es)|(rw [ycw n7 n8 n9 n10];exact es)
   ·have n8:rl≠8:=by intro q;subst q;exact absurd hc16 (by decide)
    refine rn ?_;refine z7 rfl (fun hc21=> ?_) (fun hc21=> ?_)
    ·obtain rfl:rl=9:=by have q:=hc21;simp at q;omega
     refine rn ?_;first|(rw [ycz];exact es)|(rw [ycy];exact es)|(rw [ycx];exact es)|(rw [zsv];exact es)|(rw [ycw n7 n8 n9 n10];exact es)
    ·have n9:rl≠9:=by intro q;subst q;exact absurd hc21 (by decide)
     refine rn ?_;refine z7 rfl (fun hc26=> ?_) (fun hc26=> ?_)
     ·obtain rfl:rl=10:=by have q:=hc26;simp at q;omega
      refine rn ?_;first|(rw [ycz];exact es)|(rw [ycy];exact es)|(rw [ycx];exact es)|(rw [zsv];exact es)|(rw [ycw n7 n8 n9 n10];exact es)
     ·have n10:rl≠10:=by intro q;subst q;exact absurd hc26 (by decide)
      refine rn ?_;first|(rw [ycz];exact es)|(rw [ycy];exact es)|(rw [ycx];exact es)|(rw [zsv];exact es)|(rw [ycw n7 n8 n9 n10];exact es)
 ·refine rn ?_;refine zcj (zgz h rl) (fun k:Nat=>∀j,j < k→zg9 h rl j=false) (fun k=> [(32,iv k)]) [(1,_),(2,_),(31,_)] (fun j q=>absurd q (Nat.not_lt_zero _)) ?_
  intro k lk zk
  refine rn ?_;refine z7 rfl (fun hc33=> ?_) (fun hc33=> ?_)
  ·have hk:k < zgz h rl:=by have q:=hc33;simp at q;omega
   have mb:zgz h rl≤1000000:=yhw la
   refine rn ?_;refine qv rfl rfl (y2 rfl rfl (u3 (ybv h rl k h1 h10 hk la) (Sbs.refl _))) ?_
   refine rn ?_;refine z7 rfl (fun hc38=> ?_) (fun hc38=> ?_)
   ·refine rn ?_;refine rq 1 ?_
    exact ⟨rfl,by rw [yb7 hk hc38 zk];rfl⟩
   ·refine rn ?_;exact ⟨hk,yln zk hc38,eA⟩
  ·have qk:k=zgz h rl:=by have q:=hc33;simp at q;omega
   refine rn ?_;refine rq 1 ?_
   exact ⟨rfl,by rw [zzc (qk ▸ zk)];rfl⟩
theorem yb9 {o:Option Nat} (h:decide (zw4 o ≥ 0)=true):∃n,o=some n:=by
 cases o with
 |none=>exact absurd h (by decide)
 |some n=>exact ⟨n,rfl⟩
theorem yb8 {o:Option Nat} (h:decide (zw4 o ≥ 0)=false):o=none:=by
 cases o with
 |none=>rfl
 |some n=>have:=oF h;simp [zw4] at this
theorem zyw (h:Hist) (la:Lim 1000000 h):y7 Tryz.prog 124 [.agg (y9 h)] [] (fun r h'=>h'= []∧r= .tup [.agg (yvj (zba (ze2 h) rules10)),bv (zba (ze2 h) rules10).isSome]):=by
 refine z6 Tryz.func124 rfl rfl rfl ?_
 refine rn ?_;refine z8 rfl (w8 rfl rfl rfl fun b1=> ?_)
 refine z8 rfl (y5 rfl fun b2=> ?_)
 refine rn ?_;refine zmy (fun k:Nat=>(1≤k∧k≤11)∧zba (ze2 h) rules10=zba (ze2 h) (rules10.drop (k - 1))) (fun k=>⟨[(4,iv k),(1,pZ b1),(2,pZ b2)],(.box b2 158 [iv 0,iv 0]:: .box b1 28 (y9 h):: []),[]⟩) (fun k=>11 - k) 1 ⟨by omega,rfl⟩ es ?_
 rintro k ⟨⟨k1,k3⟩,zk⟩
 refine rn ?_;refine z7 rfl (fun hc7=> ?_) (fun hc7=> ?_)
 ·have k2:k≤10:=by have:=oT hc7;omega
  refine rn ?_;refine qv rfl rfl (y2 rfl rfl (u3 (ygv h k k1 k2 la) (Sbs.refl _))) ?_
  refine rn ?_;refine z7 rfl (fun hc14=> ?_) (fun hc14=> ?_)
  ·refine rn ?_;exact zef (.cons _ _ _ _ (.agg _ _ _ _ _ _ _ rfl inferInstance inferInstance inferInstance rfl) (.cons _ _ _ _ (.tmp _ _ rfl) .nil)) (.drop [_,_] _ _) ⟨rfl,by
    obtain ⟨n,hp⟩:=yb9 hc14
    rw [zs6 k1 k2 zk hp,hp];rfl⟩
  ·refine rn ?_;exact ⟨k+1,⟨by omega,zps k1 k2 zk (yb8 hc14)⟩,eA,by omega⟩
 ·have k2:11≤k:=by have:=oF hc7;omega
  refine rn ?_;exact zef (.cons _ _ _ _ (.agg _ _ _ _ _ _ _ rfl inferInstance inferInstance inferInstance rfl) (.cons _ _ _ _ (.tmp _ _ rfl) .nil)) (.drop [_,_] _ _) ⟨rfl,by rw [zpt k2 k3 zk];rfl⟩
theorem ywl (l:Int):y7 Tryz.prog 215 [iv l] [] (fun r h'=>h'= []∧r=bv (ziv l)):=by
 refine z6 Tryz.func215 rfl rfl rfl ?_
 refine rn ?_;refine w7 (fun hg1_2=> ?_) (fun hg1_2=> ?_)
 ·refine rn ?_;exact j9 rfl (.refl _ _) ⟨rfl,congrArg bv (by first|(simp only [ziv, *,Bool.true_and,Bool.false_and,Bool.and_false,Bool.and_true,Bool.true_or,Bool.or_false,Bool.false_or,Bool.or_true,if_true,if_false,Bool.false_eq_true,Bool.not_true,Bool.not_false];done)|(simp_all [ziv];done)|(simp_all [ziv] <;> omega))⟩
 ·refine rn ?_;exact j9 rfl (.refl _ _) ⟨rfl,congrArg bv (by first|(simp only [ziv, *,Bool.true_and,Bool.false_and,Bool.and_false,Bool.and_true,Bool.true_or,Bool.or_false,Bool.false_or,Bool.or_true,if_true,if_false,Bool.false_eq_true,Bool.not_true,Bool.not_false];done)|(simp_all [ziv];done)|(simp_all [ziv] <;> omega))⟩
theorem bvz3_8673 {a b:Bool} (h:a=b:=by first|(simp only [zs0, *,Bool.true_and,Bool.false_and,Bool.and_false,Bool.and_true,Bool.true_or,Bool.or_false,Bool.false_or,Bool.or_true,if_true,if_false,Bool.false_eq_true,Bool.not_true,Bool.not_false];done)|(simp_all [zs0];done)|(simp_all [zs0] <;> omega)):bv a=bv b:=congrArg bv h
theorem zy0 (c:Int):y7 Tryz.prog 257 [.v (.int .i32 c)] [] (fun r h'=>h'= []∧r=bv (zs0 c)):=by
 refine z6 Tryz.func257 rfl rfl rfl ?_
 refine rn ?_;refine w7 (fun hg1_2=> ?_) (fun hg1_2=> ?_)
 ·refine rn ?_;refine w7 (fun hg1_6=> ?_) (fun hg1_6=> ?_)
  ·refine rn ?_;exact j9 rfl (.refl _ _) ⟨rfl,bvz3_8673⟩
  ·refine rn ?_;refine w7 (fun hg1_9=> ?_) (fun hg1_9=> ?_)
   ·refine rn ?_;refine w7 (fun hg1_14=> ?_) (fun hg1_14=> ?_)
    ·refine rn ?_;exact j9 rfl (.refl _ _) ⟨rfl,bvz3_8673⟩
    ·refine rn ?_;refine w7 (fun hg1_18=> ?_) (fun hg1_18=> ?_)
     ·refine rn ?_;exact j9 rfl (.refl _ _) ⟨rfl,bvz3_8673⟩
     ·refine rn ?_;exact j9 rfl (.refl _ _) ⟨rfl,bvz3_8673⟩
   ·refine rn ?_;refine w7 (fun hg1_18=> ?_) (fun hg1_18=> ?_)
    ·refine rn ?_;exact j9 rfl (.refl _ _) ⟨rfl,bvz3_8673⟩
    ·refine rn ?_;exact j9 rfl (.refl _ _) ⟨rfl,bvz3_8673⟩
 ·refine rn ?_;refine w7 (fun hg1_9=> ?_) (fun hg1_9=> ?_)
  ·refine rn ?_;refine w7 (fun hg1_14=> ?_) (fun hg1_14=> ?_)
   ·refine rn ?_;exact j9 rfl (.refl _ _) ⟨rfl,bvz3_8673⟩
   ·refine rn ?_;refine w7 (fun hg1_18=> ?_) (fun hg1_18=> ?_)
    ·refine rn ?_;exact j9 rfl (.refl _ _) ⟨rfl,bvz3_8673⟩
    ·refine rn ?_;exact j9 rfl (.refl _ _) ⟨rfl,bvz3_8673⟩
  ·refine rn ?_;refine w7 (fun hg1_18=> ?_) (fun hg1_18=> ?_)
   ·refine rn ?_;exact j9 rfl (.refl _ _) ⟨rfl,bvz3_8673⟩
   ·refine rn ?_;exact j9 rfl (.refl _ _) ⟨rfl,bvz3_8673⟩
theorem zsj (c:Int):y7 Tryz.prog 258 [.v (.int .i32 c)] [] (fun r h'=>h'= []∧r=bv (zko c)):=by
 refine z6 Tryz.func258 rfl rfl rfl ?_
 refine rn ?_;refine w7 (fun hg1_2=> ?_) (fun hg1_2=> ?_)
 ·refine rn ?_;exact j9 rfl (.refl _ _) ⟨rfl,congrArg bv (by first|(simp only [zko, *,Bool.true_and,Bool.false_and,Bool.and_false,Bool.and_true,Bool.true_or,Bool.or_false,Bool.false_or,Bool.or_true,if_true,if_false,Bool.false_eq_true,Bool.not_true,Bool.not_false];done)|(simp_all [zko];done)|(simp_all [zko] <;> omega))⟩
 ·refine rn ?_;exact j9 rfl (.refl _ _) ⟨rfl,congrArg bv (by first|(simp only [zko, *,Bool.true_and,Bool.false_and,Bool.and_false,Bool.and_true,Bool.true_or,Bool.or_false,Bool.false_or,Bool.or_true,if_true,if_false,Bool.false_eq_true,Bool.not_true,Bool.not_false];done)|(simp_all [zko];done)|(simp_all [zko] <;> omega))⟩
theorem yp5 {f:Bool} (h:Hist) (l:List Int) (hl:l.length≤4611686018427387904):y7 Tryz.prog 165 [.agg (y9 h),.list f 1 (l.map zai)] [] (fun r h'=>h'= []∧r=bv (zgs h l)):=by
 refine z6 Tryz.func165 rfl rfl rfl ?_
 refine rn ?_;refine z8 rfl (w8 rfl rfl rfl fun b2=> ?_)
 refine rn ?_;refine zab (fun k:Nat=>k≤l.length∧l.all (fun t=>isB t h.ts.length)=(l.drop k).all (fun t=>isB t h.ts.length)) (fun k=>⟨[(9,iv k),(8,iv (l.map zai).length),(7,.list f 1 (l.map zai)),(1,.list f 1 (l.map zai)),(2,pZ b2)],[.box b2 28 (y9 h)],[]⟩) (fun k=>l.length - k) 0 ⟨Nat.zero_le _,by simp⟩
  (v7 (.cons _ _ _ rfl (.cons _ _ _ rfl (.cons _ _ _ rfl (.cons _ _ _ rfl (.cons _ _ _ rfl (.nil))))))) ?_
 rintro k ⟨hk,hz⟩
 refine rn ?_;refine z7 rfl (fun hc10=> ?_) (fun hc10=> ?_)
 ·have hk2:k < l.length:=by simpa using hc10
  have hrow:(l.map zai)[k]? =some (zai l[k]):=by simp [hk2]
  have hd:=List.drop_eq_getElem_cons hk2
  refine rn ?_;refine qv rfl rfl (y2 rfl rfl (u3 (zjc _ _) (Sbs.refl _))) ?_
  refine rn ?_;refine z7 rfl (fun hc18=> ?_) (fun hc18=> ?_)
  ·have hx:isB l[k] h.ts.length=false:=by simpa using hc18
   refine rn ?_;exact j9 rfl (.drop [_] _ _) ⟨rfl,congrArg bv (by rw [zgs,hz,hd,List.all_cons,hx,Bool.false_and];rfl)⟩
  ·have hx:isB l[k] h.ts.length=true:=by simpa using hc18
   refine rn ?_;exact ⟨k+1,⟨by omega,by rw [hz,hd,List.all_cons,hx,Bool.true_and]⟩,(v7 (.cons _ _ _ rfl (.cons _ _ _ rfl (.cons _ _ _ rfl (.cons _ _ _ rfl (.cons _ _ _ rfl (.nil))))))),by omega⟩
 ·have hk3:k=l.length:=by
   have:l.length≤k:=by simpa using hc10
   omega
  refine rn ?_;exact j9 rfl (.drop [_] _ _) ⟨rfl,congrArg bv (by rw [zgs,hz,hk3,List.drop_length];simp)⟩
end Go.Proofs
