/- The walk of history.spoken, reading. Conditions: none. -/
import Derived.Test.YtfmcbdjnmlcacaaGreatDoorWAlH
set_option linter.unusedSectionVars false
set_option linter.unusedSimpArgs false
set_option linter.unusedVariables false
set_option maxRecDepth 10000
namespace Go.Proofs
open Go Go.Ab
attribute [local irreducible] QR QV OE aops aw dsoup dsoupM dalloc zf9 thn inBlk
open Go.H
theorem sayR {σ:Type} (step:σ→Nat×Int→Option σ) (ok:Nat×Int→Prop) (IJ:Option σ→List Res→Prop) (y:AV) (hy:∀(s:σ) (L:List Res) (sort:Nat) (n:Int) (cells:List AV),ok (sort,n)→IJ (some s) L→za3 Tryz.prog y [iv sort,.pp (iv n::cells)] L (fun r h'=>r=bv (step s (sort,n)).isSome∧IJ (step s (sort,n)) h')) (sort:Nat) (n:Int) (hs:ok (sort,n)) (cells:List AV) (bm by_:Nat) (st:Option σ) (L:List Res) (hI:IJ st L):za6 Tryz.prog 202 [iv sort,.pp (iv n::cells),pZ bm,pZ by_] (.box bm 4 [bv (st).isSome]:: .box by_ 239 [y]::L) (fun r h'=>∃L',IJ (goes step st [(sort,n)]) L'∧h'= .box bm 4 [bv (goes step st [(sort,n)]).isSome]:: .box by_ 239 [y]::L'):=by
 refine za1 Tryz.func202 rfl rfl rfl ?_
 refine rn ?_;refine za8 (fun hg0_1=> ?_) (fun hg0_1=> ?_)
 ·refine rn ?_;obtain ⟨s,rfl⟩:=Option.isSome_iff_exists.1 hg0_1
  refine za2 rfl (zc3 rfl rfl (za3.fr2 (hy s L sort n cells hs hI)) rfl ?_)
  rintro _ _ ⟨L2,rfl,rfl,hI2⟩
  refine rn ?_;first
   |exact retq_n .nil (.refl _ _) ⟨L2,hI2,rfl⟩
   | (obtain rfl:=Option.not_isSome_iff_eq_none.1 (show ¬st.isSome=true by simp [hg0_1])
      exact retq_n .nil (.refl _ _) ⟨L,hI,rfl⟩)
 ·refine rn ?_;first
   |exact retq_n .nil (.refl _ _) ⟨L2,hI2,rfl⟩
   | (obtain rfl:=Option.not_isSome_iff_eq_none.1 (show ¬st.isSome=true by simp [hg0_1])
      exact retq_n .nil (.refl _ _) ⟨L,hI,rfl⟩)
theorem madeR {σ:Type} (step:σ→Nat×Int→Option σ) (ok:Nat×Int→Prop) (IJ:Option σ→List Res→Prop) (y:AV) (hy:∀(s:σ) (L:List Res) (sort:Nat) (n:Int) (cells:List AV),ok (sort,n)→IJ (some s) L→za3 Tryz.prog y [iv sort,.pp (iv n::cells)] L (fun r h'=>r=bv (step s (sort,n)).isSome∧IJ (step s (sort,n)) h')) (v:Ver) (hv:∀x∈madeL v,ok x) (cells:List AV) (bs bm by_:Nat) (st:Option σ) (L:List Res) (hI:IJ st L):za6 Tryz.prog 203 [.pp (iv v.t::iv v.k::cells),pZ bs] (.box bs 240 [.fn (.func 202) [] [pZ bm,pZ by_]]:: .box bm 4 [bv (st).isSome]:: .box by_ 239 [y]::L) (fun r h'=>∃L',IJ (goes step st (madeL v)) L'∧h'= .box bs 240 [.fn (.func 202) [] [pZ bm,pZ by_]]:: .box bm 4 [bv (goes step st (madeL v)).isSome]:: .box by_ 239 [y]::L'):=by
 refine za1 Tryz.func203 rfl rfl rfl ?_
 refine rn ?_;refine za0 rfl (fun hc7=> ?_) (fun hc7=> ?_)
 ·refine zd2 4 rfl ?_
  refine rn ?_;refine za2 rfl (zc3 rfl rfl (za3.fr1 (za3.of_acall (fs:= []) (cs:= [pZ bm,pZ by_]) (sayR step ok IJ y hy 0 v.t (hv _ (by rw [madeL,if_pos hc7];simp)) (iv v.k::cells) bm by_ _ _ hI))) rfl ?_)
  rintro _ _ ⟨_,rfl,L2,hI2,rfl⟩
  refine rn ?_;first
   | (have hm:madeL v= [(0,v.t)]:=by rw [madeL,if_pos hc7]
      rw [hm];exact retq_n .nil (.refl _ _) ⟨L2,hI2,rfl⟩)
   | (have hm:madeL v= []:=by rw [madeL,if_neg (by rw [hc7];decide)]
      rw [hm];exact retq_n .nil (.refl _ _) ⟨L,hI,rfl⟩)
 ·refine rn ?_;first
   | (have hm:madeL v= [(0,v.t)]:=by rw [madeL,if_pos hc7]
      rw [hm];exact retq_n .nil (.refl _ _) ⟨L2,hI2,rfl⟩)
   | (have hm:madeL v= []:=by rw [madeL,if_neg (by rw [hc7];decide)]
      rw [hm];exact retq_n .nil (.refl _ _) ⟨L,hI,rfl⟩)
theorem spokenR {σ:Type} (step:σ→Nat×Int→Option σ) (ok:Nat×Int→Prop) (IJ:Option σ→List Res→Prop) (y:AV) (hone:y.cellsOf=some [y]) (hy:∀(s:σ) (L:List Res) (sort:Nat) (n:Int) (cells:List AV),ok (sort,n)→IJ (some s) L→za3 Tryz.prog y [iv sort,.pp (iv n::cells)] L (fun r h'=>r=bv (step s (sort,n)).isSome∧IJ (step s (sort,n)) h')) (h:Hist) (la:Lim 4611686018427387904 h) (b1 bh:Nat) (hok:∀x∈spokenL h,ok x) (s0:σ) (L0:List Res) (h0:IJ (some s0) L0):za6 Tryz.prog 201 [y,pZ b1] (.box b1 184 [pZ bh]:: .box bh 28 (zb0 h)::L0) (fun r h'=>∃L',IJ (goes step (some s0) (spokenL h)) L'∧h'= .box b1 184 [pZ bh]:: .box bh 28 (zb0 h)::L'):=by
 refine za1 Tryz.func201 rfl rfl rfl ?_
 refine rn ?_;refine za2 rfl (zb5 rfl hone rfl fun by_=> ?_)
 refine rn ?_;refine za2 rfl (zb1 rfl fun bm=> ?_)
 refine rn ?_;refine za2 rfl (zb1 rfl fun bs=> ?_)
 refine rn ?_;refine zd4 (fun x:Nat×Option σ×List Res=>x.1≤h.evs.length∧IJ x.2.1 x.2.2∧Rem step ok x.2.1 (((h.evs.drop x.1).flatMap evL)++(h.ords.flatMap ordL++(h.mats.flatMap matL++h.wants.flatMap wanL))) (goes step (some s0) (spokenL h))) (fun x=>⟨[(22,iv x.1),(21,iv (h.evs.map evR).length),(1,pZ b1),(4,pZ bs),(5,.fn (.func 203) [] [pZ bs])],.box b1 184 [pZ bh]:: .box bh 28 (zb0 h):: .box bs 240 [.fn (.func 202) [] [pZ bm,pZ by_]]:: .box bm 4 [bv (x.2.1).isSome]:: .box by_ 239 [y]::x.2.2,[]⟩) (fun x=>h.evs.length - x.1) (0,some s0,L0) ⟨by omega,h0,rfl,hok⟩
  (zc5 (ent_perm ((pt3 _ _ _ _ _).trans (.cons _ (pt3 _ _ _ _ _)))) (zb8 (.cons _ _ _ rfl (.cons _ _ _ rfl (.cons _ _ _ rfl (.cons _ _ _ rfl (.cons _ _ _ rfl (.nil)))))))) ?_
 rintro ⟨k,st,L⟩ ⟨hk,hI,hF⟩
 simp only at hk hI hF
 refine rn ?_;refine za0 rfl (fun hc23=> ?_) (fun hc23=> ?_)
 ·have k2:k < h.evs.length:=by simpa using hc23
  obtain ⟨e,he⟩:∃e,e=h.evs[k]:=⟨_,rfl⟩
  have hrowe:(h.evs.map evR)[k]? =some (evR e):=by rw [he];simp [k2]
  have hde:=List.drop_eq_getElem_cons k2
  rw [hde,←he] at hF
  simp only [List.flatMap_cons,evL,List.cons_append,List.append_assoc] at hF
  obtain ⟨hx,hF⟩:=hF.cons
  obtain ⟨hkx,hF⟩:=hF.app
  have hle:=la.evs
  have hls:=la.scans e (by rw [he];simp)
  refine rn ?_;refine zd2 4 rfl ?_
  refine rn ?_;refine za2 rfl (zc3 rfl rfl (za3.fr3 (za3.of_acall (fs:= []) (cs:= [pZ bm,pZ by_]) (sayR step ok IJ y hy 0 e.t hx _ bm by_ _ _ hI))) rfl ?_)
  rintro _ _ ⟨_,rfl,L,hI,rfl⟩
  refine rn0 ?_;refine aw_cutE (fun L=>IJ (goes step (goes step st [(0,e.t)]) (kindL e)) L) (fun L=>⟨[(7,.pp (evR e)),(22,iv k),(21,iv (h.evs.map evR).length),(1,pZ b1),(4,pZ bs),(5,.fn (.func 203) [] [pZ bs])],.box b1 184 [pZ bh]:: .box bh 28 (zb0 h):: .box bs 240 [.fn (.func 202) [] [pZ bm,pZ by_]]:: .box bm 4 [bv (goes step (goes step st [(0,e.t)]) (kindL e)).isSome]:: .box by_ 239 [y]::L,[]⟩) ?_ ?_
  ·refine rn ?_;refine za0 rfl (fun hc40=> ?_) (fun hc40=> ?_)
   ·have hkl:=kindL_1 (e:=e) (by simpa using hc40)
    refine zd2 4 rfl ?_
    refine rn ?_;refine za2 rfl (zc3 rfl rfl (za3.fr3 (za3.of_acall (fs:= []) (cs:= [pZ bm,pZ by_]) (sayR step ok IJ y hy 1 e.s (hkx _ (by rw [hkl];simp)) _ bm by_ _ _ hI))) rfl ?_)
    rintro _ _ ⟨_,rfl,L,hI,rfl⟩
    refine rn ?_;refine ⟨L,?_,?_⟩
    ·show IJ (goes step _ (kindL e)) L
     rw [hkl];exact hI
    ·rw [hkl];exact (zb8 (.cons _ _ _ rfl (.cons _ _ _ rfl (.cons _ _ _ rfl (.cons _ _ _ rfl (.cons _ _ _ rfl (.cons _ _ _ rfl (.nil))))))))
   ·have hn1:e.kind≠1:=by simpa using hc40
    refine rn ?_;refine za0 rfl (fun hc47=> ?_) (fun hc47=> ?_)
    ·have hk23:e.kind=2∨e.kind=3:=by simp at hc47;omega
     have hkl:=kindL_2 hk23
     refine rn ?_;refine za0 rfl (fun hc47=> ?_) (fun hc47=> ?_)
     ·have hk23:e.kind=2∨e.kind=3:=by simp at hc47;omega
      have hkl:=kindL_2 hk23
      refine rn ?_;refine zd2 4 rfl ?_
      refine rn ?_;refine za2 rfl (zc3 rfl rfl (za3.fr3 (za3.of_acall (fs:= []) (cs:= [pZ bm,pZ by_]) (sayR step ok IJ y hy 2 e.o (hkx _ (by rw [hkl];simp)) _ bm by_ _ _ hI))) rfl ?_)
      rintro _ _ ⟨_,rfl,L,hI,rfl⟩
      refine rn ?_;refine za2 rfl (zc3 rfl rfl (za3.fr2 (za3.of_acall (fs:= []) (cs:= [pZ bs]) (madeR step ok IJ y hy e.v (fun x hx=>hkx x (by rw [hkl];simp [hx])) _ bs bm by_ _ _ hI))) rfl ?_)
      rintro _ _ ⟨_,rfl,L,hI,rfl⟩
      refine rn ?_;refine ⟨L,?_,?_⟩
      ·show IJ (goes step _ (kindL e)) L
       rw [hkl];exact hI
      ·rw [hkl];exact (zb8 (.cons _ _ _ rfl (.cons _ _ _ rfl (.cons _ _ _ rfl (.cons _ _ _ rfl (.cons _ _ _ rfl (.cons _ _ _ rfl (.nil))))))))
     ·first|cases hc47|exact absurd hc47 (by decide)|(exfalso;simp_all;done)
    ·have hn23:=hc47
     simp at hn23
     refine rn ?_;refine za0 rfl (fun hc47=> ?_) (fun hc47=> ?_)
     ·have hk23:e.kind=2∨e.kind=3:=by simp at hc47;omega
      have hkl:=kindL_2 hk23
      refine rn ?_;refine zd2 4 rfl ?_
      refine rn ?_;refine za2 rfl (zc3 rfl rfl (za3.fr3 (za3.of_acall (fs:= []) (cs:= [pZ bm,pZ by_]) (sayR step ok IJ y hy 2 e.o (hkx _ (by rw [hkl];simp)) _ bm by_ _ _ hI))) rfl ?_)
      rintro _ _ ⟨_,rfl,L,hI,rfl⟩
      refine rn ?_;refine za2 rfl (zc3 rfl rfl (za3.fr2 (za3.of_acall (fs:= []) (cs:= [pZ bs]) (madeR step ok IJ y hy e.v (fun x hx=>hkx x (by rw [hkl];simp [hx])) _ bs bm by_ _ _ hI))) rfl ?_)
      rintro _ _ ⟨_,rfl,L,hI,rfl⟩
      refine rn ?_;refine ⟨L,?_,?_⟩
      ·show IJ (goes step _ (kindL e)) L
       rw [hkl];exact hI
      ·rw [hkl];exact (zb8 (.cons _ _ _ rfl (.cons _ _ _ rfl (.cons _ _ _ rfl (.cons _ _ _ rfl (.cons _ _ _ rfl (.cons _ _ _ rfl (.nil))))))))
     ·have hn23:=hc47
      simp at hn23
      refine rn ?_;refine za0 rfl (fun hc60=> ?_) (fun hc60=> ?_)
      ·have hkl:=kindL_4 (e:=e) (by simpa using hc60)
       refine zd2 4 rfl ?_
       refine rn ?_;refine za2 rfl (zc3 rfl rfl (za3.fr3 (za3.of_acall (fs:= []) (cs:= [pZ bm,pZ by_]) (sayR step ok IJ y hy 3 e.p (hkx _ (by rw [hkl];simp)) _ bm by_ _ _ hI))) rfl ?_)
       rintro _ _ ⟨_,rfl,L,hI,rfl⟩
       refine rn ?_;refine ⟨L,?_,?_⟩
       ·show IJ (goes step _ (kindL e)) L
        rw [hkl];exact hI
       ·rw [hkl];exact (zb8 (.cons _ _ _ rfl (.cons _ _ _ rfl (.cons _ _ _ rfl (.cons _ _ _ rfl (.cons _ _ _ rfl (.cons _ _ _ rfl (.nil))))))))
      ·have hn4:e.kind≠4:=by simpa using hc60
       have hkl:=kindL_0 (e:=e) hn1 (by omega) (by omega) hn4
       refine rn ?_;refine ⟨L,?_,?_⟩
       ·show IJ (goes step _ (kindL e)) L
        rw [hkl];exact hI
       ·rw [hkl];exact (zb8 (.cons _ _ _ rfl (.cons _ _ _ rfl (.cons _ _ _ rfl (.cons _ _ _ rfl (.cons _ _ _ rfl (.cons _ _ _ rfl (.nil))))))))
  ·rintro L hI
   revert hI hF
   generalize goes step (goes step st [(0,e.t)]) (kindL e)=st2
   intro hF hI
   refine rn ?_;refine zd4 (fun x:Nat×Option σ×List Res=>x.1≤e.scan.length∧IJ x.2.1 x.2.2∧Rem step ok x.2.1 (((e.scan.drop x.1).flatMap seenL)++(((h.evs.drop (k+1)).flatMap evL)++(h.ords.flatMap ordL++(h.mats.flatMap matL++h.wants.flatMap wanL)))) (goes step (some s0) (spokenL h))) (fun x=>⟨[(72,iv x.1),(71,iv (e.scan.map ze9).length),(7,.pp (evR e)),(22,iv k),(21,iv (h.evs.map evR).length),(1,pZ b1),(4,pZ bs),(5,.fn (.func 203) [] [pZ bs])],.box b1 184 [pZ bh]:: .box bh 28 (zb0 h):: .box bs 240 [.fn (.func 202) [] [pZ bm,pZ by_]]:: .box bm 4 [bv (x.2.1).isSome]:: .box by_ 239 [y]::x.2.2,[]⟩) (fun x=>e.scan.length - x.1) (0,st2,L) ⟨by omega,hI,hF⟩
    (zb8 (.cons _ _ _ rfl (.cons _ _ _ rfl (.cons _ _ _ rfl (.cons _ _ _ rfl (.cons _ _ _ rfl (.cons _ _ _ rfl (.cons _ _ _ rfl (.cons _ _ _ rfl (.nil)))))))))) ?_
   rintro ⟨j,st,L⟩ ⟨hj,hI,hF⟩
   simp only at hj hI hF
   refine rn ?_;refine za0 rfl (fun hc73=> ?_) (fun hc73=> ?_)
   ·have j2:j < e.scan.length:=by simpa using hc73
    obtain ⟨x,hx⟩:∃x,x=e.scan[j]:=⟨_,rfl⟩
    have hrowx:(e.scan.map ze9)[j]? =some (ze9 x):=by rw [hx];simp [j2]
    have hdx:=List.drop_eq_getElem_cons j2
    rw [hdx,←hx] at hF
    simp only [List.flatMap_cons,seenL,List.cons_append,List.append_assoc] at hF
    obtain ⟨hx,hF⟩:=hF.cons
    obtain ⟨hkx,hF⟩:=hF.app
    refine rn ?_;refine zd2 8 rfl ?_
    refine rn ?_;refine za2 rfl (zc3 rfl rfl (za3.fr3 (za3.of_acall (fs:= []) (cs:= [pZ bm,pZ by_]) (sayR step ok IJ y hy 2 x.o hx _ bm by_ _ _ hI))) rfl ?_)
    rintro _ _ ⟨_,rfl,L,hI,rfl⟩
    refine rn ?_;refine za2 rfl (zc3 rfl rfl (za3.fr2 (za3.of_acall (fs:= []) (cs:= [pZ bs]) (madeR step ok IJ y hy x.v hkx _ bs bm by_ _ _ hI))) rfl ?_)
    rintro _ _ ⟨_,rfl,L,hI,rfl⟩
    refine rn ?_;exact ⟨(j+1,_,L),⟨by omega,hI,hF⟩,(zb8 (.cons _ _ _ rfl (.cons _ _ _ rfl (.cons _ _ _ rfl (.cons _ _ _ rfl (.cons _ _ _ rfl (.cons _ _ _ rfl (.cons _ _ _ rfl (.cons _ _ _ rfl (.nil)))))))))),by simp only;omega⟩
   ·obtain rfl:j=e.scan.length:=by
     have:e.scan.length≤j:=by simpa using hc73
     omega
    rw [List.drop_length,List.flatMap_nil,List.nil_append] at hF
    refine rn ?_;exact ⟨(k+1,_,L),⟨by omega,hI,hF⟩,(zb8 (.cons _ _ _ rfl (.cons _ _ _ rfl (.cons _ _ _ rfl (.cons _ _ _ rfl (.cons _ _ _ rfl (.nil))))))),by simp only;omega⟩
 ·obtain rfl:k=h.evs.length:=by
   have:h.evs.length≤k:=by simpa using hc23
   omega
  rw [List.drop_length,List.flatMap_nil,List.nil_append] at hF
  refine rn ?_;refine zd4 (fun x:Nat×Option σ×List Res=>x.1≤h.ords.length∧IJ x.2.1 x.2.2∧Rem step ok x.2.1 (((h.ords.drop x.1).flatMap ordL)++(h.mats.flatMap matL++h.wants.flatMap wanL)) (goes step (some s0) (spokenL h))) (fun x=>⟨[(100,iv x.1),(99,iv (h.ords.map ordR).length),(1,pZ b1),(4,pZ bs),(5,.fn (.func 203) [] [pZ bs])],.box b1 184 [pZ bh]:: .box bh 28 (zb0 h):: .box bs 240 [.fn (.func 202) [] [pZ bm,pZ by_]]:: .box bm 4 [bv (x.2.1).isSome]:: .box by_ 239 [y]::x.2.2,[]⟩) (fun x=>h.ords.length - x.1) (0,st,L) ⟨by omega,hI,hF⟩
   (zb8 (.cons _ _ _ rfl (.cons _ _ _ rfl (.cons _ _ _ rfl (.cons _ _ _ rfl (.cons _ _ _ rfl (.nil))))))) ?_
  rintro ⟨k,st,L⟩ ⟨hk,hI,hF⟩
  simp only at hk hI hF
  refine rn ?_;refine za0 rfl (fun hc101=> ?_) (fun hc101=> ?_)
  ·have k2:k < h.ords.length:=by simpa using hc101
   obtain ⟨r,hr⟩:∃r,r=h.ords[k]:=⟨_,rfl⟩
   have hrowr:(h.ords.map ordR)[k]? =some (ordR r):=by rw [hr];simp [k2]
   have hdr:=List.drop_eq_getElem_cons k2
   rw [hdr,←hr] at hF
   simp only [List.flatMap_cons,ordL,List.cons_append,List.append_assoc] at hF
   obtain ⟨hx,hF⟩:=hF.cons
   have hle:=la.ords
   have hls:=la.ordts r (by rw [hr];simp)
   refine rn ?_;refine zd2 8 rfl ?_
   refine rn ?_;refine za2 rfl (zc3 rfl rfl (za3.fr3 (za3.of_acall (fs:= []) (cs:= [pZ bm,pZ by_]) (sayR step ok IJ y hy 2 r.o hx _ bm by_ _ _ hI))) rfl ?_)
   rintro _ _ ⟨_,rfl,L,hI,rfl⟩
   refine rn ?_;refine zd4 (fun x:Nat×Option σ×List Res=>x.1≤r.ts.length∧IJ x.2.1 x.2.2∧Rem step ok x.2.1 (((r.ts.drop x.1).map fun t=>((0:Nat),t))++(((h.ords.drop (k+1)).flatMap ordL)++(h.mats.flatMap matL++h.wants.flatMap wanL))) (goes step (some s0) (spokenL h))) (fun x=>⟨[(121,iv x.1),(120,iv (r.ts.map intR).length),(9,iv k),(100,iv k),(99,iv (h.ords.map ordR).length),(1,pZ b1),(4,pZ bs),(5,.fn (.func 203) [] [pZ bs])],.box b1 184 [pZ bh]:: .box bh 28 (zb0 h):: .box bs 240 [.fn (.func 202) [] [pZ bm,pZ by_]]:: .box bm 4 [bv (x.2.1).isSome]:: .box by_ 239 [y]::x.2.2,[]⟩) (fun x=>r.ts.length - x.1) (0,_,L) ⟨by omega,hI,hF⟩
    (zb8 (.cons _ _ _ rfl (.cons _ _ _ rfl (.cons _ _ _ rfl (.cons _ _ _ rfl (.cons _ _ _ rfl (.cons _ _ _ rfl (.cons _ _ _ rfl (.cons _ _ _ rfl (.nil)))))))))) ?_
   rintro ⟨j,st,L⟩ ⟨hj,hI,hF⟩
   simp only at hj hI hF
   refine rn ?_;refine za0 rfl (fun hc122=> ?_) (fun hc122=> ?_)
   ·have j2:j < r.ts.length:=by simpa using hc122
    obtain ⟨t,ht⟩:∃t,t=r.ts[j]:=⟨_,rfl⟩
    have hrowt:(r.ts.map intR)[j]? =some (intR t):=by rw [ht];simp [j2]
    have hdt:=List.drop_eq_getElem_cons j2
    rw [hdt,←ht] at hF
    simp only [List.map_cons,List.cons_append] at hF
    obtain ⟨hx,hF⟩:=hF.cons
    refine rn ?_;refine zd2 11 rfl ?_
    refine rn ?_;refine za2 rfl (zc3 rfl rfl (za3.fr3 (za3.of_acall (fs:= []) (cs:= [pZ bm,pZ by_]) (sayR step ok IJ y hy 0 t hx _ bm by_ _ _ hI))) rfl ?_)
    rintro _ _ ⟨_,rfl,L,hI,rfl⟩
    refine rn ?_;exact ⟨(j+1,_,L),⟨by omega,hI,hF⟩,(zb8 (.cons _ _ _ rfl (.cons _ _ _ rfl (.cons _ _ _ rfl (.cons _ _ _ rfl (.cons _ _ _ rfl (.cons _ _ _ rfl (.cons _ _ _ rfl (.cons _ _ _ rfl (.nil)))))))))),by simp only;omega⟩
   ·obtain rfl:j=r.ts.length:=by
     have:r.ts.length≤j:=by simpa using hc122
     omega
    rw [List.drop_length,List.map_nil,List.nil_append] at hF
    refine rn ?_;exact ⟨(k+1,_,L),⟨by omega,hI,hF⟩,(zb8 (.cons _ _ _ rfl (.cons _ _ _ rfl (.cons _ _ _ rfl (.cons _ _ _ rfl (.cons _ _ _ rfl (.nil))))))),by simp only;omega⟩
  ·obtain rfl:k=h.ords.length:=by
    have:h.ords.length≤k:=by simpa using hc101
    omega
   rw [List.drop_length,List.flatMap_nil,List.nil_append] at hF
   refine rn ?_;refine zd4 (fun x:Nat×Option σ×List Res=>x.1≤h.mats.length∧IJ x.2.1 x.2.2∧Rem step ok x.2.1 (((h.mats.drop x.1).flatMap matL)++h.wants.flatMap wanL) (goes step (some s0) (spokenL h))) (fun x=>⟨[(143,iv x.1),(142,iv (h.mats.map matR).length),(1,pZ b1),(4,pZ bs),(5,.fn (.func 203) [] [pZ bs])],.box b1 184 [pZ bh]:: .box bh 28 (zb0 h):: .box bs 240 [.fn (.func 202) [] [pZ bm,pZ by_]]:: .box bm 4 [bv (x.2.1).isSome]:: .box by_ 239 [y]::x.2.2,[]⟩) (fun x=>h.mats.length - x.1) (0,st,L) ⟨by omega,hI,hF⟩
    (zb8 (.cons _ _ _ rfl (.cons _ _ _ rfl (.cons _ _ _ rfl (.cons _ _ _ rfl (.cons _ _ _ rfl (.nil))))))) ?_
   rintro ⟨k,st,L⟩ ⟨hk,hI,hF⟩
   simp only at hk hI hF
   refine rn ?_;refine za0 rfl (fun hc144=> ?_) (fun hc144=> ?_)
   ·have k2:k < h.mats.length:=by simpa using hc144
    obtain ⟨r,hr⟩:∃r,r=h.mats[k]:=⟨_,rfl⟩
    have hrowr:(h.mats.map matR)[k]? =some (matR r):=by rw [hr];simp [k2]
    have hdr:=List.drop_eq_getElem_cons k2
    rw [hdr,←hr] at hF
    simp only [List.flatMap_cons,matL,List.cons_append,List.append_assoc] at hF
    obtain ⟨hx,hF⟩:=hF.cons
    obtain ⟨hx2,hF⟩:=hF.cons
    have hle:=la.mats
    have hls:=la.matts r (by rw [hr];simp)
    refine rn ?_;refine zd2 4 rfl ?_
    refine rn ?_;refine za2 rfl (zc3 rfl rfl (za3.fr3 (za3.of_acall (fs:= []) (cs:= [pZ bm,pZ by_]) (sayR step ok IJ y hy 3 r.p hx _ bm by_ _ _ hI))) rfl ?_)
    rintro _ _ ⟨_,rfl,L,hI,rfl⟩
    refine rn ?_;refine zd2 4 rfl ?_
    refine rn ?_;refine za2 rfl (zc3 rfl rfl (za3.fr3 (za3.of_acall (fs:= []) (cs:= [pZ bm,pZ by_]) (sayR step ok IJ y hy 2 r.o hx2 _ bm by_ _ _ hI))) rfl ?_)
    rintro _ _ ⟨_,rfl,L,hI,rfl⟩
    refine rn ?_;refine zd4 (fun x:Nat×Option σ×List Res=>x.1≤r.ts.length∧IJ x.2.1 x.2.2∧Rem step ok x.2.1 (((r.ts.drop x.1).map fun t=>((0:Nat),t))++(((h.mats.drop (k+1)).flatMap matL)++h.wants.flatMap wanL)) (goes step (some s0) (spokenL h))) (fun x=>⟨[(167,iv x.1),(166,iv (r.ts.map intR).length),(12,.pp (matR r)),(143,iv k),(142,iv (h.mats.map matR).length),(1,pZ b1),(4,pZ bs),(5,.fn (.func 203) [] [pZ bs])],.box b1 184 [pZ bh]:: .box bh 28 (zb0 h):: .box bs 240 [.fn (.func 202) [] [pZ bm,pZ by_]]:: .box bm 4 [bv (x.2.1).isSome]:: .box by_ 239 [y]::x.2.2,[]⟩) (fun x=>r.ts.length - x.1) (0,_,L) ⟨by omega,hI,hF⟩
     (zb8 (.cons _ _ _ rfl (.cons _ _ _ rfl (.cons _ _ _ rfl (.cons _ _ _ rfl (.cons _ _ _ rfl (.cons _ _ _ rfl (.cons _ _ _ rfl (.cons _ _ _ rfl (.nil)))))))))) ?_
    rintro ⟨j,st,L⟩ ⟨hj,hI,hF⟩
    simp only at hj hI hF
    refine rn ?_;refine za0 rfl (fun hc168=> ?_) (fun hc168=> ?_)
    ·have j2:j < r.ts.length:=by simpa using hc168
     obtain ⟨t,ht⟩:∃t,t=r.ts[j]:=⟨_,rfl⟩
     have hrowt:(r.ts.map intR)[j]? =some (intR t):=by rw [ht];simp [j2]
     have hdt:=List.drop_eq_getElem_cons j2
     rw [hdt,←ht] at hF
     simp only [List.map_cons,List.cons_append] at hF
     obtain ⟨hx,hF⟩:=hF.cons
     refine rn ?_;refine zd2 7 rfl ?_
     refine rn ?_;refine za2 rfl (zc3 rfl rfl (za3.fr3 (za3.of_acall (fs:= []) (cs:= [pZ bm,pZ by_]) (sayR step ok IJ y hy 0 t hx _ bm by_ _ _ hI))) rfl ?_)
     rintro _ _ ⟨_,rfl,L,hI,rfl⟩
     refine rn ?_;exact ⟨(j+1,_,L),⟨by omega,hI,hF⟩,(zb8 (.cons _ _ _ rfl (.cons _ _ _ rfl (.cons _ _ _ rfl (.cons _ _ _ rfl (.cons _ _ _ rfl (.cons _ _ _ rfl (.cons _ _ _ rfl (.cons _ _ _ rfl (.nil)))))))))),by simp only;omega⟩
    ·obtain rfl:j=r.ts.length:=by
      have:r.ts.length≤j:=by simpa using hc168
      omega
     rw [List.drop_length,List.map_nil,List.nil_append] at hF
     refine rn ?_;exact ⟨(k+1,_,L),⟨by omega,hI,hF⟩,(zb8 (.cons _ _ _ rfl (.cons _ _ _ rfl (.cons _ _ _ rfl (.cons _ _ _ rfl (.cons _ _ _ rfl (.nil))))))),by simp only;omega⟩
   ·obtain rfl:k=h.mats.length:=by
     have:h.mats.length≤k:=by simpa using hc144
     omega
    rw [List.drop_length,List.flatMap_nil,List.nil_append] at hF
    refine rn ?_;refine zd4 (fun x:Nat×Option σ×List Res=>x.1≤h.wants.length∧IJ x.2.1 x.2.2∧Rem step ok x.2.1 (((h.wants.drop x.1).flatMap wanL)++ []) (goes step (some s0) (spokenL h))) (fun x=>⟨[(185,iv x.1),(184,iv (h.wants.map wanR).length),(1,pZ b1),(4,pZ bs),(5,.fn (.func 203) [] [pZ bs])],.box b1 184 [pZ bh]:: .box bh 28 (zb0 h):: .box bs 240 [.fn (.func 202) [] [pZ bm,pZ by_]]:: .box bm 4 [bv (x.2.1).isSome]:: .box by_ 239 [y]::x.2.2,[]⟩) (fun x=>h.wants.length - x.1) (0,st,L) ⟨by omega,hI,by rw [List.append_nil];exact hF⟩
     (zb8 (.cons _ _ _ rfl (.cons _ _ _ rfl (.cons _ _ _ rfl (.cons _ _ _ rfl (.cons _ _ _ rfl (.nil))))))) ?_
    rintro ⟨k,st,L⟩ ⟨hk,hI,hF⟩
    simp only at hk hI hF
    refine rn ?_;refine za0 rfl (fun hc186=> ?_) (fun hc186=> ?_)
    ·have k2:k < h.wants.length:=by simpa using hc186
     obtain ⟨r,hr⟩:∃r,r=h.wants[k]:=⟨_,rfl⟩
     have hrowr:(h.wants.map wanR)[k]? =some (wanR r):=by rw [hr];simp [k2]
     have hdr:=List.drop_eq_getElem_cons k2
     rw [hdr,←hr] at hF
     simp only [List.flatMap_cons,wanL,List.cons_append,List.append_assoc,List.nil_append] at hF
     obtain ⟨hx,hF⟩:=hF.cons
     have hle:=la.wants
     refine rn ?_;refine zd2 8 rfl ?_
     refine rn ?_;refine za2 rfl (zc3 rfl rfl (za3.fr3 (za3.of_acall (fs:= []) (cs:= [pZ bm,pZ by_]) (sayR step ok IJ y hy 1 r.s hx _ bm by_ _ _ hI))) rfl ?_)
     rintro _ _ ⟨_,rfl,L,hI,rfl⟩
     refine rn ?_;exact ⟨(k+1,_,L),⟨by omega,hI,hF⟩,(zb8 (.cons _ _ _ rfl (.cons _ _ _ rfl (.cons _ _ _ rfl (.cons _ _ _ rfl (.cons _ _ _ rfl (.nil))))))),by simp only;omega⟩
    ·obtain rfl:k=h.wants.length:=by
      have:h.wants.length≤k:=by simpa using hc186
      omega
     rw [List.drop_length,List.flatMap_nil,List.nil_append] at hF
     refine rn ?_;have hF':st=goes step (some s0) (spokenL h):=hF.fin
     exact retq_n .nil (.trans (.perm ((pt2 _ _ _ _).trans (.cons _ ((pt2 _ _ _ _).trans (.cons _ (pt2 _ _ _ _))))) _) (.drop [_,_,_] _ _)) ⟨L,hF' ▸ hI,rfl⟩
theorem spoken (bh:Nat) (h:List Res):za6 Tryz.prog 141 [pZ bh] h (fun r h'=>∃b1,h'= .box b1 184 [pZ bh]::h∧r= .fn (.func 201) [] [pZ b1]):=by
 refine za1 Tryz.func141 rfl rfl rfl ?_
 refine rn ?_;refine za2 rfl (zb5 rfl rfl rfl fun b1=> ?_)
 refine rn ?_;exact retT rfl (.refl _ _) ⟨_,rfl,rfl⟩
def IJC (lp:LP) (q b2 b3:Nat):Option (List Int)→List Res→Prop
 |some m,L=>L=lp .ready none:: .defs q:: .box b3 156 ((m).map iv):: .box b2 33 [iv 0]:: [.glob 2 156 zc1,.glob 4 305 zb6,.glob 5 308 zb2]∧m.length=4
 |none,L=>∃m:List Int,L=lp .done (some .ret):: .defs q:: .box b3 156 ((m).map iv):: .box b2 33 [iv 210]:: [.glob 2 156 zc1,.glob 4 305 zb6,.glob 5 308 zb2]
theorem check (h:Hist) (la:Lim 4611686018427387904 h):za6 Tryz.prog 93 [.agg (zb0 h)] [.glob 2 156 zc1,.glob 4 305 zb6,.glob 5 308 zb2] (fun r h'=>h'= [.glob 2 156 zc1,.glob 4 305 zb6,.glob 5 308 zb2]∧r=iv (checkE h)):=by
 refine za1 Tryz.func93 rfl rfl rfl ?_
 refine rn ?_;refine za2 rfl (zb5 rfl rfl rfl fun b1=> ?_)
 refine za2 rfl (zb1 rfl fun b2=> ?_)
 refine rn ?_;refine qv rfl rfl (za4 rfl rfl (za3.qt (za3.of_fun (shaped h la)) ((pt2 _ _ _ _).trans (.cons _ ((pt2 _ _ _ _).trans (.cons _ (pt2 _ _ _ _))))))) ?_
 refine rn ?_;refine za0 rfl (fun hc10=> ?_) (fun hc10=> ?_)
 ·have hs:zd7 h=false:=not_t hc10
  refine rn ?_;exact retq (.cons _ _ _ _ (.one _ _ _ _ _ _ _ rfl inferInstance inferInstance rfl) .nil) (.drop [_,_] _ _) ⟨rfl,congrArg iv (check_no hs).symm⟩
 ·have hs:zd7 h=true:=not_f hc10
  refine rn ?_;refine za2 rfl (zb1 rfl fun b3=> ?_)
  refine rn ?_;refine za2 rfl (zc3 rfl rfl (za3.of_fun (spoken b1 _)) rfl ?_)
  rintro _ _ ⟨b1',rfl,rfl⟩
  refine rn ?_;refine aw_rf (fun pend h''=>(pend=none∧∃m:List Int,manyL h=some m∧m.length=4∧h''= .box b1' 184 [pZ b1]:: .box b1 28 (zb0 h):: .box b3 156 ((m).map iv):: .box b2 33 [iv 0]:: [.glob 2 156 zc1,.glob 4 305 zb6,.glob 5 308 zb2])∨(pend=some .ret∧manyL h=none∧∃m:List Int,h''= .box b1' 184 [pZ b1]:: .box b1 28 (zb0 h):: .box b3 156 ((m).map iv):: .box b2 33 [iv 210]:: [.glob 2 156 zc1,.glob 4 305 zb6,.glob 5 308 zb2])) rfl (fun fn l q lp hlp=> ?_) (fun q h'' hK=> ?_) (fun q h'' c hK=> ?_)
  ·suffices hy:∀(s:List Int) (L:List Res) (sort:Nat) (n:Int) (cells:List AV),OkN h (sort,n)→IJC lp q b2 b3 (some s) L→za3 Tryz.prog (yv l) [iv sort,.pp (iv n::cells)] L (fun r h'=>r=bv (manyStep s (sort,n)).isSome∧IJC lp q b2 b3 (manyStep s (sort,n)) h') by
    refine za6.mono (za6.perm ((pt2 _ _ _ _).trans (.cons _ (pt4 _ _ _ _ _ _))) (spokenR manyStep (OkN h) (IJC lp q b2 b3) (yv l) rfl hy h la b1' b1 (shaped_ok hs) [0,0,0,0] _ ⟨rfl,rfl⟩)) ?_
    rintro _ _ ⟨L',hI,rfl⟩
    cases hm:goes manyStep (some [0,0,0,0]) (spokenL h) with
    | some m=>
      rw [hm] at hI
      obtain ⟨rfl,hl⟩:=hI
      exact ⟨_,_,_,((pt2 _ _ _ _).trans (.cons _ (pt2 _ _ _ _))),by simp,.inl ⟨rfl,m,hm,hl,rfl⟩⟩
    | none=>
      rw [hm] at hI
      obtain ⟨m,rfl⟩:=hI
      exact ⟨_,_,_,((pt2 _ _ _ _).trans (.cons _ (pt2 _ _ _ _))),by simp,.inr ⟨rfl,hm,m,rfl⟩⟩
   rintro m _ sort n cells ⟨hs4,hn0,hn1⟩ ⟨rfl,hl⟩
   simp only at hs4 hn0 hn1
   have hnm:=la.nm sort
   refine fcall_yl hlp rfl rfl ?_
   refine rn ?_;refine ⟨[(4,iv sort),(5,.pp (iv n::cells)),(3,pZ b3),(2,pZ b2)],(zb8 (.cons _ _ _ rfl (.cons _ _ _ rfl (.cons _ _ _ rfl (.cons _ _ _ rfl (.nil)))))),?_⟩
   refine rn ?_;refine zd2 6 rfl ?_
   refine dq rfl rfl qrA ?_;refine dq rfl rfl qrA ?_;refine dq rfl rfl qrA ?_;refine dq rfl rfl qrA ?_;refine dq rfl rfl (qr_indexAddr_arr rfl rfl hs4) ?_
   refine dq rfl rfl (ze6 rfl (get4 hl hs4)) ?_
   refine rn ?_;refine za0 rfl (fun hc20=> ?_) (fun hc20=> ?_)
   ·refine rn ?_;have hst:manyStep m (sort,n)=none:=by rw [manyStep];exact if_pos (by simpa using hc20)
    exact round_r (.refl _) (by rw [hst];exact ⟨rfl,_,rfl⟩)
   ·refine rn ?_;refine zd2 9 rfl ?_
    refine dq rfl rfl qrA ?_;refine dq rfl rfl qrA ?_;refine dq rfl rfl (qr_indexAddr_arr rfl rfl hs4) ?_
    refine dq rfl rfl (ze6 rfl (get4 hl hs4)) ?_
    refine rn2 ?_;refine qq rfl rfl (qr_indexAddr_arr rfl rfl hs4) ?_
    refine za2 rfl (oe_store rfl rfl rfl rfl (by simp [hl];omega) ?_)
    refine rn ?_;have hst:manyStep m (sort,n)=some (m.set sort (max (m.getD sort 0) (n+1))):=by rw [manyStep];exact if_neg (by simpa using hc20)
    exact round_n (.refl _) (by rw [hst];exact ⟨rfl,by rw [←set4 hl hs4];rfl,by simpa using hl⟩)
  ·obtain ⟨_,m,hm,hl,rfl⟩|⟨hc,_⟩:=hK
   rotate_left
   ·cases hc
   refine rn ?_;refine qv rfl rfl (za4 rfl rfl (zc0 (names _) (Sbs.refl _))) ?_
   refine rn ?_;refine zd4 (fun k:Nat=>k≤4∧∀j,j < k→m.getD j 0=(nmK h j).length) (fun k=>⟨[(33,iv k),(32,.agg (namesC h)),(3,pZ b3),(2,pZ b2)],.defs q:: .box b1' 184 [pZ b1]:: .box b1 28 (zb0 h):: .box b3 156 ((m).map iv):: .box b2 33 [iv 0]:: [.glob 2 156 zc1,.glob 4 305 zb6,.glob 5 308 zb2],[q]⟩) (fun k=>4 - k) 0 ⟨by omega,fun j hj=>absurd hj (Nat.not_lt_zero j)⟩
    (zb8 (.cons _ _ _ rfl (.cons _ _ _ rfl (.cons _ _ _ rfl (.cons _ _ _ rfl (.nil)))))) ?_
   rintro k ⟨hk,hz⟩
   refine rn ?_;refine za0 rfl (fun hc34=> ?_) (fun hc34=> ?_)
   ·have hk4:k < 4:=by simp at hc34;omega
    refine zf2 ?_;refine zd8 ?_;refine zb4 ?_;refine aw_block ?_;refine zb4 (za9 ?_)
    refine q1 ?_;refine qq rfl rfl (qr_index_arr_one rfl rfl (by omega) (by have:=nmK_get h hk4;simpa using this)) ?_
    refine q1 ?_;refine q1 ?_;refine zd5 (zd8 ?_)
    refine zb4 (za9 ?_)
    refine q1 ?_;refine qq rfl rfl (qr_indexAddr_arr rfl rfl hk4) ?_
    refine qq rfl rfl (ze6 rfl (get4 hl hk4)) ?_
    refine rn ?_;refine za0 rfl (fun hc42=> ?_) (fun hc42=> ?_)
    ·refine rn ?_;exact retqd (.refl _) (.cons _ _ _ _ (.one _ _ _ _ _ _ _ rfl inferInstance inferInstance rfl) .nil) (.drop [_,_,_,_] _ _) ⟨rfl,congrArg iv (check_ne hm hk4 (by simpa using hc42)).symm⟩
    ·refine rn ?_;exact ⟨k+1,⟨by omega,fun j hj=>by
      by_cases hjk:j=k
      ·subst hjk;simpa using hc42
      ·exact hz j (by omega)⟩,(zb8 (.cons _ _ _ rfl (.cons _ _ _ rfl (.cons _ _ _ rfl (.cons _ _ _ rfl (.nil)))))),by omega⟩
   ·have hk4:k=4:=by simp at hc34;omega
    subst hk4
    refine rn ?_;exact retqd (.refl _) (.cons _ _ _ _ (.one _ _ _ _ _ _ _ rfl inferInstance inferInstance rfl) .nil) (.drop [_,_,_,_] _ _) ⟨rfl,congrArg iv (check_eq hs hm hl hz).symm⟩
  ·obtain ⟨hc,_⟩|⟨hc,hm,m,rfl⟩:=hK
   ·cases hc
   obtain rfl:c= .ret:=by simpa using hc
   refine rn ?_;exact retqd (.refl _) (.cons _ _ _ _ (.one _ _ _ _ _ _ _ rfl inferInstance inferInstance rfl) .nil) (.drop [_,_,_,_] _ _) ⟨rfl,congrArg iv (check_none hm).symm⟩
attribute [local irreducible] jsoup jch lsoup
def ze0:List AV:= [.any,.fn (.func 300) [] [],.fn (.func 307) [] [],.fn (.func 308) [] [],.fn (.func 309) [] [],.fn (.func 310) [] [],.fn (.func 311) [] [],.fn (.func 312) [] [],.fn (.func 313) [] [],.fn (.func 314) [] [],.fn (.func 315) [] []]
def askF (k:Nat):AV:=ze0.getD k .any
theorem ask_get {k:Nat} (h2:k≤10):ze0[k]? =some (askF k):=by
 have:k < ze0.length:=by show k < 11;omega
 rw [askF,List.getD_eq_getElem?_getD,List.getElem?_eq_getElem this];rfl
theorem ask_call (h:Hist) (la:Lim 3000 h) (b:Nat) (G:List Res) {k:Nat} (h1:1≤k) (h2:k≤10):za3 Tryz.prog (askF k) [pZ b] (.box b 252 (lookN h)::G) (fun r h'=>h'=G∧r=placeV (placeP h k)):=by
 match k,h1,h2 with
 |1,_,_=>exact za3.of_acall (fs:= []) (cs:= []) (rBegin h la b G)
 |2,_,_=>exact za3.of_acall (fs:= []) (cs:= []) (rEnd h la b G)
 |3,_,_=>exact za3.of_acall (fs:= []) (cs:= []) (rCount h la b G)
 |4,_,_=>exact za3.of_acall (fs:= []) (cs:= []) (rWritten h la b G)
 |5,_,_=>exact za3.of_acall (fs:= []) (cs:= []) (rOwn h la b G)
 |6,_,_=>exact za3.of_acall (fs:= []) (cs:= []) (rScan h la b G)
 |7,_,_=>exact za3.of_acall (fs:= []) (cs:= []) (rOrder h la b G)
 |8,_,_=>exact za3.of_acall (fs:= []) (cs:= []) (rMissing h la b G)
 |9,_,_=>exact za3.of_acall (fs:= []) (cs:= []) (rMatch h la b G)
 |10,_,_=>exact za3.of_acall (fs:= []) (cs:= []) (rWant h la b G)
 |k+11,_,h2=>omega
theorem place_t {o:Option Nat} {i:Int} {b:Bool} (h:placeV o= .tup [iv i,bv b]):i=natI o∧b=o.isSome:=by
 cases o with
 |none=>simp only [placeV,AV.tup.injEq,List.cons.injEq,AV.v.injEq,Value.int.injEq,Value.bool.injEq,true_and,and_true] at h;exact ⟨h.1.symm,h.2.symm⟩
 |some n=>simp only [placeV,AV.tup.injEq,List.cons.injEq,AV.v.injEq,Value.int.injEq,Value.bool.injEq,true_and,and_true] at h;exact ⟨h.1.symm,h.2.symm⟩
theorem may3000 {h:Hist} (hm:mayB h=true):Lim 3000 h:=by
 unfold mayB at hm;simp only [Bool.and_eq_true] at hm;exact shaped_lim hm.1
theorem rFirst (h:Hist) (la:Lim 4611686018427387904 h):za6 Tryz.prog 143 [.agg (zb0 h)] [.glob 2 156 zc1,.glob 4 305 zb6,.glob 5 308 zb2,.glob 3 246 ze0] (fun r h'=>h'= [.glob 2 156 zc1,.glob 4 305 zb6,.glob 5 308 zb2,.glob 3 246 ze0]∧r=firstAns h):=by
 refine za1 Tryz.func143 rfl rfl rfl ?_
 refine rn ?_;refine za2 rfl (zb5 rfl rfl rfl fun b1=> ?_)
 refine za2 rfl (zb1 rfl fun b2=> ?_)
 refine rn ?_;refine qv rfl rfl (za4 rfl rfl (za3.qt (za3.of_fun (check h la)) ((pt2 _ _ _ _).trans (.cons _ ((pt2 _ _ _ _).trans (.cons _ (pt2 _ _ _ _))))))) ?_
 refine rn ?_;refine za0 rfl (fun hc12=> ?_) (fun hc12=> ?_)
 ·have hm:¬mayB h=true:=by intro q;rw [checkE,if_pos q] at hc12;cases hc12
  have he:checkE h=210:=by rw [checkE,if_neg hm]
  refine rn ?_;exact retq (.cons _ _ _ _ (.agg _ _ _ _ _ _ _ rfl inferInstance inferInstance inferInstance rfl) (.cons _ _ _ _ (.tmp _ _ rfl) (.cons _ _ _ _ (.tmp _ _ rfl) .nil))) (.drop [_,_] _ _) ⟨rfl,by rw [firstAns,if_neg hm,he];rfl⟩
 ·have hm:mayB h=true:=check_0.1 (by simpa using hc12)
  have la3:=may3000 hm
  refine rn ?_;refine aw_while (fun k:Nat=>(1≤k∧k≤11)∧zf5 (placeP h) zf4=zf5 (placeP h) (zf4.drop (k - 1))) (fun k=>⟨[(6,iv k),(1,pZ b1),(2,pZ b2)],(.box b2 158 [iv 0,iv 0]:: .box b1 28 (zb0 h):: .glob 2 156 zc1:: .glob 4 305 zb6:: .glob 5 308 zb2:: .glob 3 246 ze0:: []),[]⟩) (fun k=>11 - k) 1 ⟨by omega,rfl⟩ es ?_
  rintro k ⟨⟨k1,k3⟩,zk⟩
  obtain ⟨pi,pb,hpv⟩:∃i b,placeV (placeP h k)= .tup [iv i,bv b]:=place_ib _
  obtain ⟨ei,eb⟩:=place_t hpv
  refine rn ?_;refine za0 rfl (fun hc16=> ?_) (fun hc16=> ?_)
  ·have k2:k≤10:=by have:=of_decide_eq_true hc16;omega
   refine zf2 ?_;refine rn0 ?_;refine zb4 ?_;refine aw_block ?_;refine zb4 ?_;refine aw_drawX 11 [5,6] [7,8,9,10] (fun he=>he=(.box b2 158 [iv 0,iv 0]:: .box b1 28 (zb0 h):: .glob 2 156 zc1:: .glob 4 305 zb6:: .glob 5 308 zb2:: .glob 3 246 ze0:: [])∨∃b,he= .box b 252 (lookN h)::(.box b2 158 [iv 0,iv 0]:: .box b1 28 (zb0 h):: .glob 2 156 zc1:: .glob 4 305 zb6:: .glob 5 308 zb2:: .glob 3 246 ze0:: [])) rfl rfl (.inl rfl) ?_
   refine jq rfl (fun he hC=>by rcases hC with rfl|⟨b,rfl⟩ <;> exact qrA) ?_
   refine jq rfl (fun he hC=>by rcases hC with rfl|⟨b,rfl⟩ <;> exact (by exact qr_indexAddr_arr rfl rfl (by show k < 11;omega))) ?_
   refine jq rfl (fun he hC=>by rcases hC with rfl|⟨b,rfl⟩ <;> exact (by exact ze6 rfl (show ze0[0+k * 1]? =some (askF k) by rw [Nat.zero_add,Nat.mul_one];exact ask_get k2))) ?_
   refine jq rfl (fun he hC=>by rcases hC with rfl|⟨b,rfl⟩ <;> exact qrA) ?_
   refine jq rfl (fun he hC=>by rcases hC with rfl|⟨b,rfl⟩ <;> exact (by exact qr_build (out:=lookN h) rfl (by rfl))) ?_
   refine je rfl ?_;refine je rfl ?_;refine je rfl ?_;refine je rfl ?_;refine je rfl ?_;refine je rfl ?_;refine jnil ?_;refine jce rfl fun u=> ?_
   refine zb5 rfl rfl rfl fun b5=>⟨_,_,rfl,.inr ⟨_,rfl⟩,?_⟩
   refine jce rfl fun u=> ?_
   refine zc3 rfl rfl (ask_call h la3 b5 _ k1 k2) rfl ?_
   rintro _ _ ⟨rfl,rfl⟩
   rw [hpv]
   refine ⟨_,_,rfl,.inl rfl,?_⟩
   refine jcn ?_;refine lq rfl rfl (by exact qrA) ?_
   refine lq rfl rfl (by exact qrA) ?_
   refine lq rfl rfl (by exact qrA) ?_
   refine lq rfl rfl (by exact qrA) ?_
   refine ln ?_;refine rn ?_;refine za0 rfl (fun hc29=> ?_) (fun hc29=> ?_)
   ·refine rn ?_;exact retq (.cons _ _ _ _ (.agg _ _ _ _ _ _ _ rfl inferInstance inferInstance inferInstance rfl) (.cons _ _ _ _ (.tmp _ _ rfl) (.cons _ _ _ _ (.tmp _ _ rfl) .nil))) (.drop [_,_] _ _) ⟨rfl,by
     cases hp:placeP h k with
     |none=>rw [hp] at eb;rw [eb] at hc29;cases hc29
     |some n=>rw [hp] at ei;subst ei;rw [firstAns,if_pos hm,firstH,first_hit k1 k2 zk hp];rfl⟩
   ·refine rn ?_;exact ⟨k+1,⟨by omega,first_step k1 k2 zk (by cases hp:placeP h k with|none=>rfl|some n=>rw [hp] at eb;rw [eb] at hc29;cases hc29)⟩,eA,by omega⟩
  ·have k2:11≤k:=by have:=of_decide_eq_false hc16;omega
   refine rn ?_;exact retq (.cons _ _ _ _ (.agg _ _ _ _ _ _ _ rfl inferInstance inferInstance inferInstance rfl) (.cons _ _ _ _ (.tmp _ _ rfl) (.cons _ _ _ _ (.tmp _ _ rfl) .nil))) (.drop [_,_] _ _) ⟨rfl,by rw [firstAns,if_pos hm,firstH,first_over k2 k3 zk];rfl⟩
theorem rSound (h:Hist) (la:Lim 4611686018427387904 h):za6 Tryz.prog 94 [.agg (zb0 h)] [.glob 2 156 zc1,.glob 4 305 zb6,.glob 5 308 zb2,.glob 3 246 ze0] (fun r h'=>h'= [.glob 2 156 zc1,.glob 4 305 zb6,.glob 5 308 zb2,.glob 3 246 ze0]∧r=bv (soundB h)):=by
 refine za1 Tryz.func94 rfl rfl rfl ?_
 refine rn ?_;refine za2 rfl (zb5 rfl rfl rfl fun b1=> ?_)
 refine q1 ?_;refine zd5 (zd8 ?_)
 refine zb4 (za9 ?_)
 obtain ⟨fi,fj,fb,fe,hf,hfb⟩:=firstAns_tup h
 refine rn ?_;refine qv rfl rfl (za4 rfl rfl (za3.qt (za3.of_fun (rFirst h la)) ((pt1 _ _ _).trans (.cons _ ((pt1 _ _ _).trans (.cons _ ((pt1 _ _ _).trans (.cons _ (pt1 _ _ _))))))))) ?_
 rw [hf]
 refine rn ?_;refine za2 rfl (zb1 rfl fun b3=> ?_)
 refine rn ?_;refine za8 (fun hg2_2=> ?_) (fun hg2_2=> ?_)
 ·refine rn ?_;refine rq 2 ?_
  exact ⟨rfl,congrArg bv (by rw [hfb];simp_all)⟩
 ·refine rn ?_;refine rq 2 ?_
  exact ⟨rfl,congrArg bv (by rw [hfb];simp_all)⟩
end Go.Proofs
set_option maxRecDepth 100000
namespace Go.Proofs.YtfmcbdjnmlcacaaGreatDoor
open Go Go.Ab Go.H
def asksD:DataW Unit:=match (Rows.laid_yardarm_rules_asks:DataW Unit) with| .iface _ d=>d|d=>d
def namesA:List (List UInt8):=match asksD with| .agg ds=>ds.map (fun d=>match d with| .iface _ (.lit (.string b))=>b|_=> [])|_=> []
def nm (k:Nat):List UInt8:=namesA.getD (k+1) []
theorem asksD_out:asksD.funcsOut= .agg (.nil::(namesA.drop 1).map .held):=by kernel_rfl
theorem glob_any {w:World} {c:Array Value} {T0:TypeId} {fr:Nat×Nat} {g:Nat} {T:TypeId} {vs:List AV} (hh:w.heap[g]? =some (.cells c T0 fr)) (hl:vs.length=c.size) (h:∀j (h1:j < vs.length) (h2:j < c.size),Rel w noX vs[j] c[j]):(Res.glob g T vs).holds w noX:=
 ⟨fun h=>h,(Array.getElem?_eq_some_iff.1 hh).1,c,T0,fr,hh,hl,fun j h1 h2=>h j h1 h2⟩
theorem fn_rel (w:World) (f:Nat):Rel w noX (.fn (.func f) [] []) (.func (.func f) #[] #[]):= .fn _ _ _ _ _ rfl rfl (fun j h=>absurd h (Nat.not_lt_zero _)) (fun j h=>absurd h (Nat.not_lt_zero _))
def fnA:List Nat:= [300,307,308,309,310,311,312,313,314,315]
theorem asks_one (k:Nat) (hk:k < 10):∃b r,namesA[k+1]? =some (b::r)∧((List.range Tryz.prog.funcs.size).filter fun f=>(Tryz.prog.funcs[f]?).any (·.name.toUTF8.data.toList==b::r))= [fnA.getD k 0]∧ze0[k+1]? =some (.fn (.func (fnA.getD k 0)) [] []):=by
 match k,hk with
 |0,_=>exact ⟨(nm 0).headD 0,(nm 0).tail,by kernel_rfl,by kernel_rfl,by kernel_rfl⟩
 |1,_=>exact ⟨(nm 1).headD 0,(nm 1).tail,by kernel_rfl,by kernel_rfl,by kernel_rfl⟩
 |2,_=>exact ⟨(nm 2).headD 0,(nm 2).tail,by kernel_rfl,by kernel_rfl,by kernel_rfl⟩
 |3,_=>exact ⟨(nm 3).headD 0,(nm 3).tail,by kernel_rfl,by kernel_rfl,by kernel_rfl⟩
 |4,_=>exact ⟨(nm 4).headD 0,(nm 4).tail,by kernel_rfl,by kernel_rfl,by kernel_rfl⟩
 |5,_=>exact ⟨(nm 5).headD 0,(nm 5).tail,by kernel_rfl,by kernel_rfl,by kernel_rfl⟩
 |6,_=>exact ⟨(nm 6).headD 0,(nm 6).tail,by kernel_rfl,by kernel_rfl,by kernel_rfl⟩
 |7,_=>exact ⟨(nm 7).headD 0,(nm 7).tail,by kernel_rfl,by kernel_rfl,by kernel_rfl⟩
 |8,_=>exact ⟨(nm 8).headD 0,(nm 8).tail,by kernel_rfl,by kernel_rfl,by kernel_rfl⟩
 |9,_=>exact ⟨(nm 9).headD 0,(nm 9).tail,by kernel_rfl,by kernel_rfl,by kernel_rfl⟩
theorem glob3 {w:World} (h:laidMetH Tryz.prog laid4 w):(Res.glob 3 246 ze0).holds w noX:=by
 obtain ⟨g,t,cs,fuel,p,hg,ht,hv,hd⟩:=h.funcs (n:= "yardarm/rules.asks") (d:=asksD) (.tail _ (.tail _ (.head _)))
 obtain rfl:=Option.some.inj ((show Tryz.prog.globalNamed "yardarm/rules.asks" =some 3 by kernel_rfl).symm.trans hg)
 obtain rfl:=Option.some.inj ((show (Tryz.prog.globals[3]?).map (·.type)=some 246 by kernel_rfl).symm.trans ht)
 rw [asksD_out] at hd
 have c1:Tryz.prog.cellsOf 245=1:=by kernel_rfl
 have c11:Tryz.prog.cellsOf 246=11:=by kernel_rfl
 have hlen:cs.toList.length=11:=by
  obtain ⟨_,_,_,_,hl,_⟩:=DataW.trod_array Tryz.underlying246 hd
  rw [hl,c11]
 unfold World.var? at hv
 rw [hg] at hv
 simp only [Option.bind_some] at hv
 split at hv
 ·rename_i c T0 fr hh
  cases hv
  refine glob_any hh (by rw [show ze0.length=11 from rfl];simpa using hlen.symm) fun j h1 h2=> ?_
  cases j with
  |zero=>exact .any _
  | succ k=>
    have hk:k < 10:=by have:ze0.length=11:=rfl;omega
    obtain ⟨b,r,hn,hone,ha⟩:=asks_one k hk
    obtain ⟨f',d,q,e1,e2⟩:=Lib.array_elem Tryz.underlying246 hd (k+1) (by omega)
    have e1':d= .held (b::r):=by
     rw [List.getElem?_cons_succ,List.getElem?_map,List.getElem?_drop,Nat.add_comm 1 k,hn] at e1
     exact (Option.some.inj e1).symm
    subst e1'
    rw [c1,Nat.mul_one,List.drop_eq_getElem_cons (by simpa using h2),List.take_succ_cons,List.take_zero] at e2
    have:=func_of_trod (f0:=fnA.getD k 0) Tryz.underlying245 hone e2
    rw [Array.getElem_toList] at this
    rw [this,show ze0[k+1]= .fn (.func (fnA.getD k 0)) [] [] from Option.some.inj ((List.getElem?_eq_getElem h1).symm.trans ha)]
    exact fn_rel _ _
 ·cases hv
theorem laid_hrel4 {W:World} (h:laidMetH Tryz.prog laid4 W):HRel noX W [.glob 2 156 zc1,.glob 4 305 zb6,.glob 5 308 zb2,.glob 3 246 ze0]:=by
 obtain ⟨a,b,c,d⟩:=laid_hrel h
 have hO:OO [.glob 2 156 zc1,.glob 4 305 zb6,.glob 5 308 zb2] noX=noX:=OO_G3
 have hO':OO [.glob 2 156 zc1,.glob 4 305 zb6,.glob 5 308 zb2,.glob 3 246 ze0] noX=noX:=by funext b;simp [OO,owns,noX,Res.own]
 refine ⟨by simp [owns,Res.own],fun b hb=>by simp [owns,Res.own] at hb,fun b hb=>hb.elim,fun r hr=> ?_⟩
 rw [hO']
 rw [hO] at d
 simp only [List.mem_cons,List.not_mem_nil,or_false] at hr
 rcases hr with rfl|rfl|rfl|rfl
 ·exact d _ (by simp)
 ·exact d _ (by simp)
 ·exact d _ (by simp)
 ·exact glob3 h
theorem OO_G4:OO [.glob 2 156 zc1,.glob 4 305 zb6,.glob 5 308 zb2,.glob 3 246 ze0] noX=noX:=by funext b;simp [OO,owns,noX,Res.own]
end Go.Proofs.YtfmcbdjnmlcacaaGreatDoor
namespace Go.Proofs
open Go Go.Ab
open Go.H
def rowL (l:List Int):List AV:= [zf0 l]
theorem nzT {a:Int} (h:(a !=0)=true):a≠0:=by simpa using h
theorem nzF {a:Int} (h:(a !=0)=false):a=0:=by simpa using h
set_option maxRecDepth 10000
instance:EqInts Tryz.prog 41 7:=⟨by kernel_rfl,fun w xs ys h1 h2=>match xs,ys,h1,h2 with
 | [a0,a1,a2,a3,a4,a5,a6],[c0,c1,c2,c3,c4,c5,c6],_,_=>by
   rw [run_equalIn_struct w 9999 41 _ _ (by kernel_rfl) (by kernel_rfl)]
   simp only [Program.fieldsOf,Tryz.underlying41]
   simp [Op.eqFields,part,run_equalIn_int _ 9998 3 .i64 .i64 _ _ Tryz.underlying3]
   by_cases h0:a0=c0
   case neg=>simp [h0]
   subst h0
   by_cases h1:a1=c1
   case neg=>simp [h1]
   subst h1
   by_cases h2:a2=c2
   case neg=>simp [h2]
   subst h2
   by_cases h3:a3=c3
   case neg=>simp [h3]
   subst h3
   by_cases h4:a4=c4
   case neg=>simp [h4]
   subst h4
   by_cases h5:a5=c5
   case neg=>simp [h5]
   subst h5
   by_cases h6:a6=c6
   case neg=>simp [h6]
   subst h6
   simp⟩
end Go.Proofs
namespace Go.Ab
open Go
end Go.Ab
set_option maxRecDepth 10000
namespace Go.Proofs
open Go Go.Ab
attribute [local irreducible] QR QV OE aops aw dsoup dsoupM dalloc zf9 thn inBlk jsoup jch lsoup
open Go.H
theorem isNaN (a:Int):za6 Tryz.prog 204 [iv a] [] (fun r h'=>h'= []∧r=bv false):=by
 refine za1 Tryz.func204 rfl rfl rfl ?_
 refine rn ?_;refine rq 0 ?_
 exact ⟨rfl,congrArg bv (bne_self_eq_false a)⟩
def cmpN (a b:Int):Int:=if a < b then -1 else if b < a then 1 else 0
theorem cmpL_cons (a b:Int) (l m:List Int):cmpL (a::l) (b::m)=if cmpN a b=0 then cmpL l m else cmpN a b:=by
 rw [cmpL,cmpN]
 by_cases h1:a < b
 ·rw [if_pos h1,if_pos h1];rfl
 ·rw [if_neg h1,if_neg h1]
  by_cases h2:b < a
  ·rw [if_pos h2,if_pos h2];rfl
  ·rw [if_neg h2,if_neg h2];rfl
theorem cmpL_nil_r:∀(l:List Int),l≠ []→cmpL l []=1
 | [],h=>absurd rfl h
 |_::_,_=>rfl
theorem cmpL_nil_l:∀(l:List Int),l≠ []→cmpL [] l= -1
 | [],h=>absurd rfl h
 |_::_,_=>rfl
theorem cmpInt (a b:Int):za6 Tryz.prog 144 [iv a,iv b] [] (fun r h'=>h'= []∧r=iv (cmpN a b)):=by
 refine za1 Tryz.func144 rfl rfl rfl ?_
 refine rn ?_;refine qv rfl rfl (za4 rfl rfl (zc0 (isNaN _) (Sbs.refl _))) ?_
 refine rn ?_;refine qv rfl rfl (za4 rfl rfl (zc0 (isNaN _) (Sbs.refl _))) ?_
 refine rn ?_;refine za0 rfl (fun hc11=> ?_) (fun hc11=> ?_)
 ·exact absurd hc11 (by decide)
 ·refine rn ?_;refine za0 rfl (fun hc13=> ?_) (fun hc13=> ?_)
  ·exact absurd hc13 (by decide)
  ·refine rn ?_;refine za0 rfl (fun hc16=> ?_) (fun hc16=> ?_)
   ·refine rn ?_;refine rq 0 ?_
    exact ⟨rfl,congrArg iv (by rw [cmpN,if_pos (of_decide_eq_true hc16)])⟩
   ·refine rn ?_;refine za0 rfl (fun hc19=> ?_) (fun hc19=> ?_)
    ·refine rn ?_;refine rq 0 ?_
     exact ⟨rfl,congrArg iv (by rw [cmpN,if_neg (of_decide_eq_false hc16),if_pos (of_decide_eq_true hc19)])⟩
    ·refine rn ?_;refine rq 0 ?_
     exact ⟨rfl,congrArg iv (by rw [cmpN,if_neg (of_decide_eq_false hc16),if_neg (of_decide_eq_false hc19)])⟩
theorem slicesCmp {f g:Bool} (l m:List Int) (hl:l.length≤4611686018427387904) (hm:m.length≤4611686018427387904):za6 Tryz.prog 96 [.list f 1 (l.map intR),.list g 1 (m.map intR)] [] (fun r h'=>h'= []∧r=iv (cmpL l m)):=by
 refine za1 Tryz.func96 rfl rfl rfl ?_
 refine rn ?_;refine aw_rng (l.length) (fun k:Nat=>k≤m.length∧cmpL l m=cmpL (l.drop k) (m.drop k)) (fun k=> [(11,iv k)]) [(0,_),(1,_),(9,_),(10,_)] ⟨Nat.zero_le _,rfl⟩ ?_
 rintro k lk ⟨km,zk⟩
 refine rn ?_;refine za0 rfl (fun hc12=> ?_) (fun hc12=> ?_)
 ·have hk:=ltMap hc12
  have rk:=ze2 (f:=intR) hk
  refine rn ?_;refine za0 rfl (fun hc19=> ?_) (fun hc19=> ?_)
  ·have q:=of_decide_eq_true hc19
   rw [List.length_map] at q
   have qm:k=m.length:=by omega
   refine rn ?_;refine rq 0 ?_
   exact ⟨rfl,congrArg iv (by rw [zk,qm,List.drop_length,cmpL_nil_r _ (by rw [List.drop_eq_getElem_cons (by omega)];exact List.cons_ne_nil _ _)])⟩
  ·have q:=of_decide_eq_false hc19
   rw [List.length_map] at q
   have hkm:k < m.length:=by omega
   have rm:=ze2 (f:=intR) hkm
   refine rn ?_;refine qv rfl rfl (za4 rfl rfl (zc0 (cmpInt l[k] m[k]) (Sbs.refl _))) ?_
   refine rn ?_;refine za0 rfl (fun hc28=> ?_) (fun hc28=> ?_)
   ·have hn:¬cmpN l[k] m[k]=0:=by simpa using hc28
    refine rn ?_;refine rq 0 ?_
    exact ⟨rfl,congrArg iv (by rw [zk,List.drop_eq_getElem_cons hk,List.drop_eq_getElem_cons hkm,cmpL_cons,if_neg hn])⟩
   ·refine rn ?_;exact ⟨hk,⟨hkm,by rw [zk,List.drop_eq_getElem_cons hk,List.drop_eq_getElem_cons hkm,cmpL_cons,if_pos (by simpa using hc28)]⟩,eA⟩
 ·have qk:=geMap hc12 lk
  refine rn ?_;refine za0 rfl (fun hc35=> ?_) (fun hc35=> ?_)
  ·have q:=of_decide_eq_true hc35
   rw [List.length_map,List.length_map] at q
   refine rn ?_;refine rq 0 ?_
   exact ⟨rfl,congrArg iv (by rw [zk,qk,List.drop_length,cmpL_nil_l _ (by rw [List.drop_eq_getElem_cons (by omega)];exact List.cons_ne_nil _ _)])⟩
  ·have q:=of_decide_eq_false hc35
   rw [List.length_map,List.length_map] at q
   have qm:k=m.length:=by omega
   refine rn ?_;refine rq 0 ?_
   exact ⟨rfl,congrArg iv (by rw [zk,List.drop_eq_nil_of_le (by omega),List.drop_eq_nil_of_le (by omega)];rfl)⟩
def confEq (a b:Conf):Bool:=([a.f,a.t,a.k,a.a,a.b,a.o,a.p]:List Int)== [b.f,b.t,b.k,b.a,b.b,b.o,b.p]
theorem confEq_eq (a b:Conf):confEq a b=decide (a=b):=by
 rw [confEq,Bool.eq_iff_iff,decide_eq_true_iff]
 obtain ⟨a1,a2,a3,a4,a5,a6,a7⟩:=a
 obtain ⟨b1,b2,b3,b4,b5,b6,b7⟩:=b
 simp
theorem cmpN_lt {a b:Int} (h:decide (a < b)=true):cmpN a b= -1:=by rw [cmpN,if_pos (of_decide_eq_true h)]
theorem cmpN_gt {a b:Int} (h1:decide (a < b)=false) (h:decide (a > b)=true):cmpN a b=1:=by rw [cmpN,if_neg (of_decide_eq_false h1),if_pos (of_decide_eq_true h)]
theorem cmpN_no {a b:Int} (h1:decide (a < b)=false) (h:decide (a > b)=false):cmpN a b=0:=by rw [cmpN,if_neg (of_decide_eq_false h1),if_neg (of_decide_eq_false h)]
theorem cmpS (a b:Conf) {k:Nat} (hk:k < 7):cmpL ((fldC a).drop k) ((fldC b).drop k)=if cmpN ((fldC a)[k]'hk) ((fldC b)[k]'hk)=0 then cmpL ((fldC a).drop (k+1)) ((fldC b).drop (k+1)) else cmpN ((fldC a)[k]'hk) ((fldC b)[k]'hk):=by
 rw [List.drop_eq_getElem_cons (l:=fldC a) (show k < (fldC a).length from hk),List.drop_eq_getElem_cons (l:=fldC b) (show k < (fldC b).length from hk),cmpL_cons];rfl
theorem fld_at (c:Conf) {k:Nat} (hk:k < 7):(zb3 c)[k]? =some (iv ((fldC c)[k]'hk)):=by
 have:zb3 c=(fldC c).map iv:=rfl
 rw [this,List.getElem?_map,List.getElem?_eq_getElem (show k < (fldC c).length from hk)];rfl
theorem wwFields (c:Conf):za6 Tryz.prog 95 [.agg (zb3 c)] [] (fun r h'=>h'= []∧r= .agg (zb3 c)):=by
 refine za1 Tryz.func95 rfl rfl rfl ?_
 refine rn ?_;refine za2 rfl (zb5 rfl rfl rfl fun b1=> ?_)
 refine za2 rfl (zb1 rfl fun b2=> ?_)
 refine zd5 (zd8 ?_)
 refine zb4 (za9 ?_)
 refine q1 ?_;refine q1 ?_;refine q1 ?_;refine q1 ?_;refine q1 ?_;refine q1 ?_;refine q1 ?_;refine q1 ?_;refine q1 ?_;refine q1 ?_;refine q1 ?_;refine q1 ?_;refine q1 ?_;refine q1 ?_;refine qq rfl rfl (qr_buildArr (out:=zb3 c) rfl (by rfl)) ?_
 refine rn ?_;exact retq (.cons _ _ _ _ (.agg _ _ _ _ _ _ _ rfl inferInstance inferInstance inferInstance rfl) .nil) (.drop [_,_] _ _) ⟨rfl,rfl⟩
theorem refFields (c:Conf):za6 Tryz.prog 171 [.agg (zb3 c)] [] (fun r h'=>h'= []∧r= .agg (zb3 c)):=by
 refine za1 Tryz.func171 rfl rfl rfl ?_
 refine rn ?_;refine za2 rfl (zb5 rfl rfl rfl fun b1=> ?_)
 refine za2 rfl (zb1 rfl fun b2=> ?_)
 refine zd5 (zd8 ?_)
 refine zb4 (za9 ?_)
 refine q1 ?_;refine q1 ?_;refine q1 ?_;refine q1 ?_;refine q1 ?_;refine q1 ?_;refine q1 ?_;refine q1 ?_;refine q1 ?_;refine q1 ?_;refine q1 ?_;refine q1 ?_;refine q1 ?_;refine q1 ?_;refine qq rfl rfl (qr_buildArr (out:=zb3 c) rfl (by rfl)) ?_
 refine rn ?_;exact retq (.cons _ _ _ _ (.agg _ _ _ _ _ _ _ rfl inferInstance inferInstance inferInstance rfl) .nil) (.drop [_,_] _ _) ⟨rfl,rfl⟩
set_option maxHeartbeats 4000000 in
theorem wwCompare (a b:Conf):za6 Tryz.prog 39 [.agg (zb3 a),.agg (zb3 b)] [] (fun r h'=>h'= []∧r=iv (cmpC a b)):=by
 refine za1 Tryz.func39 rfl rfl rfl ?_
 refine rn ?_;refine za2 rfl (zb5 rfl rfl rfl fun b2=> ?_)
 refine za2 rfl (zb5 rfl rfl rfl fun b3=> ?_)
 refine rn ?_;refine za0 rfl (fun hc9=> ?_) (fun hc9=> ?_)
 ·have he:a=b:=of_decide_eq_true (by rw [←confEq_eq];exact hc9)
  refine rn ?_;refine rq 2 ?_
  exact ⟨rfl,congrArg iv (by rw [he,cmpC_self])⟩
 ·refine rn ?_;refine zd2 6 rfl ?_
  refine rn ?_;refine dv rfl rfl (by exact za4 rfl rfl (zc0 (wwFields a) (Sbs.refl _))) ?_
  refine rn ?_;refine dv rfl rfl (by exact za4 rfl rfl (zc0 (wwFields b) (Sbs.refl _))) ?_
  refine rn ?_;refine dalloc_a rfl fun b5=> ?_
  refine dalloc_a rfl fun b6=> ?_
  refine rn ?_;refine zd2 2 rfl ?_
  refine dq rfl rfl (qr_slice_arr rfl) ?_
  refine dq rfl rfl (qr_slice_arr rfl) ?_
  refine rn2 ?_;refine aops_arr b5 ?_
  refine aops_arr b6 ?_
  show aops _ _ _ _ _ _ ⟨_,.row (boxS b6 7) 1 124 ((fldC b).map intR):: .row (boxS b5 7) 1 124 ((fldC a).map intR):: .box b3 41 (zb3 b):: .box b2 41 (zb3 a):: [],_⟩
  refine qv rfl rfl (za4 rfl rfl (za3.lend (R:=fun x=>x=iv (cmpC a b)) (za3.of_fun (slicesCmp (fldC a) (fldC b) (by show 7≤4611686018427387904;decide) (by show 7≤4611686018427387904;decide))) (fun r hr=>by rw [hr];rfl) (.refl _ _) (by exact ⟨ble_row,ble_row,trivial⟩))) ?_
  refine rn ?_;refine rq 4 ?_
  exact ⟨rfl,rfl⟩
theorem refCompare18 (a b:Conf):za6 Tryz.prog 131 [.agg (zb3 a),.agg (zb3 b)] [] (fun r h'=>h'= []∧r=iv (cmpC a b)):=by
 refine za1 Tryz.func131 rfl rfl rfl ?_
 refine rn ?_;refine za2 rfl (zb5 rfl rfl rfl fun b2=> ?_)
 refine za2 rfl (zb5 rfl rfl rfl fun b3=> ?_)
 refine rn ?_;refine qv rfl rfl (za4 rfl rfl (zc0 (refFields b) (Sbs.refl _))) ?_
 refine za2 rfl (zb1 rfl fun b5=> ?_)
 refine rn ?_;refine qv rfl rfl (za4 rfl rfl (zc0 (refFields a) (Sbs.refl _))) ?_
 refine rn ?_;refine aw_range 7 (fun k=>cmpC a b=cmpL ((fldC a).drop k) ((fldC b).drop k)) (fun k=>⟨[(12,iv k),(5,pZ b5),(11,.agg (zb3 a))],.box b5 124 (zb3 b):: .box b3 41 (zb3 b):: .box b2 41 (zb3 a):: [],[]⟩) rfl es ?_
 intro k lk zk
 refine rn ?_;refine za0 rfl (fun hc13=> ?_) (fun hc13=> ?_)
 ·have hk:k < 7:=by have q:=of_decide_eq_true hc13;omega
  have ra:=fld_at a hk
  have rb:=fld_at b hk
  have da:=List.drop_eq_getElem_cons (l:=fldC a) (show k < (fldC a).length from hk)
  have db:=List.drop_eq_getElem_cons (l:=fldC b) (show k < (fldC b).length from hk)
  refine zf2 ?_;refine zd8 ?_;refine zb4 ?_;refine aw_block ?_;refine zb4 (za9 ?_)
  refine q1 ?_;refine qq rfl rfl (qr_index_arr_one rfl rfl hk (by rw [Nat.mul_one];exact ra)) ?_
  refine q1 ?_;refine q1 ?_;refine zd5 (zd8 ?_)
  refine zb4 ?_;refine zb4 (za9 ?_)
  refine q1 ?_;refine q1 ?_;refine qq rfl rfl (qr_indexAddr_arr rfl rfl hk) ?_
  refine qq rfl rfl (ze6 rfl (by rw [Nat.zero_add,Nat.mul_one];exact rb)) ?_
  refine rn ?_;refine za0 rfl (fun hc20=> ?_) (fun hc20=> ?_)
  ·refine rn ?_;refine rq 3 ?_
   exact ⟨rfl,congrArg iv (by rw [zk,cmpS a b hk,cmpN_lt hc20];rfl)⟩
  ·refine zf2 ?_;refine zd8 ?_;refine zb4 (za9 ?_)
   refine q1 ?_;refine q1 ?_;refine qq rfl rfl (qr_indexAddr_arr rfl rfl hk) ?_
   refine qq rfl rfl (ze6 rfl (by rw [Nat.zero_add,Nat.mul_one];exact rb)) ?_
   refine rn ?_;refine za0 rfl (fun hc25=> ?_) (fun hc25=> ?_)
   ·refine rn ?_;refine rq 3 ?_
    exact ⟨rfl,congrArg iv (by rw [zk,cmpS a b hk,cmpN_gt hc20 hc25];rfl)⟩
   ·refine rn ?_;exact ⟨hk,by rw [zk,cmpS a b hk,if_pos (cmpN_no hc20 hc25)],eA⟩
 ·have qk:k=7:=by have q:=of_decide_eq_false hc13;omega
  refine rn ?_;refine rq 3 ?_
  exact ⟨rfl,congrArg iv (by rw [zk,qk];rfl)⟩
def runsR (sz:Nat) (T:TypeId) {α:Type} (R:α→List AV) (x:List (SV×List α)):List Res:=x.map fun p=> .row p.1.v sz T (p.2.map R)
abbrev cellsS {α:Type} (x:List (SV×List α)):List (List AV):=x.map fun p=> [.v p.1.v]
theorem runsR_snoc {sz:Nat} {T:TypeId} {α:Type} {R:α→List AV} (x:List (SV×List α)) (p:SV×List α):runsR sz T R (x++ [p])=runsR sz T R x++ [.row p.1.v sz T (p.2.map R)]:=by simp [runsR]
theorem cellsS_snoc {α:Type} (x:List (SV×List α)) (p:SV×List α):cellsS (x++ [p])=cellsS x++ [[.v p.1.v]]:=by simp [cellsS]
theorem cellsS_len {α:Type} (x:List (SV×List α)):(cellsS x).length=x.length:=List.length_map _
theorem runsR_nil (sz:Nat) (T:TypeId) {α:Type} (R:α→List AV):runsR sz T R []= []:=rfl
theorem runsR_cons {sz:Nat} {T:TypeId} {α:Type} {R:α→List AV} {x:List (SV×List α)} {k:Nat} (hk:k < x.length):runsR sz T R (x.drop k)= .row (x[k]).1.v sz T ((x[k]).2.map R)::runsR sz T R (x.drop (k+1)):=by
 rw [List.drop_eq_getElem_cons hk];rfl
theorem cellsS_at {α:Type} {x:List (SV×List α)} {k:Nat} (hk:k < x.length):(cellsS x)[k]? =some [.v (x[k]).1.v]:=by simp [cellsS,hk]
theorem perm_last {β:Type} (m:β) (A B:List β):(m::(A++B)).Perm (A++(B++ [m])):=by
 rw [←List.append_assoc];exact List.perm_append_comm (l₁:= [m])
theorem tail_start {sz:Nat} {T:TypeId} {α:Type} {R:α→List AV} (x:List (SV×List α)):runsR sz T R x=runsR sz T R (x.drop (2 * 0))++runsR sz T R []:=by rw [Nat.mul_zero,List.drop_zero,runsR_nil,List.append_nil]
theorem tail_end {sz:Nat} {T:TypeId} {α:Type} {R:α→List AV} {x y:List (SV×List α)} {n:Nat} (h:x.length≤2 * n):runsR sz T R (x.drop (2 * n))++runsR sz T R y=runsR sz T R y:=by rw [List.drop_eq_nil_of_le h,runsR_nil,List.nil_append]
theorem tail_odd {sz:Nat} {T:TypeId} {α:Type} {R:α→List AV} {x y:List (SV×List α)} {i:Nat} (h:2 * i+1=x.length):(runsR sz T R (x.drop (2 * i))++runsR sz T R y).Perm (runsR sz T R (x.drop (2 * (i+1)))++runsR sz T R (y++ [x[2 * i]'(by omega)])):=by
 rw [List.drop_eq_nil_of_le (show x.length≤2 * (i+1) by omega),runsR_cons (by omega),List.drop_eq_nil_of_le (by omega),runsR_nil,List.nil_append,runsR_snoc]
 exact List.perm_append_comm
theorem tail_two {sz:Nat} {T:TypeId} {α:Type} {R:α→List AV} {x y:List (SV×List α)} {i:Nat} {m:SV} {l:List α}:(.row m.v sz T (l.map R)::(runsR sz T R (x.drop (2 * i+1+1))++runsR sz T R y)).Perm (runsR sz T R (x.drop (2 * (i+1)))++runsR sz T R (y++ [(m,l)])):=by
 rw [runsR_snoc,show 2 * (i+1)=2 * i+1+1 by omega]
 exact perm_last _ _ _
theorem one_cellS (s:SV):∀r∈([[.v s.v]]:List (List AV)),r.all AV.one=true:=by
 intro r hr;rw [List.mem_singleton.1 hr];rfl
theorem take_one {β:Type} {l:List β} {k:Nat} (hk:k < l.length):(l.take (k+1)).drop k= [l[k]]:=by
 rw [List.take_succ_eq_append_getElem hk,List.drop_left' (by simp;omega)]
set_option maxHeartbeats 4000000 in
theorem mergeConf (a b:List Conf) (fv:AV) (cmp:Conf→Conf→Int) (hp:∀x y,za3 Tryz.prog fv [.agg (zb3 x),.agg (zb3 y)] [] (fun r h'=>h'= []∧r=iv (cmp x y))) (ha:a.length≤1000000000) (hb:b.length≤1000000000):za6 Tryz.prog 170 [.list false 7 (a.map zb3),.list false 7 (b.map zb3),fv] [] (fun r h'=>∃s:SV,h'= [.row s.v 7 41 ((mrg cmp a b).map zb3)]∧r= .v s.v):=by
 refine za1 Tryz.func170 rfl rfl rfl ?_
 refine rn ?_;refine aw_scope ?_;refine zb4 (za9 ?_)
 refine q1 ?_;refine q1 ?_;refine q1 ?_;refine q1 ?_;refine qq rfl rfl (qr_ari rfl rfl rfl (by simp only [List.length_map];omega)) ?_
 refine za2 rfl (oe_makeG (n:=0) (c:=((a.map zb3).length+(b.map zb3).length)) rfl rfl rfl (Nat.zero_le _) (by simp only [List.length_map];omega) (hk:=fun b7=> ?_))
 refine zc7 (.slice (some ⟨b7,0,none⟩) 0 ((a.map zb3).length+(b.map zb3).length)) fun s0 hs0=> ?_
 rw [hs0]
 clear hs0
 refine rn ?_;refine aw_while (fun x:Nat×Nat×List Conf×SV=>x.1≤a.length∧x.2.1≤b.length∧x.2.2.1.length=x.1+x.2.1∧x.2.2.1++mrg cmp (a.drop x.1) (b.drop x.2.1)=mrg cmp a b) (fun x=>⟨[(0,.list false 7 ((a.drop x.1).map zb3)),(1,.list false 7 ((b.drop x.2.1).map zb3)),(2,fv),(7,.v x.2.2.2.v)],.row x.2.2.2.v 7 41 (x.2.2.1.map zb3):: [],[]⟩) (fun x=>(a.length - x.1)+(b.length - x.2.1)) (0,0,[],s0) ⟨Nat.zero_le _,Nat.zero_le _,rfl,rfl⟩ es ?_
 rintro ⟨i,j,p,s⟩ ⟨hi0,hj0,hpl,hm⟩
 simp only at hi0 hj0 hpl hm
 show aw _ _ _ _ _ ⟨[(0,.list false 7 ((a.drop i).map zb3)),(1,.list false 7 ((b.drop j).map zb3)),(2,fv),(7,.v s.v)],.row s.v 7 41 (p.map zb3):: [],[]⟩
 refine rn ?_;refine za8 (fun hg3_3=> ?_) (fun hg3_3=> ?_)
 ·refine rn ?_;refine aw_ct rfl ?_;have hov:a.drop i= []∨b.drop j= []:=by first|(have q:=hg3_3;simp at q;exact .inl (List.drop_eq_nil_of_le (by omega)))|(have q:=hc22;simp at q;exact .inr (List.drop_eq_nil_of_le (by omega)))
  refine rn ?_;refine za2 rfl (zb7 rfl rfl (by simp only [List.length_map,List.length_drop];omega) rfl (fun s51=> ?_) (ze7 _))
  refine zc7 s51 fun sv1 hsv1=> ?_
  subst hsv1
  refine rn ?_;refine za2 rfl (zb7 rfl rfl (by simp only [List.length_map,List.length_append,List.length_drop];omega) rfl (fun s53=> ?_) (ze7 _))
  refine zc7 s53 fun sv2 hsv2=> ?_
  subst hsv2
  refine rn ?_;refine ⟨fun l h=>(by cases h),?_⟩
  exact retT rfl (.refl _ _) ⟨sv2,by rw [←hm,mrg_over cmp hov,List.map_append,List.map_append,List.append_assoc],rfl⟩
 ·refine rn ?_;refine za0 rfl (fun hc22=> ?_) (fun hc22=> ?_)
  ·have hov:a.drop i= []∨b.drop j= []:=by first|(have q:=hg3_3;simp at q;exact .inl (List.drop_eq_nil_of_le (by omega)))|(have q:=hc22;simp at q;exact .inr (List.drop_eq_nil_of_le (by omega)))
   refine rn ?_;refine za2 rfl (zb7 rfl rfl (by simp only [List.length_map,List.length_drop];omega) rfl (fun s51=> ?_) (ze7 _))
   refine zc7 s51 fun sv1 hsv1=> ?_
   subst hsv1
   refine rn ?_;refine za2 rfl (zb7 rfl rfl (by simp only [List.length_map,List.length_append,List.length_drop];omega) rfl (fun s53=> ?_) (ze7 _))
   refine zc7 s53 fun sv2 hsv2=> ?_
   subst hsv2
   refine rn ?_;refine ⟨fun l h=>(by cases h),?_⟩
   exact retT rfl (.refl _ _) ⟨sv2,by rw [←hm,mrg_over cmp hov,List.map_append,List.map_append,List.append_assoc],rfl⟩
  ·have hi:i < a.length:=by have q:=hg3_3;simp at q;omega
   have hj:j < b.length:=by have q:=hc22;simp at q;omega
   have ia:((a.drop i).map zb3)[0]? =some (zb3 a[i]):=by rw [List.getElem?_map,List.getElem?_drop,Nat.add_zero,List.getElem?_eq_getElem hi];rfl
   have ib:((b.drop j).map zb3)[0]? =some (zb3 b[j]):=by rw [List.getElem?_map,List.getElem?_drop,Nat.add_zero,List.getElem?_eq_getElem hj];rfl
   refine rn ?_;refine zd2 7 rfl ?_
   refine dq rfl rfl qrA ?_;refine dq rfl rfl qrA ?_;refine dq rfl rfl (qr_index_int rfl rfl (by decide) ib) ?_
   refine dq rfl rfl qrA ?_;refine dq rfl rfl qrA ?_;refine dq rfl rfl (qr_index_int rfl rfl (by decide) ia) ?_
   refine rn ?_;refine qv rfl rfl (za4 rfl rfl (za3.pure (R:=fun r=>r=iv (cmp b[j] a[i])) (hp b[j] a[i]))) ?_
   refine rn ?_;refine za0 rfl (fun hc31=> ?_) (fun hc31=> ?_)
   ·have hlt:cmp b[j] a[i] < 0:=of_decide_eq_true hc31
    refine aw_drawU 9 [5] [8] (fun he=>∃s' rows,he= [.row s' 7 41 rows]) rfl rfl ⟨_,_,rfl⟩ ?_
    refine jq rfl (fun he hC=>by obtain ⟨s2,rows,rfl⟩:=hC <;> exact qrA) ?_
    refine jq rfl (fun he hC=>by obtain ⟨s2,rows,rfl⟩:=hC <;> exact qrA) ?_
    refine jq rfl (fun he hC=>by obtain ⟨s2,rows,rfl⟩:=hC <;> exact (by exact qr_index_int rfl rfl (by decide) ib)) ?_
    refine jq rfl (fun he hC=>by obtain ⟨s2,rows,rfl⟩:=hC <;> exact qrA) ?_
    refine jv rfl (fun he hC=>by obtain ⟨s2,rows,rfl⟩:=hC <;> exact (by exact zc2 rfl rfl)) ?_
    refine je rfl ?_;refine jq rfl (fun he hC=>by obtain ⟨s2,rows,rfl⟩:=hC <;> exact qrA) ?_
    refine jq rfl (fun he hC=>by obtain ⟨s2,rows,rfl⟩:=hC <;> exact (by exact qr_as (qr_slice_l (l:=1) rfl rfl (by simp;omega)) (show AV.list false 7 _= .list false 7 ((b.drop (j+1)).map zb3) by rw [←List.map_drop,List.drop_drop]))) ?_
    refine je rfl ?_;refine jnil ?_;refine jce rfl fun u=> ?_
    refine zb7 rfl rfl (by simp only [List.length_map,List.length_cons,List.length_nil];omega) rfl (fun s46=>⟨_,_,rfl,⟨_,_,rfl⟩,?_⟩) (ze7 [b[j]])
    refine jcn ?_;refine lq rfl rfl (by exact qrA) ?_
    refine ln ?_;refine zc7 s46 fun sv hsv=> ?_
    subst hsv
    refine rn ?_;exact ⟨(i,j+1,p++ [b[j]],sv),⟨hi0,hj,by simp;omega,by rw [←hm,mrg_y cmp hi hj hlt,List.append_assoc];rfl⟩,by rw [List.map_append];exact eA,by simp only;omega⟩
   ·have hlt:¬cmp b[j] a[i] < 0:=of_decide_eq_false hc31
    refine aw_drawU 9 [5] [8] (fun he=>∃s' rows,he= [.row s' 7 41 rows]) rfl rfl ⟨_,_,rfl⟩ ?_
    refine jq rfl (fun he hC=>by obtain ⟨s2,rows,rfl⟩:=hC <;> exact qrA) ?_
    refine jq rfl (fun he hC=>by obtain ⟨s2,rows,rfl⟩:=hC <;> exact qrA) ?_
    refine jq rfl (fun he hC=>by obtain ⟨s2,rows,rfl⟩:=hC <;> exact (by exact qr_index_int rfl rfl (by decide) ia)) ?_
    refine jq rfl (fun he hC=>by obtain ⟨s2,rows,rfl⟩:=hC <;> exact qrA) ?_
    refine jv rfl (fun he hC=>by obtain ⟨s2,rows,rfl⟩:=hC <;> exact (by exact zc2 rfl rfl)) ?_
    refine je rfl ?_;refine jq rfl (fun he hC=>by obtain ⟨s2,rows,rfl⟩:=hC <;> exact qrA) ?_
    refine jq rfl (fun he hC=>by obtain ⟨s2,rows,rfl⟩:=hC <;> exact (by exact qr_as (qr_slice_l (l:=1) rfl rfl (by simp;omega)) (show AV.list false 7 _= .list false 7 ((a.drop (i+1)).map zb3) by rw [←List.map_drop,List.drop_drop]))) ?_
    refine je rfl ?_;refine jnil ?_;refine jce rfl fun u=> ?_
    refine zb7 rfl rfl (by simp only [List.length_map,List.length_cons,List.length_nil];omega) rfl (fun s46=>⟨_,_,rfl,⟨_,_,rfl⟩,?_⟩) (ze7 [a[i]])
    refine jcn ?_;refine lq rfl rfl (by exact qrA) ?_
    refine ln ?_;refine zc7 s46 fun sv hsv=> ?_
    subst hsv
    refine rn ?_;exact ⟨(i+1,j,p++ [a[i]],sv),⟨hi,hj0,by simp;omega,by rw [←hm,mrg_n cmp hi hj hlt,List.append_assoc];rfl⟩,by rw [List.map_append];exact eA,by simp only;omega⟩
end Go.Proofs
namespace Go.Ab
open Go
section
variable {P:Program} {ro:Option Nat} {nt:Nat} {c:Code} {Q:Exit→St→Prop} {t:Fr} {h:List Res} {ds:List Nat}
theorem aw_rngX {σ:Type} (n:Nat) (p:Nat→σ→Prop) (inv:Nat→σ→St) (x0:σ) (hp:p 0 x0) (h0:Ent nt ⟨t,h,ds⟩ (inv 0 x0))
 (round:∀k x,k≤n→p k x→aw P ro nt c (thn (fun s'=>k < n∧∃x',p (k+1) x'∧Ent nt s' (inv (k+1) x')) Q) (inv k x)):aw P ro nt (.loop c) Q ⟨t,h,ds⟩:=
 zd4 (fun x:Nat×σ=>x.1≤n∧p x.1 x.2) (fun x=>inv x.1 x.2) (fun x=>n - x.1) (0,x0) ⟨Nat.zero_le _,hp⟩ h0 fun x hk=>aw_mono (fun e s' hq=>by
  cases e with
  | normal=>
    obtain ⟨h1,x',h2,h3⟩:=hq
    exact ⟨(x.1+1,x'),⟨h1,h2⟩,h3,by simp only;omega⟩
  |_=>exact hq) (round x.1 x.2 hk.1 hk.2)
end
end Go.Ab
set_option maxRecDepth 10000
namespace Go.Proofs
open Go Go.Ab
attribute [local irreducible] QR QV OE aops aw dsoup dsoupM dalloc zf9 thn inBlk jsoup jch lsoup
open Go.H
theorem both1Conf (x:List (SV×List Conf)) (sr:SV) (b5 b3 k:Nat) (hk:k+1=x.length) (hx:x.length≤1000000000):za6 Tryz.prog 169 [iv k,pZ b5,pZ b3] (.row sr.v 1 35 (cellsS x):: .box b5 96 [.v sr.v]:: []) (fun r h'=>h'= .row sr.v 1 35 (cellsS x):: .box b5 96 [.v sr.v]:: []∧r= .v (x[k]'(by omega)).1.v):=by
 refine za1 Tryz.func169 rfl rfl rfl ?_
 refine zb4 (za9 ?_)
 refine q1 ?_;refine zd5 (zd8 ?_)
 refine zb4 ?_;refine zb4 (za9 ?_)
 refine q1 ?_;refine qq rfl rfl (qr_ari rfl rfl rfl (by omega)) ?_
 refine q1 ?_;refine q1 ?_;refine qq rfl rfl (qr_cmp (c:=true) rfl rfl (congrArg some (by rw [List.length_map];simp;omega))) ?_
 refine rn ?_;refine za0 rfl (fun hc9=> ?_) (fun hc9=> ?_)
 ·refine zb4 (za9 ?_)
  refine q1 ?_;refine q1 ?_;refine qq rfl rfl (zf3 (k:=k) rfl rfl (by rw [List.length_map];omega)) ?_
  refine qq rfl rfl (qr_load_rp_one rfl (cellsS_at (by omega)) rfl) ?_
  refine rn ?_;refine rq 0 ?_
  exact ⟨rfl,rfl⟩
 ·first|cases hc9|exact absurd hc9 (by decide)|(exfalso;simp_all;done)
theorem scalConf (l:List Conf):∀r∈l.map zb3,∀a∈r,Scal a:=by
 intro r hr a ha
 obtain ⟨c,_,rfl⟩:=List.mem_map.1 hr
 simp only [zb3,List.mem_cons,List.not_mem_nil,or_false] at ha
 rcases ha with rfl|rfl|rfl|rfl|rfl|rfl|rfl <;> exact .v _
set_option maxHeartbeats 4000000 in
theorem both2Conf (x:List (SV×List Conf)) (sr:SV) (b5 b3 k:Nat) (hk:k+1 < x.length) (hx:x.length≤1000000000) (ha:∀p∈x,p.2.length≤1000000000) (fv:AV) (cmp:Conf→Conf→Int) (hp:∀x y,za3 Tryz.prog fv [.agg (zb3 x),.agg (zb3 y)] [] (fun r h'=>h'= []∧r=iv (cmp x y))):za6 Tryz.prog 169 [iv k,pZ b5,pZ b3] (.row sr.v 1 35 (cellsS x):: .box b5 96 [.v sr.v]:: .box b3 64 [fv]:: .row (x[k]'(by omega)).1.v 7 41 ((x[k]'(by omega)).2.map zb3):: .row (x[k+1]).1.v 7 41 ((x[k+1]).2.map zb3):: []) (fun r h'=>∃s:SV,h'= .row s.v 7 41 ((mrg cmp (x[k]'(by omega)).2 (x[k+1]).2).map zb3):: .row sr.v 1 35 (cellsS x):: .box b5 96 [.v sr.v]:: .box b3 64 [fv]:: .row (x[k]'(by omega)).1.v 7 41 ((x[k]'(by omega)).2.map zb3):: .row (x[k+1]).1.v 7 41 ((x[k+1]).2.map zb3):: []∧r= .v s.v):=by
 refine za1 Tryz.func169 rfl rfl rfl ?_
 refine zb4 (za9 ?_)
 refine q1 ?_;refine zd5 (zd8 ?_)
 refine zb4 ?_;refine zb4 (za9 ?_)
 refine q1 ?_;refine qq rfl rfl (qr_ari rfl rfl rfl (by omega)) ?_
 refine q1 ?_;refine q1 ?_;refine qq rfl rfl (qr_cmp (c:=false) rfl rfl (congrArg some (by rw [List.length_map];simp;omega))) ?_
 refine rn ?_;refine za0 rfl (fun hc9=> ?_) (fun hc9=> ?_)
 ·first|cases hc9|exact absurd hc9 (by decide)|(exfalso;simp_all;done)
 ·refine rn ?_;refine zd2 10 rfl ?_
  refine dq rfl rfl qrA ?_;refine dq rfl rfl qrA ?_;refine dq rfl rfl (zf3 (k:=k) rfl rfl (by rw [List.length_map];omega)) ?_
  refine dq rfl rfl (qr_load_rp_one rfl (cellsS_at (by omega)) rfl) ?_
  refine dq rfl rfl qrA ?_;refine dq rfl rfl qrA ?_;refine dq rfl rfl (qr_ari rfl rfl rfl (by omega)) ?_
  refine dq rfl rfl (zf3 (k:=k+1) rfl rfl (by rw [List.length_map];omega)) ?_
  refine dq rfl rfl (qr_load_rp_one rfl (cellsS_at hk) rfl) ?_
  refine rn ?_;refine za2 rfl (zc3 rfl rfl (za3.lendG (za3.of_fun (mergeConf (x[k]'(by omega)).2 (x[k+1]).2 fv cmp hp (ha _ (List.getElem_mem _)) (ha _ (List.getElem_mem _)))) (by rintro _ _ ⟨s,rfl,rfl⟩;exact ⟨.v _,fun x hx=>by rw [List.mem_singleton.1 hx];exact scal_row (scalConf _)⟩) (BLe.refl _ _) (by exact ⟨ble_row,ble_row,BLe.refl _ _,trivial⟩)) rfl ?_)
  rintro _ _ ⟨_,rfl,s,rfl,rfl⟩
  refine rn ?_;exact retT rfl (.refl _ _) ⟨s,rfl,rfl⟩
set_option maxHeartbeats 4000000 in
theorem sortConf (l:List Conf) (fv:AV) (hone:fv.cellsOf=some [fv]) (cmp:Conf→Conf→Int) (hp:∀x y,za3 Tryz.prog fv [.agg (zb3 x),.agg (zb3 y)] [] (fun r h'=>h'= []∧r=iv (cmp x y))) (hl:l.length≤1000000000):za6 Tryz.prog 128 [.list false 7 (l.map zb3),fv] [] (fun r h'=>∃s:SV,h'= [.row s.v 7 41 ((sortL cmp l).map zb3)]∧r= .v s.v):=by
 refine za1 Tryz.func128 rfl rfl rfl ?_
 refine rn ?_;refine za2 rfl (zb5 rfl hone rfl fun b3=> ?_)
 refine rn ?_;refine za2 rfl (zb1 rfl fun b5=> ?_)
 refine rn ?_;refine aw_rngX l.length (fun k (z:SV×List (SV×List Conf))=>z.2.map (·.2)=(l.take k).map fun a=> [a]) (fun k z=>⟨[(13,iv k),(0,.list false 7 (l.map zb3)),(3,pZ b3),(5,pZ b5),(12,iv (l.map zb3).length)],.row z.1.v 1 35 (cellsS z.2):: .box b5 96 [.v z.1.v]:: .box b3 64 [fv]::runsR 7 41 zb3 z.2,[]⟩) (⟨none,0,0⟩,[]) rfl (zc5 (ze5 1 35) es) ?_
 rintro k ⟨s,x⟩ lk zk
 simp only at zk
 have hxl:x.length=k:=by have q:=congrArg List.length zk;rw [List.length_map,List.length_map,List.length_take] at q;omega
 show aw _ _ _ _ _ ⟨[(13,iv k),(0,.list false 7 (l.map zb3)),(3,pZ b3),(5,pZ b5),(12,iv (l.map zb3).length)],.row s.v 1 35 (cellsS x):: .box b5 96 [.v s.v]:: .box b3 64 [fv]::runsR 7 41 zb3 x,[]⟩
 refine rn ?_;refine za0 rfl (fun hc14=> ?_) (fun hc14=> ?_)
 ·have hk:k < l.length:=by have q:=of_decide_eq_true hc14;rw [List.length_map] at q;omega
  refine rn ?_;refine za2 rfl (oe_makeG (n:=1) (c:=1) rfl rfl rfl (Nat.le_refl _) (by decide) (hk:=fun b16=> ?_))
  refine zc7 (.slice (some ⟨b16,0,none⟩) 1 1) fun s1 hs1=> ?_
  rw [hs1]
  clear hs1
  refine q1 ?_;refine zd5 (zd8 ?_)
  refine zb4 (za9 ?_)
  refine q1 ?_;refine q1 ?_;refine q1 ?_;refine q1 ?_;refine qq rfl rfl (qr_ari rfl rfl rfl (by omega)) ?_
  refine q1 ?_;refine qq rfl rfl (qr_ari rfl rfl rfl (by omega)) ?_
  refine qq rfl rfl (qr_as (qr_slice_lhm (l:=k) (k:=k+1) rfl rfl rfl rfl (by omega) (by rw [List.length_map];exact hk)) (show AV.list true 7 _= .list true 7 [zb3 l[k]] by rw [take_one (by rw [List.length_map];exact hk),List.getElem_map])) ?_
  refine za2 rfl (oe_copy_ln 1 rfl rfl rfl rfl (hk:= ?_) (ze7 [l[k]]))
  refine rn ?_;refine qv rfl rfl (zc2 rfl rfl) ?_
  refine za2 rfl (zb7 rfl rfl (by simp only [List.length_map,List.length_cons,List.length_nil];omega) rfl (fun s29=> ?_) (one_cellS s1))
  refine zc7 s29 fun sv hsv=> ?_
  subst hsv
  refine rn ?_;exact ⟨hk,(sv,x++ [(s1,[l[k]])]),by simp only;rw [List.map_append,zk,List.take_succ_eq_append_getElem hk,List.map_append];rfl,zc5 (ent_perm (perm_swap [_] _)) (by simp only;rw [cellsS_snoc,runsR_snoc];exact es)⟩
 ·have qk:k=l.length:=by have q:=of_decide_eq_false hc14;rw [List.length_map] at q;omega
  refine rn ?_;refine aw_while (fun z:SV×List (SV×List Conf)=>srtR cmp (z.2.map (·.2))=srtR cmp (l.map fun a=> [a])∧(z.2.map (·.2)).flatten.length=l.length∧z.2.length≤l.length) (fun z=>⟨[(5,pZ b5),(8,.fn (.func 169) [] [pZ b5,pZ b3])],.row z.1.v 1 35 (cellsS z.2):: .box b5 96 [.v z.1.v]:: .box b3 64 [fv]::runsR 7 41 zb3 z.2,[]⟩) (fun z=>z.2.length) (s,x) ⟨by simp only;rw [zk,qk,List.take_length],by simp only;rw [zk,qk,List.take_length,one_flat],by simp only;omega⟩ es ?_
  rintro ⟨sr,x⟩ ⟨zk,hfl,hxl⟩
  simp only at zk hfl hxl
  show aw _ _ _ _ _ ⟨[(5,pZ b5),(8,.fn (.func 169) [] [pZ b5,pZ b3])],.row sr.v 1 35 (cellsS x):: .box b5 96 [.v sr.v]:: .box b3 64 [fv]::runsR 7 41 zb3 x,[]⟩
  refine rn ?_;refine za0 rfl (fun hc34=> ?_) (fun hc34=> ?_)
  ·have h1:1 < x.length:=by have q:=of_decide_eq_true hc34;rw [cellsS_len] at q;omega
   have hcl:=cellsS_len x
   have hxa:∀p∈x,p.2.length≤1000000000:=fun p hm=>Nat.le_trans (flat_mem (show p.2∈x.map (·.2) from List.mem_map_of_mem hm)) (by rw [hfl];exact hl)
   refine zf2 ?_;refine zd8 ?_;refine aw_block ?_;refine zb4 (za9 ?_)
   refine q1 ?_;refine zd5 (zd8 ?_)
   refine zb4 ?_;refine zb4 (za9 ?_)
   refine q1 ?_;refine q1 ?_;refine qq rfl rfl (qr_ari rfl rfl rfl (by omega)) ?_
   refine qq rfl rfl (qr_quo (c:=(((((cellsS x).length+1) / 2):Nat):Int)) rfl rfl (by decide) rfl (by omega)) ?_
   refine rn ?_;rw [tail_start x]
   refine aw_rngX (((cellsS x).length+1) / 2) (fun i (z:SV×List (SV×List Conf))=>z.2.map (·.2)=(pairUp cmp (x.map (·.2))).take i) (fun i z=>⟨[(39,iv i),(9,.v z.1.v),(5,pZ b5),(8,.fn (.func 169) [] [pZ b5,pZ b3]),(38,iv ((((cellsS x).length+1) / 2):Nat))],.row z.1.v 1 35 (cellsS z.2):: .row sr.v 1 35 (cellsS x):: .box b5 96 [.v sr.v]:: .box b3 64 [fv]::(runsR 7 41 zb3 (x.drop (2 * i))++runsR 7 41 zb3 z.2),[]⟩) (⟨none,0,0⟩,[]) rfl (zc5 (ze5 1 35) es) ?_
   rintro i ⟨sn,y⟩ li zi
   simp only at zi
   show aw _ _ _ _ _ ⟨[(39,iv i),(9,.v sn.v),(5,pZ b5),(8,.fn (.func 169) [] [pZ b5,pZ b3]),(38,iv ((((cellsS x).length+1) / 2):Nat))],.row sn.v 1 35 (cellsS y):: .row sr.v 1 35 (cellsS x):: .box b5 96 [.v sr.v]:: .box b3 64 [fv]::(runsR 7 41 zb3 (x.drop (2 * i))++runsR 7 41 zb3 y),[]⟩
   refine rn ?_;refine za0 rfl (fun hc40=> ?_) (fun hc40=> ?_)
   ·have hi:i < (((cellsS x).length+1) / 2):=by have q:=of_decide_eq_true hc40;omega
    have hyl:y.length=i:=by have q:=congrArg List.length zi;rw [List.length_map,List.length_take,pairUp_len,List.length_map] at q;omega
    refine zf2 ?_;refine zd8 ?_;refine zb4 ?_;refine aw_block ?_;refine zb4 (za9 ?_)
    refine q1 ?_;refine q1 ?_;refine zd5 (zd8 ?_)
    refine za9 ?_;refine q1 ?_;refine q1 ?_;refine q1 ?_;refine qq rfl rfl (qr_ari rfl rfl rfl (by omega)) ?_
    by_cases ho:2 * i+1=x.length
    refine za2 rfl (zc3 rfl rfl (za3.qt (za3.of_acall (fs:= []) (cs:= [pZ b5,pZ b3]) (both1Conf x sr b5 b3 (2 * i) ho (by omega))) ((pt1 _ _ _).trans (.cons _ (pt1 _ _ _)))) rfl ?_)
    rintro _ _ ⟨rfl,rfl⟩
    rotate_left
    rw [runsR_cons (x:=x) (k:=2 * i) (by omega),runsR_cons (x:=x) (k:=2 * i+1) (by omega),List.cons_append,List.cons_append]
    refine za2 rfl (zc3 rfl rfl (za3.fr (za3.of_acall (fs:= []) (cs:= [pZ b5,pZ b3]) (both2Conf x sr b5 b3 (2 * i) (by omega) (by omega) hxa fv cmp hp)) ((pt1 _ _ _).trans (.cons _ ((pt1 _ _ _).trans (.cons _ ((pt1 _ _ _).trans (.cons _ ((pt1 _ _ _).trans (.cons _ (pt1 _ _ _)))))))))) rfl ?_)
    rintro _ _ ⟨_,rfl,m,rfl,rfl⟩
    refine aops_ent (ent_perm (pt6 _ _ _ _ _ _ _ _)) ?_
    rotate_right
    ·refine qv rfl rfl (zc2 rfl rfl) ?_
     refine za2 rfl (zb7 rfl rfl (by simp only [List.length_map,List.length_cons,List.length_nil];omega) rfl (fun s48=> ?_) (one_cellS _))
     refine zc7 s48 fun sv hsv=> ?_
     subst hsv
     refine rn ?_;exact ⟨hi,(sv,y++ [x[2 * i]'(by omega)]),by simp only;rw [List.map_append,zi,pair_take cmp (by rw [List.length_map];omega),pair_odd cmp (by rw [List.length_map];exact ho),List.getElem_map];rfl,zc5 (ent_perm (.cons _ (.cons _ (.cons _ (.cons _ (tail_odd ho)))))) (by simp only;rw [cellsS_snoc];exact es)⟩
    ·refine qv rfl rfl (zc2 rfl rfl) ?_
     refine za2 rfl (zb7 rfl rfl (by simp only [List.length_map,List.length_cons,List.length_nil];omega) rfl (fun s48=> ?_) (one_cellS _))
     refine zc7 s48 fun sv hsv=> ?_
     subst hsv
     refine rn ?_;exact ⟨hi,(sv,y++ [(m,mrg cmp (x[2 * i]'(by omega)).2 (x[2 * i+1]'(by omega)).2)]),by simp only;rw [List.map_append,zi,pair_take cmp (by rw [List.length_map];omega),pair_two cmp (by rw [List.length_map];omega),List.getElem_map,List.getElem_map];rfl,zc5 (ent_perm ((pt5 _ _ _ _ _ _ _).trans (.cons _ ((pt5 _ _ _ _ _ _ _).trans (.cons _ (.cons _ ((pt1 _ _ _).trans (.cons _ ((pt1 _ _ _).trans (.cons _ (pt1 _ _ _))))))))))) (zc5 (ent_drop (h1:= [_,_])) (zc5 (ent_perm (.cons _ (.cons _ (.cons _ (.cons _ tail_two))))) (by simp only;rw [cellsS_snoc];exact es)))⟩
   ·have qi:i=(((cellsS x).length+1) / 2):=by have q:=of_decide_eq_false hc40;omega
    refine rn ?_;exact ⟨(sn,y),⟨by simp only;rw [zi,pair_all cmp (by rw [List.length_map];omega),←srtR_go cmp (by rw [List.length_map];exact h1)];exact zk,by simp only;rw [zi,pair_all cmp (by rw [List.length_map];omega),(pairUp_perm cmp _).length_eq];exact hfl,by simp only;have q:=congrArg List.length zi;rw [List.length_map,pair_all cmp (by rw [List.length_map];omega),pairUp_len,List.length_map] at q;omega⟩,zc5 (ent_perm (pt1 _ _ _)) (zc5 (ent_drop (h1:= [_])) (by rw [tail_end (by omega)];exact es)),by simp only;have q:=congrArg List.length zi;rw [List.length_map,pair_all cmp (by rw [List.length_map];omega),pairUp_len,List.length_map] at q;omega⟩
  ·have h1:¬1 < x.length:=by have q:=of_decide_eq_false hc34;rw [cellsS_len] at q;omega
   refine rn ?_;refine za0 rfl (fun hc53=> ?_) (fun hc53=> ?_)
   ·have h0:x.length=0:=by have q:=of_decide_eq_true (show decide (((cellsS x).length:Int)=0)=true from hc53);rw [cellsS_len] at q;omega
    obtain rfl:=List.length_eq_zero_iff.1 h0
    refine rn ?_;exact retT rfl (.trans (.drop [_,_,_] _ _) (vent_nilrow 7 41 _)) ⟨⟨none,0,0⟩,by rw [sort_nil cmp zk rfl];rfl,rfl⟩
   ·have h0:¬x.length=0:=by intro q;have e:(((cellsS x).length:Int)==0)=false:=hc53;rw [cellsS_len,q] at e;cases e
    obtain ⟨p,rfl⟩:=List.length_eq_one_iff.1 (show x.length=1 by omega)
    refine zf2 ?_;refine zd8 ?_;refine zb4 (za9 ?_)
    refine q1 ?_;refine qq rfl rfl (zf3 (k:=0) rfl rfl (show 0 < (cellsS [p]).length from Nat.zero_lt_one)) ?_
    refine qq rfl rfl (qr_load_rp_one rfl rfl rfl) ?_
    refine rn ?_;exact retT rfl (.drop [_,_,_] _ _) ⟨p.1,by rw [sort_one cmp zk];rfl,rfl⟩
theorem put_s {l:List Conf} {c:Conf} {k:Nat} (hk:k < l.length) (hlt:cmpC l[k] c < 0) (z:putC cmpC l c=l.take k++putC cmpC (l.drop k) c):putC cmpC l c=l.take (k+1)++putC cmpC (l.drop (k+1)) c:=by
 rw [z,List.drop_eq_getElem_cons hk,putC,if_pos hlt,List.take_succ_eq_append_getElem hk,List.append_assoc];rfl
theorem put_eq {l:List Conf} {c:Conf} {k:Nat} (hk:k < l.length) (hn:¬cmpC l[k] c < 0) (he:l[k]=c) (z:putC cmpC l c=l.take k++putC cmpC (l.drop k) c):putC cmpC l c=l:=by
 rw [z,List.drop_eq_getElem_cons hk,putC,if_neg hn,if_pos he,←List.drop_eq_getElem_cons hk,List.take_append_drop]
theorem put_new {l:List Conf} {c:Conf} {k:Nat} (hn:∀hk:k < l.length,¬cmpC l[k] c < 0) (he:∀hk:k < l.length,l[k]≠c) (z:putC cmpC l c=l.take k++putC cmpC (l.drop k) c):putC cmpC l c=l.take k++ [c]++l.drop k:=by
 by_cases h:k < l.length
 ·rw [z,List.drop_eq_getElem_cons h,putC,if_neg (hn h),if_neg (he h),List.append_assoc];rfl
 ·rw [z,List.drop_eq_nil_of_le (by omega)];simp [putC]
theorem putC_len (l:List Conf) (c:Conf):(putC cmpC l c).length≤l.length+1:=by
 induction l with
 |nil=>simp [putC]
 | cons x r ih=>
   rw [putC]
   split
   ·simp only [List.length_cons];omega
   ·split <;> simp
set_option maxHeartbeats 4000000 in
theorem refPut (l:List Conf) (sv:SV) (c:Conf) (hl:l.length≤1000000000):za6 Tryz.prog 81 [.v sv.v,.agg (zb3 c)] (.row sv.v 7 41 (l.map zb3):: []) (fun r h'=>∃s:SV,h'= [.row s.v 7 41 ((putC cmpC l c).map zb3)]∧r= .v s.v):=by
 refine za1 Tryz.func81 rfl rfl rfl ?_
 refine rn ?_;refine za2 rfl (zb5 rfl rfl rfl fun b3=> ?_)
 refine rn ?_;refine aw_while (fun k:Nat=>k≤l.length∧putC cmpC l c=l.take k++putC cmpC (l.drop k) c) (fun k=>⟨[(5,iv k),(0,.v sv.v),(3,pZ b3)],.box b3 41 (zb3 c):: .row sv.v 7 41 (l.map zb3):: [],[]⟩) (fun k=>l.length - k) 0 ⟨Nat.zero_le _,rfl⟩ es ?_
 rintro k ⟨hk0,zk⟩
 refine rn ?_;refine zd2 10 rfl ?_
 refine rn ?_;refine dsplit (fun hg2_4=> ?_) (fun hg2_4=> ?_)
 ·first|(have hk:k < l.length:=by have q:=hg2_4;simp at q;omega);have rk:(l.map zb3)[k]? =some (zb3 l[k]):=ze2 hk|skip
  refine dq rfl rfl qrA ?_;refine dq rfl rfl qrA ?_;refine dq rfl rfl (zf3 (k:=k) rfl rfl (by rw [List.length_map];exact hk)) ?_
  refine dq rfl rfl (qr_load_rp_all (row:=zb3 l[k]) rfl rk rfl) ?_
  refine rn ?_;refine qv rfl rfl (za4 rfl rfl (za3.pure (R:=fun r=>r=iv (cmpC l[k] c)) (za3.of_fun (refCompare18 l[k] c)))) ?_
  refine rn ?_;refine za0 rfl (fun hc18=> ?_) (fun hc18=> ?_)
  ·have hlt:cmpC l[k] c < 0:=of_decide_eq_true hc18
   refine rn ?_;exact ⟨k+1,⟨hk,put_s hk hlt zk⟩,eA,by omega⟩
  ·have hx:∀hk:k < l.length,¬cmpC l[k] c < 0:=by first|(have q:=hg2_4;simp at q;exact fun hk=>by omega)|(intro hk;have q:=of_decide_eq_false hc18;exact q)
   refine rn ?_;refine zd2 10 rfl ?_
   refine rn ?_;refine dsplit (fun hg4_4=> ?_) (fun hg4_4=> ?_)
   ·first|(have hk:k < l.length:=by have q:=hg4_4;simp at q;omega);have rk:(l.map zb3)[k]? =some (zb3 l[k]):=ze2 hk|skip
    refine dq rfl rfl qrA ?_;refine dq rfl rfl qrA ?_;refine dq rfl rfl (zf3 (k:=k) rfl rfl (by rw [List.length_map];exact hk)) ?_
    refine dq rfl rfl (qr_load_rp_all (row:=zb3 l[k]) rfl rk rfl) ?_
    refine rn ?_;refine za0 rfl (fun hc32=> ?_) (fun hc32=> ?_)
    ·have he:l[k]=c:=of_decide_eq_true (by rw [←confEq_eq];exact hc32)
     refine rn ?_;exact retT rfl (.drop [_] _ _) ⟨sv,by rw [put_eq hk (hx hk) he zk],rfl⟩
    ·have hy:∀hk:k < l.length,l[k]≠c:=by first|(have q:=hg4_4;simp at q;exact fun hk=>by omega)|(intro hk;have q:confEq l[k] c=false:=hc32;rw [confEq_eq] at q;exact of_decide_eq_false q)
     refine zf2 ?_;refine rn0 ?_;refine zb4 ?_;refine aw_ent (s':=⟨[(0,.list false 7 (l.map zb3)),(3,pZ b3),(5,iv k)],[.box b3 41 (zb3 c)],[]⟩) (zc5 (ent_perm (perm_swap [_] [_])) (ent_freeze (by repeat (first|exact .nil|refine .row _ _ rfl ?_|refine .cons _ _ _ rfl ?_)))) ?_
     refine aw_drawX 11 [0,4,7] [] (fun he=>he= [.box b3 41 (zb3 c)]∨∃s' rows,he= [.row s' 7 41 rows,.box b3 41 (zb3 c)]) rfl rfl (.inl rfl) ?_
     refine je rfl ?_;refine jq rfl (fun he hC=>by rcases hC with rfl|⟨s2,rows,rfl⟩ <;> exact qrA) ?_
     refine jq rfl (fun he hC=>by rcases hC with rfl|⟨s2,rows,rfl⟩ <;> exact qrA) ?_
     refine jq rfl (fun he hC=>by rcases hC with rfl|⟨s2,rows,rfl⟩ <;> exact (by exact qr_slice_h (k:=k) rfl rfl (by rw [List.length_map];omega))) ?_
     refine je rfl ?_;refine jq rfl (fun he hC=>by rcases hC with rfl|⟨s2,rows,rfl⟩ <;> exact qrA) ?_
     refine jv rfl (fun he hC=>by rcases hC with rfl|⟨s2,rows,rfl⟩ <;> exact (by exact zc2 rfl rfl)) ?_
     refine je rfl ?_;refine jq rfl (fun he hC=>by rcases hC with rfl|⟨s2,rows,rfl⟩ <;> exact qrA) ?_
     refine jq rfl (fun he hC=>by rcases hC with rfl|⟨s2,rows,rfl⟩ <;> exact qrA) ?_
     refine jq rfl (fun he hC=>by rcases hC with rfl|⟨s2,rows,rfl⟩ <;> exact (by exact qr_slice_l (l:=k) rfl rfl (by rw [List.length_map];omega))) ?_
     refine jnil ?_;refine jce rfl fun u=> ?_
     refine oe_buildRow rfl rfl rfl fun s34=>⟨_,_,rfl,.inr ⟨_,_,rfl⟩,?_⟩
     refine jce rfl fun u=> ?_
     refine zb7 rfl rfl (by simp;omega) rfl (fun s38=>⟨_,_,rfl,.inr ⟨_,_,rfl⟩,?_⟩) (by rw [←List.map_take];exact ze7 _)
     refine jce rfl fun u=> ?_
     refine zb7 rfl rfl (by simp;omega) rfl (fun s41=>⟨_,_,rfl,.inr ⟨_,_,rfl⟩,?_⟩) (ze7 [c])
     refine jcn ?_;refine ln ?_;refine za2 rfl (zb7 rfl rfl (by simp;omega) rfl (fun s45=> ?_) (by rw [←List.map_drop];exact ze7 _))
     refine zc7 s45 fun sw hsw=> ?_
     subst hsw
     refine rn ?_;exact retT rfl (.trans (.perm (perm_swap [_] [_]) _) (.drop [_] _ _)) ⟨sw,by rw [put_new hx hy zk,List.map_append,List.map_append,List.map_take,List.map_drop];rfl,rfl⟩
   ·first|(have hk:k < l.length:=by have q:=hg4_4;simp at q;omega);have rk:(l.map zb3)[k]? =some (zb3 l[k]):=ze2 hk|skip
    refine rn ?_;refine aw_cf rfl ?_;have hy:∀hk:k < l.length,l[k]≠c:=by first|(have q:=hg4_4;simp at q;exact fun hk=>by omega)|(intro hk;have q:confEq l[k] c=false:=hc32;rw [confEq_eq] at q;exact of_decide_eq_false q)
    refine zf2 ?_;refine rn0 ?_;refine zb4 ?_;refine aw_ent (s':=⟨[(0,.list false 7 (l.map zb3)),(3,pZ b3),(5,iv k)],[.box b3 41 (zb3 c)],[]⟩) (zc5 (ent_perm (perm_swap [_] [_])) (ent_freeze (by repeat (first|exact .nil|refine .row _ _ rfl ?_|refine .cons _ _ _ rfl ?_)))) ?_
    refine aw_drawX 11 [0,4,7] [] (fun he=>he= [.box b3 41 (zb3 c)]∨∃s' rows,he= [.row s' 7 41 rows,.box b3 41 (zb3 c)]) rfl rfl (.inl rfl) ?_
    refine je rfl ?_;refine jq rfl (fun he hC=>by rcases hC with rfl|⟨s2,rows,rfl⟩ <;> exact qrA) ?_
    refine jq rfl (fun he hC=>by rcases hC with rfl|⟨s2,rows,rfl⟩ <;> exact qrA) ?_
    refine jq rfl (fun he hC=>by rcases hC with rfl|⟨s2,rows,rfl⟩ <;> exact (by exact qr_slice_h (k:=k) rfl rfl (by rw [List.length_map];omega))) ?_
    refine je rfl ?_;refine jq rfl (fun he hC=>by rcases hC with rfl|⟨s2,rows,rfl⟩ <;> exact qrA) ?_
    refine jv rfl (fun he hC=>by rcases hC with rfl|⟨s2,rows,rfl⟩ <;> exact (by exact zc2 rfl rfl)) ?_
    refine je rfl ?_;refine jq rfl (fun he hC=>by rcases hC with rfl|⟨s2,rows,rfl⟩ <;> exact qrA) ?_
    refine jq rfl (fun he hC=>by rcases hC with rfl|⟨s2,rows,rfl⟩ <;> exact qrA) ?_
    refine jq rfl (fun he hC=>by rcases hC with rfl|⟨s2,rows,rfl⟩ <;> exact (by exact qr_slice_l (l:=k) rfl rfl (by rw [List.length_map];omega))) ?_
    refine jnil ?_;refine jce rfl fun u=> ?_
    refine oe_buildRow rfl rfl rfl fun s34=>⟨_,_,rfl,.inr ⟨_,_,rfl⟩,?_⟩
    refine jce rfl fun u=> ?_
    refine zb7 rfl rfl (by simp;omega) rfl (fun s38=>⟨_,_,rfl,.inr ⟨_,_,rfl⟩,?_⟩) (by rw [←List.map_take];exact ze7 _)
    refine jce rfl fun u=> ?_
    refine zb7 rfl rfl (by simp;omega) rfl (fun s41=>⟨_,_,rfl,.inr ⟨_,_,rfl⟩,?_⟩) (ze7 [c])
    refine jcn ?_;refine ln ?_;refine za2 rfl (zb7 rfl rfl (by simp;omega) rfl (fun s45=> ?_) (by rw [←List.map_drop];exact ze7 _))
    refine zc7 s45 fun sw hsw=> ?_
    subst hsw
    refine rn ?_;exact retT rfl (.trans (.perm (perm_swap [_] [_]) _) (.drop [_] _ _)) ⟨sw,by rw [put_new hx hy zk,List.map_append,List.map_append,List.map_take,List.map_drop];rfl,rfl⟩
 ·first|(have hk:k < l.length:=by have q:=hg2_4;simp at q;omega);have rk:(l.map zb3)[k]? =some (zb3 l[k]):=ze2 hk|skip
  refine rn ?_;refine aw_cf rfl ?_;have hx:∀hk:k < l.length,¬cmpC l[k] c < 0:=by first|(have q:=hg2_4;simp at q;exact fun hk=>by omega)|(intro hk;have q:=of_decide_eq_false hc18;exact q)
  refine rn ?_;refine zd2 10 rfl ?_
  refine rn ?_;refine dsplit (fun hg4_4=> ?_) (fun hg4_4=> ?_)
  ·first|(have hk:k < l.length:=by have q:=hg4_4;simp at q;omega);have rk:(l.map zb3)[k]? =some (zb3 l[k]):=ze2 hk|skip
   refine dq rfl rfl qrA ?_;refine dq rfl rfl qrA ?_;refine dq rfl rfl (zf3 (k:=k) rfl rfl (by rw [List.length_map];exact hk)) ?_
   refine dq rfl rfl (qr_load_rp_all (row:=zb3 l[k]) rfl rk rfl) ?_
   refine rn ?_;refine za0 rfl (fun hc32=> ?_) (fun hc32=> ?_)
   ·have he:l[k]=c:=of_decide_eq_true (by rw [←confEq_eq];exact hc32)
    refine rn ?_;exact retT rfl (.drop [_] _ _) ⟨sv,by rw [put_eq hk (hx hk) he zk],rfl⟩
   ·have hy:∀hk:k < l.length,l[k]≠c:=by first|(have q:=hg4_4;simp at q;exact fun hk=>by omega)|(intro hk;have q:confEq l[k] c=false:=hc32;rw [confEq_eq] at q;exact of_decide_eq_false q)
    refine zf2 ?_;refine rn0 ?_;refine zb4 ?_;refine aw_ent (s':=⟨[(0,.list false 7 (l.map zb3)),(3,pZ b3),(5,iv k)],[.box b3 41 (zb3 c)],[]⟩) (zc5 (ent_perm (perm_swap [_] [_])) (ent_freeze (by repeat (first|exact .nil|refine .row _ _ rfl ?_|refine .cons _ _ _ rfl ?_)))) ?_
    refine aw_drawX 11 [0,4,7] [] (fun he=>he= [.box b3 41 (zb3 c)]∨∃s' rows,he= [.row s' 7 41 rows,.box b3 41 (zb3 c)]) rfl rfl (.inl rfl) ?_
    refine je rfl ?_;refine jq rfl (fun he hC=>by rcases hC with rfl|⟨s2,rows,rfl⟩ <;> exact qrA) ?_
    refine jq rfl (fun he hC=>by rcases hC with rfl|⟨s2,rows,rfl⟩ <;> exact qrA) ?_
    refine jq rfl (fun he hC=>by rcases hC with rfl|⟨s2,rows,rfl⟩ <;> exact (by exact qr_slice_h (k:=k) rfl rfl (by rw [List.length_map];omega))) ?_
    refine je rfl ?_;refine jq rfl (fun he hC=>by rcases hC with rfl|⟨s2,rows,rfl⟩ <;> exact qrA) ?_
    refine jv rfl (fun he hC=>by rcases hC with rfl|⟨s2,rows,rfl⟩ <;> exact (by exact zc2 rfl rfl)) ?_
    refine je rfl ?_;refine jq rfl (fun he hC=>by rcases hC with rfl|⟨s2,rows,rfl⟩ <;> exact qrA) ?_
    refine jq rfl (fun he hC=>by rcases hC with rfl|⟨s2,rows,rfl⟩ <;> exact qrA) ?_
    refine jq rfl (fun he hC=>by rcases hC with rfl|⟨s2,rows,rfl⟩ <;> exact (by exact qr_slice_l (l:=k) rfl rfl (by rw [List.length_map];omega))) ?_
    refine jnil ?_;refine jce rfl fun u=> ?_
    refine oe_buildRow rfl rfl rfl fun s34=>⟨_,_,rfl,.inr ⟨_,_,rfl⟩,?_⟩
    refine jce rfl fun u=> ?_
    refine zb7 rfl rfl (by simp;omega) rfl (fun s38=>⟨_,_,rfl,.inr ⟨_,_,rfl⟩,?_⟩) (by rw [←List.map_take];exact ze7 _)
    refine jce rfl fun u=> ?_
    refine zb7 rfl rfl (by simp;omega) rfl (fun s41=>⟨_,_,rfl,.inr ⟨_,_,rfl⟩,?_⟩) (ze7 [c])
    refine jcn ?_;refine ln ?_;refine za2 rfl (zb7 rfl rfl (by simp;omega) rfl (fun s45=> ?_) (by rw [←List.map_drop];exact ze7 _))
    refine zc7 s45 fun sw hsw=> ?_
    subst hsw
    refine rn ?_;exact retT rfl (.trans (.perm (perm_swap [_] [_]) _) (.drop [_] _ _)) ⟨sw,by rw [put_new hx hy zk,List.map_append,List.map_append,List.map_take,List.map_drop];rfl,rfl⟩
  ·first|(have hk:k < l.length:=by have q:=hg4_4;simp at q;omega);have rk:(l.map zb3)[k]? =some (zb3 l[k]):=ze2 hk|skip
   refine rn ?_;refine aw_cf rfl ?_;have hy:∀hk:k < l.length,l[k]≠c:=by first|(have q:=hg4_4;simp at q;exact fun hk=>by omega)|(intro hk;have q:confEq l[k] c=false:=hc32;rw [confEq_eq] at q;exact of_decide_eq_false q)
   refine zf2 ?_;refine rn0 ?_;refine zb4 ?_;refine aw_ent (s':=⟨[(0,.list false 7 (l.map zb3)),(3,pZ b3),(5,iv k)],[.box b3 41 (zb3 c)],[]⟩) (zc5 (ent_perm (perm_swap [_] [_])) (ent_freeze (by repeat (first|exact .nil|refine .row _ _ rfl ?_|refine .cons _ _ _ rfl ?_)))) ?_
   refine aw_drawX 11 [0,4,7] [] (fun he=>he= [.box b3 41 (zb3 c)]∨∃s' rows,he= [.row s' 7 41 rows,.box b3 41 (zb3 c)]) rfl rfl (.inl rfl) ?_
   refine je rfl ?_;refine jq rfl (fun he hC=>by rcases hC with rfl|⟨s2,rows,rfl⟩ <;> exact qrA) ?_
   refine jq rfl (fun he hC=>by rcases hC with rfl|⟨s2,rows,rfl⟩ <;> exact qrA) ?_
   refine jq rfl (fun he hC=>by rcases hC with rfl|⟨s2,rows,rfl⟩ <;> exact (by exact qr_slice_h (k:=k) rfl rfl (by rw [List.length_map];omega))) ?_
   refine je rfl ?_;refine jq rfl (fun he hC=>by rcases hC with rfl|⟨s2,rows,rfl⟩ <;> exact qrA) ?_
   refine jv rfl (fun he hC=>by rcases hC with rfl|⟨s2,rows,rfl⟩ <;> exact (by exact zc2 rfl rfl)) ?_
   refine je rfl ?_;refine jq rfl (fun he hC=>by rcases hC with rfl|⟨s2,rows,rfl⟩ <;> exact qrA) ?_
   refine jq rfl (fun he hC=>by rcases hC with rfl|⟨s2,rows,rfl⟩ <;> exact qrA) ?_
   refine jq rfl (fun he hC=>by rcases hC with rfl|⟨s2,rows,rfl⟩ <;> exact (by exact qr_slice_l (l:=k) rfl rfl (by rw [List.length_map];omega))) ?_
   refine jnil ?_;refine jce rfl fun u=> ?_
   refine oe_buildRow rfl rfl rfl fun s34=>⟨_,_,rfl,.inr ⟨_,_,rfl⟩,?_⟩
   refine jce rfl fun u=> ?_
   refine zb7 rfl rfl (by simp;omega) rfl (fun s38=>⟨_,_,rfl,.inr ⟨_,_,rfl⟩,?_⟩) (by rw [←List.map_take];exact ze7 _)
   refine jce rfl fun u=> ?_
   refine zb7 rfl rfl (by simp;omega) rfl (fun s41=>⟨_,_,rfl,.inr ⟨_,_,rfl⟩,?_⟩) (ze7 [c])
   refine jcn ?_;refine ln ?_;refine za2 rfl (zb7 rfl rfl (by simp;omega) rfl (fun s45=> ?_) (by rw [←List.map_drop];exact ze7 _))
   refine zc7 s45 fun sw hsw=> ?_
   subst hsw
   refine rn ?_;exact retT rfl (.trans (.perm (perm_swap [_] [_]) _) (.drop [_] _ _)) ⟨sw,by rw [put_new hx hy zk,List.map_append,List.map_append,List.map_take,List.map_drop];rfl,rfl⟩
set_option maxHeartbeats 4000000 in
theorem growConf (n:Nat) (hn:n≤1000000000):za6 Tryz.prog 106 [.v (.slice none 0 0),iv n] [] (fun r h'=>∃s:SV,h'= [.row s.v 7 41 []]∧r= .v s.v):=by
 refine za1 Tryz.func106 rfl rfl rfl ?_
 refine rn ?_;refine za0 rfl (fun hc6=> ?_) (fun hc6=> ?_)
 ·exact absurd hc6 (by simp)
 ·refine zf2 ?_;refine zd8 ?_;refine zb4 ?_;refine zb4 (za9 ?_)
  refine aops_ent (ze5 7 41) ?_
  refine q1 ?_;refine q1 ?_;refine qq rfl rfl (qr_cap_nil rfl) ?_
  refine q1 ?_;refine q1 ?_;refine qq rfl rfl (qr_ari rfl rfl rfl (by have e:([]:List (List AV)).length=0:=rfl;omega)) ?_
  refine qq rfl rfl (qr_as (qr_ari rfl rfl rfl (by have e:([]:List (List AV)).length=0:=rfl;omega)) (show AV.v (.int .i64 ((n:Int) - (0 - (([]:List (List AV)).length:Int))))=iv n by simp)) ?_
  refine rn ?_;refine za0 rfl (fun hc16=> ?_) (fun hc16=> ?_)
  ·refine za9 ?_;refine aops_ent (ze5 7 41) ?_
   refine q1 ?_;refine q1 ?_;refine qq rfl rfl (qr_cap_nil rfl) ?_
   refine qq rfl rfl (qr_slice_nil rfl rfl) ?_
   refine rn ?_;refine za2 rfl (oe_append_zeros (n:=n) rfl rfl (by simp at hc16;omega) (by omega) rfl (hk:=fun s22=> ?_))
   refine zc7 s22 fun sv hsv=> ?_
   subst hsv
   refine q1 ?_;refine q1 ?_;refine qq rfl rfl (qr_part_h (k:=0) rfl rfl (Nat.zero_le _)) ?_
   refine aops_short sv.v 0 (Nat.zero_le _) ?_
   refine zc7 (partV sv.v 0 0 7) fun s1 hs1=> ?_
   rw [hs1]
   refine rn ?_;first|exact retT rfl (.trans (.perm (pt1 _ _ _) _) (.drop [_] _ _)) ⟨s1,rfl,rfl⟩|exact retT rfl (.refl _ _) ⟨⟨none,0,0⟩,rfl,rfl⟩
  ·refine rn ?_;first|exact retT rfl (.trans (.perm (pt1 _ _ _) _) (.drop [_] _ _)) ⟨s1,rfl,rfl⟩|exact retT rfl (.refl _ _) ⟨⟨none,0,0⟩,rfl,rfl⟩
abbrev confLL (ll:List (List Conf)):List (List AV):=ll.map fun l=> [.list false 7 (l.map zb3)]
theorem fl_take {α:Type} (ll:List (List α)) (k:Nat):(ll.take k).flatten.length≤ll.flatten.length:=by
 conv=>rhs;rw [←List.take_append_drop k ll,List.flatten_append,List.length_append]
 omega
theorem fl_s {α:Type} {ll:List (List α)} {k:Nat} (hk:k < ll.length):(ll.take (k+1)).flatten=(ll.take k).flatten++ll[k]:=by
 rw [List.take_succ_eq_append_getElem hk,List.flatten_append];simp
theorem fl_sl {α:Type} {ll:List (List α)} {k:Nat} (hk:k < ll.length):(ll.take k).flatten.length+ll[k].length=(ll.take (k+1)).flatten.length:=by rw [fl_s hk,List.length_append]
def ctl {α:Type} (q:α→α→Bool) (l:List α) (k:Nat):List α:=(compF q (l.drop k)).tail
theorem ctl_y {α:Type} {q:α→α→Bool} {l:List α} {k:Nat} (hk:k+1 < l.length) (h:q l[k+1] l[k]=true):ctl q l k=ctl q l (k+1):=by
 rw [ctl,ctl,List.drop_eq_getElem_cons (show k < l.length by omega),List.drop_eq_getElem_cons hk,compF,compF,compG,if_pos h];rfl
theorem ctl_n {α:Type} {q:α→α→Bool} {l:List α} {k:Nat} (hk:k+1 < l.length) (h:q l[k+1] l[k]=false):ctl q l k=l[k+1]::ctl q l (k+1):=by
 rw [ctl,ctl,List.drop_eq_getElem_cons (show k < l.length by omega),List.drop_eq_getElem_cons hk,compF,compF,compG,if_neg (by rw [h];decide)];rfl
theorem ctl_end {α:Type} {q:α→α→Bool} {l:List α} {k:Nat} (hk:k < l.length) (h:l.length≤k+1):ctl q l k= []:=by
 rw [ctl,List.drop_eq_getElem_cons hk,List.drop_eq_nil_of_le h];rfl
theorem ctl_0 {α:Type} {q:α→α→Bool} {l:List α} (h:0 < l.length):compF q l=l.take (0+1)++ctl q l 0:=by
 cases l with
 |nil=>cases h
 |cons x r=>rfl
theorem compF_short {α:Type} {q:α→α→Bool} {l:List α} (h:l.length < 2):compF q l=l:=by
 match l with
 | []=>rfl
 | [x]=>rfl
 |_::_::_=>simp at h;omega
theorem drop_at {α:Type} {m l:List α} {a i:Nat} (h:m.drop a=l.drop a):m[a+i]? =l[a+i]? :=by
 rw [←List.getElem?_drop,←List.getElem?_drop,h]
theorem map_at {α β:Type} {f:α→β} {m l:List α} {a:Nat} (h:m[a]? =l[a]?) (hk:a < l.length):(m.map f)[a]? =some (f l[a]):=by
 rw [List.getElem?_map,h,List.getElem?_eq_getElem hk];rfl
theorem drop_set {α:Type} {m l:List α} {a k:Nat} {x:α} (h:m.drop a=l.drop a) (hk:k≤a):(m.set k x).drop (a+1)=l.drop (a+1):=by
 rw [List.drop_set_of_lt (by omega),←List.drop_drop,h,List.drop_drop]
theorem drop_one {α:Type} {m l:List α} {a:Nat} (h:m.drop a=l.drop a):m.drop (a+1)=l.drop (a+1):=by
 rw [←List.drop_drop,h,List.drop_drop]
theorem take_set {α:Type} {m:List α} {k:Nat} {x:α} (hk:k < m.length):(m.set k x).take (k+1)=m.take k++ [x]:=by
 rw [List.take_succ_eq_append_getElem (by simpa using hk),List.getElem_set_self,List.take_set,List.set_eq_of_length_le (by simp;omega)]
set_option maxHeartbeats 4000000 in
theorem concatConf {f:Bool} (ll:List (List Conf)) (hl:ll.flatten.length≤1000000000) (hn:ll.length≤1000000000):za6 Tryz.prog 45 [.list f 1 (confLL ll)] [] (fun r h'=>∃s:SV,h'= [.row s.v 7 41 (ll.flatten.map zb3)]∧r= .v s.v):=by
 refine za1 Tryz.func45 rfl rfl rfl ?_
 refine rn ?_;refine aw_range ll.length (fun k=>True) (fun k=>⟨[(11,iv k),(3,iv ((ll.take (k)).flatten.length:Nat)),(0,.list f 1 (confLL ll)),(9,.list f 1 (confLL ll)),(10,iv (confLL ll).length)],[],[]⟩) trivial es ?_
 intro k lk _
 refine rn ?_;refine za0 rfl (fun hc12=> ?_) (fun hc12=> ?_)
 ·have hk:k < ll.length:=by have q:=of_decide_eq_true hc12;simp at q;omega
  have rk:(confLL ll)[k]? =some [.list false 7 (ll[k].map zb3)]:=by rw [List.getElem?_map,List.getElem?_eq_getElem hk];rfl
  have hb:=fl_take ll k
  have hb1:=fl_take ll (k+1)
  have hs:=fl_sl hk
  refine zf2 ?_;refine zd8 ?_;refine zb4 ?_;refine aw_block ?_;refine zb4 (za9 ?_)
  refine qq rfl rfl (qr_index_list rfl rfl rk) ?_
  refine q1 ?_;refine q1 ?_;refine zd5 (zd8 ?_)
  refine zb4 (za9 ?_)
  refine q1 ?_;refine q1 ?_;refine q1 ?_;refine qq rfl rfl (qr_as (qr_ari rfl rfl rfl (by simp only [List.length_map];omega)) (show AV.v (.int .i64 (((ll.take k).flatten.length:Nat)+((ll[k].map zb3).length:Nat)))=iv ((ll.take (k+1)).flatten.length:Nat) by rw [List.length_map,←hs];rfl)) ?_
  refine rn ?_;refine za0 rfl (fun hc20=> ?_) (fun hc20=> ?_)
  ·exfalso
   have q:=of_decide_eq_true hc20
   omega
  ·refine rn ?_;exact ⟨hk,trivial,eA⟩
 ·have qk:k=ll.length:=by have q:=of_decide_eq_false hc12;simp at q;omega
  refine rn ?_;refine za2 rfl (zc3 rfl rfl (za3.of_fun (growConf _ (by rw [qk,List.take_length];exact hl))) rfl ?_)
  rintro _ _ ⟨s,rfl,rfl⟩
  refine rn ?_;refine aw_rng1 ll.length (fun k s=>⟨[(27,iv k),(6,.v s.v),(25,.list f 1 (confLL ll)),(26,iv (confLL ll).length)],.row s.v 7 41 ((ll.take k).flatten.map zb3):: [],[]⟩) s es ?_
  intro k s lk
  refine rn ?_;refine za0 rfl (fun hc28=> ?_) (fun hc28=> ?_)
  ·have hk:k < ll.length:=by have q:=of_decide_eq_true hc28;simp at q;omega
   have rk:(confLL ll)[k]? =some [.list false 7 (ll[k].map zb3)]:=by rw [List.getElem?_map,List.getElem?_eq_getElem hk];rfl
   have hb:=fl_take ll k
   have hb1:=fl_take ll (k+1)
   have hs:=fl_sl hk
   refine zf2 ?_;refine zd8 ?_;refine zb4 ?_;refine aw_block ?_;refine zb4 (za9 ?_)
   refine qq rfl rfl (qr_index_list rfl rfl rk) ?_
   refine rn ?_;refine za2 rfl (zb7 rfl rfl (by simp only [List.length_map];omega) rfl (fun s33=> ?_) (ze7 _))
   refine zc7 s33 fun sv hsv=> ?_
   subst hsv
   refine rn ?_;exact ⟨hk,sv,by rw [fl_s hk,List.map_append];exact eA⟩
  ·have qk:k=ll.length:=by have q:=of_decide_eq_false hc28;simp at q;omega
   refine rn ?_;exact retT rfl (.refl _ _) ⟨s,by rw [qk,List.take_length],rfl⟩
theorem wwJoined {f:Bool} (ll:List (List Conf)) (hl:ll.flatten.length≤1000000000) (hn:ll.length≤1000000000):za6 Tryz.prog 71 [.list f 1 (confLL ll)] [] (fun r h'=>∃s:SV,h'= [.row s.v 7 41 ((sortL cmpC ll.flatten).map zb3)]∧r= .v s.v):=by
 refine za1 Tryz.func71 rfl rfl rfl ?_
 refine rn ?_;refine za2 rfl (zc3 rfl rfl (za3.of_fun (concatConf ll hl hn)) rfl ?_)
 rintro _ _ ⟨s,rfl,rfl⟩
 refine za2 rfl (zc3 rfl rfl (za3.lendG (za3.of_fun (sortConf ll.flatten (.fn (.func 39) [] []) rfl cmpC (fun x y=>za3.of_fun (wwCompare x y)) hl)) (by rintro _ _ ⟨s,rfl,rfl⟩;exact ⟨.v _,fun x hx=>by rw [List.mem_singleton.1 hx];exact scal_row (scalConf _)⟩) (BLe.refl _ _) (by exact ⟨ble_row,BLe.refl _ _,trivial⟩)) rfl ?_)
 rintro _ _ ⟨_,rfl,s2,rfl,rfl⟩
 refine rn ?_;exact retT rfl (.trans (.perm (pt1 _ _ _) _) (.drop [_] _ _)) ⟨s2,rfl,rfl⟩
theorem wwSame (a b:Conf):za6 Tryz.prog 72 [.agg (zb3 a),.agg (zb3 b)] [] (fun r h'=>h'= []∧r=bv (sameFT a b)):=by
 refine za1 Tryz.func72 rfl rfl rfl ?_
 refine rn ?_;refine za2 rfl (zb5 rfl rfl rfl fun b2=> ?_)
 refine za2 rfl (zb5 rfl rfl rfl fun b3=> ?_)
 refine rn ?_;refine za8 (fun hg1_5=> ?_) (fun hg1_5=> ?_)
 ·refine rn ?_;refine rq 2 ?_
  exact ⟨rfl,congrArg bv (by rw [sameFT];first|rfl|(simp_all;done))⟩
 ·refine rn ?_;refine rq 2 ?_
  exact ⟨rfl,congrArg bv (by rw [sameFT];first|rfl|(simp_all;done))⟩
set_option maxHeartbeats 4000000 in
theorem compactConf (l:List Conf) (sv:SV) (fv:AV) (q:Conf→Conf→Bool) (hp:∀x y,za3 Tryz.prog fv [.agg (zb3 x),.agg (zb3 y)] [] (fun r h'=>h'= []∧r=bv (q x y))) (hl:l.length≤1000000000):za6 Tryz.prog 70 [.v sv.v,fv] (.row sv.v 7 41 (l.map zb3):: []) (fun r h'=>∃s:SV,h'= [.row s.v 7 41 ((compF q l).map zb3)]∧r= .v s.v):=by
 refine za1 Tryz.func70 rfl rfl rfl ?_
 refine rn ?_;refine za0 rfl (fun hc10=> ?_) (fun hc10=> ?_)
 ·have h2:l.length < 2:=by have q:=of_decide_eq_true hc10;rw [List.length_map] at q;omega
  refine rn ?_;exact retT rfl (.refl _ _) ⟨sv,by rw [compF_short h2],rfl⟩
 ·have h2:¬l.length < 2:=by have q:=of_decide_eq_false hc10;rw [List.length_map] at q;omega
  refine rn ?_;refine aw_while (fun p:Nat=>p+1≤l.length∧compF q l=l.take (p+1)++ctl q l p) (fun p=>⟨[(5,iv (p+1:Nat)),(0,.v sv.v),(1,fv)],.row sv.v 7 41 (l.map zb3):: [],[]⟩) (fun p=>l.length - p) 0 ⟨by omega,ctl_0 (by omega)⟩ es ?_
  rintro p ⟨hp0,zk⟩
  refine rn ?_;refine za0 rfl (fun hc15=> ?_) (fun hc15=> ?_)
  ·have hk:p+1 < l.length:=by have q:=of_decide_eq_true hc15;rw [List.length_map] at q;omega
   have r1:(l.map zb3)[p+1]? =some (zb3 l[p+1]):=map_at rfl hk
   have r0:(l.map zb3)[p]? =some (zb3 (l[p]'(by omega))):=map_at rfl (by omega)
   refine rn ?_;refine zd2 10 rfl ?_
   refine dq rfl rfl qrA ?_;refine dq rfl rfl qrA ?_;refine dq rfl rfl qrA ?_;refine dq rfl rfl (zf3 (k:=p+1) rfl rfl (by rw [List.length_map];omega)) ?_
   refine dq rfl rfl (qr_load_rp_all (row:=zb3 l[p+1]) rfl (r1) rfl) ?_
   refine dq rfl rfl qrA ?_;refine dq rfl rfl qrA ?_;refine dq rfl rfl (qr_as (qr_ari rfl rfl rfl (by omega)) (show AV.v (.int .i64 (((p+1:Nat):Int) - 1))=iv (p:Nat) by rw [Int.natCast_add];simp)) ?_
   refine dq rfl rfl (zf3 (k:=p) rfl rfl (by rw [List.length_map];omega)) ?_
   refine dq rfl rfl (qr_load_rp_all (row:=zb3 (l[p]'(by omega))) rfl (r0) rfl) ?_
   refine rn ?_;refine qv rfl rfl (za4 rfl rfl (za3.pure (R:=fun r=>r=bv (q l[p+1] (l[p]'(by omega)))) (hp l[p+1] (l[p]'(by omega))))) ?_
   refine rn ?_;refine za0 rfl (fun hc28=> ?_) (fun hc28=> ?_)
   ·refine zb4 (za9 ?_)
    refine q1 ?_;refine q1 ?_;refine qq rfl rfl (qr_part_l (l:=p+1) rfl rfl (by rw [List.length_map];omega)) ?_
    rw [List.length_map]
    refine rn ?_;refine aw_while (fun z:Nat×Nat×List Conf=>z.2.1≤p+1+z.1∧p+1+z.1 < l.length∧z.2.2.length=l.length∧z.2.2.drop (p+1+z.1)=l.drop (p+1+z.1)∧compF q l=z.2.2.take z.2.1++ctl q l (p+1+z.1)) (fun z=>⟨[(5,iv z.2.1),(7,iv (z.1+1:Nat)),(0,.v sv.v),(1,fv),(6,.v (partV sv.v (p+1) l.length 7))],.row sv.v 7 41 (z.2.2.map zb3):: [],[]⟩) (fun z=>l.length - z.1) (0,p+1,l) ⟨Nat.le_refl _,hk,rfl,rfl,by rw [zk,ctl_y hk hc28];rfl⟩ es ?_
    rintro ⟨j,kk,m⟩ ⟨hkk,hj,hml,hd,zm⟩
    simp only at hkk hj hml hd zm
    show aw _ _ _ _ _ ⟨[(5,iv kk),(7,iv (j+1:Nat)),(0,.v sv.v),(1,fv),(6,.v (partV sv.v (p+1) l.length 7))],.row sv.v 7 41 (m.map zb3):: [],[]⟩
    refine zb4 ?_;refine zb4 (za9 ?_)
    refine q1 ?_;refine q1 ?_;refine qq rfl rfl (qr_len_part rfl) ?_
    refine rn ?_;refine za0 rfl (fun hc35=> ?_) (fun hc35=> ?_)
    ·have ha:p+1+j+1 < l.length:=by have q:=of_decide_eq_true hc35;omega
     have r1:(m.map zb3)[p+1+(j+1)]? =some (zb3 l[p+1+j+1]):=map_at (a:=p+1+j+1) (drop_at (i:=1) hd) ha
     have r0:(m.map zb3)[p+1+j]? =some (zb3 (l[p+1+j]'(by omega))):=map_at (drop_at (i:=0) hd) (by omega)
     have rk:(m.map zb3)[kk]? =some (zb3 (m[kk]'(by omega))):=map_at rfl (by omega)
     refine rn ?_;refine zd2 10 rfl ?_
     refine dq rfl rfl qrA ?_;refine dq rfl rfl qrA ?_;refine dq rfl rfl qrA ?_;refine dq rfl rfl (qr_index_part (k:=j+1) rfl rfl (by omega) (by rw [List.length_map];omega)) ?_
     refine dq rfl rfl (qr_load_rp_all (row:=zb3 l[p+1+j+1]) rfl (r1) rfl) ?_
     refine dq rfl rfl qrA ?_;refine dq rfl rfl qrA ?_;refine dq rfl rfl (qr_as (qr_ari rfl rfl rfl (by omega)) (show AV.v (.int .i64 (((j+1:Nat):Int) - 1))=iv (j:Nat) by rw [Int.natCast_add];simp)) ?_
     refine dq rfl rfl (qr_index_part (k:=j) rfl rfl (by omega) (by rw [List.length_map];omega)) ?_
     refine dq rfl rfl (qr_load_rp_all (row:=zb3 (l[p+1+j]'(by omega))) rfl (r0) rfl) ?_
     refine rn ?_;refine qv rfl rfl (za4 rfl rfl (za3.pure (R:=fun r=>r=bv (q l[p+1+j+1] (l[p+1+j]'(by omega)))) (hp l[p+1+j+1] (l[p+1+j]'(by omega))))) ?_
     refine rn ?_;refine za0 rfl (fun hc49=> ?_) (fun hc49=> ?_)
     ·have hq:q l[p+1+j+1] (l[p+1+j]'(by omega))=false:=by simpa using hc49
      refine zb4 (za9 ?_)
      refine q1 ?_;refine q1 ?_;refine q1 ?_;refine q1 ?_;refine qq rfl rfl (qr_index_part (k:=j+1) rfl rfl (by omega) (by rw [List.length_map];omega)) ?_
      refine qq rfl rfl (qr_load_rp_all (row:=zb3 l[p+1+j+1]) rfl (r1) rfl) ?_
      refine qq rfl rfl (zf3 (k:=kk) rfl rfl (by rw [List.length_map];omega)) ?_
      refine za2 rfl (oe_store_rp rfl rfl rfl rk rfl (Nat.le_of_ble_eq_true rfl) ?_)
      refine rn ?_;exact ⟨(j+1,kk+1,m.set kk l[p+1+j+1]),⟨by simp only;omega,by simp only;omega,by simp only [List.length_set];exact hml,drop_set hd hkk,by simp only;rw [zm,ctl_n ha hq,take_set (by omega),List.append_assoc];rfl⟩,by simp only;rw [List.map_set];exact es,by simp only;omega⟩
     ·have hq:q l[p+1+j+1] (l[p+1+j]'(by omega))=true:=by simpa using hc49
      refine rn ?_;exact ⟨(j+1,kk,m),⟨by simp only;omega,by simp only;omega,hml,drop_one hd,by simp only;rw [zm,ctl_y ha hq];rfl⟩,eA,by simp only;omega⟩
    ·have qa:l.length≤p+1+j+1:=by have q:=of_decide_eq_false hc35;omega
     refine aw_exit ?_;refine thn_e ?_;refine thn_e ?_;refine inBlk_hit ?_;refine zd8 ?_;refine zb4 (za9 ?_)
     refine q1 ?_;refine q1 ?_;refine qq rfl rfl (qr_part_l (l:=kk) rfl rfl (by rw [List.length_map];omega)) ?_
     refine za2 rfl (oe_clear_part (d:=kk) (bytes:=0) rfl (by rw [List.length_map];omega) (hk:= ?_))
     refine zd5 (zd8 ?_)
     refine zb4 (za9 ?_)
     refine q1 ?_;refine q1 ?_;refine qq rfl rfl (qr_part_h (k:=kk) rfl rfl (by simp;omega)) ?_
     refine aops_short sv.v kk (by simp;omega) ?_
     refine zc7 (partV sv.v 0 kk 7) fun s1 hs1=> ?_
     rw [hs1]
     refine rn ?_;exact retT rfl (.refl _ _) ⟨s1,by rw [List.take_left' (by simp;omega),←List.map_take,zm,ctl_end hj qa,List.append_nil],rfl⟩
   ·refine rn ?_;exact ⟨p+1,⟨by omega,by rw [zk,ctl_n hk hc28,List.take_succ_eq_append_getElem hk,List.append_assoc];rfl⟩,eA,by omega⟩
  ·have qk:l.length≤p+1:=by have q:=of_decide_eq_false hc15;rw [List.length_map] at q;omega
   refine rn ?_;exact retT rfl (.refl _ _) ⟨sv,by rw [zk,ctl_end (by omega) qk,List.append_nil,List.take_of_length_le qk],rfl⟩
theorem ixCheck (h:Hist) (la:Lim 4611686018427387904 h):za6 Tryz.prog 38 [.agg (zb0 h)] [.glob 2 156 zc1,.glob 4 305 zb6,.glob 5 308 zb2,.glob 3 246 ze0] (fun r h'=>h'= [.glob 2 156 zc1,.glob 4 305 zb6,.glob 5 308 zb2,.glob 3 246 ze0]∧r=iv (zd0 h)):=by
 refine za1 Tryz.func38 rfl rfl rfl ?_
 refine rn ?_;refine za2 rfl (zb5 rfl rfl rfl fun b1=> ?_)
 refine rn ?_;refine qv rfl rfl (za4 rfl rfl (za3.qt (za3.of_fun (check h la)) ((pt1 _ _ _).trans (.cons _ ((pt1 _ _ _).trans (.cons _ (pt1 _ _ _))))))) ?_
 refine rn ?_;refine za0 rfl (fun hc7=> ?_) (fun hc7=> ?_)
 ·have hm:¬mayB h=true:=by intro q;rw [checkE,if_pos q] at hc7;cases hc7
  have he:checkE h=210:=by rw [checkE,if_neg hm]
  refine rn ?_;refine rq 1 ?_
  exact ⟨rfl,by rw [zd0,if_neg hm,he];rfl⟩
 ·have hm:mayB h=true:=check_0.1 (by simpa using hc7)
  refine rn ?_;refine qv rfl rfl (za4 rfl rfl (za3.qt (za3.of_fun (rSound h la)) ((pt1 _ _ _).trans (.cons _ ((pt1 _ _ _).trans (.cons _ ((pt1 _ _ _).trans (.cons _ (pt1 _ _ _))))))))) ?_
  refine rn ?_;refine za0 rfl (fun hc11=> ?_) (fun hc11=> ?_)
  ·refine rn ?_;refine rq 1 ?_
   exact ⟨rfl,by rw [zd0,if_pos hm];simp_all;rfl⟩
  ·refine rn ?_;refine rq 1 ?_
   exact ⟨rfl,by rw [zd0,if_pos hm];simp_all;rfl⟩
theorem ixEvents (h:Hist) (kd:Int) (W:List Res):za6 Tryz.prog 218 [.agg (zb0 h),iv kd] W (fun r h'=>∃b1 b2,h'= .box b1 28 (zb0 h):: .box b2 3 [iv kd]::W∧r= .fn (.func 264) [] [pZ b1,pZ b2]):=by
 refine za1 Tryz.func218 rfl rfl rfl ?_
 refine rn ?_;refine za2 rfl (zb5 rfl rfl rfl fun b2=> ?_)
 refine za2 rfl (zb5 rfl rfl rfl fun b3=> ?_)
 refine rn ?_;exact retT rfl (.perm (pt1 _ _ _) _) ⟨_,_,rfl,rfl⟩
set_option maxHeartbeats 4000000 in
theorem ixEvents1 {σ:Type} (h:Hist) (la:h.evs.length≤1000000) (kd:Int) (y:AV) (b1 b2:Nat) (p q:Nat→σ→Prop) (I F:Nat→σ→List Res) (x0:σ) (hp0:p 0 x0) (hy:∀k x,(hk:k < h.evs.length)→p k x→(h.evs[k].kind==kd)=true→za3 Tryz.prog y [iv k,.agg (evR h.evs[k])] (.box b1 28 (zb0 h):: .box b2 3 [iv kd]::I k x) (fun r h'=>∃x',(r=bv true∧p (k+1) x'∧h'= .box b1 28 (zb0 h):: .box b2 3 [iv kd]::I (k+1) x')∨(r=bv false∧q k x'∧h'= .box b1 28 (zb0 h):: .box b2 3 [iv kd]::F k x'))) (hs:∀k x,(hk:k < h.evs.length)→p k x→(h.evs[k].kind==kd)=false→∃x',p (k+1) x'∧I (k+1) x'=I k x):za6 Tryz.prog 264 [y,pZ b1,pZ b2] (.box b1 28 (zb0 h):: .box b2 3 [iv kd]::I 0 x0) (fun r h'=>(∃x,p h.evs.length x∧h'=I h.evs.length x)∨∃k x,q k x∧h'=F k x):=by
 refine za1 Tryz.func264 rfl rfl rfl ?_
 refine rn ?_;refine aw_rngX h.evs.length p (fun k x=>⟨[(9,iv k),(0,y),(2,pZ b2),(7,evsA h.evs),(8,iv (h.evs.map evR).length)],.box b1 28 (zb0 h):: .box b2 3 [iv kd]::I k x,[]⟩) x0 hp0 es ?_
 intro k x lk zk
 refine rn ?_;refine za0 rfl (fun hc10=> ?_) (fun hc10=> ?_)
 ·have hk:=ltMap hc10
  have rk:=ze2 (f:=evR) hk
  refine rn ?_;refine za2 rfl (zb1 rfl fun b5=> ?_)
  refine rn ?_;refine za8 (fun hg3_4=> ?_) (fun hg3_4=> ?_)
  ·refine q1 ?_;refine q1 ?_;refine q1 ?_;refine za2 rfl (zc3 rfl rfl (za3.fr1 (hy k x hk zk (by simpa using hg3_4))) rfl ?_)
   rintro _ _ ⟨_,rfl,x',⟨rfl,hp,rfl⟩|⟨rfl,hq,rfl⟩⟩
   ·refine rn ?_;refine za0 rfl (fun hc24=> ?_) (fun hc24=> ?_)
    ·first|cases hc24|exact absurd hc24 (by decide)|(exfalso;simp_all;done)
    ·refine rn ?_;exact ⟨hk,x',hp,eA⟩
   ·refine rn ?_;refine za0 rfl (fun hc24=> ?_) (fun hc24=> ?_)
    ·refine rn ?_;exact retq .nil (.drop [_,_,_] _ _) (.inr ⟨k,x',hq,rfl⟩)
    ·first|cases hc24|exact absurd hc24 (by decide)|(exfalso;simp_all;done)
  ·refine rn ?_;refine aw_cf rfl ?_;refine rn ?_;obtain ⟨x',hp,e⟩:=hs k x hk zk (by simpa using hg3_4)
   exact ⟨hk,x',hp,by rw [e];exact eA⟩
 ·have qk:=geMap hc10 lk
  subst qk
  refine rn ?_;exact retq_n .nil (.drop [_,_] _ _) (.inl ⟨x,zk,rfl⟩)
def gatF {α:Type} (kd:Int) (x:Nat→Ev→α) (p:Nat→Ev→Bool) (k:Nat) (e:Ev):Option α:=if (e.kind==kd && p k e)=true then some (x k e) else none
theorem gatF_k {α:Type} {kd:Int} {x:Nat→Ev→α} {p:Nat→Ev→Bool} {k:Nat} {e:Ev} (h:(e.kind==kd)=false):gatF kd x p k e=none:=by rw [gatF,h];simp
theorem gatF_n {α:Type} {kd:Int} {x:Nat→Ev→α} {p:Nat→Ev→Bool} {k:Nat} {e:Ev} (h:p k e=false):gatF kd x p k e=none:=by rw [gatF,h];simp
theorem gatF_y {α:Type} {kd:Int} {x:Nat→Ev→α} {p:Nat→Ev→Bool} {k:Nat} {e:Ev} (h1:(e.kind==kd)=true) (h:p k e=true):gatF kd x p k e=some (x k e):=by rw [gatF,h1,h];simp
theorem gatK_n {α:Type} {f:Nat→Ev→Option α} {l:List Ev} {k:Nat} (h:k < l.length) (hf:f k l[k]=none):gatK f l (k+1)=gatK f l k:=by rw [gatK_s h,hf];simp
theorem gatK_y {α:Type} {f:Nat→Ev→Option α} {l:List Ev} {k:Nat} {a:α} (h:k < l.length) (hf:f k l[k]=some a):gatK f l (k+1)=gatK f l k++ [a]:=by rw [gatK_s h,hf];rfl
set_option maxHeartbeats 4000000 in
theorem ixGatI (h:Hist) (la:h.evs.length≤1000000) (kd:Int) (fv:AV) (hone:fv.cellsOf=some [fv]) (W:List Res) (x:Nat→Ev→Int) (p:Nat→Ev→Bool) (hp:∀k,(hk:k < h.evs.length)→(h.evs[k].kind==kd)=true→za3 Tryz.prog fv [iv k,.agg (evR h.evs[k])] W (fun r h'=>h'=W∧r= .tup [iv (x k h.evs[k]),bv (p k h.evs[k])])):za6 Tryz.prog 173 [.agg (zb0 h),iv kd,fv] W (fun r h'=>∃s:SV,h'= .row s.v 1 3 ((gatK (gatF kd x p) h.evs h.evs.length).map intR)::W∧r= .v s.v):=by
 refine za1 Tryz.func173 rfl rfl rfl ?_
 refine rn ?_;refine za2 rfl (zb5 rfl rfl rfl fun b3=> ?_)
 refine za2 rfl (zb5 rfl hone rfl fun b5=> ?_)
 refine rn ?_;refine za2 rfl (zb1 rfl fun b7=> ?_)
 refine rn ?_;refine za2 rfl (zc3 rfl rfl (za3.of_fun (ixEvents h kd _)) rfl ?_)
 rintro _ _ ⟨b1,b2,rfl,rfl⟩
 refine rn ?_;refine aw_ent (s':=⟨[(14,.fn (.func 264) [] [pZ b1,pZ b2]),(5,pZ b5),(7,pZ b7)],.box b1 28 (zb0 h):: .box b2 3 [iv kd]:: .box b7 29 [.v (⟨none,0,0⟩:SV).v]:: .row (⟨none,0,0⟩:SV).v 1 3 ((gatK (gatF kd x p) h.evs 0).map intR):: .box b5 216 [fv]:: .box b3 28 (zb0 h)::W,[]⟩) (zc5 (zc5 (ze5 1 3) (ent_perm ((pt1 _ _ _).trans (.cons _ ((pt1 _ _ _).trans (.cons _ (pt1 _ _ _))))))) es) ?_
 refine aw_rf (fun pend h''=>pend=none∧∃s:SV,h''= .box b7 29 [.v s.v]:: .row s.v 1 3 ((gatK (gatF kd x p) h.evs h.evs.length).map intR):: .box b5 216 [fv]:: .box b3 28 (zb0 h)::W) rfl (fun fn l q lp hlp=> ?_) (fun q h'' hK=> ?_) (fun q h'' c hK=> ?_)
 ·suffices hy:∀k (s:SV),(hk:k < h.evs.length)→True→(h.evs[k].kind==kd)=true→za3 Tryz.prog (yv l) [iv k,.agg (evR h.evs[k])] (.box b1 28 (zb0 h):: .box b2 3 [iv kd]::lp .ready none:: .defs q:: .box b7 29 [.v s.v]:: .row s.v 1 3 ((gatK (gatF kd x p) h.evs k).map intR):: .box b5 216 [fv]:: .box b3 28 (zb0 h)::W) (fun r h'=>∃s':SV,(r=bv true∧True∧h'= .box b1 28 (zb0 h):: .box b2 3 [iv kd]::lp .ready none:: .defs q:: .box b7 29 [.v s'.v]:: .row s'.v 1 3 ((gatK (gatF kd x p) h.evs (k+1)).map intR):: .box b5 216 [fv]:: .box b3 28 (zb0 h)::W)∨(r=bv false∧False∧h'= .box b1 28 (zb0 h):: .box b2 3 [iv kd]:: [])) by
   refine za6.mono (za6.perm ((pt2 _ _ _ _).trans (.cons _ (pt2 _ _ _ _))) (ixEvents1 h la kd (yv l) b1 b2 (fun _ _=>True) (fun _ _=>False) (fun k (s:SV)=>lp .ready none:: .defs q:: .box b7 29 [.v s.v]:: .row s.v 1 3 ((gatK (gatF kd x p) h.evs k).map intR):: .box b5 216 [fv]:: .box b3 28 (zb0 h)::W) (fun _ _=> []) ⟨none,0,0⟩ trivial hy (fun k s hk _ hn=>⟨s,trivial,by rw [gatK_n hk (gatF_k hn)]⟩))) ?_
   rintro _ _ (⟨s,_,rfl⟩|⟨_,_,hF,_⟩)
   ·exact ⟨none,.ready,_,.refl _,by simp,rfl,s,rfl⟩
   ·exact hF.elim
  intro k s hk _ hkd
  refine za3.perm (pt2 _ _ _ _) (za3.ventE ?_)
  refine fcall_yl2 hlp rfl rfl ?_
  refine rn ?_;refine za2 rfl (zb1 rfl fun b9=> ?_)
  refine rn ?_;refine ⟨[(8,iv k),(9,pZ b9),(5,pZ b5),(7,pZ b7)],.box b9 60 (evR h.evs[k]):: .box b1 28 (zb0 h):: .box b2 3 [iv kd]:: .defs q:: .box b7 29 [.v s.v]:: .row s.v 1 3 ((gatK (gatF kd x p) h.evs k).map intR):: .box b5 216 [fv]:: .box b3 28 (zb0 h)::W,zc5 (ent_perm (pt1 _ _ _)) es,?_⟩
  refine rn ?_;refine qv rfl rfl (za4 rfl rfl (za3.qt (h2:= [_,_,_,_,_,_,_,_,_]) (hp k hk hkd) (perm_swap [_,_,_,_,_,_,_,_,_] _))) ?_
  refine rn ?_;refine za0 rfl (fun hc24=> ?_) (fun hc24=> ?_)
  ·refine za9 ?_;refine q1 ?_;refine q1 ?_;refine q1 ?_;refine q1 ?_;refine q1 ?_;refine qq rfl rfl (qr_cut_row rfl (by rfl) (by rfl)) ?_
   refine rn ?_;refine qv rfl rfl (zc2 rfl rfl) ?_
   refine aops_cut s.v ?_
   refine za2 rfl (zb7 rfl rfl (by simp only [List.length_map,List.length_cons,List.length_nil];have:=gatK_len (gatF kd x p) h.evs k;omega) rfl (fun s33=> ?_) (one_int [x k h.evs[k]]))
   refine zc7 s33 fun sv hsv=> ?_
   subst hsv
   refine rn ?_;exact round_n (.refl _) ⟨_,_,.trans (.perm ((pt1 _ _ _).trans (.cons _ ((pt1 _ _ _).trans (.cons _ (pt1 _ _ _))))) _) (.drop [_] _ _),sv,.inl ⟨rfl,trivial,by rw [gatK_y hk (gatF_y hkd hc24),List.map_append];rfl⟩⟩
  ·refine rn ?_;exact round_n (.refl _) ⟨_,_,.trans (.perm ((pt1 _ _ _).trans (.cons _ ((pt1 _ _ _).trans (.cons _ (pt1 _ _ _))))) _) (.drop [_] _ _),s,.inl ⟨rfl,trivial,by rw [gatK_n hk (gatF_n hc24)]⟩⟩
 ·obtain ⟨_,s,rfl⟩:=hK
  refine rn ?_;exact retqd (.refl _) (.cons _ _ _ _ (.tmp _ _ rfl) .nil) (.trans (.drop1 _ _ _) (.trans (.perm (pt1 _ _ _) _) (.trans (.drop [_] _ _) (.trans (.perm (pt1 _ _ _) _) (.drop [_] _ _))))) ⟨s,rfl,rfl⟩
 ·obtain ⟨hc,_⟩:=hK
  exact absurd hc (by simp)
theorem ixTellO (k s:Int) (e:Ev) (b2 b3 rm:Nat) (M:List (Int×Bool)):za6 Tryz.prog 209 [iv k,.agg (evR e),pZ b2,pZ b3] [.box b2 3 [iv s],.box b3 115 [mpv rm],.map rm (encM intK (mapA bv M))] (fun r h'=>h'= [.box b2 3 [iv s],.box b3 115 [mpv rm],.map rm (encM intK (mapA bv M))]∧r= .tup [iv e.t,bv (e.o==s && (getT e.t M).getD false)]):=by
 refine za1 Tryz.func209 rfl rfl rfl ?_
 refine rn ?_;refine za2 rfl (zb5 rfl rfl rfl fun b5=> ?_)
 refine rn ?_;refine zd2 13 rfl ?_
 refine rn ?_;refine dsplit (fun hg1_6=> ?_) (fun hg1_6=> ?_)
 ·refine dq rfl rfl qrA ?_;refine dq rfl rfl qrA ?_;refine dq rfl rfl qrA ?_;refine dq rfl rfl (qr_lookT (enc:=intK) (k:=e.t) false rfl rfl) ?_
  refine rn ?_;refine rq 1 ?_
  exact ⟨rfl,by rw [hg1_6];rfl⟩
 ·refine rn ?_;refine rq 1 ?_
  exact ⟨rfl,by rw [hg1_6];rfl⟩
theorem ixIsO (x:Int) (s:Ord) (b1:Nat):za6 Tryz.prog 207 [.agg (ordR s),pZ b1] [.box b1 3 [iv x]] (fun r h'=>h'= [.box b1 3 [iv x]]∧r=bv (s.o==x)):=by
 refine za1 Tryz.func207 rfl rfl rfl ?_
 refine rn ?_;refine za2 rfl (zb5 rfl rfl rfl fun b2=> ?_)
 refine rn ?_;refine rq 1 ?_
 exact ⟨rfl,rfl⟩
set_option maxHeartbeats 4000000 in
theorem ixEnded (h:Hist) (la:h.evs.length≤1000000) (W:List Res):za6 Tryz.prog 208 [.agg (zb0 h)] W (fun r h'=>∃rm,h'= .map rm (encM intK (mapA bv (endM h.evs)))::W∧r=mpv rm):=by
 refine za1 Tryz.func208 rfl rfl rfl ?_
 refine rn ?_;refine za2 rfl (zb5 rfl rfl rfl fun b1=> ?_)
 refine rn ?_;refine za2 rfl (oe_makeMap (enc:=intK) rfl fun b6=> ?_)
 refine za2 rfl (zb1 rfl fun b3=> ?_)
 refine rn ?_;refine za2 rfl (zc3 rfl rfl (za3.of_fun (ixEvents h 5 _)) rfl ?_)
 rintro _ _ ⟨e1,e2,rfl,rfl⟩
 refine rn ?_;refine aw_ent (s':=⟨[(8,.fn (.func 264) [] [pZ e1,pZ e2]),(3,pZ b3)],.box e1 28 (zb0 h):: .box e2 3 [iv 5]:: .box b3 115 [mpv b6]:: .map b6 (encM intK (mapA bv (endM (h.evs.take 0)))):: .box b1 28 (zb0 h)::W,[]⟩) es ?_
 refine aw_rf (fun pend h''=>pend=none∧h''= .box b3 115 [mpv b6]:: .map b6 (encM intK (mapA bv (endM (h.evs.take h.evs.length)))):: .box b1 28 (zb0 h)::W) rfl (fun fn l q lp hlp=> ?_) (fun q h'' hK=> ?_) (fun q h'' c hK=> ?_)
 ·suffices hy:∀k (x:Unit),(hk:k < h.evs.length)→True→(h.evs[k].kind==5)=true→za3 Tryz.prog (yv l) [iv k,.agg (evR h.evs[k])] (.box e1 28 (zb0 h):: .box e2 3 [iv 5]::lp .ready none:: .defs q:: .box b3 115 [mpv b6]:: .map b6 (encM intK (mapA bv (endM (h.evs.take k)))):: .box b1 28 (zb0 h)::W) (fun r h'=>∃x':Unit,(r=bv true∧True∧h'= .box e1 28 (zb0 h):: .box e2 3 [iv 5]::lp .ready none:: .defs q:: .box b3 115 [mpv b6]:: .map b6 (encM intK (mapA bv (endM (h.evs.take (k+1))))):: .box b1 28 (zb0 h)::W)∨(r=bv false∧False∧h'= .box e1 28 (zb0 h):: .box e2 3 [iv 5]:: [])) by
   refine za6.mono (za6.perm ((pt2 _ _ _ _).trans (.cons _ (pt2 _ _ _ _))) (ixEvents1 h la 5 (yv l) e1 e2 (fun _ _=>True) (fun _ _=>False) (fun k (_:Unit)=>lp .ready none:: .defs q:: .box b3 115 [mpv b6]:: .map b6 (encM intK (mapA bv (endM (h.evs.take k)))):: .box b1 28 (zb0 h)::W) (fun _ _=> []) () trivial hy (fun k s hk _ hn=>⟨s,trivial,by rw [endM_n hk hn]⟩))) ?_
   rintro _ _ (⟨s,_,rfl⟩|⟨_,_,hF,_⟩)
   ·exact ⟨none,.ready,_,.refl _,by simp,rfl,rfl⟩
   ·exact hF.elim
  intro k s hk _ hkd
  refine za3.perm (pt2 _ _ _ _) (za3.ventE ?_)
  refine fcall_yl2 hlp rfl rfl ?_
  refine rn ?_;refine za2 rfl (zb1 rfl fun b5=> ?_)
  refine rn ?_;refine ⟨[(5,pZ b5),(3,pZ b3)],.box b5 60 (evR h.evs[k]):: .box e1 28 (zb0 h):: .box e2 3 [iv 5]:: .defs q:: .box b3 115 [mpv b6]:: .map b6 (encM intK (mapA bv (endM (h.evs.take k)))):: .box b1 28 (zb0 h)::W,zc5 (ent_perm (pt1 _ _ _)) es,?_⟩
  refine rn ?_;refine za2 rfl (oe_mapUpdT (g:=bv) (enc:=intK) (k:=h.evs[k].t) (v:=true) rfl rfl rfl ?_)
  refine rn ?_;exact round_n (.refl _) ⟨_,_,.trans (.perm ((pt1 _ _ _).trans (.cons _ ((pt1 _ _ _).trans (.cons _ (pt1 _ _ _))))) _) (.drop [_] _ _),(),.inl ⟨rfl,trivial,by rw [endM_y hk hkd]⟩⟩
 ·obtain ⟨_,rfl⟩:=hK
  refine rn ?_;exact retqd (.refl _) (.cons _ _ _ _ (.tmp _ _ rfl) .nil) (.trans (.drop1 _ _ _) (.trans (.perm (pt1 _ _ _) _) (.drop [_] _ _))) ⟨b6,by rw [List.take_length],rfl⟩
 ·obtain ⟨hc,_⟩:=hK
  exact absurd hc (by simp)
theorem ask_no {h:Hist} {n many:Int} (he:askE h n many≠0) (X:List Int):(onE (askE h n many) X).map intR= []:=by rw [onE,if_neg he];rfl
theorem gat_all {α:Type} (kd:Int) (g:Ev→α) (q:Ev→Bool) (l:List Ev):gatK (gatF kd (fun _ e=>g e) (fun _ e=>q e)) l l.length=(l.filter fun e=>e.kind==kd && q e).map g:=gatK_all (fun _ _=>rfl) l
theorem ixAskI (h:Hist) (la:Lim 4611686018427387904 h) (n many:Int) (fv:AV) (hone:fv.cellsOf=some [fv]) (X:List Int) (W:List Res) (hp:askE h n many=0→za3 Tryz.prog fv [] (.glob 2 156 zc1:: .glob 4 305 zb6:: .glob 5 308 zb2:: .glob 3 246 ze0::W) (fun r h'=>∃s:SV,h'= .row s.v 1 3 (X.map intR):: .glob 2 156 zc1:: .glob 4 305 zb6:: .glob 5 308 zb2:: .glob 3 246 ze0::W∧r= .v s.v)):za6 Tryz.prog 150 [.agg (zb0 h),iv n,iv many,fv] (.glob 2 156 zc1:: .glob 4 305 zb6:: .glob 5 308 zb2:: .glob 3 246 ze0::W) (fun r h'=>∃s:SV,h'= .row s.v 1 3 ((onE (askE h n many) X).map intR):: .glob 2 156 zc1:: .glob 4 305 zb6:: .glob 5 308 zb2:: .glob 3 246 ze0::W∧r= .tup [.v s.v,iv (askE h n many)]):=by
 refine za1 Tryz.func150 rfl rfl rfl ?_
 refine rn ?_;refine za2 rfl (zb5 rfl rfl rfl fun b4=> ?_)
 refine rn ?_;refine qv rfl rfl (za4 rfl rfl (za3.qt (za3.of_fun (ixCheck h la)) ((pt1 _ _ _).trans (.cons _ ((pt1 _ _ _).trans (.cons _ ((pt1 _ _ _).trans (.cons _ (pt1 _ _ _))))))))) ?_
 refine rn ?_;refine za0 rfl (fun hc15=> ?_) (fun hc15=> ?_)
 ·have hc:zd0 h≠0:=by simpa using hc15
  refine rn ?_;exact retU rfl rfl (.trans (.drop [_] _ _) (vent_nilrow 1 3 _)) ⟨⟨none,0,0⟩,by rw [ask_no (by rw [ask_c hc];exact hc)];rfl,by rw [ask_c hc];rfl⟩
 ·have hc:zd0 h=0:=by simpa using hc15
  refine rn ?_;refine za8 (fun hg5_2=> ?_) (fun hg5_2=> ?_)
  ·refine rn ?_;refine aw_ct rfl ?_;have hn:¬(0≤n∧n < many):=by first|(have q:=of_decide_eq_true hg5_2;omega)|(have q:=of_decide_eq_true hc24;omega)
   refine rn ?_;exact retU rfl rfl (.trans (.drop [_] _ _) (vent_nilrow 1 3 _)) ⟨⟨none,0,0⟩,by rw [ask_no (by rw [ask_a hc hn];decide)];rfl,by rw [ask_a hc hn];rfl⟩
  ·refine rn ?_;refine za0 rfl (fun hc24=> ?_) (fun hc24=> ?_)
   ·have hn:¬(0≤n∧n < many):=by first|(have q:=of_decide_eq_true hg5_2;omega)|(have q:=of_decide_eq_true hc24;omega)
    refine rn ?_;exact retU rfl rfl (.trans (.drop [_] _ _) (vent_nilrow 1 3 _)) ⟨⟨none,0,0⟩,by rw [ask_no (by rw [ask_a hc hn];decide)];rfl,by rw [ask_a hc hn];rfl⟩
   ·have hn:0≤n∧n < many:=by have q:=of_decide_eq_false hg5_2;have q':=of_decide_eq_false hc24;omega
    refine rn ?_;refine za2 rfl (zc3 rfl rfl (za3.fr1 (hp (ask_y hc hn))) rfl ?_)
    rintro _ _ ⟨_,rfl,s,rfl,rfl⟩
    refine rn ?_;exact retU rfl rfl (.drop [_] _ _) ⟨s,by rw [ask_y hc hn];rfl,by rw [ask_y hc hn];rfl⟩
theorem qr_index_rowI {P:Program} {h:List Res} {f:Operand→Option AV} {dst:Option Tmp} {ty:TypeId} {pos:String} {after:Array Edge} {guard:Option (Nat×Bool)} {x y:Operand} {T E:TypeId} {s:Value} {sz i:Nat} {k:Int} {E':TypeId} {rows:List (List AV)} (hx:f x=some (.v s)) (hy:f y=some (.v (.int .i64 k))) [hr:HasRow h s i sz E' rows] [Und P T (.slice E)] [Siz P E sz] (h0:0≤k) (hk:k.toNat < rows.length):
 QR P h f ⟨dst,.indexAddr T x y,ty,pos,after,guard⟩ (.rp s sz k.toNat 0):=zf3 hx (by rw [Int.toNat_of_nonneg h0];exact hy) hk
theorem ask_lim {h:Hist} {n many:Int} (he:askE h n many=0):Lim 3000 h:=may3000 (sound_may (ask_0 he).1).1
theorem chk_lim {h:Hist} (he:zd0 h=0):Lim 3000 h:=may3000 (sound_may (checkI_0.1 he)).1
theorem ins_gat (l:List Ev) (x:Int):gatK (gatF 2 (fun _ e=>e.t) (fun _ e=>e.o==x && (getT e.t (endM l)).getD false)) l l.length=insL l x:=by
 rw [gat_all 2 Ev.t (fun e=>e.o==x && (getT e.t (endM l)).getD false),insL];simp only [endM_get]
theorem ord_at {h:Hist} {x:Int} (hc:decide (fidx (fun o:Ord=>o.o==x) 0 h.ords ≥ 0)=true):∃k,∃hk:k < h.ords.length,fidx (fun o:Ord=>o.o==x) 0 h.ords=(k:Int)∧insP h x=h.ords[k].ts:=by
 have:=fidx_find (fun o:Ord=>o.o==x) h.ords 0
 cases hf:h.ords.find? (fun o=>o.o==x) with
 |none=>rw [hf] at this;simp only at this;rw [this] at hc;exact absurd hc (by decide)
 | some o=>
   rw [hf] at this
   obtain ⟨k,hk,e,eo,_⟩:=this
   exact ⟨k,hk,by rw [e,Nat.zero_add],by rw [insP,hf,eo]⟩
theorem ord_no {h:Hist} {x:Int} (hc:decide (fidx (fun o:Ord=>o.o==x) 0 h.ords ≥ 0)=false):insP h x=cmpct (insL h.evs x):=by
 have:=fidx_find (fun o:Ord=>o.o==x) h.ords 0
 cases hf:h.ords.find? (fun o=>o.o==x) with
 |none=>rw [insP,hf]
 | some o=>
   rw [hf] at this
   obtain ⟨k,hk,e,eo,_⟩:=this
   rw [e] at hc
   have:=of_decide_eq_false hc
   omega
set_option maxHeartbeats 4000000 in
theorem ixInsR (h:Hist) (la:Lim 3000 h) (x:Int) (W:List Res):za6 Tryz.prog 152 [.agg (zb0 h),iv x] W (fun r h'=>∃s:SV,h'= .row s.v 1 3 ((insP h x).map intR)::W∧r= .v s.v):=by
 refine za1 Tryz.func152 rfl rfl rfl ?_
 have le:h.evs.length≤1000000:=Nat.le_trans la.evs (by decide)
 have lo:=la.ords
 refine rn ?_;refine za2 rfl (zb5 rfl rfl rfl fun b2=> ?_)
 refine za2 rfl (zb5 rfl rfl rfl fun b3=> ?_)
 refine rn ?_;refine qv rfl rfl (za4 rfl rfl (za3.of_fun (indexFuncOrd h.ords _ (fun o:Ord=>o.o==x) _ (fun a _=>za3.qt (za3.of_acall (fs:= []) (cs:= [pZ b3]) (ixIsO x a b3)) (.refl _)) (Nat.le_trans la.ords (by decide))))) ?_
 refine rn ?_;refine za0 rfl (fun hc13=> ?_) (fun hc13=> ?_)
 ·obtain ⟨k,hk,ek,hx⟩:=ord_at hc13
  have rk:=ze2 (f:=ordR) hk
  rw [ek]
  refine rn ?_;refine za2 rfl (zc3 rfl rfl (za3.fr (za3.rowS (za3.of_fun (cloneRowInt (h.ords[k].ts.map intR) (by rw [List.length_map];exact Nat.le_trans (la.ordts h.ords[k] (List.getElem_mem hk)) (by decide)) (one_int _)))) (.refl _)) rfl ?_)
  rintro _ _ ⟨_,rfl,s,rfl,rfl⟩
  refine rn ?_;exact retT rfl (.trans (.perm ((pt1 _ _ _).trans (.cons _ (pt1 _ _ _))) _) (.drop [_,_] _ _)) ⟨s,by rw [hx],rfl⟩
 ·have hx:=ord_no hc13
  refine rn ?_;refine za2 rfl (zc3 rfl rfl (za3.of_fun (ixEnded h le _)) rfl ?_)
  rintro _ _ ⟨rm,rfl,rfl⟩
  refine za2 rfl (zb1 rfl fun b6=> ?_)
  refine rn ?_;refine za2 rfl (zc3 rfl rfl (za3.of_fun (ixGatI h le 2 _ rfl _ (fun _ e=>e.t) (fun _ e=>e.o==x && (getT e.t (endM h.evs)).getD false) (fun k hk _=>za3.qt (za3.of_acall (fs:= []) (cs:= [pZ b3,pZ b6]) (ixTellO k x h.evs[k] b3 b6 rm (endM h.evs))) (pt2 _ _ _ _)))) rfl ?_)
  rintro _ _ ⟨s,rfl,rfl⟩
  refine rn ?_;refine za2 rfl (zc3 rfl rfl (zf8 (za3.of_fun (compI s _ (by have:=(gatK_len (gatF 2 (fun _ e=>e.t) (fun _ e=>e.o==x && (getT e.t (endM h.evs)).getD false)) h.evs h.evs.length);omega)))) rfl ?_)
  rintro _ _ ⟨s',rfl,rfl⟩
  refine rn ?_;exact retT rfl (.trans (.perm ((pt1 _ _ _).trans (.cons _ ((pt1 _ _ _).trans (.cons _ ((pt1 _ _ _).trans (.cons _ (pt1 _ _ _))))))) _) (.drop [_,_,_,_] _ _)) ⟨s',by rw [hx,ins_gat],rfl⟩
theorem ixInsS (h:Hist) (la:Lim 3000 h) (x:Int) (b2 b3:Nat):za6 Tryz.prog 151 [pZ b2,pZ b3] (.glob 2 156 zc1:: .glob 4 305 zb6:: .glob 5 308 zb2:: .glob 3 246 ze0:: .box b2 28 (zb0 h):: .box b3 3 [iv x]:: []) (fun r h'=>∃s:SV,h'= .row s.v 1 3 ((insP h x).map intR):: .glob 2 156 zc1:: .glob 4 305 zb6:: .glob 5 308 zb2:: .glob 3 246 ze0:: .box b2 28 (zb0 h):: .box b3 3 [iv x]:: []∧r= .v s.v):=by
 refine za1 Tryz.func151 rfl rfl rfl ?_
 refine rn ?_;refine za2 rfl (zc3 rfl rfl (za3.of_fun (ixInsR h la x _)) rfl ?_)
 rintro _ _ ⟨s,rfl,rfl⟩
 refine rn ?_;exact retT rfl (.refl _ _) ⟨s,rfl,rfl⟩
set_option maxHeartbeats 4000000 in
theorem ixInstR (h:Hist) (la:Lim 4611686018427387904 h) (x:Int):za6 Tryz.prog 101 [.agg (zb0 h),iv x] (.glob 2 156 zc1:: .glob 4 305 zb6:: .glob 5 308 zb2:: .glob 3 246 ze0:: []) (fun r h'=>∃s:SV,h'= .row s.v 1 3 ((onE (askE h x h.os.length) (insP h x)).map intR):: .glob 2 156 zc1:: .glob 4 305 zb6:: .glob 5 308 zb2:: .glob 3 246 ze0:: []∧r= .tup [.v s.v,iv (askE h x h.os.length)]):=by
 refine za1 Tryz.func101 rfl rfl rfl ?_
 refine rn ?_;refine za2 rfl (zb5 rfl rfl rfl fun b2=> ?_)
 refine za2 rfl (zb5 rfl rfl rfl fun b3=> ?_)
 refine rn ?_;refine za2 rfl (zc3 rfl rfl (za3.perm ((pt2 _ _ _ _).trans (.cons _ ((pt2 _ _ _ _).trans (.cons _ ((pt2 _ _ _ _).trans (.cons _ ((pt2 _ _ _ _).trans (.cons _ (pt1 _ _ _))))))))) (za3.of_fun (ixAskI h la x (h.os.map strR).length (.fn (.func 151) [] [pZ b2,pZ b3]) rfl (insP h x) [.box b2 28 (zb0 h),.box b3 3 [iv x]] (fun he=>za3.of_acall (fs:= []) (cs:= [pZ b2,pZ b3]) (ixInsS h (ask_lim he) x b2 b3))))) rfl ?_)
 rintro _ _ ⟨s,rfl,rfl⟩
 refine rn ?_;exact retU rfl rfl (.trans (.perm ((pt5 _ _ _ _ _ _ _).trans (.cons _ (pt5 _ _ _ _ _ _ _))) _) (.drop [_,_] _ _)) ⟨s,by simp only [List.length_map],by simp only [List.length_map];rfl⟩
theorem ixInst (h:Hist) (la:Lim 4611686018427387904 h) (x:Int):za6 Tryz.prog 101 [.agg (zb0 h),iv x] (.glob 2 156 zc1:: .glob 4 305 zb6:: .glob 5 308 zb2:: .glob 3 246 ze0:: []) (fun r h'=>h'= .glob 2 156 zc1:: .glob 4 305 zb6:: .glob 5 308 zb2:: .glob 3 246 ze0:: []∧r= .tup [zf0 (onE (askE h x h.os.length) (insP h x)),iv (askE h x h.os.length)]):=
 (ixInstR h la x).ventR (by rintro _ _ ⟨s,rfl,rfl⟩;exact ⟨_,_,vent_freeze_tup [] [_],rfl,rfl⟩)
end Go.Proofs
namespace Go.Ab
open Go
section
variable {P:Program} {ro:Option Nat} {nt:Nat} {c:Code} {Q:Exit→St→Prop} {t:Fr} {h:List Res} {ds:List Nat}
theorem aw_rngS {σ:Type} (n:Nat) (p:Nat→σ→Prop) (v:Nat→σ→Fr) (cs:Fr) (x0:σ) (hp:p 0 x0)
 (round:∀k x,k≤n→p k x→aw P ro nt c (thn (fun s'=>k < n∧∃x',p (k+1) x'∧Ent nt s' ⟨v (k+1) x'++cs,h,ds⟩) Q) ⟨v k x++cs,h,ds⟩)
 (hs:SubF t (v 0 x0++cs):=by repeat (first|exact .nil|refine .cons _ _ _ rfl ?_)):aw P ro nt (.loop c) Q ⟨t,h,ds⟩:=
 zd4 (fun x:Nat×σ=>x.1≤n∧p x.1 x.2) (fun x=>⟨v x.1 x.2++cs,h,ds⟩) (fun x=>n - x.1) (0,x0) ⟨Nat.zero_le _,hp⟩ (zb8 hs) fun x hk=>aw_mono (fun e s' hq=>by
  cases e with
  | normal=>
    obtain ⟨h1,x',h2,h3⟩:=hq
    exact ⟨(x.1+1,x'),⟨h1,h2⟩,h3,by simp only;omega⟩
  |_=>exact hq) (round x.1 x.2 hk.1 hk.2)
end
end Go.Ab
set_option maxRecDepth 10000
namespace Go.Proofs
open Go Go.Ab
attribute [local irreducible] QR QV OE aops aw dsoup dsoupM dalloc zf9 thn inBlk
open Go.H
theorem refScan {f g:Bool} (l m:List Seen) (hl:l.length≤4611686018427387904) (hm:m.length≤4611686018427387904):za6 Tryz.prog 130 [.list f 3 (l.map ze9),.list g 3 (m.map ze9)] [] (fun r h'=>h'= []∧r=bv (eqF seenEq l m)):=by
 refine za1 Tryz.func130 rfl rfl rfl ?_
 refine rn ?_;refine za0 rfl (fun hc10=> ?_) (fun hc10=> ?_)
 ·refine rn ?_;have hne:(l.length==m.length)=false:=beq_eq_false_iff_ne.2 fun q=>by simp [q] at hc10
  exact retT rfl (.refl _ _) ⟨rfl,by rw [eqF,hne,Bool.false_and];rfl⟩
 ·have hlm:l.length=m.length:=by simp at hc10;omega
  refine rn ?_;refine zd4 (fun k:Nat=>k≤l.length∧zall seenEq l m=zall seenEq (l.drop k) (m.drop k)) (fun k=>⟨[(13,iv k),(12,iv (l.map ze9).length),(0,.list f 3 (l.map ze9)),(1,.list g 3 (m.map ze9))],[],[]⟩) (fun k=>l.length - k) 0 ⟨Nat.zero_le _,by simp⟩
   (zb8 (.cons _ _ _ rfl (.cons _ _ _ rfl (.cons _ _ _ rfl (.cons _ _ _ rfl (.nil)))))) ?_
  rintro k ⟨hk,hz⟩
  refine rn ?_;refine za0 rfl (fun hc14=> ?_) (fun hc14=> ?_)
  ·have hk2:k < l.length:=by simpa using hc14
   have hk3:k < m.length:=by omega
   have hrow1:(l.map ze9)[k]? =some (ze9 l[k]):=by simp [hk2]
   have hrow2:(m.map ze9)[k]? =some (ze9 m[k]):=by simp [hk3]
   have hd1:=List.drop_eq_getElem_cons hk2
   have hd2:=List.drop_eq_getElem_cons hk3
   refine rn ?_;refine zd2 8 rfl ?_
   refine rn ?_;refine za0 rfl (fun hc24=> ?_) (fun hc24=> ?_)
   ·refine rn ?_;exact retT rfl (.refl _ _) ⟨rfl,by rw [eqF,hz,hd1,hd2,zall,show seenEq l[k] m[k]=false from not_t hc24,Bool.false_and,Bool.and_false];rfl⟩
   ·refine rn ?_;exact ⟨k+1,⟨by omega,by rw [hz,hd1,hd2,zall,show seenEq l[k] m[k]=true from not_f hc24,Bool.true_and]⟩,(zb8 (.cons _ _ _ rfl (.cons _ _ _ rfl (.cons _ _ _ rfl (.cons _ _ _ rfl (.nil)))))),by omega⟩
  ·have hk3:k=l.length:=by
    have:l.length≤k:=by simpa using hc14
    omega
   refine rn ?_;exact retT rfl (.refl _ _) ⟨rfl,by rw [eqF,hz,hk3,List.drop_length,zall_nil,hlm,beq_self_eq_true];rfl⟩
theorem refNames {f g:Bool} (l m:List ByteArray) (hl:l.length≤4611686018427387904) (hm:m.length≤4611686018427387904):za6 Tryz.prog 78 [.list f 1 (l.map strR),.list g 1 (m.map strR)] [] (fun r h'=>h'= []∧r=bv (eqF strEq l m)):=by
 refine za1 Tryz.func78 rfl rfl rfl ?_
 refine rn ?_;refine za0 rfl (fun hc10=> ?_) (fun hc10=> ?_)
 ·refine rn ?_;have hne:(l.length==m.length)=false:=beq_eq_false_iff_ne.2 fun q=>by simp [q] at hc10
  exact retT rfl (.refl _ _) ⟨rfl,by rw [eqF,hne,Bool.false_and];rfl⟩
 ·have hlm:l.length=m.length:=by simp at hc10;omega
  refine rn ?_;refine zd4 (fun k:Nat=>k≤l.length∧zall strEq l m=zall strEq (l.drop k) (m.drop k)) (fun k=>⟨[(13,iv k),(12,iv (l.map strR).length),(0,.list f 1 (l.map strR)),(1,.list g 1 (m.map strR))],[],[]⟩) (fun k=>l.length - k) 0 ⟨Nat.zero_le _,by simp⟩
   (zb8 (.cons _ _ _ rfl (.cons _ _ _ rfl (.cons _ _ _ rfl (.cons _ _ _ rfl (.nil)))))) ?_
  rintro k ⟨hk,hz⟩
  refine rn ?_;refine za0 rfl (fun hc14=> ?_) (fun hc14=> ?_)
  ·have hk2:k < l.length:=by simpa using hc14
   have hk3:k < m.length:=by omega
   have hrow1:(l.map strR)[k]? =some (strR l[k]):=by simp [hk2]
   have hrow2:(m.map strR)[k]? =some (strR m[k]):=by simp [hk3]
   have hd1:=List.drop_eq_getElem_cons hk2
   have hd2:=List.drop_eq_getElem_cons hk3
   refine rn ?_;refine zd2 8 rfl ?_
   refine rn ?_;refine za0 rfl (fun hc24=> ?_) (fun hc24=> ?_)
   ·refine rn ?_;exact retT rfl (.refl _ _) ⟨rfl,by rw [eqF,hz,hd1,hd2,zall,show strEq l[k] m[k]=false from not_t hc24,Bool.false_and,Bool.and_false];rfl⟩
   ·refine rn ?_;exact ⟨k+1,⟨by omega,by rw [hz,hd1,hd2,zall,show strEq l[k] m[k]=true from not_f hc24,Bool.true_and]⟩,(zb8 (.cons _ _ _ rfl (.cons _ _ _ rfl (.cons _ _ _ rfl (.cons _ _ _ rfl (.nil)))))),by omega⟩
  ·have hk3:k=l.length:=by
    have:l.length≤k:=by simpa using hc14
    omega
   refine rn ?_;exact retT rfl (.refl _ _) ⟨rfl,by rw [eqF,hz,hk3,List.drop_length,zall_nil,hlm,beq_self_eq_true];rfl⟩
theorem refNumbers {f g:Bool} (l m:List Int) (hl:l.length≤4611686018427387904) (hm:m.length≤4611686018427387904):za6 Tryz.prog 80 [.list f 1 (l.map intR),.list g 1 (m.map intR)] [] (fun r h'=>h'= []∧r=bv (eqF intEq l m)):=by
 refine za1 Tryz.func80 rfl rfl rfl ?_
 refine rn ?_;refine za0 rfl (fun hc10=> ?_) (fun hc10=> ?_)
 ·refine rn ?_;have hne:(l.length==m.length)=false:=beq_eq_false_iff_ne.2 fun q=>by simp [q] at hc10
  exact retT rfl (.refl _ _) ⟨rfl,by rw [eqF,hne,Bool.false_and];rfl⟩
 ·have hlm:l.length=m.length:=by simp at hc10;omega
  refine rn ?_;refine zd4 (fun k:Nat=>k≤l.length∧zall intEq l m=zall intEq (l.drop k) (m.drop k)) (fun k=>⟨[(13,iv k),(12,iv (l.map intR).length),(0,.list f 1 (l.map intR)),(1,.list g 1 (m.map intR))],[],[]⟩) (fun k=>l.length - k) 0 ⟨Nat.zero_le _,by simp⟩
   (zb8 (.cons _ _ _ rfl (.cons _ _ _ rfl (.cons _ _ _ rfl (.cons _ _ _ rfl (.nil)))))) ?_
  rintro k ⟨hk,hz⟩
  refine rn ?_;refine za0 rfl (fun hc14=> ?_) (fun hc14=> ?_)
  ·have hk2:k < l.length:=by simpa using hc14
   have hk3:k < m.length:=by omega
   have hrow1:(l.map intR)[k]? =some (intR l[k]):=by simp [hk2]
   have hrow2:(m.map intR)[k]? =some (intR m[k]):=by simp [hk3]
   have hd1:=List.drop_eq_getElem_cons hk2
   have hd2:=List.drop_eq_getElem_cons hk3
   refine rn ?_;refine zd2 8 rfl ?_
   refine rn ?_;refine za0 rfl (fun hc24=> ?_) (fun hc24=> ?_)
   ·refine rn ?_;exact retT rfl (.refl _ _) ⟨rfl,by rw [eqF,hz,hd1,hd2,zall,show intEq l[k] m[k]=false from not_t hc24,Bool.false_and,Bool.and_false];rfl⟩
   ·refine rn ?_;exact ⟨k+1,⟨by omega,by rw [hz,hd1,hd2,zall,show intEq l[k] m[k]=true from not_f hc24,Bool.true_and]⟩,(zb8 (.cons _ _ _ rfl (.cons _ _ _ rfl (.cons _ _ _ rfl (.cons _ _ _ rfl (.nil)))))),by omega⟩
  ·have hk3:k=l.length:=by
    have:l.length≤k:=by simpa using hc14
    omega
   refine rn ?_;exact retT rfl (.refl _ _) ⟨rfl,by rw [eqF,hz,hk3,List.drop_length,zall_nil,hlm,beq_self_eq_true];rfl⟩
theorem refIs (n m:Int):za6 Tryz.prog 21 [iv n,iv m] [] (fun r h'=>h'= []∧r=bv (isB n m)):=by
 refine za1 Tryz.func21 rfl rfl rfl ?_
 refine rn ?_;refine za8 (fun hg1_2=> ?_) (fun hg1_2=> ?_)
 ·refine rn ?_;exact retT rfl (.refl _ _) ⟨rfl,congrArg bv (by first|(simp only [isB, *,Bool.true_and,Bool.false_and,Bool.and_false,Bool.and_true,Bool.true_or,Bool.or_false,Bool.false_or,Bool.or_true,if_true,if_false,Bool.false_eq_true,Bool.not_true,Bool.not_false];done)|(simp_all [isB];done)|(simp_all [isB] <;> omega))⟩
 ·refine rn ?_;exact retT rfl (.refl _ _) ⟨rfl,congrArg bv (by first|(simp only [isB, *,Bool.true_and,Bool.false_and,Bool.and_false,Bool.and_true,Bool.true_or,Bool.or_false,Bool.false_or,Bool.or_true,if_true,if_false,Bool.false_eq_true,Bool.not_true,Bool.not_false];done)|(simp_all [isB];done)|(simp_all [isB] <;> omega))⟩
theorem bvz0_6375 {a b:Bool} (h:a=b:=by first|(simp only [rightVer, *,Bool.true_and,Bool.false_and,Bool.and_false,Bool.and_true,Bool.true_or,Bool.or_false,Bool.false_or,Bool.or_true,if_true,if_false,Bool.false_eq_true,Bool.not_true,Bool.not_false];done)|(simp_all [rightVer];done)|(simp_all [rightVer] <;> omega)):bv a=bv b:=congrArg bv h
theorem refVersion (v:Ver) (m:Int):za6 Tryz.prog 216 [.agg (verR v),iv m] [] (fun r h'=>h'= []∧r=bv (rightVer v m)):=by
 refine za1 Tryz.func216 rfl rfl rfl ?_
 refine rn ?_;refine za2 rfl (zb5 rfl rfl rfl fun b2=> ?_)
 refine rn ?_;refine za8 (fun hg1_3=> ?_) (fun hg1_3=> ?_)
 ·refine rn ?_;exact retT rfl (.drop [_] _ _) ⟨rfl,bvz0_6375⟩
 ·refine rn ?_;refine qv rfl rfl (za4 rfl rfl (zc0 (refIs _ _) (Sbs.refl _))) ?_
  refine rn ?_;refine za8 (fun hg1_8=> ?_) (fun hg1_8=> ?_)
  ·refine rn ?_;refine za8 (fun hg1_13=> ?_) (fun hg1_13=> ?_)
   ·refine rn ?_;exact retT rfl (.drop [_] _ _) ⟨rfl,bvz0_6375⟩
   ·refine rn ?_;exact retT rfl (.drop [_] _ _) ⟨rfl,bvz0_6375⟩
  ·refine rn ?_;exact retT rfl (.drop [_] _ _) ⟨rfl,bvz0_6375⟩
theorem bvz1_2536 {a b:Bool} (h:a=b:=by first|(simp only [evEq, *,Bool.true_and,Bool.false_and,Bool.and_false,Bool.and_true,Bool.true_or,Bool.or_false,Bool.false_or,Bool.or_true,if_true,if_false,Bool.false_eq_true,Bool.not_true,Bool.not_false];done)|(simp_all [evEq];done)|(simp_all [evEq] <;> omega)):bv a=bv b:=congrArg bv h
theorem refEvent (a b:Ev) (ha:a.scan.length≤4611686018427387904) (hb:b.scan.length≤4611686018427387904):za6 Tryz.prog 79 [.agg (evR a),.agg (evR b)] [] (fun r h'=>h'= []∧r=bv (evEq a b)):=by
 refine za1 Tryz.func79 rfl rfl rfl ?_
 refine rn ?_;refine za2 rfl (zb5 rfl rfl rfl fun b2=> ?_)
 refine za2 rfl (zb5 rfl rfl rfl fun b3=> ?_)
 refine rn ?_;refine za8 (fun hg1_5=> ?_) (fun hg1_5=> ?_)
 ·refine rn ?_;refine za8 (fun hg1_12=> ?_) (fun hg1_12=> ?_)
  ·refine rn ?_;refine za8 (fun hg1_19=> ?_) (fun hg1_19=> ?_)
   ·refine rn ?_;refine za8 (fun hg1_26=> ?_) (fun hg1_26=> ?_)
    ·refine rn ?_;refine za8 (fun hg1_33=> ?_) (fun hg1_33=> ?_)
     ·refine rn ?_;refine za8 (fun hg1_40=> ?_) (fun hg1_40=> ?_)
      ·refine rn ?_;refine za8 (fun hg1_47=> ?_) (fun hg1_47=> ?_)
       ·refine rn ?_;refine qv rfl rfl (za4 rfl rfl (zc0 (refScan _ _ ha hb) (Sbs.refl _))) ?_
        refine rn ?_;exact retT rfl (.drop [_,_] _ _) ⟨rfl,bvz1_2536⟩
       ·refine rn ?_;exact retT rfl (.drop [_,_] _ _) ⟨rfl,bvz1_2536⟩
      ·refine rn ?_;exact retT rfl (.drop [_,_] _ _) ⟨rfl,bvz1_2536⟩
     ·refine rn ?_;exact retT rfl (.drop [_,_] _ _) ⟨rfl,bvz1_2536⟩
    ·refine rn ?_;exact retT rfl (.drop [_,_] _ _) ⟨rfl,bvz1_2536⟩
   ·refine rn ?_;exact retT rfl (.drop [_,_] _ _) ⟨rfl,bvz1_2536⟩
  ·refine rn ?_;exact retT rfl (.drop [_,_] _ _) ⟨rfl,bvz1_2536⟩
 ·refine rn ?_;exact retT rfl (.drop [_,_] _ _) ⟨rfl,bvz1_2536⟩
theorem refAt {f:Bool} (l:List Int) (n:Int) (hl:l.length≤4611686018427387904):za6 Tryz.prog 77 [.list f 1 (l.map intR),iv n] [] (fun r h'=>h'= []∧r=iv (atI n 0 l)):=by
 refine za1 Tryz.func77 rfl rfl rfl ?_
 refine rn ?_;refine zd4 (fun k:Nat=>k≤l.length∧atI n 0 l=atI n k (l.drop k)) (fun k=>⟨[(9,iv k),(8,iv (l.map intR).length),(7,.list f 1 (l.map intR)),(1,iv n)],[],[]⟩) (fun k=>l.length - k) 0 ⟨Nat.zero_le _,by simp⟩
  (zb8 (.cons _ _ _ rfl (.cons _ _ _ rfl (.cons _ _ _ rfl (.cons _ _ _ rfl (.nil)))))) ?_
 rintro k ⟨hk,hz⟩
 refine rn ?_;refine za0 rfl (fun hc10=> ?_) (fun hc10=> ?_)
 ·have hk2:k < l.length:=by simpa using hc10
  have hrow:(l.map intR)[k]? =some (intR l[k]):=by simp [hk2]
  have hd:=List.drop_eq_getElem_cons hk2
  refine rn ?_;refine za0 rfl (fun hc16=> ?_) (fun hc16=> ?_)
  ·have hx:l[k]=n:=by simpa using hc16
   refine rn ?_;exact retT rfl (.refl _ _) ⟨rfl,congrArg iv (by rw [hz,hd,atI,if_pos hx])⟩
  ·have hx:¬l[k]=n:=by simpa using hc16
   refine rn ?_;exact ⟨k+1,⟨by omega,by rw [hz,hd,atI,if_neg hx]⟩,(zb8 (.cons _ _ _ rfl (.cons _ _ _ rfl (.cons _ _ _ rfl (.cons _ _ _ rfl (.nil)))))),by omega⟩
 ·have hk3:k=l.length:=by
   have:l.length≤k:=by simpa using hc10
   omega
  refine rn ?_;exact retT rfl (.refl _ _) ⟨rfl,congrArg iv (by rw [hz,hk3,List.drop_length];rfl)⟩
attribute [local irreducible] jsoup jch lsoup
theorem refHas (h:Hist) (t c:Int) (la:Lim 4611686018427387904 h):za6 Tryz.prog 91 [.agg (zb0 h),iv t,iv c] [] (fun r h'=>h'= []∧r=bv (hasB h.evs t c)):=by
 refine za1 Tryz.func91 rfl rfl rfl ?_
 refine rn ?_;refine za2 rfl (zb5 rfl rfl rfl fun b3=> ?_)
 refine rn ?_;refine aw_rng (h.evs.length) (fun k:Nat=>h.evs.all (fun e:Ev=> !(e.t==t && e.kind==c))=(h.evs.drop k).all (fun e:Ev=> !(e.t==t && e.kind==c))) (fun k=> [(12,iv k)]) [(1,_),(2,_),(10,_),(11,_)] rfl ?_
 intro k lk zk
 refine rn ?_;refine za0 rfl (fun hc13=> ?_) (fun hc13=> ?_)
 ·have hk:=ltMap hc13
  have rk:=ze2 (f:=evR) hk
  have bk:=la.evs
  refine rn ?_;refine za2 rfl (zb1 rfl fun b8=> ?_)
  refine rn ?_;refine za8 (fun hg4_4=> ?_) (fun hg4_4=> ?_)
  ·refine rn ?_;refine za0 rfl (fun hc25=> ?_) (fun hc25=> ?_)
   ·refine rn ?_;refine rq 2 ?_
    exact ⟨rfl,congrArg bv (by rw [hasB,allF hk (by simp_all)];rfl)⟩
   ·refine rn ?_;exact ⟨hk,allT hk zk (by simp_all),eA⟩
  ·refine rn ?_;refine aw_cf rfl ?_;refine rn ?_;exact ⟨hk,allT hk zk (by simp_all),eA⟩
 ·have qk:=geMap hc13 lk
  have ak:=allE qk zk
  refine rn ?_;refine rq 1 ?_
  exact ⟨rfl,congrArg bv (by rw [hasB,ak];rfl)⟩
theorem refComm (h:Hist) (t:Int) (la:Lim 4611686018427387904 h):za6 Tryz.prog 36 [.agg (zb0 h),iv t] [] (fun r h'=>h'= []∧r=bv (hasB h.evs t 5)):=by
 refine za1 Tryz.func36 rfl rfl rfl ?_
 refine rn ?_;refine za2 rfl (zb5 rfl rfl rfl fun b2=> ?_)
 refine rn ?_;refine qv rfl rfl (za4 rfl rfl (zc0 (refHas h t 5 la) (Sbs.refl _))) ?_
 refine rn ?_;refine rq 1 ?_
 exact ⟨rfl,rfl⟩
theorem refSome (ts f:List Int) (hl:ts.length≤4611686018427387904) (hm:f.length≤4611686018427387904):za6 Tryz.prog 276 [zf0 ts,zf0 f] [] (fun r h'=>h'= []∧r=bv (someR ts f)):=by
 refine za1 Tryz.func276 rfl rfl rfl ?_
 refine rn ?_;refine aw_rng (ts.length) (fun k:Nat=>SomeK ts f k) (fun k=> [(9,iv k)]) [(0,_),(1,_),(7,_),(8,_)] (fun j _ h=>absurd h (Nat.not_lt_zero _)) ?_
 intro k lk zk
 refine rn ?_;refine za0 rfl (fun hc10=> ?_) (fun hc10=> ?_)
 ·have hk:=ltMap hc10
  have rk:=ze2 (f:=intR) hk
  refine rn ?_;refine qv rfl rfl (za4 rfl rfl (zc0 (refAt f ts[k] hm) (Sbs.refl _))) ?_
  refine rn ?_;refine za8 (fun hg4_4=> ?_) (fun hg4_4=> ?_)
  ·refine rn ?_;refine aw_ct rfl ?_;refine rn ?_;refine rq 0 ?_
   exact ⟨rfl,congrArg bv (by rw [some_f hk (by first|exact .inl hg4_4|exact .inr (by simpa using hc24))])⟩
  ·refine rn ?_;refine qv rfl rfl (za4 rfl rfl (zc0 (refAt ts ts[k] hl) (Sbs.refl _))) ?_
   refine rn ?_;refine za0 rfl (fun hc24=> ?_) (fun hc24=> ?_)
   ·refine rn ?_;refine rq 0 ?_
    exact ⟨rfl,congrArg bv (by rw [some_f hk (by first|exact .inl hg4_4|exact .inr (by simpa using hc24))])⟩
   ·refine rn ?_;exact ⟨hk,someK_s hk zk (by simp_all) (by simp_all),eA⟩
 ·have qk:=geMap hc10 lk
  refine rn ?_;refine rq 0 ?_
  exact ⟨rfl,congrArg bv (by rw [some_t (qk ▸ zk)])⟩
theorem refWriters (h:Hist) (x:Int) (la:Lim 1000000 h):za6 Tryz.prog 129 [.agg (zb0 h),iv x] [] (fun r h'=>h'= []∧r=zf0 (writersR h x)):=by
 refine za1 Tryz.func129 rfl rfl rfl ?_
 have be:=la.evs
 have bt:=la.ts
 refine rn ?_;refine za2 rfl (zb5 rfl rfl rfl fun b2=> ?_)
 refine rn0 ?_;refine zb4 (za9 ?_)
 refine rn0 ?_;refine zb4 ?_;refine zb4 ?_;refine aw_ent (ze5 1 3) ?_
 refine rn ?_;refine aw_rng1 h.ts.length (fun k s=>⟨[(13,iv k),(5,.v s.v),(1,iv x),(2,pZ b2),(12,iv (h.ts.map strR).length)],.row s.v 1 3 ((writersK h x k).map intR):: .box b2 28 (zb0 h):: [],[]⟩) ⟨none,0,0⟩ es ?_
 intro k s lk
 refine rn ?_;refine za0 rfl (fun hc14=> ?_) (fun hc14=> ?_)
 ·have hk:=ltMap hc14
  have rk:=ze2 (f:=strR) hk
  refine rn ?_;refine aw_rngS h.evs.length (fun j wb=>wb=(h.evs.take j).any (wroteQ k x)) (fun j wb=> [(19,iv j),(7,bv wb)]) [(1,_),(2,_),(5,_),(6,_),(12,_),(13,_),(17,_),(18,_)] false rfl ?_
  intro j wb lj zj
  refine rn ?_;refine za0 rfl (fun hc20=> ?_) (fun hc20=> ?_)
  ·have hj:=ltMap hc20
   have rj:=ze2 (f:=evR) hj
   refine rn ?_;refine za2 rfl (zb1 rfl fun b9=> ?_)
   refine rn ?_;refine za8 (fun hg9_1=> ?_) (fun hg9_1=> ?_)
   ·refine rn ?_;refine ⟨hj,_,?_,eA⟩
    rw [any_step hj,←zj]
    simp_all [wroteQ]
   ·refine rn ?_;refine za8 (fun hg9_5=> ?_) (fun hg9_5=> ?_)
    ·refine rn ?_;refine za8 (fun hg9_11=> ?_) (fun hg9_11=> ?_)
     ·refine rn ?_;refine ⟨hj,_,?_,eA⟩
      rw [any_step hj,←zj]
      simp_all [wroteQ]
     ·refine rn ?_;refine ⟨hj,_,?_,eA⟩
      rw [any_step hj,←zj]
      simp_all [wroteQ]
    ·refine rn ?_;refine ⟨hj,_,?_,eA⟩
     rw [any_step hj,←zj]
     simp_all [wroteQ]
  ·have qj:=geMap hc20 lj
   have wq:wb=h.evs.any (wroteQ k x):=by rw [zj,qj,List.take_length]
   refine rn ?_;refine za8 (fun hg11_1=> ?_) (fun hg11_1=> ?_)
   ·refine rn ?_;refine qv rfl rfl (za4 rfl rfl (zc0 (refComm h k (la.mono (by decide))) (Sbs.refl _))) ?_
    refine rn ?_;refine za0 rfl (fun hc47=> ?_) (fun hc47=> ?_)
    ·refine rn ?_;refine qv rfl rfl (zc2 rfl rfl) ?_
     refine za2 rfl (zb7 rfl rfl (by simp only [List.length_map];have:=writersK_len h x k;simp;omega) rfl (fun s51=> ?_) (one_int [(k:Int)]))
     refine zc7 s51 fun sv hsv=> ?_
     subst hsv
     refine rn ?_;first|exact ⟨hk,sv,by rw [writersK_t (by simp_all) (by simp_all),List.map_append];exact eA⟩|exact ⟨hk,s,by rw [writersK_f (by simp_all)];exact eA⟩
    ·refine rn ?_;first|exact ⟨hk,sv,by rw [writersK_t (by simp_all) (by simp_all),List.map_append];exact eA⟩|exact ⟨hk,s,by rw [writersK_f (by simp_all)];exact eA⟩
   ·refine rn ?_;refine aw_cf rfl ?_;refine rn ?_;first|exact ⟨hk,sv,by rw [writersK_t (by simp_all) (by simp_all),List.map_append];exact eA⟩|exact ⟨hk,s,by rw [writersK_f (by simp_all)];exact eA⟩
 ·have qk:=geMap hc14 lk
  refine rn ?_;exact retT rfl (.trans vent_freeze (.drop1 _ _ _)) ⟨rfl,by rw [qk,writersK_all];rfl⟩
theorem refOrder (h:Hist) (i:Nat) (hi:i < h.ords.length) (la:Lim 1000000 h):za6 Tryz.prog 259 [.agg (zb0 h),iv i] [] (fun r h'=>h'= []∧r=bv (orderR h i h.ords[i])):=by
 refine za1 Tryz.func259 rfl rfl rfl ?_
 have ri:=ze2 (f:=ordR) hi
 have bo:=la.ords
 have si:=la.ordts h.ords[i] (List.getElem_mem hi)
 refine rn ?_;refine za2 rfl (zb5 rfl rfl rfl fun b2=> ?_)
 refine rn ?_;refine za2 rfl (zb1 rfl fun b5=> ?_)
 first|refine za2 rfl (oe_store_all rfl rfl rfl ?_)|refine za2 rfl (oe_store rfl rfl rfl rfl (Nat.le_of_ble_eq_true rfl) ?_)
 refine zd5 (zd8 ?_)
 refine zb4 ?_;refine zb4 (za9 ?_)
 refine q1 ?_;refine q1 ?_;refine q1 ?_;refine qq rfl rfl (qr_slice_h (k:=i) rfl rfl (by simp;omega)) ?_
 rw [←List.map_take]
 refine rn ?_;refine aw_rng ((h.ords.take i).length) (fun j:Nat=>(h.ords.take i).all (fun p:Ord=> !(p.o==h.ords[i].o))=((h.ords.take i).drop j).all (fun p:Ord=> !(p.o==h.ords[i].o))) (fun j=> [(19,iv j)]) [(2,_),(5,_),(17,_),(18,_)] rfl ?_
 intro j lj zj
 refine rn ?_;refine za0 rfl (fun hc20=> ?_) (fun hc20=> ?_)
 ·have hj:=ltMap hc20
  have rj:=ze2 (f:=ordR) hj
  have bj:(h.ords.take i).length≤4611686018427387904:=by simp;omega
  refine rn ?_;refine za2 rfl (zb1 rfl fun b7=> ?_)
  refine rn ?_;refine za0 rfl (fun hc27=> ?_) (fun hc27=> ?_)
  ·refine rn ?_;refine rq 3 ?_
   exact ⟨rfl,congrArg bv (by rw [orderR_t (allF hj (by simpa using hc27))])⟩
  ·refine rn ?_;exact ⟨hj,allT hj zj (by simpa using hc27),eA⟩
 ·have qj:=geMap hc20 lj
  have aj:=allE qj zj
  refine rn ?_;refine qv rfl rfl (za4 rfl rfl (zc0 (refWriters h h.ords[i].o la) (Sbs.refl _))) ?_
  refine rn ?_;refine qv rfl rfl (za4 rfl rfl (zc0 (refSome h.ords[i].ts (writersR h h.ords[i].o) (Nat.le_trans si (by decide)) (Nat.le_trans (writersR_le _ _) (Nat.le_trans la.ts (by decide)))) (Sbs.refl _))) ?_
  refine rn ?_;refine za8 (fun hg9_5=> ?_) (fun hg9_5=> ?_)
  ·refine rn ?_;refine rq 2 ?_
   exact ⟨rfl,congrArg bv (by rw [orderR_f aj];simp_all)⟩
  ·refine rn ?_;refine qv rfl rfl (za4 rfl rfl (zc0 (refSome (writersR h h.ords[i].o) h.ords[i].ts (Nat.le_trans (writersR_le _ _) (Nat.le_trans la.ts (by decide))) (Nat.le_trans si (by decide))) (Sbs.refl _))) ?_
   refine rn ?_;refine rq 2 ?_
   exact ⟨rfl,congrArg bv (by rw [orderR_f aj];simp_all)⟩
theorem refMissing (h:Hist) (x:Int) (la:Lim 1000000 h):za6 Tryz.prog 260 [.agg (zb0 h),iv x] [] (fun r h'=>h'= []∧r=bv (missR h x)):=by
 refine za1 Tryz.func260 rfl rfl rfl ?_
 refine rn ?_;refine za2 rfl (zb5 rfl rfl rfl fun b2=> ?_)
 refine rn ?_;refine aw_rng (h.ords.length) (fun j:Nat=>h.ords.all (fun p:Ord=> !(p.o==x))=(h.ords.drop j).all (fun p:Ord=> !(p.o==x))) (fun j=> [(10,iv j)]) [(1,_),(2,_),(8,_),(9,_)] rfl ?_
 intro j lj zj
 refine rn ?_;refine za0 rfl (fun hc11=> ?_) (fun hc11=> ?_)
 ·have hj:=ltMap hc11
  have rj:=ze2 (f:=ordR) hj
  have bo:=la.ords
  refine rn ?_;refine za2 rfl (zb1 rfl fun b6=> ?_)
  refine rn ?_;refine za0 rfl (fun hc17=> ?_) (fun hc17=> ?_)
  ·refine rn ?_;refine rq 2 ?_
   exact ⟨rfl,congrArg bv (by rw [missR_t (allF hj (by simpa using hc17))])⟩
  ·refine rn ?_;exact ⟨hj,allT hj zj (by simpa using hc17),eA⟩
 ·have qj:=geMap hc11 lj
  have aj:=allE qj zj
  refine rn ?_;refine qv rfl rfl (za4 rfl rfl (zc0 (refWriters h x la) (Sbs.refl _))) ?_
  refine rn ?_;refine rq 1 ?_
  exact ⟨rfl,congrArg bv (by rw [missR_f aj];simp;omega)⟩
theorem refMatch (h:Hist) (i:Nat) (hi:i < h.mats.length) (la:Lim 1000000 h):za6 Tryz.prog 261 [.agg (zb0 h),iv i] [] (fun r h'=>h'= []∧r=bv (matchR h i h.mats[i])):=by
 refine za1 Tryz.func261 rfl rfl rfl ?_
 have ri:=ze2 (f:=matR) hi
 have bo:=la.mats
 have si:=la.matts h.mats[i] (List.getElem_mem hi)
 refine rn ?_;refine za2 rfl (zb5 rfl rfl rfl fun b2=> ?_)
 refine rn ?_;refine za2 rfl (zb1 rfl fun b5=> ?_)
 first|refine za2 rfl (oe_store_all rfl rfl rfl ?_)|refine za2 rfl (oe_store rfl rfl rfl rfl (Nat.le_of_ble_eq_true rfl) ?_)
 refine zd5 (zd8 ?_)
 refine zb4 ?_;refine zb4 (za9 ?_)
 refine q1 ?_;refine q1 ?_;refine q1 ?_;refine qq rfl rfl (qr_slice_h (k:=i) rfl rfl (by simp;omega)) ?_
 rw [←List.map_take]
 refine rn ?_;refine aw_rng ((h.mats.take i).length) (fun j:Nat=>(h.mats.take i).all (fun p:Mat=> !(p.p==h.mats[i].p && p.o==h.mats[i].o))=((h.mats.take i).drop j).all (fun p:Mat=> !(p.p==h.mats[i].p && p.o==h.mats[i].o))) (fun j=> [(18,iv j)]) [(2,_),(5,_),(16,_),(17,_)] rfl ?_
 intro j lj zj
 refine rn ?_;refine za0 rfl (fun hc19=> ?_) (fun hc19=> ?_)
 ·have hj:=ltMap hc19
  have rj:=ze2 (f:=matR) hj
  have bj:(h.mats.take i).length≤4611686018427387904:=by simp;omega
  refine rn ?_;refine za2 rfl (zb1 rfl fun b7=> ?_)
  refine rn ?_;refine za8 (fun hg5_5=> ?_) (fun hg5_5=> ?_)
  ·refine rn ?_;refine za0 rfl (fun hc33=> ?_) (fun hc33=> ?_)
   ·refine rn ?_;refine rq 3 ?_
    exact ⟨rfl,congrArg bv (by rw [matchR_t (allF hj (by simp_all))])⟩
   ·refine rn ?_;exact ⟨hj,allT hj zj (by simp_all),eA⟩
  ·refine rn ?_;refine aw_cf rfl ?_;refine rn ?_;exact ⟨hj,allT hj zj (by simp_all),eA⟩
 ·have qj:=geMap hc19 lj
  have aj:=allE qj zj
  refine rn ?_;refine zd2 6 rfl ?_
  refine rn ?_;refine dv rfl rfl (by exact za4 rfl rfl (zc0 (refWriters h h.mats[i].o la) (Sbs.refl _))) ?_
  refine rn ?_;refine qv rfl rfl (za4 rfl rfl (zc0 (refSome h.mats[i].ts (writersR h h.mats[i].o) (Nat.le_trans si (by decide)) (Nat.le_trans (writersR_le _ _) (Nat.le_trans la.ts (by decide)))) (Sbs.refl _))) ?_
  refine rn ?_;refine rq 2 ?_
  exact ⟨rfl,congrArg bv (by rw [matchR_f aj])⟩
theorem refWant (h:Hist) (i:Nat) (hi:i < h.wants.length) (la:Lim 1000000 h):za6 Tryz.prog 262 [.agg (zb0 h),iv i] [] (fun r h'=>h'= []∧r=bv (wantW h i h.wants[i])):=by
 refine za1 Tryz.func262 rfl rfl rfl ?_
 have ri:=ze2 (f:=wanR) hi
 have bo:=la.wants
 refine rn ?_;refine za2 rfl (zb5 rfl rfl rfl fun b2=> ?_)
 refine q1 ?_;refine zd5 (zd8 ?_)
 refine zb4 ?_;refine zb4 (za9 ?_)
 refine q1 ?_;refine q1 ?_;refine q1 ?_;refine qq rfl rfl (qr_slice_h (k:=i) rfl rfl (by simp;omega)) ?_
 rw [←List.map_take]
 refine rn ?_;refine aw_rng ((h.wants.take i).length) (fun j:Nat=>(h.wants.take i).all (fun p:Wan=> !(p.s==h.wants[i].s))=((h.wants.take i).drop j).all (fun p:Wan=> !(p.s==h.wants[i].s))) (fun j=> [(14,iv j)]) [(1,_),(2,_),(12,_),(13,_)] rfl ?_
 intro j lj zj
 refine rn ?_;refine za0 rfl (fun hc15=> ?_) (fun hc15=> ?_)
 ·have hj:=ltMap hc15
  have rj:=ze2 (f:=wanR) hj
  have bj:(h.wants.take i).length≤4611686018427387904:=by simp;omega
  refine rn ?_;refine za2 rfl (zb1 rfl fun b6=> ?_)
  refine rn ?_;refine zd2 8 rfl ?_
  refine rn ?_;refine za0 rfl (fun hc26=> ?_) (fun hc26=> ?_)
  ·refine rn ?_;refine rq 2 ?_
   exact ⟨rfl,congrArg bv (by rw [wantW_t (allF hj (by simpa using hc26))])⟩
  ·refine rn ?_;exact ⟨hj,allT hj zj (by simpa using hc26),eA⟩
 ·have qj:=geMap hc15 lj
  have aj:=allE qj zj
  refine rn ?_;refine aw_rng (h.evs.length) (fun k:Nat=>h.evs.all (fun e:Ev=> !(e.kind==1 && e.s==h.wants[i].s))=(h.evs.drop k).all (fun e:Ev=> !(e.kind==1 && e.s==h.wants[i].s))) (fun k=> [(31,iv k)]) [(1,_),(2,_),(29,_),(30,_)] rfl ?_
  intro k lk zk
  refine rn ?_;refine za0 rfl (fun hc32=> ?_) (fun hc32=> ?_)
  ·have hk:=ltMap hc32
   have rk:=ze2 (f:=evR) hk
   have bk:=la.evs
   refine rn ?_;refine za2 rfl (zb1 rfl fun b8=> ?_)
   refine rn ?_;refine zd2 12 rfl ?_
   refine rn ?_;refine dsplit (fun hg10_3=> ?_) (fun hg10_3=> ?_)
   ·refine rn ?_;refine za0 rfl (fun hc48=> ?_) (fun hc48=> ?_)
    ·refine rn ?_;refine rq 2 ?_
     exact ⟨rfl,congrArg bv (by rw [wantW_f aj (allF hk (by simp_all))])⟩
    ·refine rn ?_;exact ⟨hk,allT hk zk (by simp_all),eA⟩
   ·refine rn ?_;refine aw_cf rfl ?_;refine rn ?_;exact ⟨hk,allT hk zk (by simp_all),eA⟩
  ·have qk:=geMap hc32 lk
   have ak:=allE qk zk
   refine rn ?_;refine rq 1 ?_
   exact ⟨rfl,congrArg bv (by rw [wantW_f aj ak])⟩
theorem refSeen (e:Ev):za6 Tryz.prog 278 [.agg (evR e)] [] (fun r h'=>h'= []∧r=seensA (zc6 e)):=by
 refine za1 Tryz.func278 rfl rfl rfl ?_
 refine rn ?_;refine za2 rfl (zb5 rfl rfl rfl fun b1=> ?_)
 refine rn ?_;refine za0 rfl (fun hc5=> ?_) (fun hc5=> ?_)
 ·refine rn ?_;refine qv rfl rfl (zc2 rfl rfl) ?_
  refine rn ?_;exact retT rfl (.trans (.drop [_] _ _) (.le Sb.unfull.le)) ⟨rfl,by rw [zc6,if_pos (by simpa using hc5)];rfl⟩
 ·refine rn ?_;refine rq 1 ?_
  exact ⟨rfl,by rw [zc6,if_neg (by simpa using hc5)];rfl⟩
theorem refWrote (l:List Ev) (t x:Int) (la:l.length≤1000000):za6 Tryz.prog 277 [evsA l,iv t,iv x] [] (fun r h'=>h'= []∧r=evsA (wroteL l t x)):=by
 refine za1 Tryz.func277 rfl rfl rfl ?_
 refine zb4 (za9 ?_)
 refine rn0 ?_;refine zb4 (za9 ?_)
 refine rn0 ?_;refine zb4 ?_;refine zb4 ?_;refine aw_ent (ze5 9 60) ?_
 refine rn ?_;refine aw_rng1 l.length (fun k s=>⟨[(12,iv k),(7,.v s.v),(1,iv t),(2,iv x),(10,evsA l),(11,iv (l.map evR).length)],.row s.v 9 60 ((wroteL (l.take k) t x).map evR):: [],[]⟩) ⟨none,0,0⟩ es ?_
 intro k s lk
 refine rn ?_;refine za0 rfl (fun hc13=> ?_) (fun hc13=> ?_)
 ·have hk:=ltMap hc13
  have rk:=ze2 (f:=evR) hk
  refine rn ?_;refine za2 rfl (zb1 rfl fun b9=> ?_)
  refine rn ?_;refine za8 (fun hg5_3=> ?_) (fun hg5_3=> ?_)
  ·refine rn ?_;refine za8 (fun hg5_9=> ?_) (fun hg5_9=> ?_)
   ·refine rn ?_;refine za0 rfl (fun hc30=> ?_) (fun hc30=> ?_)
    ·refine rn ?_;refine qv rfl rfl (zc2 rfl rfl) ?_
     refine za2 rfl (zb7 rfl rfl (by simp only [List.length_map];have:=wrote_le l t x k;simp;omega) rfl (fun s34=> ?_) (one_ev [l[k]]))
     refine zc7 s34 fun sv hsv=> ?_
     subst hsv
     refine rn ?_;first|exact ⟨hk,sv,by rw [wrote_t hk (by simp_all),List.map_append];exact eA⟩|exact ⟨hk,s,by rw [wrote_f hk (by simp_all)];exact eA⟩
    ·refine rn ?_;first|exact ⟨hk,sv,by rw [wrote_t hk (by simp_all),List.map_append];exact eA⟩|exact ⟨hk,s,by rw [wrote_f hk (by simp_all)];exact eA⟩
   ·refine rn ?_;refine aw_cf rfl ?_;refine rn ?_;first|exact ⟨hk,sv,by rw [wrote_t hk (by simp_all),List.map_append];exact eA⟩|exact ⟨hk,s,by rw [wrote_f hk (by simp_all)];exact eA⟩
  ·refine rn ?_;refine aw_cf rfl ?_;refine rn ?_;first|exact ⟨hk,sv,by rw [wrote_t hk (by simp_all),List.map_append];exact eA⟩|exact ⟨hk,s,by rw [wrote_f hk (by simp_all)];exact eA⟩
 ·have qk:=geMap hc13 lk
  refine rn ?_;exact retT rfl vent_freeze ⟨rfl,by rw [qk,List.take_length];rfl⟩
end Go.Proofs
