/- The walk of history.spoken, reading. Conditions: none. -/
import Derived.Test.YtfmcbdjnmlcacaaGreatDoorWTeH
set_option maxHeartbeats 4000000
set_option linter.unusedSectionVars false
set_option linter.unusedSimpArgs false
set_option linter.unusedVariables false
set_option maxRecDepth 10000
namespace Go.Proofs
open Go Go.Ab
attribute [local irreducible] QR QV OE zch aw zc6 zdc zbg zb8 thn zfa
open Go.H
theorem zzd {σ:Type} (step:σ→Nat×Int→Option σ) (ok:Nat×Int→Prop) (IJ:Option σ→List Res→Prop) (y:AV) (hy:∀(s:σ) (L:List Res) (sort:Nat) (n:Int) (cells:List AV),ok (sort,n)→IJ (some s) L→y1 Tryz.prog y [iv sort,.pp (iv n::cells)] L (fun r h'=>r=bv (step s (sort,n)).isSome∧IJ (step s (sort,n)) h')) (sort:Nat) (n:Int) (hs:ok (sort,n)) (cells:List AV) (bm by_:Nat) (st:Option σ) (L:List Res) (hI:IJ st L):y7 Tryz.prog 202 [iv sort,.pp (iv n::cells),pZ bm,pZ by_] (.box bm 4 [bv (st).isSome]:: .box by_ 239 [y]::L) (fun r h'=>∃L',IJ (goes step st [(sort,n)]) L'∧h'= .box bm 4 [bv (goes step st [(sort,n)]).isSome]:: .box by_ 239 [y]::L'):=by
 refine z6 Tryz.func202 rfl rfl rfl ?_
 refine rn ?_;refine w7 (fun hg0_1=> ?_) (fun hg0_1=> ?_)
 ·refine rn ?_;obtain ⟨s,rfl⟩:=Option.isSome_iff_exists.1 hg0_1
  refine z8 rfl (v2 rfl rfl (y1.fr2 (hy s L sort n cells hs hI)) rfl ?_)
  rintro _ _ ⟨L2,rfl,rfl,hI2⟩
  refine rn ?_;first
   |exact zd4 .nil (.refl _ _) ⟨L2,hI2,rfl⟩
   |(obtain rfl:=Option.not_isSome_iff_eq_none.1 (show ¬st.isSome=true by simp [hg0_1])
     exact zd4 .nil (.refl _ _) ⟨L,hI,rfl⟩)
 ·refine rn ?_;first
   |exact zd4 .nil (.refl _ _) ⟨L2,hI2,rfl⟩
   |(obtain rfl:=Option.not_isSome_iff_eq_none.1 (show ¬st.isSome=true by simp [hg0_1])
     exact zd4 .nil (.refl _ _) ⟨L,hI,rfl⟩)
theorem yoh {σ:Type} (step:σ→Nat×Int→Option σ) (ok:Nat×Int→Prop) (IJ:Option σ→List Res→Prop) (y:AV) (hy:∀(s:σ) (L:List Res) (sort:Nat) (n:Int) (cells:List AV),ok (sort,n)→IJ (some s) L→y1 Tryz.prog y [iv sort,.pp (iv n::cells)] L (fun r h'=>r=bv (step s (sort,n)).isSome∧IJ (step s (sort,n)) h')) (v:Ver) (hv:∀x∈zg7 v,ok x) (cells:List AV) (bs bm by_:Nat) (st:Option σ) (L:List Res) (hI:IJ st L):y7 Tryz.prog 203 [.pp (iv v.t::iv v.k::cells),pZ bs] (.box bs 240 [.fn (.func 202) [] [pZ bm,pZ by_]]:: .box bm 4 [bv (st).isSome]:: .box by_ 239 [y]::L) (fun r h'=>∃L',IJ (goes step st (zg7 v)) L'∧h'= .box bs 240 [.fn (.func 202) [] [pZ bm,pZ by_]]:: .box bm 4 [bv (goes step st (zg7 v)).isSome]:: .box by_ 239 [y]::L'):=by
 refine z6 Tryz.func203 rfl rfl rfl ?_
 refine rn ?_;refine z7 rfl (fun hc7=> ?_) (fun hc7=> ?_)
 ·refine u4 4 rfl ?_
  refine rn ?_;refine z8 rfl (v2 rfl rfl (y1.fr1 (y1.of_acall (fs:= []) (cs:= [pZ bm,pZ by_]) (zzd step ok IJ y hy 0 v.t (hv _ (by rw [zg7,if_pos hc7];simp)) (iv v.k::cells) bm by_ _ _ hI))) rfl ?_)
  rintro _ _ ⟨_,rfl,L2,hI2,rfl⟩
  refine rn ?_;first
   |(have hm:zg7 v= [(0,v.t)]:=by rw [zg7,if_pos hc7]
     rw [hm];exact zd4 .nil (.refl _ _) ⟨L2,hI2,rfl⟩)
   |(have hm:zg7 v= []:=by rw [zg7,if_neg (by rw [hc7];decide)]
     rw [hm];exact zd4 .nil (.refl _ _) ⟨L,hI,rfl⟩)
 ·refine rn ?_;first
   |(have hm:zg7 v= [(0,v.t)]:=by rw [zg7,if_pos hc7]
     rw [hm];exact zd4 .nil (.refl _ _) ⟨L2,hI2,rfl⟩)
   |(have hm:zg7 v= []:=by rw [zg7,if_neg (by rw [hc7];decide)]
     rw [hm];exact zd4 .nil (.refl _ _) ⟨L,hI,rfl⟩)
theorem ymp {σ:Type} (step:σ→Nat×Int→Option σ) (ok:Nat×Int→Prop) (IJ:Option σ→List Res→Prop) (y:AV) (hone:y.cellsOf=some [y]) (hy:∀(s:σ) (L:List Res) (sort:Nat) (n:Int) (cells:List AV),ok (sort,n)→IJ (some s) L→y1 Tryz.prog y [iv sort,.pp (iv n::cells)] L (fun r h'=>r=bv (step s (sort,n)).isSome∧IJ (step s (sort,n)) h')) (h:Hist) (la:Lim 4611686018427387904 h) (b1 bh:Nat) (hok:∀x∈zc0 h,ok x) (s0:σ) (L0:List Res) (h0:IJ (some s0) L0):y7 Tryz.prog 201 [y,pZ b1] (.box b1 184 [pZ bh]:: .box bh 28 (y9 h)::L0) (fun r h'=>∃L',IJ (goes step (some s0) (zc0 h)) L'∧h'= .box b1 184 [pZ bh]:: .box bh 28 (y9 h)::L'):=by
 refine z6 Tryz.func201 rfl rfl rfl ?_
 refine rn ?_;refine z8 rfl (w8 rfl hone rfl fun by_=> ?_)
 refine rn ?_;refine z8 rfl (y5 rfl fun bm=> ?_)
 refine rn ?_;refine z8 rfl (y5 rfl fun bs=> ?_)
 refine rn ?_;refine k7 (fun x:Nat×Option σ×List Res=>x.1≤h.evs.length∧IJ x.2.1 x.2.2∧Rem step ok x.2.1 (((h.evs.drop x.1).flatMap evL)++(h.ords.flatMap ykz++(h.mats.flatMap yf8++h.wants.flatMap ybd))) (goes step (some s0) (zc0 h))) (fun x=>⟨[(22,iv x.1),(21,iv (h.evs.map evR).length),(1,pZ b1),(4,pZ bs),(5,.fn (.func 203) [] [pZ bs])],.box b1 184 [pZ bh]:: .box bh 28 (y9 h):: .box bs 240 [.fn (.func 202) [] [pZ bm,pZ by_]]:: .box bm 4 [bv (x.2.1).isSome]:: .box by_ 239 [y]::x.2.2,[]⟩) (fun x=>h.evs.length - x.1) (0,some s0,L0) ⟨by omega,h0,rfl,hok⟩
  (v6 (zbb ((pt3 _ _ _ _ _).trans (.cons _ (pt3 _ _ _ _ _)))) (v1 (.cons _ _ _ rfl (.cons _ _ _ rfl (.cons _ _ _ rfl (.cons _ _ _ rfl (.cons _ _ _ rfl (.nil)))))))) ?_
 rintro ⟨k,st,L⟩ ⟨hk,hI,hF⟩
 simp only at hk hI hF
 refine rn ?_;refine z7 rfl (fun hc23=> ?_) (fun hc23=> ?_)
 ·have k2:k < h.evs.length:=by simpa using hc23
  obtain ⟨e,he⟩:∃e,e=h.evs[k]:=⟨_,rfl⟩
  have hrowe:(h.evs.map evR)[k]? =some (evR e):=by rw [he];simp [k2]
  have hde:=List.drop_eq_getElem_cons k2
  rw [hde,←he] at hF
  simp only [List.flatMap_cons,evL,List.cons_append,List.append_assoc] at hF
  obtain ⟨hx,hF⟩:=hF.cons
  obtain ⟨hkx,hF⟩:=hF.app
  have hle:=la.evs
  have hls:=la.scans e (by rw [he];simp)
  refine rn ?_;refine u4 4 rfl ?_
  refine rn ?_;refine z8 rfl (v2 rfl rfl (y1.fr3 (y1.of_acall (fs:= []) (cs:= [pZ bm,pZ by_]) (zzd step ok IJ y hy 0 e.t hx _ bm by_ _ _ hI))) rfl ?_)
  rintro _ _ ⟨_,rfl,L,hI,rfl⟩
  refine rn0 ?_;refine zwl (fun L=>IJ (goes step (goes step st [(0,e.t)]) (zg9 e)) L) (fun L=>⟨[(7,.pp (evR e)),(22,iv k),(21,iv (h.evs.map evR).length),(1,pZ b1),(4,pZ bs),(5,.fn (.func 203) [] [pZ bs])],.box b1 184 [pZ bh]:: .box bh 28 (y9 h):: .box bs 240 [.fn (.func 202) [] [pZ bm,pZ by_]]:: .box bm 4 [bv (goes step (goes step st [(0,e.t)]) (zg9 e)).isSome]:: .box by_ 239 [y]::L,[]⟩) ?_ ?_
  ·refine rn ?_;refine z7 rfl (fun hc40=> ?_) (fun hc40=> ?_)
   ·have hkl:=ydz (e:=e) (by simpa using hc40)
    refine u4 4 rfl ?_
    refine rn ?_;refine z8 rfl (v2 rfl rfl (y1.fr3 (y1.of_acall (fs:= []) (cs:= [pZ bm,pZ by_]) (zzd step ok IJ y hy 1 e.s (hkx _ (by rw [hkl];simp)) _ bm by_ _ _ hI))) rfl ?_)
    rintro _ _ ⟨_,rfl,L,hI,rfl⟩
    refine rn ?_;refine ⟨L,?_,?_⟩
    ·show IJ (goes step _ (zg9 e)) L
     rw [hkl];exact hI
    ·rw [hkl];exact (v1 (.cons _ _ _ rfl (.cons _ _ _ rfl (.cons _ _ _ rfl (.cons _ _ _ rfl (.cons _ _ _ rfl (.cons _ _ _ rfl (.nil))))))))
   ·have hn1:e.kind≠1:=by simpa using hc40
    refine rn ?_;refine z7 rfl (fun hc47=> ?_) (fun hc47=> ?_)
    ·have hk23:e.kind=2∨e.kind=3:=by simp at hc47;omega
     have hkl:=zn4 hk23
     refine rn ?_;refine z7 rfl (fun hc47=> ?_) (fun hc47=> ?_)
     ·have hk23:e.kind=2∨e.kind=3:=by simp at hc47;omega
      have hkl:=zn4 hk23
      refine rn ?_;refine u4 4 rfl ?_
      refine rn ?_;refine z8 rfl (v2 rfl rfl (y1.fr3 (y1.of_acall (fs:= []) (cs:= [pZ bm,pZ by_]) (zzd step ok IJ y hy 2 e.o (hkx _ (by rw [hkl];simp)) _ bm by_ _ _ hI))) rfl ?_)
      rintro _ _ ⟨_,rfl,L,hI,rfl⟩
      refine rn ?_;refine z8 rfl (v2 rfl rfl (y1.fr2 (y1.of_acall (fs:= []) (cs:= [pZ bs]) (yoh step ok IJ y hy e.v (fun x hx=>hkx x (by rw [hkl];simp [hx])) _ bs bm by_ _ _ hI))) rfl ?_)
      rintro _ _ ⟨_,rfl,L,hI,rfl⟩
      refine rn ?_;refine ⟨L,?_,?_⟩
      ·show IJ (goes step _ (zg9 e)) L
       rw [hkl];exact hI
      ·rw [hkl];exact (v1 (.cons _ _ _ rfl (.cons _ _ _ rfl (.cons _ _ _ rfl (.cons _ _ _ rfl (.cons _ _ _ rfl (.cons _ _ _ rfl (.nil))))))))
     ·first|cases hc47|exact absurd hc47 (by decide)|(exfalso;simp_all;done)
    ·have hn23:=hc47
     simp at hn23
     refine rn ?_;refine z7 rfl (fun hc47=> ?_) (fun hc47=> ?_)
     ·have hk23:e.kind=2∨e.kind=3:=by simp at hc47;omega
      have hkl:=zn4 hk23
      refine rn ?_;refine u4 4 rfl ?_
      refine rn ?_;refine z8 rfl (v2 rfl rfl (y1.fr3 (y1.of_acall (fs:= []) (cs:= [pZ bm,pZ by_]) (zzd step ok IJ y hy 2 e.o (hkx _ (by rw [hkl];simp)) _ bm by_ _ _ hI))) rfl ?_)
      rintro _ _ ⟨_,rfl,L,hI,rfl⟩
      refine rn ?_;refine z8 rfl (v2 rfl rfl (y1.fr2 (y1.of_acall (fs:= []) (cs:= [pZ bs]) (yoh step ok IJ y hy e.v (fun x hx=>hkx x (by rw [hkl];simp [hx])) _ bs bm by_ _ _ hI))) rfl ?_)
      rintro _ _ ⟨_,rfl,L,hI,rfl⟩
      refine rn ?_;refine ⟨L,?_,?_⟩
      ·show IJ (goes step _ (zg9 e)) L
       rw [hkl];exact hI
      ·rw [hkl];exact (v1 (.cons _ _ _ rfl (.cons _ _ _ rfl (.cons _ _ _ rfl (.cons _ _ _ rfl (.cons _ _ _ rfl (.cons _ _ _ rfl (.nil))))))))
     ·have hn23:=hc47
      simp at hn23
      refine rn ?_;refine z7 rfl (fun hc60=> ?_) (fun hc60=> ?_)
      ·have hkl:=ydy (e:=e) (by simpa using hc60)
       refine u4 4 rfl ?_
       refine rn ?_;refine z8 rfl (v2 rfl rfl (y1.fr3 (y1.of_acall (fs:= []) (cs:= [pZ bm,pZ by_]) (zzd step ok IJ y hy 3 e.p (hkx _ (by rw [hkl];simp)) _ bm by_ _ _ hI))) rfl ?_)
       rintro _ _ ⟨_,rfl,L,hI,rfl⟩
       refine rn ?_;refine ⟨L,?_,?_⟩
       ·show IJ (goes step _ (zg9 e)) L
        rw [hkl];exact hI
       ·rw [hkl];exact (v1 (.cons _ _ _ rfl (.cons _ _ _ rfl (.cons _ _ _ rfl (.cons _ _ _ rfl (.cons _ _ _ rfl (.cons _ _ _ rfl (.nil))))))))
      ·have hn4:e.kind≠4:=by simpa using hc60
       have hkl:=yd0 (e:=e) hn1 (by omega) (by omega) hn4
       refine rn ?_;refine ⟨L,?_,?_⟩
       ·show IJ (goes step _ (zg9 e)) L
        rw [hkl];exact hI
       ·rw [hkl];exact (v1 (.cons _ _ _ rfl (.cons _ _ _ rfl (.cons _ _ _ rfl (.cons _ _ _ rfl (.cons _ _ _ rfl (.cons _ _ _ rfl (.nil))))))))
  ·rintro L hI
   revert hI hF
   generalize goes step (goes step st [(0,e.t)]) (zg9 e)=st2
   intro hF hI
   refine rn ?_;refine k7 (fun x:Nat×Option σ×List Res=>x.1≤e.scan.length∧IJ x.2.1 x.2.2∧Rem step ok x.2.1 (((e.scan.drop x.1).flatMap zus)++(((h.evs.drop (k+1)).flatMap evL)++(h.ords.flatMap ykz++(h.mats.flatMap yf8++h.wants.flatMap ybd)))) (goes step (some s0) (zc0 h))) (fun x=>⟨[(72,iv x.1),(71,iv (e.scan.map zaj).length),(7,.pp (evR e)),(22,iv k),(21,iv (h.evs.map evR).length),(1,pZ b1),(4,pZ bs),(5,.fn (.func 203) [] [pZ bs])],.box b1 184 [pZ bh]:: .box bh 28 (y9 h):: .box bs 240 [.fn (.func 202) [] [pZ bm,pZ by_]]:: .box bm 4 [bv (x.2.1).isSome]:: .box by_ 239 [y]::x.2.2,[]⟩) (fun x=>e.scan.length - x.1) (0,st2,L) ⟨by omega,hI,hF⟩
    (v1 (.cons _ _ _ rfl (.cons _ _ _ rfl (.cons _ _ _ rfl (.cons _ _ _ rfl (.cons _ _ _ rfl (.cons _ _ _ rfl (.cons _ _ _ rfl (.cons _ _ _ rfl (.nil)))))))))) ?_
   rintro ⟨j,st,L⟩ ⟨hj,hI,hF⟩
   simp only at hj hI hF
   refine rn ?_;refine z7 rfl (fun hc73=> ?_) (fun hc73=> ?_)
   ·have j2:j < e.scan.length:=by simpa using hc73
    obtain ⟨x,hx⟩:∃x,x=e.scan[j]:=⟨_,rfl⟩
    have hrowx:(e.scan.map zaj)[j]? =some (zaj x):=by rw [hx];simp [j2]
    have hdx:=List.drop_eq_getElem_cons j2
    rw [hdx,←hx] at hF
    simp only [List.flatMap_cons,zus,List.cons_append,List.append_assoc] at hF
    obtain ⟨hx,hF⟩:=hF.cons
    obtain ⟨hkx,hF⟩:=hF.app
    refine rn ?_;refine u4 8 rfl ?_
    refine rn ?_;refine z8 rfl (v2 rfl rfl (y1.fr3 (y1.of_acall (fs:= []) (cs:= [pZ bm,pZ by_]) (zzd step ok IJ y hy 2 x.o hx _ bm by_ _ _ hI))) rfl ?_)
    rintro _ _ ⟨_,rfl,L,hI,rfl⟩
    refine rn ?_;refine z8 rfl (v2 rfl rfl (y1.fr2 (y1.of_acall (fs:= []) (cs:= [pZ bs]) (yoh step ok IJ y hy x.v hkx _ bs bm by_ _ _ hI))) rfl ?_)
    rintro _ _ ⟨_,rfl,L,hI,rfl⟩
    refine rn ?_;exact ⟨(j+1,_,L),⟨by omega,hI,hF⟩,(v1 (.cons _ _ _ rfl (.cons _ _ _ rfl (.cons _ _ _ rfl (.cons _ _ _ rfl (.cons _ _ _ rfl (.cons _ _ _ rfl (.cons _ _ _ rfl (.cons _ _ _ rfl (.nil)))))))))),by simp only;omega⟩
   ·obtain rfl:j=e.scan.length:=by
     have:e.scan.length≤j:=by simpa using hc73
     omega
    rw [List.drop_length,List.flatMap_nil,List.nil_append] at hF
    refine rn ?_;exact ⟨(k+1,_,L),⟨by omega,hI,hF⟩,(v1 (.cons _ _ _ rfl (.cons _ _ _ rfl (.cons _ _ _ rfl (.cons _ _ _ rfl (.cons _ _ _ rfl (.nil))))))),by simp only;omega⟩
 ·obtain rfl:k=h.evs.length:=by
   have:h.evs.length≤k:=by simpa using hc23
   omega
  rw [List.drop_length,List.flatMap_nil,List.nil_append] at hF
  refine rn ?_;refine k7 (fun x:Nat×Option σ×List Res=>x.1≤h.ords.length∧IJ x.2.1 x.2.2∧Rem step ok x.2.1 (((h.ords.drop x.1).flatMap ykz)++(h.mats.flatMap yf8++h.wants.flatMap ybd)) (goes step (some s0) (zc0 h))) (fun x=>⟨[(100,iv x.1),(99,iv (h.ords.map zef).length),(1,pZ b1),(4,pZ bs),(5,.fn (.func 203) [] [pZ bs])],.box b1 184 [pZ bh]:: .box bh 28 (y9 h):: .box bs 240 [.fn (.func 202) [] [pZ bm,pZ by_]]:: .box bm 4 [bv (x.2.1).isSome]:: .box by_ 239 [y]::x.2.2,[]⟩) (fun x=>h.ords.length - x.1) (0,st,L) ⟨by omega,hI,hF⟩
   (v1 (.cons _ _ _ rfl (.cons _ _ _ rfl (.cons _ _ _ rfl (.cons _ _ _ rfl (.cons _ _ _ rfl (.nil))))))) ?_
  rintro ⟨k,st,L⟩ ⟨hk,hI,hF⟩
  simp only at hk hI hF
  refine rn ?_;refine z7 rfl (fun hc101=> ?_) (fun hc101=> ?_)
  ·have k2:k < h.ords.length:=by simpa using hc101
   obtain ⟨r,hr⟩:∃r,r=h.ords[k]:=⟨_,rfl⟩
   have hrowr:(h.ords.map zef)[k]? =some (zef r):=by rw [hr];simp [k2]
   have hdr:=List.drop_eq_getElem_cons k2
   rw [hdr,←hr] at hF
   simp only [List.flatMap_cons,ykz,List.cons_append,List.append_assoc] at hF
   obtain ⟨hx,hF⟩:=hF.cons
   have hle:=la.ords
   have hls:=la.ordts r (by rw [hr];simp)
   refine rn ?_;refine u4 8 rfl ?_
   refine rn ?_;refine z8 rfl (v2 rfl rfl (y1.fr3 (y1.of_acall (fs:= []) (cs:= [pZ bm,pZ by_]) (zzd step ok IJ y hy 2 r.o hx _ bm by_ _ _ hI))) rfl ?_)
   rintro _ _ ⟨_,rfl,L,hI,rfl⟩
   refine rn ?_;refine k7 (fun x:Nat×Option σ×List Res=>x.1≤r.ts.length∧IJ x.2.1 x.2.2∧Rem step ok x.2.1 (((r.ts.drop x.1).map fun t=>((0:Nat),t))++(((h.ords.drop (k+1)).flatMap ykz)++(h.mats.flatMap yf8++h.wants.flatMap ybd))) (goes step (some s0) (zc0 h))) (fun x=>⟨[(121,iv x.1),(120,iv (r.ts.map zai).length),(9,iv k),(100,iv k),(99,iv (h.ords.map zef).length),(1,pZ b1),(4,pZ bs),(5,.fn (.func 203) [] [pZ bs])],.box b1 184 [pZ bh]:: .box bh 28 (y9 h):: .box bs 240 [.fn (.func 202) [] [pZ bm,pZ by_]]:: .box bm 4 [bv (x.2.1).isSome]:: .box by_ 239 [y]::x.2.2,[]⟩) (fun x=>r.ts.length - x.1) (0,_,L) ⟨by omega,hI,hF⟩
    (v1 (.cons _ _ _ rfl (.cons _ _ _ rfl (.cons _ _ _ rfl (.cons _ _ _ rfl (.cons _ _ _ rfl (.cons _ _ _ rfl (.cons _ _ _ rfl (.cons _ _ _ rfl (.nil)))))))))) ?_
   rintro ⟨j,st,L⟩ ⟨hj,hI,hF⟩
   simp only at hj hI hF
   refine rn ?_;refine z7 rfl (fun hc122=> ?_) (fun hc122=> ?_)
   ·have j2:j < r.ts.length:=by simpa using hc122
    obtain ⟨t,ht⟩:∃t,t=r.ts[j]:=⟨_,rfl⟩
    have hrowt:(r.ts.map zai)[j]? =some (zai t):=by rw [ht];simp [j2]
    have hdt:=List.drop_eq_getElem_cons j2
    rw [hdt,←ht] at hF
    simp only [List.map_cons,List.cons_append] at hF
    obtain ⟨hx,hF⟩:=hF.cons
    refine rn ?_;refine u4 11 rfl ?_
    refine rn ?_;refine z8 rfl (v2 rfl rfl (y1.fr3 (y1.of_acall (fs:= []) (cs:= [pZ bm,pZ by_]) (zzd step ok IJ y hy 0 t hx _ bm by_ _ _ hI))) rfl ?_)
    rintro _ _ ⟨_,rfl,L,hI,rfl⟩
    refine rn ?_;exact ⟨(j+1,_,L),⟨by omega,hI,hF⟩,(v1 (.cons _ _ _ rfl (.cons _ _ _ rfl (.cons _ _ _ rfl (.cons _ _ _ rfl (.cons _ _ _ rfl (.cons _ _ _ rfl (.cons _ _ _ rfl (.cons _ _ _ rfl (.nil)))))))))),by simp only;omega⟩
   ·obtain rfl:j=r.ts.length:=by
     have:r.ts.length≤j:=by simpa using hc122
     omega
    rw [List.drop_length,List.map_nil,List.nil_append] at hF
    refine rn ?_;exact ⟨(k+1,_,L),⟨by omega,hI,hF⟩,(v1 (.cons _ _ _ rfl (.cons _ _ _ rfl (.cons _ _ _ rfl (.cons _ _ _ rfl (.cons _ _ _ rfl (.nil))))))),by simp only;omega⟩
  ·obtain rfl:k=h.ords.length:=by
    have:h.ords.length≤k:=by simpa using hc101
    omega
   rw [List.drop_length,List.flatMap_nil,List.nil_append] at hF
   refine rn ?_;refine k7 (fun x:Nat×Option σ×List Res=>x.1≤h.mats.length∧IJ x.2.1 x.2.2∧Rem step ok x.2.1 (((h.mats.drop x.1).flatMap yf8)++h.wants.flatMap ybd) (goes step (some s0) (zc0 h))) (fun x=>⟨[(143,iv x.1),(142,iv (h.mats.map zd8).length),(1,pZ b1),(4,pZ bs),(5,.fn (.func 203) [] [pZ bs])],.box b1 184 [pZ bh]:: .box bh 28 (y9 h):: .box bs 240 [.fn (.func 202) [] [pZ bm,pZ by_]]:: .box bm 4 [bv (x.2.1).isSome]:: .box by_ 239 [y]::x.2.2,[]⟩) (fun x=>h.mats.length - x.1) (0,st,L) ⟨by omega,hI,hF⟩
    (v1 (.cons _ _ _ rfl (.cons _ _ _ rfl (.cons _ _ _ rfl (.cons _ _ _ rfl (.cons _ _ _ rfl (.nil))))))) ?_
   rintro ⟨k,st,L⟩ ⟨hk,hI,hF⟩
   simp only at hk hI hF
   refine rn ?_;refine z7 rfl (fun hc144=> ?_) (fun hc144=> ?_)
   ·have k2:k < h.mats.length:=by simpa using hc144
    obtain ⟨r,hr⟩:∃r,r=h.mats[k]:=⟨_,rfl⟩
    have hrowr:(h.mats.map zd8)[k]? =some (zd8 r):=by rw [hr];simp [k2]
    have hdr:=List.drop_eq_getElem_cons k2
    rw [hdr,←hr] at hF
    simp only [List.flatMap_cons,yf8,List.cons_append,List.append_assoc] at hF
    obtain ⟨hx,hF⟩:=hF.cons
    obtain ⟨hx2,hF⟩:=hF.cons
    have hle:=la.mats
    have hls:=la.matts r (by rw [hr];simp)
    refine rn ?_;refine u4 4 rfl ?_
    refine rn ?_;refine z8 rfl (v2 rfl rfl (y1.fr3 (y1.of_acall (fs:= []) (cs:= [pZ bm,pZ by_]) (zzd step ok IJ y hy 3 r.p hx _ bm by_ _ _ hI))) rfl ?_)
    rintro _ _ ⟨_,rfl,L,hI,rfl⟩
    refine rn ?_;refine u4 4 rfl ?_
    refine rn ?_;refine z8 rfl (v2 rfl rfl (y1.fr3 (y1.of_acall (fs:= []) (cs:= [pZ bm,pZ by_]) (zzd step ok IJ y hy 2 r.o hx2 _ bm by_ _ _ hI))) rfl ?_)
    rintro _ _ ⟨_,rfl,L,hI,rfl⟩
    refine rn ?_;refine k7 (fun x:Nat×Option σ×List Res=>x.1≤r.ts.length∧IJ x.2.1 x.2.2∧Rem step ok x.2.1 (((r.ts.drop x.1).map fun t=>((0:Nat),t))++(((h.mats.drop (k+1)).flatMap yf8)++h.wants.flatMap ybd)) (goes step (some s0) (zc0 h))) (fun x=>⟨[(167,iv x.1),(166,iv (r.ts.map zai).length),(12,.pp (zd8 r)),(143,iv k),(142,iv (h.mats.map zd8).length),(1,pZ b1),(4,pZ bs),(5,.fn (.func 203) [] [pZ bs])],.box b1 184 [pZ bh]:: .box bh 28 (y9 h):: .box bs 240 [.fn (.func 202) [] [pZ bm,pZ by_]]:: .box bm 4 [bv (x.2.1).isSome]:: .box by_ 239 [y]::x.2.2,[]⟩) (fun x=>r.ts.length - x.1) (0,_,L) ⟨by omega,hI,hF⟩
     (v1 (.cons _ _ _ rfl (.cons _ _ _ rfl (.cons _ _ _ rfl (.cons _ _ _ rfl (.cons _ _ _ rfl (.cons _ _ _ rfl (.cons _ _ _ rfl (.cons _ _ _ rfl (.nil)))))))))) ?_
    rintro ⟨j,st,L⟩ ⟨hj,hI,hF⟩
    simp only at hj hI hF
    refine rn ?_;refine z7 rfl (fun hc168=> ?_) (fun hc168=> ?_)
    ·have j2:j < r.ts.length:=by simpa using hc168
     obtain ⟨t,ht⟩:∃t,t=r.ts[j]:=⟨_,rfl⟩
     have hrowt:(r.ts.map zai)[j]? =some (zai t):=by rw [ht];simp [j2]
     have hdt:=List.drop_eq_getElem_cons j2
     rw [hdt,←ht] at hF
     simp only [List.map_cons,List.cons_append] at hF
     obtain ⟨hx,hF⟩:=hF.cons
     refine rn ?_;refine u4 7 rfl ?_
     refine rn ?_;refine z8 rfl (v2 rfl rfl (y1.fr3 (y1.of_acall (fs:= []) (cs:= [pZ bm,pZ by_]) (zzd step ok IJ y hy 0 t hx _ bm by_ _ _ hI))) rfl ?_)
     rintro _ _ ⟨_,rfl,L,hI,rfl⟩
     refine rn ?_;exact ⟨(j+1,_,L),⟨by omega,hI,hF⟩,(v1 (.cons _ _ _ rfl (.cons _ _ _ rfl (.cons _ _ _ rfl (.cons _ _ _ rfl (.cons _ _ _ rfl (.cons _ _ _ rfl (.cons _ _ _ rfl (.cons _ _ _ rfl (.nil)))))))))),by simp only;omega⟩
    ·obtain rfl:j=r.ts.length:=by
      have:r.ts.length≤j:=by simpa using hc168
      omega
     rw [List.drop_length,List.map_nil,List.nil_append] at hF
     refine rn ?_;exact ⟨(k+1,_,L),⟨by omega,hI,hF⟩,(v1 (.cons _ _ _ rfl (.cons _ _ _ rfl (.cons _ _ _ rfl (.cons _ _ _ rfl (.cons _ _ _ rfl (.nil))))))),by simp only;omega⟩
   ·obtain rfl:k=h.mats.length:=by
     have:h.mats.length≤k:=by simpa using hc144
     omega
    rw [List.drop_length,List.flatMap_nil,List.nil_append] at hF
    refine rn ?_;refine k7 (fun x:Nat×Option σ×List Res=>x.1≤h.wants.length∧IJ x.2.1 x.2.2∧Rem step ok x.2.1 (((h.wants.drop x.1).flatMap ybd)++ []) (goes step (some s0) (zc0 h))) (fun x=>⟨[(185,iv x.1),(184,iv (h.wants.map zfh).length),(1,pZ b1),(4,pZ bs),(5,.fn (.func 203) [] [pZ bs])],.box b1 184 [pZ bh]:: .box bh 28 (y9 h):: .box bs 240 [.fn (.func 202) [] [pZ bm,pZ by_]]:: .box bm 4 [bv (x.2.1).isSome]:: .box by_ 239 [y]::x.2.2,[]⟩) (fun x=>h.wants.length - x.1) (0,st,L) ⟨by omega,hI,by rw [List.append_nil];exact hF⟩
     (v1 (.cons _ _ _ rfl (.cons _ _ _ rfl (.cons _ _ _ rfl (.cons _ _ _ rfl (.cons _ _ _ rfl (.nil))))))) ?_
    rintro ⟨k,st,L⟩ ⟨hk,hI,hF⟩
    simp only at hk hI hF
    refine rn ?_;refine z7 rfl (fun hc186=> ?_) (fun hc186=> ?_)
    ·have k2:k < h.wants.length:=by simpa using hc186
     obtain ⟨r,hr⟩:∃r,r=h.wants[k]:=⟨_,rfl⟩
     have hrowr:(h.wants.map zfh)[k]? =some (zfh r):=by rw [hr];simp [k2]
     have hdr:=List.drop_eq_getElem_cons k2
     rw [hdr,←hr] at hF
     simp only [List.flatMap_cons,ybd,List.cons_append,List.append_assoc,List.nil_append] at hF
     obtain ⟨hx,hF⟩:=hF.cons
     have hle:=la.wants
     refine rn ?_;refine u4 8 rfl ?_
     refine rn ?_;refine z8 rfl (v2 rfl rfl (y1.fr3 (y1.of_acall (fs:= []) (cs:= [pZ bm,pZ by_]) (zzd step ok IJ y hy 1 r.s hx _ bm by_ _ _ hI))) rfl ?_)
     rintro _ _ ⟨_,rfl,L,hI,rfl⟩
     refine rn ?_;exact ⟨(k+1,_,L),⟨by omega,hI,hF⟩,(v1 (.cons _ _ _ rfl (.cons _ _ _ rfl (.cons _ _ _ rfl (.cons _ _ _ rfl (.cons _ _ _ rfl (.nil))))))),by simp only;omega⟩
    ·obtain rfl:k=h.wants.length:=by
      have:h.wants.length≤k:=by simpa using hc186
      omega
     rw [List.drop_length,List.flatMap_nil,List.nil_append] at hF
     refine rn ?_;have hF':st=goes step (some s0) (zc0 h):=hF.fin
     exact zd4 .nil (.trans (.perm ((pt2 _ _ _ _).trans (.cons _ ((pt2 _ _ _ _).trans (.cons _ (pt2 _ _ _ _))))) _) (.drop [_,_,_] _ _)) ⟨L,hF' ▸ hI,rfl⟩
theorem spoken (bh:Nat) (h:List Res):y7 Tryz.prog 141 [pZ bh] h (fun r h'=>∃b1,h'= .box b1 184 [pZ bh]::h∧r= .fn (.func 201) [] [pZ b1]):=by
 refine z6 Tryz.func141 rfl rfl rfl ?_
 refine rn ?_;refine z8 rfl (w8 rfl rfl rfl fun b1=> ?_)
 refine rn ?_;exact j6 rfl (.refl _ _) ⟨_,rfl,rfl⟩
def IJC (lp:LP) (q b2 b3:Nat):Option (List Int)→List Res→Prop
 |some m,L=>L=lp .ready none:: .defs q:: .box b3 156 ((m).map iv):: .box b2 33 [iv 0]:: [.glob 2 156 y3,.glob 4 305 y4,.glob 5 308 y2]∧m.length=4
 |none,L=>∃m:List Int,L=lp .done (some .ret):: .defs q:: .box b3 156 ((m).map iv):: .box b2 33 [iv 210]:: [.glob 2 156 y3,.glob 4 305 y4,.glob 5 308 y2]
theorem ytf (h:Hist) (la:Lim 4611686018427387904 h):y7 Tryz.prog 93 [.agg (y9 h)] [.glob 2 156 y3,.glob 4 305 y4,.glob 5 308 y2] (fun r h'=>h'= [.glob 2 156 y3,.glob 4 305 y4,.glob 5 308 y2]∧r=iv (zed h)):=by
 refine z6 Tryz.func93 rfl rfl rfl ?_
 refine rn ?_;refine z8 rfl (w8 rfl rfl rfl fun b1=> ?_)
 refine z8 rfl (y5 rfl fun b2=> ?_)
 refine rn ?_;refine qv rfl rfl (y0 rfl rfl (y1.qt (y1.of_fun (yqk h la)) ((pt2 _ _ _ _).trans (.cons _ ((pt2 _ _ _ _).trans (.cons _ (pt2 _ _ _ _))))))) ?_
 refine rn ?_;refine z7 rfl (fun hc10=> ?_) (fun hc10=> ?_)
 ·have hs:zah h=false:=zvh hc10
  refine rn ?_;exact zej (.cons _ _ _ _ (.one _ _ _ _ _ _ _ rfl inferInstance inferInstance rfl) .nil) (.drop [_,_] _ _) ⟨rfl,congrArg iv (yjw hs).symm⟩
 ·have hs:zah h=true:=zvi hc10
  refine rn ?_;refine z8 rfl (y5 rfl fun b3=> ?_)
  refine rn ?_;refine z8 rfl (v2 rfl rfl (y1.of_fun (spoken b1 _)) rfl ?_)
  rintro _ _ ⟨b1',rfl,rfl⟩
  refine rn ?_;refine zmh (fun pend h''=>(pend=none∧∃m:List Int,zo6 h=some m∧m.length=4∧h''= .box b1' 184 [pZ b1]:: .box b1 28 (y9 h):: .box b3 156 ((m).map iv):: .box b2 33 [iv 0]:: [.glob 2 156 y3,.glob 4 305 y4,.glob 5 308 y2])∨(pend=some .ret∧zo6 h=none∧∃m:List Int,h''= .box b1' 184 [pZ b1]:: .box b1 28 (y9 h):: .box b3 156 ((m).map iv):: .box b2 33 [iv 210]:: [.glob 2 156 y3,.glob 4 305 y4,.glob 5 308 y2])) rfl (fun fn l q lp hlp=> ?_) (fun q h'' hK=> ?_) (fun q h'' c hK=> ?_)
  ·suffices hy:∀(s:List Int) (L:List Res) (sort:Nat) (n:Int) (cells:List AV),OkN h (sort,n)→IJC lp q b2 b3 (some s) L→y1 Tryz.prog (yv l) [iv sort,.pp (iv n::cells)] L (fun r h'=>r=bv (zba s (sort,n)).isSome∧IJC lp q b2 b3 (zba s (sort,n)) h') by
    refine y7.mono (y7.perm ((pt2 _ _ _ _).trans (.cons _ (pt4 _ _ _ _ _ _))) (ymp zba (OkN h) (IJC lp q b2 b3) (yv l) rfl hy h la b1' b1 (zsg hs) [0,0,0,0] _ ⟨rfl,rfl⟩)) ?_
    rintro _ _ ⟨L',hI,rfl⟩
    cases hm:goes zba (some [0,0,0,0]) (zc0 h) with
    |some m=>
     rw [hm] at hI
     obtain ⟨rfl,hl⟩:=hI
     exact ⟨_,_,_,((pt2 _ _ _ _).trans (.cons _ (pt2 _ _ _ _))),by simp,.inl ⟨rfl,m,hm,hl,rfl⟩⟩
    |none=>
     rw [hm] at hI
     obtain ⟨m,rfl⟩:=hI
     exact ⟨_,_,_,((pt2 _ _ _ _).trans (.cons _ (pt2 _ _ _ _))),by simp,.inr ⟨rfl,hm,m,rfl⟩⟩
   rintro m _ sort n cells ⟨hs4,hn0,hn1⟩ ⟨rfl,hl⟩
   simp only at hs4 hn0 hn1
   have hnm:=la.nm sort
   refine zyh hlp rfl rfl ?_
   refine rn ?_;refine ⟨[(4,iv sort),(5,.pp (iv n::cells)),(3,pZ b3),(2,pZ b2)],(v1 (.cons _ _ _ rfl (.cons _ _ _ rfl (.cons _ _ _ rfl (.cons _ _ _ rfl (.nil)))))),?_⟩
   refine rn ?_;refine u4 6 rfl ?_
   refine dq rfl rfl qrA ?_;refine dq rfl rfl qrA ?_;refine dq rfl rfl qrA ?_;refine dq rfl rfl qrA ?_;refine dq rfl rfl (zaa rfl rfl hs4) ?_
   refine dq rfl rfl (zad rfl (yvt hl hs4)) ?_
   refine rn ?_;refine z7 rfl (fun hc20=> ?_) (fun hc20=> ?_)
   ·refine rn ?_;have hst:zba m (sort,n)=none:=by rw [zba];exact if_pos (by simpa using hc20)
    exact zq3 (.refl _) (by rw [hst];exact ⟨rfl,_,rfl⟩)
   ·refine rn ?_;refine u4 9 rfl ?_
    refine dq rfl rfl qrA ?_;refine dq rfl rfl qrA ?_;refine dq rfl rfl (zaa rfl rfl hs4) ?_
    refine dq rfl rfl (zad rfl (yvt hl hs4)) ?_
    refine rn2 ?_;refine qq rfl rfl (zaa rfl rfl hs4) ?_
    refine z8 rfl (zak rfl rfl rfl rfl (by simp [hl];omega) ?_)
    refine rn ?_;have hst:zba m (sort,n)=some (m.set sort (max (m.getD sort 0) (n+1))):=by rw [zba];exact if_neg (by simpa using hc20)
    exact zdf (.refl _) (by rw [hst];exact ⟨rfl,by rw [←yxa hl hs4];rfl,by simpa using hl⟩)
  ·obtain ⟨_,m,hm,hl,rfl⟩|⟨hc,_⟩:=hK
   rotate_left
   ·cases hc
   refine rn ?_;refine qv rfl rfl (y0 rfl rfl (v8 (yn2 _) (Sbs.refl _))) ?_
   refine rn ?_;refine k7 (fun k:Nat=>k≤4∧∀j,j < k→m.getD j 0=(nmK h j).length) (fun k=>⟨[(33,iv k),(32,.agg (zlz h)),(3,pZ b3),(2,pZ b2)],.defs q:: .box b1' 184 [pZ b1]:: .box b1 28 (y9 h):: .box b3 156 ((m).map iv):: .box b2 33 [iv 0]:: [.glob 2 156 y3,.glob 4 305 y4,.glob 5 308 y2],[q]⟩) (fun k=>4 - k) 0 ⟨by omega,fun j hj=>absurd hj (Nat.not_lt_zero j)⟩
    (v1 (.cons _ _ _ rfl (.cons _ _ _ rfl (.cons _ _ _ rfl (.cons _ _ _ rfl (.nil)))))) ?_
   rintro k ⟨hk,hz⟩
   refine rn ?_;refine z7 rfl (fun hc34=> ?_) (fun hc34=> ?_)
   ·have hk4:k < 4:=by simp at hc34;omega
    refine za8 ?_;refine zag ?_;refine w9 ?_;refine zcn ?_;refine w9 (y6 ?_)
    refine q1 ?_;refine qq rfl rfl (zcp rfl rfl (by omega) (by have:=yde h hk4;simpa using this)) ?_
    refine q1 ?_;refine q1 ?_;refine u3 (zag ?_)
    refine w9 (y6 ?_)
    refine q1 ?_;refine qq rfl rfl (zaa rfl rfl hk4) ?_
    refine qq rfl rfl (zad rfl (yvt hl hk4)) ?_
    refine rn ?_;refine z7 rfl (fun hc42=> ?_) (fun hc42=> ?_)
    ·refine rn ?_;exact zh3 (.refl _) (.cons _ _ _ _ (.one _ _ _ _ _ _ _ rfl inferInstance inferInstance rfl) .nil) (.drop [_,_,_,_] _ _) ⟨rfl,congrArg iv (yjx hm hk4 (by simpa using hc42)).symm⟩
    ·refine rn ?_;exact ⟨k+1,⟨by omega,fun j hj=>by
      by_cases hjk:j=k
      ·subst hjk;simpa using hc42
      ·exact hz j (by omega)⟩,(v1 (.cons _ _ _ rfl (.cons _ _ _ rfl (.cons _ _ _ rfl (.cons _ _ _ rfl (.nil)))))),by omega⟩
   ·have hk4:k=4:=by simp at hc34;omega
    subst hk4
    refine rn ?_;exact zh3 (.refl _) (.cons _ _ _ _ (.one _ _ _ _ _ _ _ rfl inferInstance inferInstance rfl) .nil) (.drop [_,_,_,_] _ _) ⟨rfl,congrArg iv (yjy hs hm hl hz).symm⟩
  ·obtain ⟨hc,_⟩|⟨hc,hm,m,rfl⟩:=hK
   ·cases hc
   obtain rfl:c= .ret:=by simpa using hc
   refine rn ?_;exact zh3 (.refl _) (.cons _ _ _ _ (.one _ _ _ _ _ _ _ rfl inferInstance inferInstance rfl) .nil) (.drop [_,_,_,_] _ _) ⟨rfl,congrArg iv (yam hm).symm⟩
attribute [local irreducible] zd9 jch zfo
def q7:List AV:= [.any,.fn (.func 300) [] [],.fn (.func 307) [] [],.fn (.func 308) [] [],.fn (.func 309) [] [],.fn (.func 310) [] [],.fn (.func 311) [] [],.fn (.func 312) [] [],.fn (.func 313) [] [],.fn (.func 314) [] [],.fn (.func 315) [] []]
def yua (k:Nat):AV:=q7.getD k .any
theorem ypn {k:Nat} (h2:k≤10):q7[k]? =some (yua k):=by
 have:k < q7.length:=by show k < 11;omega
 rw [yua,List.getD_eq_getElem?_getD,List.getElem?_eq_getElem this];rfl
theorem yj5 (h:Hist) (la:Lim 3000 h) (b:Nat) (G:List Res) {k:Nat} (h1:1≤k) (h2:k≤10):y1 Tryz.prog (yua k) [pZ b] (.box b 252 (zcd h)::G) (fun r h'=>h'=G∧r=zbu (zct h k)):=by
 match k,h1,h2 with
 |1,_,_=>exact y1.of_acall (fs:= []) (cs:= []) (yrh h la b G)
 |2,_,_=>exact y1.of_acall (fs:= []) (cs:= []) (yxk h la b G)
 |3,_,_=>exact y1.of_acall (fs:= []) (cs:= []) (yrg h la b G)
 |4,_,_=>exact y1.of_acall (fs:= []) (cs:= []) (yhn h la b G)
 |5,_,_=>exact y1.of_acall (fs:= []) (cs:= []) (yxg h la b G)
 |6,_,_=>exact y1.of_acall (fs:= []) (cs:= []) (yu2 h la b G)
 |7,_,_=>exact y1.of_acall (fs:= []) (cs:= []) (yra h la b G)
 |8,_,_=>exact y1.of_acall (fs:= []) (cs:= []) (yhq h la b G)
 |9,_,_=>exact y1.of_acall (fs:= []) (cs:= []) (yrd h la b G)
 |10,_,_=>exact y1.of_acall (fs:= []) (cs:= []) (yu0 h la b G)
 |k+11,_,h2=>omega
theorem ynt {o:Option Nat} {i:Int} {b:Bool} (h:zbu o= .tup [iv i,bv b]):i=yxp o∧b=o.isSome:=by
 cases o with
 |none=>simp only [zbu,AV.tup.injEq,List.cons.injEq,AV.v.injEq,Value.int.injEq,Value.bool.injEq,true_and,and_true] at h;exact ⟨h.1.symm,h.2.symm⟩
 |some n=>simp only [zbu,AV.tup.injEq,List.cons.injEq,AV.v.injEq,Value.int.injEq,Value.bool.injEq,true_and,and_true] at h;exact ⟨h.1.symm,h.2.symm⟩
theorem zrd {h:Hist} (hm:zfz h=true):Lim 3000 h:=by
 unfold zfz at hm;simp only [Bool.and_eq_true] at hm;exact zpj hm.1
theorem yrf (h:Hist) (la:Lim 4611686018427387904 h):y7 Tryz.prog 143 [.agg (y9 h)] [.glob 2 156 y3,.glob 4 305 y4,.glob 5 308 y2,.glob 3 246 q7] (fun r h'=>h'= [.glob 2 156 y3,.glob 4 305 y4,.glob 5 308 y2,.glob 3 246 q7]∧r=ziv h):=by
 refine z6 Tryz.func143 rfl rfl rfl ?_
 refine rn ?_;refine z8 rfl (w8 rfl rfl rfl fun b1=> ?_)
 refine z8 rfl (y5 rfl fun b2=> ?_)
 refine rn ?_;refine qv rfl rfl (y0 rfl rfl (y1.qt (y1.of_fun (ytf h la)) ((pt2 _ _ _ _).trans (.cons _ ((pt2 _ _ _ _).trans (.cons _ (pt2 _ _ _ _))))))) ?_
 refine rn ?_;refine z7 rfl (fun hc12=> ?_) (fun hc12=> ?_)
 ·have hm:¬zfz h=true:=by intro q;rw [zed,if_pos q] at hc12;cases hc12
  have he:zed h=210:=by rw [zed,if_neg hm]
  refine rn ?_;exact zej (.cons _ _ _ _ (.agg _ _ _ _ _ _ _ rfl inferInstance inferInstance inferInstance rfl) (.cons _ _ _ _ (.tmp _ _ rfl) (.cons _ _ _ _ (.tmp _ _ rfl) .nil))) (.drop [_,_] _ _) ⟨rfl,by rw [ziv,if_neg hm,he];rfl⟩
 ·have hm:zfz h=true:=yfb.1 (by simpa using hc12)
  have la3:=zrd hm
  refine rn ?_;refine zkw (fun k:Nat=>(1≤k∧k≤11)∧za7 (zct h) rules10=za7 (zct h) (rules10.drop (k - 1))) (fun k=>⟨[(6,iv k),(1,pZ b1),(2,pZ b2)],(.box b2 158 [iv 0,iv 0]:: .box b1 28 (y9 h):: .glob 2 156 y3:: .glob 4 305 y4:: .glob 5 308 y2:: .glob 3 246 q7:: []),[]⟩) (fun k=>11 - k) 1 ⟨by omega,rfl⟩ es ?_
  rintro k ⟨⟨k1,k3⟩,zk⟩
  obtain ⟨pi,pb,hpv⟩:∃i b,zbu (zct h k)= .tup [iv i,bv b]:=zd6 _
  obtain ⟨ei,eb⟩:=ynt hpv
  refine rn ?_;refine z7 rfl (fun hc16=> ?_) (fun hc16=> ?_)
  ·have k2:k≤10:=by have:=oT hc16;omega
   refine za8 ?_;refine rn0 ?_;refine w9 ?_;refine zcn ?_;refine w9 ?_;refine zf4 11 [5,6] [7,8,9,10] (fun he=>he=(.box b2 158 [iv 0,iv 0]:: .box b1 28 (y9 h):: .glob 2 156 y3:: .glob 4 305 y4:: .glob 5 308 y2:: .glob 3 246 q7:: [])∨∃b,he= .box b 252 (zcd h)::(.box b2 158 [iv 0,iv 0]:: .box b1 28 (y9 h):: .glob 2 156 y3:: .glob 4 305 y4:: .glob 5 308 y2:: .glob 3 246 q7:: [])) rfl rfl (.inl rfl) ?_
   refine jq rfl (fun he hC=>by rcases hC with rfl|⟨b,rfl⟩ <;> exact qrA) ?_
   refine jq rfl (fun he hC=>by rcases hC with rfl|⟨b,rfl⟩ <;> exact (by exact zaa rfl rfl (by show k < 11;omega))) ?_
   refine jq rfl (fun he hC=>by rcases hC with rfl|⟨b,rfl⟩ <;> exact (by exact zad rfl (show q7[0+k * 1]? =some (yua k) by rw [Nat.zero_add,Nat.mul_one];exact ypn k2))) ?_
   refine jq rfl (fun he hC=>by rcases hC with rfl|⟨b,rfl⟩ <;> exact qrA) ?_
   refine jq rfl (fun he hC=>by rcases hC with rfl|⟨b,rfl⟩ <;> exact (by exact j7 (out:=zcd h) rfl (by rfl))) ?_
   refine je rfl ?_;refine je rfl ?_;refine je rfl ?_;refine je rfl ?_;refine je rfl ?_;refine je rfl ?_;refine yix ?_;refine jce rfl fun u=> ?_
   refine w8 rfl rfl rfl fun b5=>⟨_,_,rfl,.inr ⟨_,rfl⟩,?_⟩
   refine jce rfl fun u=> ?_
   refine v2 rfl rfl (yj5 h la3 b5 _ k1 k2) rfl ?_
   rintro _ _ ⟨rfl,rfl⟩
   rw [hpv]
   refine ⟨_,_,rfl,.inl rfl,?_⟩
   refine jcn ?_;refine lq rfl rfl (by exact qrA) ?_
   refine lq rfl rfl (by exact qrA) ?_
   refine lq rfl rfl (by exact qrA) ?_
   refine lq rfl rfl (by exact qrA) ?_
   refine ln ?_;refine rn ?_;refine z7 rfl (fun hc29=> ?_) (fun hc29=> ?_)
   ·refine rn ?_;exact zej (.cons _ _ _ _ (.agg _ _ _ _ _ _ _ rfl inferInstance inferInstance inferInstance rfl) (.cons _ _ _ _ (.tmp _ _ rfl) (.cons _ _ _ _ (.tmp _ _ rfl) .nil))) (.drop [_,_] _ _) ⟨rfl,by
     cases hp:zct h k with
     |none=>rw [hp] at eb;rw [eb] at hc29;cases hc29
     |some n=>rw [hp] at ei;subst ei;rw [ziv,if_pos hm,zkn,ztg k1 k2 zk hp];rfl⟩
   ·refine rn ?_;exact ⟨k+1,⟨by omega,zp1 k1 k2 zk (by cases hp:zct h k with|none=>rfl|some n=>rw [hp] at eb;rw [eb] at hc29;cases hc29)⟩,eA,by omega⟩
  ·have k2:11≤k:=by have:=oF hc16;omega
   refine rn ?_;exact zej (.cons _ _ _ _ (.agg _ _ _ _ _ _ _ rfl inferInstance inferInstance inferInstance rfl) (.cons _ _ _ _ (.tmp _ _ rfl) (.cons _ _ _ _ (.tmp _ _ rfl) .nil))) (.drop [_,_] _ _) ⟨rfl,by rw [ziv,if_pos hm,zkn,zp2 k2 k3 zk];rfl⟩
theorem yq5 (h:Hist) (la:Lim 4611686018427387904 h):y7 Tryz.prog 94 [.agg (y9 h)] [.glob 2 156 y3,.glob 4 305 y4,.glob 5 308 y2,.glob 3 246 q7] (fun r h'=>h'= [.glob 2 156 y3,.glob 4 305 y4,.glob 5 308 y2,.glob 3 246 q7]∧r=bv (zar h)):=by
 refine z6 Tryz.func94 rfl rfl rfl ?_
 refine rn ?_;refine z8 rfl (w8 rfl rfl rfl fun b1=> ?_)
 refine q1 ?_;refine u3 (zag ?_)
 refine w9 (y6 ?_)
 obtain ⟨fi,fj,fb,fe,hf,hfb⟩:=zth h
 refine rn ?_;refine qv rfl rfl (y0 rfl rfl (y1.qt (y1.of_fun (yrf h la)) ((pt1 _ _ _).trans (.cons _ ((pt1 _ _ _).trans (.cons _ ((pt1 _ _ _).trans (.cons _ (pt1 _ _ _))))))))) ?_
 rw [hf]
 refine rn ?_;refine z8 rfl (y5 rfl fun b3=> ?_)
 refine rn ?_;refine w7 (fun hg2_2=> ?_) (fun hg2_2=> ?_)
 ·refine rn ?_;refine rq 2 ?_
  exact ⟨rfl,congrArg bv (by rw [hfb];simp_all)⟩
 ·refine rn ?_;refine rq 2 ?_
  exact ⟨rfl,congrArg bv (by rw [hfb];simp_all)⟩
end Go.Proofs
set_option maxRecDepth 100000
namespace Go.Proofs.YtfmcbdjnmlcacaaGreatDoor
open Go Go.Ab Go.H
def ypm:DataW Unit:=match (Rows.laid_yardarm_rules_asks:DataW Unit) with| .iface _ d=>d|d=>d
def ydf:List (List UInt8):=match ypm with| .agg ds=>ds.map (fun d=>match d with| .iface _ (.lit (.string b))=>b|_=> [])|_=> []
def nm (k:Nat):List UInt8:=ydf.getD (k+1) []
theorem yfm:ypm.funcsOut= .agg (.nil::(ydf.drop 1).map .held):=by kernel_rfl
theorem yi7 {w:World} {c:Array Value} {T0:TypeId} {fr:Nat×Nat} {g:Nat} {T:TypeId} {vs:List AV} (hh:w.heap[g]? =some (.cells c T0 fr)) (hl:vs.length=c.size) (h:∀j (h1:j < vs.length) (h2:j < c.size),Rel w noX vs[j] c[j]):(Res.glob g T vs).holds w noX:=
 ⟨fun h=>h,(Array.getElem?_eq_some_iff.1 hh).1,c,T0,fr,hh,hl,fun j h1 h2=>h j h1 h2⟩
theorem yst (w:World) (f:Nat):Rel w noX (.fn (.func f) [] []) (.func (.func f) #[] #[]):= .fn _ _ _ _ _ rfl rfl (fun j h=>absurd h (Nat.not_lt_zero _)) (fun j h=>absurd h (Nat.not_lt_zero _))
def fnA:List Nat:= [300,307,308,309,310,311,312,313,314,315]
theorem yj4 (k:Nat) (hk:k < 10):∃b r,ydf[k+1]? =some (b::r)∧((List.range Tryz.prog.funcs.size).filter fun f=>(Tryz.prog.funcs[f]?).any (·.name.toUTF8.data.toList==b::r))= [fnA.getD k 0]∧q7[k+1]? =some (.fn (.func (fnA.getD k 0)) [] []):=by
 match k,hk with
 |0,_=>exact ⟨(nm 0).headD 0,(nm 0).tail,by kernel_rfl,by kernel_rfl,by kernel_rfl⟩
 |1,_=>exact ⟨(nm 1).headD 0,(nm 1).tail,by kernel_rfl,by kernel_rfl,by kernel_rfl⟩
 |2,_=>exact ⟨(nm 2).headD 0,(nm 2).tail,by kernel_rfl,by kernel_rfl,by kernel_rfl⟩
 |3,_=>exact ⟨(nm 3).headD 0,(nm 3).tail,by kernel_rfl,by kernel_rfl,by kernel_rfl⟩
 |4,_=>exact ⟨(nm 4).headD 0,(nm 4).tail,by kernel_rfl,by kernel_rfl,by kernel_rfl⟩
 |5,_=>exact ⟨(nm 5).headD 0,(nm 5).tail,by kernel_rfl,by kernel_rfl,by kernel_rfl⟩
 |6,_=>exact ⟨(nm 6).headD 0,(nm 6).tail,by kernel_rfl,by kernel_rfl,by kernel_rfl⟩
 |7,_=>exact ⟨(nm 7).headD 0,(nm 7).tail,by kernel_rfl,by kernel_rfl,by kernel_rfl⟩
 |8,_=>exact ⟨(nm 8).headD 0,(nm 8).tail,by kernel_rfl,by kernel_rfl,by kernel_rfl⟩
 |9,_=>exact ⟨(nm 9).headD 0,(nm 9).tail,by kernel_rfl,by kernel_rfl,by kernel_rfl⟩
theorem yvp {w:World} (h:laidMetH Tryz.prog zrg w):(Res.glob 3 246 q7).holds w noX:=by
 obtain ⟨g,t,cs,fuel,p,hg,ht,hv,hd⟩:=h.funcs (n:= "yardarm/rules.asks") (d:=ypm) (.tail _ (.tail _ (.head _)))
 obtain rfl:=Option.some.inj ((show Tryz.prog.globalNamed "yardarm/rules.asks" =some 3 by kernel_rfl).symm.trans hg)
 obtain rfl:=Option.some.inj ((show (Tryz.prog.globals[3]?).map (·.type)=some 246 by kernel_rfl).symm.trans ht)
 rw [yfm] at hd
 have c1:Tryz.prog.cellsOf 245=1:=by kernel_rfl
 have c11:Tryz.prog.cellsOf 246=11:=by kernel_rfl
 have hlen:cs.toList.length=11:=by
  obtain ⟨_,_,_,_,hl,_⟩:=DataW.trod_array Tryz.underlying246 hd
  rw [hl,c11]
 unfold World.var? at hv
 rw [hg] at hv
 simp only [Option.bind_some] at hv
 split at hv
 ·rename_i c T0 fr hh
  cases hv
  refine yi7 hh (by rw [show q7.length=11 from rfl];simpa using hlen.symm) fun j h1 h2=> ?_
  cases j with
  |zero=>exact .any _
  |succ k=>
   have hk:k < 10:=by have:q7.length=11:=rfl;omega
   obtain ⟨b,r,hn,hone,ha⟩:=yj4 k hk
   obtain ⟨f',d,q,e1,e2⟩:=Lib.array_elem Tryz.underlying246 hd (k+1) (by omega)
   have e1':d= .held (b::r):=by
    rw [List.getElem?_cons_succ,List.getElem?_map,List.getElem?_drop,Nat.add_comm 1 k,hn] at e1
    exact (Option.some.inj e1).symm
   subst e1'
   rw [c1,Nat.mul_one,List.drop_eq_getElem_cons (by simpa using h2),List.take_succ_cons,List.take_zero] at e2
   have:=func_of_trod (f0:=fnA.getD k 0) Tryz.underlying245 hone e2
   rw [Array.getElem_toList] at this
   rw [this,show q7[k+1]= .fn (.func (fnA.getD k 0)) [] [] from Option.some.inj ((List.getElem?_eq_getElem h1).symm.trans ha)]
   exact yst _ _
 ·cases hv
theorem zz9 {W:World} (h:laidMetH Tryz.prog zrg W):HRel noX W [.glob 2 156 y3,.glob 4 305 y4,.glob 5 308 y2,.glob 3 246 q7]:=by
 obtain ⟨a,b,c,d⟩:=ydx h
 have hO:OO [.glob 2 156 y3,.glob 4 305 y4,.glob 5 308 y2] noX=noX:=ywh
 have hO':OO [.glob 2 156 y3,.glob 4 305 y4,.glob 5 308 y2,.glob 3 246 q7] noX=noX:=by funext b;simp [OO,k9,noX,Res.own]
 refine ⟨by simp [k9,Res.own],fun b hb=>by simp [k9,Res.own] at hb,fun b hb=>hb.elim,fun r hr=> ?_⟩
 rw [hO']
 rw [hO] at d
 simp only [List.mem_cons,List.not_mem_nil,or_false] at hr
 rcases hr with rfl|rfl|rfl|rfl
 ·exact d _ (by simp)
 ·exact d _ (by simp)
 ·exact d _ (by simp)
 ·exact yvp h
theorem ywg:OO [.glob 2 156 y3,.glob 4 305 y4,.glob 5 308 y2,.glob 3 246 q7] noX=noX:=by funext b;simp [OO,k9,noX,Res.own]
end Go.Proofs.YtfmcbdjnmlcacaaGreatDoor
namespace Go.Proofs
open Go Go.Ab
open Go.H
def yhd (l:List Int):List AV:= [zaq l]
theorem yrj {P:Program} {h:List Res} {f:Operand→Option AV} {o:Oper} {b c:Bool} (hq:QR P h f o (.v (.bool b))) (e:b=c):QR P h f o (.v (.bool c)):=by subst e;exact hq
theorem nzT {a:Int} (h:(a !=0)=true):a≠0:=by simpa using h
theorem nzF {a:Int} (h:(a !=0)=false):a=0:=by simpa using h
theorem zwf (l:List Ev):(zdb l).length≤l.length:=by rw [zdb,(zcs _).length_eq,oM];exact List.length_filter_le _ _
def dnM (l:List Int):List (Int×Bool):=zsj (fun _:Int=>true) (fun t:Int=>t) [] l
theorem yta {l:List Int} {k:Nat} (hk:k < l.length):dnM (l.take (k+1))=zdy l[k] true (dnM (l.take k)):=by
 rw [dnM,dnM,zsj,zsj,List.take_succ_eq_append_getElem hk,List.foldl_append];rfl
theorem zga (l:List Ev) (t:Int):(za6 t (dnM (zdb l))).getD false=zfb l t 5:=by
 rw [dnM,zgw]
 cases hq:zfb l t 5 with
 |true=>rw [if_pos (by rw [List.any_eq_true];exact ⟨t,zku.2 hq,by simp⟩)];rfl
 |false=>
  rw [if_neg (fun q=>by
   obtain ⟨x,hx,e⟩:=List.any_eq_true.1 q
   have e:x=t:=by simpa using e
   rw [e,zku,hq] at hx;cases hx)]
  rfl
def evD (l:List Ev) (n:Int):Ev:=(l[n.toNat]?).getD ⟨0,0,0,0,0,⟨0,0⟩,0,[]⟩
theorem ztm {l:List Ev} {a:Nat} (ha:a < l.length):evD l (a:Int)=l[a]:=by rw [evD,Int.toNat_natCast,List.getElem?_eq_getElem ha];rfl
def zeh (h:Hist) (n:Int):Int:=if v7 h=0 then (if 0≤n∧n < h.evs.length∧(evD h.evs n).kind=4 then 0 else 2) else v7 h
def zpi (h:Hist) (n:Int):List Seen:=if zeh h n=0 then yms h (evD h.evs n) n.toNat else []
theorem yw9 {h:Hist} {n:Int} (hc:v7 h≠0):zeh h n=v7 h∧zpi h n= []:=by
 have e:zeh h n=v7 h:=by rw [zeh,if_neg hc]
 exact ⟨e,by rw [zpi,e,if_neg hc]⟩
theorem yw8 {h:Hist} {n:Int} (hc:v7 h=0) (hn:¬(0≤n∧n < h.evs.length∧(evD h.evs n).kind=4)):zeh h n=2∧zpi h n= []:=by
 have e:zeh h n=2:=by rw [zeh,if_pos hc,if_neg hn]
 exact ⟨e,by rw [zpi,e];rfl⟩
theorem yw7 {h:Hist} {a:Nat} (hc:v7 h=0) (ha:a < h.evs.length) (h4:h.evs[a].kind=4):zeh h a=0∧zpi h a=(upR h.os.length).map (ykm h.evs h.evs[a].t h.evs[a].scan a):=by
 have e:zeh h a=0:=by rw [zeh,if_pos hc,if_pos ⟨by omega,by omega,by rw [ztm ha];exact h4⟩]
 exact ⟨e,by rw [zpi,e,if_pos rfl,ztm ha,Int.toNat_natCast];rfl⟩
set_option maxRecDepth 10000
instance:EqInts Tryz.prog 41 7:=⟨by kernel_rfl,fun w xs ys h1 h2=>match xs,ys,h1,h2 with
 | [a0,a1,a2,a3,a4,a5,a6],[c0,c1,c2,c3,c4,c5,c6],_,_=>by
   rw [run_equalIn_struct w 9999 41 _ _ (by kernel_rfl) (by kernel_rfl)]
   simp only [Program.fieldsOf,Tryz.underlying41]
   simp [Op.eqFields,part,run_equalIn_int _ 9998 3 .i64 .i64 _ _ Tryz.underlying3]
   by_cases h0:a0=c0
   case neg=>simp [h0]
   subst h0
   by_cases h1:a1=c1
   case neg=>simp [h1]
   subst h1
   by_cases h2:a2=c2
   case neg=>simp [h2]
   subst h2
   by_cases h3:a3=c3
   case neg=>simp [h3]
   subst h3
   by_cases h4:a4=c4
   case neg=>simp [h4]
   subst h4
   by_cases h5:a5=c5
   case neg=>simp [h5]
   subst h5
   by_cases h6:a6=c6
   case neg=>simp [h6]
   subst h6
   simp⟩
end Go.Proofs
namespace Go.Ab
open Go
end Go.Ab
set_option maxRecDepth 10000
namespace Go.Proofs
open Go Go.Ab
attribute [local irreducible] QR QV OE zch aw zc6 zdc zbg zb8 thn zfa zd9 jch zfo
open Go.H
theorem ysj (a:Int):y7 Tryz.prog 204 [iv a] [] (fun r h'=>h'= []∧r=bv false):=by
 refine z6 Tryz.func204 rfl rfl rfl ?_
 refine rn ?_;refine rq 0 ?_
 exact ⟨rfl,congrArg bv (bne_self_eq_false a)⟩
def zmg (a b:Int):Int:=if a < b then -1 else if b < a then 1 else 0
theorem ztz (a b:Int) (l m:List Int):zjt (a::l) (b::m)=if zmg a b=0 then zjt l m else zmg a b:=by
 rw [zjt,zmg]
 by_cases h1:a < b
 ·rw [if_pos h1,if_pos h1];rfl
 ·rw [if_neg h1,if_neg h1]
  by_cases h2:b < a
  ·rw [if_pos h2,if_pos h2];rfl
  ·rw [if_neg h2,if_neg h2];rfl
theorem zqc (a b:Int):y7 Tryz.prog 144 [iv a,iv b] [] (fun r h'=>h'= []∧r=iv (zmg a b)):=by
 refine z6 Tryz.func144 rfl rfl rfl ?_
 refine rn ?_;refine qv rfl rfl (y0 rfl rfl (v8 (ysj _) (Sbs.refl _))) ?_
 refine rn ?_;refine qv rfl rfl (y0 rfl rfl (v8 (ysj _) (Sbs.refl _))) ?_
 refine rn ?_;refine z7 rfl (fun hc11=> ?_) (fun hc11=> ?_)
 ·exact absurd hc11 (by decide)
 ·refine rn ?_;refine z7 rfl (fun hc13=> ?_) (fun hc13=> ?_)
  ·exact absurd hc13 (by decide)
  ·refine rn ?_;refine z7 rfl (fun hc16=> ?_) (fun hc16=> ?_)
   ·refine rn ?_;refine rq 0 ?_
    exact ⟨rfl,congrArg iv (by rw [zmg,if_pos (oT hc16)])⟩
   ·refine rn ?_;refine z7 rfl (fun hc19=> ?_) (fun hc19=> ?_)
    ·refine rn ?_;refine rq 0 ?_
     exact ⟨rfl,congrArg iv (by rw [zmg,if_neg (oF hc16),if_pos (oT hc19)])⟩
    ·refine rn ?_;refine rq 0 ?_
     exact ⟨rfl,congrArg iv (by rw [zmg,if_neg (oF hc16),if_neg (oF hc19)])⟩
def ze4 (a b:Conf):Bool:=([a.f,a.t,a.k,a.a,a.b,a.o,a.p]:List Int)== [b.f,b.t,b.k,b.a,b.b,b.o,b.p]
theorem zkt (a b:Conf):ze4 a b=decide (a=b):=by
 rw [ze4,Bool.eq_iff_iff,decide_eq_true_iff]
 obtain ⟨a1,a2,a3,a4,a5,a6,a7⟩:=a
 obtain ⟨b1,b2,b3,b4,b5,b6,b7⟩:=b
 simp
end Go.Proofs
namespace Go.Ab
open Go
section
variable {P:Program} {ro:Option Nat} {nt:Nat} {c:Code} {Q:Exit→St→Prop} {t:Fr} {h:List Res} {ds:List Nat}
theorem zhh {σ:Type} (n:Nat) (p:Nat→σ→Prop) (inv:Nat→σ→St) (x0:σ) (hp:p 0 x0) (h0:Ent nt ⟨t,h,ds⟩ (inv 0 x0))
 (round:∀k x,k≤n→p k x→aw P ro nt c (thn (fun s'=>k < n∧∃x',p (k+1) x'∧Ent nt s' (inv (k+1) x')) Q) (inv k x)):aw P ro nt (.loop c) Q ⟨t,h,ds⟩:=
 k7 (fun x:Nat×σ=>x.1≤n∧p x.1 x.2) (fun x=>inv x.1 x.2) (fun x=>n - x.1) (0,x0) ⟨Nat.zero_le _,hp⟩ h0 fun x hk=>zgc (fun e s' hq=>by
  cases e with
  |normal=>
   obtain ⟨h1,x',h2,h3⟩:=hq
   exact ⟨(x.1+1,x'),⟨h1,h2⟩,h3,by simp only;omega⟩
  |_=>exact hq) (round x.1 x.2 hk.1 hk.2)
end
end Go.Ab
set_option maxRecDepth 10000
namespace Go.Proofs
open Go Go.Ab
attribute [local irreducible] QR QV OE zch aw zc6 zdc zbg zb8 thn zfa zd9 jch zfo
open Go.H
theorem yd4 (h:Hist) (la:Lim 4611686018427387904 h):y7 Tryz.prog 38 [.agg (y9 h)] [.glob 2 156 y3,.glob 4 305 y4,.glob 5 308 y2,.glob 3 246 q7] (fun r h'=>h'= [.glob 2 156 y3,.glob 4 305 y4,.glob 5 308 y2,.glob 3 246 q7]∧r=iv (v7 h)):=by
 refine z6 Tryz.func38 rfl rfl rfl ?_
 refine rn ?_;refine z8 rfl (w8 rfl rfl rfl fun b1=> ?_)
 refine rn ?_;refine qv rfl rfl (y0 rfl rfl (y1.qt (y1.of_fun (ytf h la)) ((pt1 _ _ _).trans (.cons _ ((pt1 _ _ _).trans (.cons _ (pt1 _ _ _))))))) ?_
 refine rn ?_;refine z7 rfl (fun hc7=> ?_) (fun hc7=> ?_)
 ·have hm:¬zfz h=true:=by intro q;rw [zed,if_pos q] at hc7;cases hc7
  have he:zed h=210:=by rw [zed,if_neg hm]
  refine rn ?_;refine rq 1 ?_
  exact ⟨rfl,by rw [v7,if_neg hm,he];rfl⟩
 ·have hm:zfz h=true:=yfb.1 (by simpa using hc7)
  refine rn ?_;refine qv rfl rfl (y0 rfl rfl (y1.qt (y1.of_fun (yq5 h la)) ((pt1 _ _ _).trans (.cons _ ((pt1 _ _ _).trans (.cons _ ((pt1 _ _ _).trans (.cons _ (pt1 _ _ _))))))))) ?_
  refine rn ?_;refine z7 rfl (fun hc11=> ?_) (fun hc11=> ?_)
  ·refine rn ?_;refine rq 1 ?_
   exact ⟨rfl,by rw [v7,if_pos hm];simp_all;rfl⟩
  ·refine rn ?_;refine rq 1 ?_
   exact ⟨rfl,by rw [v7,if_pos hm];simp_all;rfl⟩
theorem zrh (h:Hist) (kd:Int) (W:List Res):y7 Tryz.prog 218 [.agg (y9 h),iv kd] W (fun r h'=>∃b1 b2,h'= .box b1 28 (y9 h):: .box b2 3 [iv kd]::W∧r= .fn (.func 264) [] [pZ b1,pZ b2]):=by
 refine z6 Tryz.func218 rfl rfl rfl ?_
 refine rn ?_;refine z8 rfl (w8 rfl rfl rfl fun b2=> ?_)
 refine z8 rfl (w8 rfl rfl rfl fun b3=> ?_)
 refine rn ?_;exact j6 rfl (.perm (pt1 _ _ _) _) ⟨_,_,rfl,rfl⟩
theorem zn5 {σ:Type} (h:Hist) (la:h.evs.length≤1000000) (kd:Int) (y:AV) (b1 b2:Nat) (p q:Nat→σ→Prop) (I F:Nat→σ→List Res) (x0:σ) (hp0:p 0 x0) (hy:∀k x,(hk:k < h.evs.length)→p k x→(h.evs[k].kind==kd)=true→y1 Tryz.prog y [iv k,.agg (evR h.evs[k])] (.box b1 28 (y9 h):: .box b2 3 [iv kd]::I k x) (fun r h'=>∃x',(r=bv true∧p (k+1) x'∧h'= .box b1 28 (y9 h):: .box b2 3 [iv kd]::I (k+1) x')∨(r=bv false∧q k x'∧h'= .box b1 28 (y9 h):: .box b2 3 [iv kd]::F k x'))) (hs:∀k x,(hk:k < h.evs.length)→p k x→(h.evs[k].kind==kd)=false→∃x',p (k+1) x'∧I (k+1) x'=I k x):y7 Tryz.prog 264 [y,pZ b1,pZ b2] (.box b1 28 (y9 h):: .box b2 3 [iv kd]::I 0 x0) (fun r h'=>(∃x,p h.evs.length x∧h'=I h.evs.length x)∨∃k x,q k x∧h'=F k x):=by
 refine z6 Tryz.func264 rfl rfl rfl ?_
 refine rn ?_;refine zhh h.evs.length p (fun k x=>⟨[(9,iv k),(0,y),(2,pZ b2),(7,zoc h.evs),(8,iv (h.evs.map evR).length)],.box b1 28 (y9 h):: .box b2 3 [iv kd]::I k x,[]⟩) x0 hp0 es ?_
 intro k x lk zk
 refine rn ?_;refine z7 rfl (fun hc10=> ?_) (fun hc10=> ?_)
 ·have hk:=zay hc10
  have rk:=zae (f:=evR) hk
  refine rn ?_;refine z8 rfl (y5 rfl fun b5=> ?_)
  refine rn ?_;refine w7 (fun hg3_4=> ?_) (fun hg3_4=> ?_)
  ·refine q1 ?_;refine q1 ?_;refine q1 ?_;refine z8 rfl (v2 rfl rfl (y1.fr1 (hy k x hk zk (by simpa using hg3_4))) rfl ?_)
   rintro _ _ ⟨_,rfl,x',⟨rfl,hp,rfl⟩|⟨rfl,hq,rfl⟩⟩
   ·refine rn ?_;refine z7 rfl (fun hc24=> ?_) (fun hc24=> ?_)
    ·first|cases hc24|exact absurd hc24 (by decide)|(exfalso;simp_all;done)
    ·refine rn ?_;exact ⟨hk,x',hp,eA⟩
   ·refine rn ?_;refine z7 rfl (fun hc24=> ?_) (fun hc24=> ?_)
    ·refine rn ?_;exact zej .nil (.drop [_,_,_] _ _) (.inr ⟨k,x',hq,rfl⟩)
    ·first|cases hc24|exact absurd hc24 (by decide)|(exfalso;simp_all;done)
  ·refine rn ?_;refine zdo rfl ?_;refine rn ?_;obtain ⟨x',hp,e⟩:=hs k x hk zk (by simpa using hg3_4)
   exact ⟨hk,x',hp,by rw [e];exact eA⟩
 ·have qk:=zaz hc10 lk
  subst qk
  refine rn ?_;exact zd4 .nil (.drop [_,_] _ _) (.inl ⟨x,zk,rfl⟩)
def zlk {α:Type} (kd:Int) (x:Nat→Ev→α) (p:Nat→Ev→Bool) (k:Nat) (e:Ev):Option α:=if (e.kind==kd && p k e)=true then some (x k e) else none
theorem ylj {α:Type} {kd:Int} {x:Nat→Ev→α} {p:Nat→Ev→Bool} {k:Nat} {e:Ev} (h:(e.kind==kd)=false):zlk kd x p k e=none:=by rw [zlk,h];simp
theorem yli {α:Type} {kd:Int} {x:Nat→Ev→α} {p:Nat→Ev→Bool} {k:Nat} {e:Ev} (h:p k e=false):zlk kd x p k e=none:=by rw [zlk,h];simp
theorem ylh {α:Type} {kd:Int} {x:Nat→Ev→α} {p:Nat→Ev→Bool} {k:Nat} {e:Ev} (h1:(e.kind==kd)=true) (h:p k e=true):zlk kd x p k e=some (x k e):=by rw [zlk,h1,h];simp
theorem zx7 {α:Type} {f:Nat→Ev→Option α} {l:List Ev} {k:Nat} (h:k < l.length) (hf:f k l[k]=none):zec f l (k+1)=zec f l k:=by rw [zn9 h,hf];simp
theorem ylg {α:Type} {f:Nat→Ev→Option α} {l:List Ev} {k:Nat} {a:α} (h:k < l.length) (hf:f k l[k]=some a):zec f l (k+1)=zec f l k++ [a]:=by rw [zn9 h,hf];rfl
def zlm (f:Ver×Nat):List AV:= [iv f.1.t,iv f.1.k,iv f.2]
theorem ynz (l:List (Ver×Nat)):∀r∈l.map zlm,r.all AV.one=true:=by
 intro r hr;obtain ⟨a,_,rfl⟩:=List.mem_map.1 hr;rfl
theorem yla (h:Hist) (la:h.evs.length≤1000000) (kd:Int) (fv:AV) (hone:fv.cellsOf=some [fv]) (W:List Res) (x:Nat→Ev→Int) (p:Nat→Ev→Bool) (hp:∀k,(hk:k < h.evs.length)→(h.evs[k].kind==kd)=true→y1 Tryz.prog fv [iv k,.agg (evR h.evs[k])] W (fun r h'=>h'=W∧r= .tup [iv (x k h.evs[k]),bv (p k h.evs[k])])):y7 Tryz.prog 173 [.agg (y9 h),iv kd,fv] W (fun r h'=>∃s:SV,h'= .row s.v 1 3 ((zec (zlk kd x p) h.evs h.evs.length).map zai)::W∧r= .v s.v):=by
 refine z6 Tryz.func173 rfl rfl rfl ?_
 refine rn ?_;refine z8 rfl (w8 rfl rfl rfl fun b3=> ?_)
 refine z8 rfl (w8 rfl hone rfl fun b5=> ?_)
 refine rn ?_;refine z8 rfl (y5 rfl fun b7=> ?_)
 refine rn ?_;refine z8 rfl (v2 rfl rfl (y1.of_fun (zrh h kd _)) rfl ?_)
 rintro _ _ ⟨b1,b2,rfl,rfl⟩
 refine rn ?_;refine zf3 (s':=⟨[(14,.fn (.func 264) [] [pZ b1,pZ b2]),(5,pZ b5),(7,pZ b7)],.box b1 28 (y9 h):: .box b2 3 [iv kd]:: .box b7 29 [.v (⟨none,0,0⟩:SV).v]:: .row (⟨none,0,0⟩:SV).v 1 3 ((zec (zlk kd x p) h.evs 0).map zai):: .box b5 216 [fv]:: .box b3 28 (y9 h)::W,[]⟩) (v6 (v6 (zac 1 3) (zbb ((pt1 _ _ _).trans (.cons _ ((pt1 _ _ _).trans (.cons _ (pt1 _ _ _))))))) es) ?_
 refine zmh (fun pend h''=>pend=none∧∃s:SV,h''= .box b7 29 [.v s.v]:: .row s.v 1 3 ((zec (zlk kd x p) h.evs h.evs.length).map zai):: .box b5 216 [fv]:: .box b3 28 (y9 h)::W) rfl (fun fn l q lp hlp=> ?_) (fun q h'' hK=> ?_) (fun q h'' c hK=> ?_)
 ·suffices hy:∀k (s:SV),(hk:k < h.evs.length)→True→(h.evs[k].kind==kd)=true→y1 Tryz.prog (yv l) [iv k,.agg (evR h.evs[k])] (.box b1 28 (y9 h):: .box b2 3 [iv kd]::lp .ready none:: .defs q:: .box b7 29 [.v s.v]:: .row s.v 1 3 ((zec (zlk kd x p) h.evs k).map zai):: .box b5 216 [fv]:: .box b3 28 (y9 h)::W) (fun r h'=>∃s':SV,(r=bv true∧True∧h'= .box b1 28 (y9 h):: .box b2 3 [iv kd]::lp .ready none:: .defs q:: .box b7 29 [.v s'.v]:: .row s'.v 1 3 ((zec (zlk kd x p) h.evs (k+1)).map zai):: .box b5 216 [fv]:: .box b3 28 (y9 h)::W)∨(r=bv false∧False∧h'= .box b1 28 (y9 h):: .box b2 3 [iv kd]:: [])) by
   refine y7.mono (y7.perm ((pt2 _ _ _ _).trans (.cons _ (pt2 _ _ _ _))) (zn5 h la kd (yv l) b1 b2 (fun _ _=>True) (fun _ _=>False) (fun k (s:SV)=>lp .ready none:: .defs q:: .box b7 29 [.v s.v]:: .row s.v 1 3 ((zec (zlk kd x p) h.evs k).map zai):: .box b5 216 [fv]:: .box b3 28 (y9 h)::W) (fun _ _=> []) ⟨none,0,0⟩ trivial hy (fun k s hk _ hn=>⟨s,trivial,by rw [zx7 hk (ylj hn)]⟩))) ?_
   rintro _ _ (⟨s,_,rfl⟩|⟨_,_,hF,_⟩)
   ·exact ⟨none,.ready,_,.refl _,by simp,rfl,s,rfl⟩
   ·exact hF.elim
  intro k s hk _ hkd
  refine y1.perm (pt2 _ _ _ _) (y1.ventE ?_)
  refine zdn hlp rfl rfl ?_
  refine rn ?_;refine z8 rfl (y5 rfl fun b9=> ?_)
  refine rn ?_;refine ⟨[(8,iv k),(9,pZ b9),(5,pZ b5),(7,pZ b7)],.box b9 60 (evR h.evs[k]):: .box b1 28 (y9 h):: .box b2 3 [iv kd]:: .defs q:: .box b7 29 [.v s.v]:: .row s.v 1 3 ((zec (zlk kd x p) h.evs k).map zai):: .box b5 216 [fv]:: .box b3 28 (y9 h)::W,v6 (zbb (pt1 _ _ _)) es,?_⟩
  refine rn ?_;refine qv rfl rfl (y0 rfl rfl (y1.qt (h2:= [_,_,_,_,_,_,_,_,_]) (hp k hk hkd) (zdm [_,_,_,_,_,_,_,_,_] _))) ?_
  refine rn ?_;refine z7 rfl (fun hc24=> ?_) (fun hc24=> ?_)
  ·refine y6 ?_;refine q1 ?_;refine q1 ?_;refine q1 ?_;refine q1 ?_;refine q1 ?_;refine qq rfl rfl (zpt rfl (by rfl) (by rfl)) ?_
   refine rn ?_;refine qv rfl rfl (q6 rfl rfl) ?_
   refine zyy s.v ?_
   refine z8 rfl (u7 rfl rfl (by simp only [oM,List.length_cons,List.length_nil];have:=zf2 (zlk kd x p) h.evs k;omega) rfl (fun s33=> ?_) (zg3 [x k h.evs[k]]))
   refine k8 s33 fun sv hsv=> ?_
   subst hsv
   refine rn ?_;exact zdf (.refl _) ⟨_,_,.trans (.perm ((pt1 _ _ _).trans (.cons _ ((pt1 _ _ _).trans (.cons _ (pt1 _ _ _))))) _) (.drop [_] _ _),sv,.inl ⟨rfl,trivial,by rw [ylg hk (ylh hkd hc24),List.map_append];rfl⟩⟩
  ·refine rn ?_;exact zdf (.refl _) ⟨_,_,.trans (.perm ((pt1 _ _ _).trans (.cons _ ((pt1 _ _ _).trans (.cons _ (pt1 _ _ _))))) _) (.drop [_] _ _),s,.inl ⟨rfl,trivial,by rw [zx7 hk (yli hc24)]⟩⟩
 ·obtain ⟨_,s,rfl⟩:=hK
  refine rn ?_;exact zh3 (.refl _) (.cons _ _ _ _ (.tmp _ _ rfl) .nil) (.trans (.drop1 _ _ _) (.trans (.perm (pt1 _ _ _) _) (.trans (.drop [_] _ _) (.trans (.perm (pt1 _ _ _) _) (.drop [_] _ _))))) ⟨s,rfl,rfl⟩
 ·obtain ⟨hc,_⟩:=hK
  exact absurd hc (by simp)
theorem ysh (h:Hist) (la:h.evs.length≤1000000) (kd:Int) (fv:AV) (hone:fv.cellsOf=some [fv]) (W:List Res) (x:Nat→Ev→Ver×Nat) (p:Nat→Ev→Bool) (hp:∀k,(hk:k < h.evs.length)→(h.evs[k].kind==kd)=true→y1 Tryz.prog fv [iv k,.agg (evR h.evs[k])] W (fun r h'=>h'=W∧r= .tup [.agg (zlm (x k h.evs[k])),bv (p k h.evs[k])])):y7 Tryz.prog 210 [.agg (y9 h),iv kd,fv] W (fun r h'=>∃s:SV,h'= .row s.v 3 139 ((zec (zlk kd x p) h.evs h.evs.length).map zlm)::W∧r= .v s.v):=by
 refine z6 Tryz.func210 rfl rfl rfl ?_
 refine rn ?_;refine z8 rfl (w8 rfl rfl rfl fun b3=> ?_)
 refine z8 rfl (w8 rfl hone rfl fun b5=> ?_)
 refine rn ?_;refine z8 rfl (y5 rfl fun b7=> ?_)
 refine rn ?_;refine z8 rfl (v2 rfl rfl (y1.of_fun (zrh h kd _)) rfl ?_)
 rintro _ _ ⟨b1,b2,rfl,rfl⟩
 refine rn ?_;refine zf3 (s':=⟨[(14,.fn (.func 264) [] [pZ b1,pZ b2]),(5,pZ b5),(7,pZ b7)],.box b1 28 (y9 h):: .box b2 3 [iv kd]:: .box b7 197 [.v (⟨none,0,0⟩:SV).v]:: .row (⟨none,0,0⟩:SV).v 3 139 ((zec (zlk kd x p) h.evs 0).map zlm):: .box b5 257 [fv]:: .box b3 28 (y9 h)::W,[]⟩) (v6 (v6 (zac 3 139) (zbb ((pt1 _ _ _).trans (.cons _ ((pt1 _ _ _).trans (.cons _ (pt1 _ _ _))))))) es) ?_
 refine zmh (fun pend h''=>pend=none∧∃s:SV,h''= .box b7 197 [.v s.v]:: .row s.v 3 139 ((zec (zlk kd x p) h.evs h.evs.length).map zlm):: .box b5 257 [fv]:: .box b3 28 (y9 h)::W) rfl (fun fn l q lp hlp=> ?_) (fun q h'' hK=> ?_) (fun q h'' c hK=> ?_)
 ·suffices hy:∀k (s:SV),(hk:k < h.evs.length)→True→(h.evs[k].kind==kd)=true→y1 Tryz.prog (yv l) [iv k,.agg (evR h.evs[k])] (.box b1 28 (y9 h):: .box b2 3 [iv kd]::lp .ready none:: .defs q:: .box b7 197 [.v s.v]:: .row s.v 3 139 ((zec (zlk kd x p) h.evs k).map zlm):: .box b5 257 [fv]:: .box b3 28 (y9 h)::W) (fun r h'=>∃s':SV,(r=bv true∧True∧h'= .box b1 28 (y9 h):: .box b2 3 [iv kd]::lp .ready none:: .defs q:: .box b7 197 [.v s'.v]:: .row s'.v 3 139 ((zec (zlk kd x p) h.evs (k+1)).map zlm):: .box b5 257 [fv]:: .box b3 28 (y9 h)::W)∨(r=bv false∧False∧h'= .box b1 28 (y9 h):: .box b2 3 [iv kd]:: [])) by
   refine y7.mono (y7.perm ((pt2 _ _ _ _).trans (.cons _ (pt2 _ _ _ _))) (zn5 h la kd (yv l) b1 b2 (fun _ _=>True) (fun _ _=>False) (fun k (s:SV)=>lp .ready none:: .defs q:: .box b7 197 [.v s.v]:: .row s.v 3 139 ((zec (zlk kd x p) h.evs k).map zlm):: .box b5 257 [fv]:: .box b3 28 (y9 h)::W) (fun _ _=> []) ⟨none,0,0⟩ trivial hy (fun k s hk _ hn=>⟨s,trivial,by rw [zx7 hk (ylj hn)]⟩))) ?_
   rintro _ _ (⟨s,_,rfl⟩|⟨_,_,hF,_⟩)
   ·exact ⟨none,.ready,_,.refl _,by simp,rfl,s,rfl⟩
   ·exact hF.elim
  intro k s hk _ hkd
  refine y1.perm (pt2 _ _ _ _) (y1.ventE ?_)
  refine zdn hlp rfl rfl ?_
  refine rn ?_;refine z8 rfl (y5 rfl fun b9=> ?_)
  refine rn ?_;refine ⟨[(8,iv k),(9,pZ b9),(5,pZ b5),(7,pZ b7)],.box b9 60 (evR h.evs[k]):: .box b1 28 (y9 h):: .box b2 3 [iv kd]:: .defs q:: .box b7 197 [.v s.v]:: .row s.v 3 139 ((zec (zlk kd x p) h.evs k).map zlm):: .box b5 257 [fv]:: .box b3 28 (y9 h)::W,v6 (zbb (pt1 _ _ _)) es,?_⟩
  refine rn ?_;refine qv rfl rfl (y0 rfl rfl (y1.qt (h2:= [_,_,_,_,_,_,_,_,_]) (hp k hk hkd) (zdm [_,_,_,_,_,_,_,_,_] _))) ?_
  refine rn ?_;refine z8 rfl (y5 rfl fun b10=> ?_)
  refine rn ?_;refine z7 rfl (fun hc24=> ?_) (fun hc24=> ?_)
  ·refine u4 8 rfl ?_
   refine dq rfl rfl qrA ?_;refine dq rfl rfl qrA ?_;refine dq rfl rfl qrA ?_;refine dq rfl rfl qrA ?_;refine dq rfl rfl qrA ?_;refine dq rfl rfl (zpt rfl (by rfl) (by rfl)) ?_
   refine rn ?_;refine dv rfl rfl (q6 rfl rfl) ?_
   refine rn ?_;refine zyy s.v ?_
   refine z8 rfl (u7 rfl rfl (by simp only [oM,List.length_cons,List.length_nil];have:=zf2 (zlk kd x p) h.evs k;omega) rfl (fun s33=> ?_) (ynz [x k h.evs[k]]))
   refine k8 s33 fun sv hsv=> ?_
   subst hsv
   refine rn ?_;exact zdf (pt1 _ _ _) ⟨_,_,.trans (.perm ((pt1 _ _ _).trans (.cons _ ((pt1 _ _ _).trans (.cons _ ((pt1 _ _ _).trans (.cons _ (pt1 _ _ _))))))) _) (.drop [_,_] _ _),sv,.inl ⟨rfl,trivial,by rw [ylg hk (ylh hkd hc24),List.map_append];rfl⟩⟩
  ·refine rn ?_;exact zdf (pt1 _ _ _) ⟨_,_,.trans (.perm ((pt1 _ _ _).trans (.cons _ ((pt1 _ _ _).trans (.cons _ ((pt1 _ _ _).trans (.cons _ (pt1 _ _ _))))))) _) (.drop [_,_] _ _),s,.inl ⟨rfl,trivial,by rw [zx7 hk (yli hc24)]⟩⟩
 ·obtain ⟨_,s,rfl⟩:=hK
  refine rn ?_;exact zh3 (.refl _) (.cons _ _ _ _ (.tmp _ _ rfl) .nil) (.trans (.drop1 _ _ _) (.trans (.perm (pt1 _ _ _) _) (.trans (.drop [_] _ _) (.trans (.perm (pt1 _ _ _) _) (.drop [_] _ _))))) ⟨s,rfl,rfl⟩
 ·obtain ⟨hc,_⟩:=hK
  exact absurd hc (by simp)
theorem yoo (k:Int) (e:Ev):y7 Tryz.prog 174 [iv k,.agg (evR e)] [] (fun r h'=>h'= []∧r= .tup [iv e.t,bv true]):=by
 refine z6 Tryz.func174 rfl rfl rfl ?_
 refine rn ?_;refine z8 rfl (w8 rfl rfl rfl fun b3=> ?_)
 refine rn ?_;refine rq 1 ?_
 exact ⟨rfl,rfl⟩
theorem yon (k s:Int) (e:Ev) (b2 b3 rm:Nat) (M:List (Int×Bool)):y7 Tryz.prog 209 [iv k,.agg (evR e),pZ b2,pZ b3] [.box b2 3 [iv s],.box b3 115 [mpv rm],.map rm (zal intK (zbd bv M))] (fun r h'=>h'= [.box b2 3 [iv s],.box b3 115 [mpv rm],.map rm (zal intK (zbd bv M))]∧r= .tup [iv e.t,bv (e.o==s && (za6 e.t M).getD false)]):=by
 refine z6 Tryz.func209 rfl rfl rfl ?_
 refine rn ?_;refine z8 rfl (w8 rfl rfl rfl fun b5=> ?_)
 refine rn ?_;refine u4 13 rfl ?_
 refine rn ?_;refine zcv (fun hg1_6=> ?_) (fun hg1_6=> ?_)
 ·refine dq rfl rfl qrA ?_;refine dq rfl rfl qrA ?_;refine dq rfl rfl qrA ?_;refine dq rfl rfl (zbl (enc:=intK) (k:=e.t) false rfl rfl) ?_
  refine rn ?_;refine rq 1 ?_
  exact ⟨rfl,by rw [hg1_6];rfl⟩
 ·refine rn ?_;refine rq 1 ?_
  exact ⟨rfl,by rw [hg1_6];rfl⟩
theorem yom (k a:Nat) (t x:Int) (e:Ev) (b2 b3 b4:Nat):y7 Tryz.prog 211 [iv k,.agg (evR e),pZ b2,pZ b3,pZ b4] [.box b2 3 [iv t],.box b3 3 [iv x],.box b4 3 [iv a]] (fun r h'=>h'= [.box b2 3 [iv t],.box b3 3 [iv x],.box b4 3 [iv a]]∧r= .tup [.agg (zlm (e.v,k)),bv (e.t==t && e.o==x && decide (k < a))]):=by
 refine z6 Tryz.func211 rfl rfl rfl ?_
 refine rn ?_;refine z8 rfl (w8 rfl rfl rfl fun b6=> ?_)
 refine z8 rfl (y5 rfl fun b7=> ?_)
 refine rn ?_;refine zcw 20 [(b7,139,_)] rfl (List.perm_append_comm (l₁:= [_])) ?_
 refine dq rfl rfl qrA ?_;refine dq rfl rfl qrA ?_;refine dq rfl rfl qrA ?_;refine dq rfl rfl (j7 (out:= [iv e.v.t,iv e.v.k,iv k]) rfl (by rfl)) ?_
 refine rn ?_;refine zcv (fun hg1_8=> ?_) (fun hg1_8=> ?_)
 ·refine rn ?_;refine zcv (fun hg1_14=> ?_) (fun hg1_14=> ?_)
  ·refine rn ?_;refine dw 0 rfl rfl rfl rfl rfl (Nat.le_of_ble_eq_true rfl) ?_
   refine rn2 ?_;show zch _ _ _ _ _ _ ⟨_,.box b7 139 (zlm (e.v,k)):: .box b6 60 (evR e):: [.box b2 3 [iv t],.box b3 3 [iv x],.box b4 3 [iv a]],_⟩
   refine rn ?_;exact zej (.cons _ _ _ _ (.agg _ _ _ _ _ _ _ rfl inferInstance inferInstance inferInstance rfl) (.cons _ _ _ _ (.tmp _ _ rfl) .nil)) (.drop [_,_] _ _) ⟨rfl,by first|(rw [hg1_8,hg1_14];exact congrArg (fun b=>AV.tup [AV.agg (zlm (e.v,k)),bv b]) (by simp))|(rw [hg1_8];rfl)⟩
  ·refine rn ?_;refine dw 0 rfl rfl rfl rfl rfl (Nat.le_of_ble_eq_true rfl) ?_
   refine rn2 ?_;show zch _ _ _ _ _ _ ⟨_,.box b7 139 (zlm (e.v,k)):: .box b6 60 (evR e):: [.box b2 3 [iv t],.box b3 3 [iv x],.box b4 3 [iv a]],_⟩
   refine rn ?_;exact zej (.cons _ _ _ _ (.agg _ _ _ _ _ _ _ rfl inferInstance inferInstance inferInstance rfl) (.cons _ _ _ _ (.tmp _ _ rfl) .nil)) (.drop [_,_] _ _) ⟨rfl,by first|(rw [hg1_8,hg1_14];exact congrArg (fun b=>AV.tup [AV.agg (zlm (e.v,k)),bv b]) (by simp))|(rw [hg1_8];rfl)⟩
 ·refine rn ?_;refine dw 0 rfl rfl rfl rfl rfl (Nat.le_of_ble_eq_true rfl) ?_
  refine rn2 ?_;show zch _ _ _ _ _ _ ⟨_,.box b7 139 (zlm (e.v,k)):: .box b6 60 (evR e):: [.box b2 3 [iv t],.box b3 3 [iv x],.box b4 3 [iv a]],_⟩
  refine rn ?_;exact zej (.cons _ _ _ _ (.agg _ _ _ _ _ _ _ rfl inferInstance inferInstance inferInstance rfl) (.cons _ _ _ _ (.tmp _ _ rfl) .nil)) (.drop [_,_] _ _) ⟨rfl,by first|(rw [hg1_8,hg1_14];exact congrArg (fun b=>AV.tup [AV.agg (zlm (e.v,k)),bv b]) (by simp))|(rw [hg1_8];rfl)⟩
theorem yvm (x:Int) (s:Ord) (b1:Nat):y7 Tryz.prog 207 [.agg (zef s),pZ b1] [.box b1 3 [iv x]] (fun r h'=>h'= [.box b1 3 [iv x]]∧r=bv (s.o==x)):=by
 refine z6 Tryz.func207 rfl rfl rfl ?_
 refine rn ?_;refine z8 rfl (w8 rfl rfl rfl fun b2=> ?_)
 refine rn ?_;refine rq 1 ?_
 exact ⟨rfl,rfl⟩
theorem yor (h:Hist) (la:h.evs.length≤1000000) (W:List Res):y7 Tryz.prog 208 [.agg (y9 h)] W (fun r h'=>∃rm,h'= .map rm (zal intK (zbd bv (zp6 h.evs)))::W∧r=mpv rm):=by
 refine z6 Tryz.func208 rfl rfl rfl ?_
 refine rn ?_;refine z8 rfl (w8 rfl rfl rfl fun b1=> ?_)
 refine rn ?_;refine z8 rfl (zaw (enc:=intK) rfl fun b6=> ?_)
 refine z8 rfl (y5 rfl fun b3=> ?_)
 refine rn ?_;refine z8 rfl (v2 rfl rfl (y1.of_fun (zrh h 5 _)) rfl ?_)
 rintro _ _ ⟨e1,e2,rfl,rfl⟩
 refine rn ?_;refine zf3 (s':=⟨[(8,.fn (.func 264) [] [pZ e1,pZ e2]),(3,pZ b3)],.box e1 28 (y9 h):: .box e2 3 [iv 5]:: .box b3 115 [mpv b6]:: .map b6 (zal intK (zbd bv (zp6 (h.evs.take 0)))):: .box b1 28 (y9 h)::W,[]⟩) es ?_
 refine zmh (fun pend h''=>pend=none∧h''= .box b3 115 [mpv b6]:: .map b6 (zal intK (zbd bv (zp6 (h.evs.take h.evs.length)))):: .box b1 28 (y9 h)::W) rfl (fun fn l q lp hlp=> ?_) (fun q h'' hK=> ?_) (fun q h'' c hK=> ?_)
 ·suffices hy:∀k (x:Unit),(hk:k < h.evs.length)→True→(h.evs[k].kind==5)=true→y1 Tryz.prog (yv l) [iv k,.agg (evR h.evs[k])] (.box e1 28 (y9 h):: .box e2 3 [iv 5]::lp .ready none:: .defs q:: .box b3 115 [mpv b6]:: .map b6 (zal intK (zbd bv (zp6 (h.evs.take k)))):: .box b1 28 (y9 h)::W) (fun r h'=>∃x':Unit,(r=bv true∧True∧h'= .box e1 28 (y9 h):: .box e2 3 [iv 5]::lp .ready none:: .defs q:: .box b3 115 [mpv b6]:: .map b6 (zal intK (zbd bv (zp6 (h.evs.take (k+1))))):: .box b1 28 (y9 h)::W)∨(r=bv false∧False∧h'= .box e1 28 (y9 h):: .box e2 3 [iv 5]:: [])) by
   refine y7.mono (y7.perm ((pt2 _ _ _ _).trans (.cons _ (pt2 _ _ _ _))) (zn5 h la 5 (yv l) e1 e2 (fun _ _=>True) (fun _ _=>False) (fun k (_:Unit)=>lp .ready none:: .defs q:: .box b3 115 [mpv b6]:: .map b6 (zal intK (zbd bv (zp6 (h.evs.take k)))):: .box b1 28 (y9 h)::W) (fun _ _=> []) () trivial hy (fun k s hk _ hn=>⟨s,trivial,by rw [ys9 hk hn]⟩))) ?_
   rintro _ _ (⟨s,_,rfl⟩|⟨_,_,hF,_⟩)
   ·exact ⟨none,.ready,_,.refl _,by simp,rfl,rfl⟩
   ·exact hF.elim
  intro k s hk _ hkd
  refine y1.perm (pt2 _ _ _ _) (y1.ventE ?_)
  refine zdn hlp rfl rfl ?_
  refine rn ?_;refine z8 rfl (y5 rfl fun b5=> ?_)
  refine rn ?_;refine ⟨[(5,pZ b5),(3,pZ b3)],.box b5 60 (evR h.evs[k]):: .box e1 28 (y9 h):: .box e2 3 [iv 5]:: .defs q:: .box b3 115 [mpv b6]:: .map b6 (zal intK (zbd bv (zp6 (h.evs.take k)))):: .box b1 28 (y9 h)::W,v6 (zbb (pt1 _ _ _)) es,?_⟩
  refine rn ?_;refine z8 rfl (zan (g:=bv) (enc:=intK) (k:=h.evs[k].t) (v:=true) rfl rfl rfl ?_)
  refine rn ?_;exact zdf (.refl _) ⟨_,_,.trans (.perm ((pt1 _ _ _).trans (.cons _ ((pt1 _ _ _).trans (.cons _ (pt1 _ _ _))))) _) (.drop [_] _ _),(),.inl ⟨rfl,trivial,by rw [ys8 hk hkd]⟩⟩
 ·obtain ⟨_,rfl⟩:=hK
  refine rn ?_;exact zh3 (.refl _) (.cons _ _ _ _ (.tmp _ _ rfl) .nil) (.trans (.drop1 _ _ _) (.trans (.perm (pt1 _ _ _) _) (.drop [_] _ _))) ⟨b6,by rw [List.take_length],rfl⟩
 ·obtain ⟨hc,_⟩:=hK
  exact absurd hc (by simp)
theorem yfn {h:Hist} {n many:Int} (he:zhn h n many≠0) (X:List Int):(onE (zhn h n many) X).map zai= []:=by rw [onE,if_neg he];rfl
theorem yed {α:Type} (kd:Int) (g:Ev→α) (q:Ev→Bool) (l:List Ev):zec (zlk kd (fun _ e=>g e) (fun _ e=>q e)) l l.length=(l.filter fun e=>e.kind==kd && q e).map g:=yi8 (fun _ _=>rfl) l
theorem ylb (h:Hist) (la:Lim 4611686018427387904 h) (n many:Int) (fv:AV) (hone:fv.cellsOf=some [fv]) (X:List Int) (W:List Res) (hp:zhn h n many=0→y1 Tryz.prog fv [] (.glob 2 156 y3:: .glob 4 305 y4:: .glob 5 308 y2:: .glob 3 246 q7::W) (fun r h'=>∃s:SV,h'= .row s.v 1 3 (X.map zai):: .glob 2 156 y3:: .glob 4 305 y4:: .glob 5 308 y2:: .glob 3 246 q7::W∧r= .v s.v)):y7 Tryz.prog 150 [.agg (y9 h),iv n,iv many,fv] (.glob 2 156 y3:: .glob 4 305 y4:: .glob 5 308 y2:: .glob 3 246 q7::W) (fun r h'=>∃s:SV,h'= .row s.v 1 3 ((onE (zhn h n many) X).map zai):: .glob 2 156 y3:: .glob 4 305 y4:: .glob 5 308 y2:: .glob 3 246 q7::W∧r= .tup [.v s.v,iv (zhn h n many)]):=by
 refine z6 Tryz.func150 rfl rfl rfl ?_
 refine rn ?_;refine z8 rfl (w8 rfl rfl rfl fun b4=> ?_)
 refine rn ?_;refine qv rfl rfl (y0 rfl rfl (y1.qt (y1.of_fun (yd4 h la)) ((pt1 _ _ _).trans (.cons _ ((pt1 _ _ _).trans (.cons _ ((pt1 _ _ _).trans (.cons _ (pt1 _ _ _))))))))) ?_
 refine rn ?_;refine z7 rfl (fun hc15=> ?_) (fun hc15=> ?_)
 ·have hc:v7 h≠0:=by simpa using hc15
  refine rn ?_;exact zb0 rfl rfl (.trans (.drop [_] _ _) (zat 1 3 _)) ⟨⟨none,0,0⟩,by rw [yfn (by rw [ask_c hc];exact hc)];rfl,by rw [ask_c hc];rfl⟩
 ·have hc:v7 h=0:=by simpa using hc15
  refine rn ?_;refine w7 (fun hg5_2=> ?_) (fun hg5_2=> ?_)
  ·refine rn ?_;refine zdh rfl ?_;have hn:¬(0≤n∧n < many):=by first|(have q:=oT hg5_2;omega)|(have q:=oT hc24;omega)
   refine rn ?_;exact zb0 rfl rfl (.trans (.drop [_] _ _) (zat 1 3 _)) ⟨⟨none,0,0⟩,by rw [yfn (by rw [yan hc hn];decide)];rfl,by rw [yan hc hn];rfl⟩
  ·refine rn ?_;refine z7 rfl (fun hc24=> ?_) (fun hc24=> ?_)
   ·have hn:¬(0≤n∧n < many):=by first|(have q:=oT hg5_2;omega)|(have q:=oT hc24;omega)
    refine rn ?_;exact zb0 rfl rfl (.trans (.drop [_] _ _) (zat 1 3 _)) ⟨⟨none,0,0⟩,by rw [yfn (by rw [yan hc hn];decide)];rfl,by rw [yan hc hn];rfl⟩
   ·have hn:0≤n∧n < many:=by have q:=oF hg5_2;have q':=oF hc24;omega
    refine rn ?_;refine z8 rfl (v2 rfl rfl (y1.fr1 (hp (zwn hc hn))) rfl ?_)
    rintro _ _ ⟨_,rfl,s,rfl,rfl⟩
    refine rn ?_;exact zb0 rfl rfl (.drop [_] _ _) ⟨s,by rw [zwn hc hn];rfl,by rw [zwn hc hn];rfl⟩
theorem zq6 {P:Program} {h:List Res} {f:Operand→Option AV} {dst:Option Tmp} {ty:TypeId} {pos:String} {after:Array Edge} {guard:Option (Nat×Bool)} {x y:Operand} {T E:TypeId} {s:Value} {sz i:Nat} {k:Int} {E':TypeId} {rows:List (List AV)} (hx:f x=some (.v s)) (hy:f y=some (.v (.int .i64 k))) [hr:HasRow h s i sz E' rows] [Und P T (.slice E)] [Siz P E sz] (h0:0≤k) (hk:k.toNat < rows.length):
 QR P h f ⟨dst,.indexAddr T x y,ty,pos,after,guard⟩ (.rp s sz k.toNat 0):=zfy hx (by rw [Int.toNat_of_nonneg h0];exact hy) hk
theorem yfo {h:Hist} {n many:Int} (he:zhn h n many=0):Lim 3000 h:=zrd (zfj (ypp he).1).1
theorem ypo {h:Hist} {n many:Int} (he:zhn h n many=0):h.evs.length≤1000000:=Nat.le_trans (yfo he).evs (by decide)
theorem zb9 {h:Hist} (he:v7 h=0):Lim 3000 h:=zrd (zfj (za4.1 he)).1
theorem ypf {h:Hist} (he:v7 h=0):h.evs.length≤1000000:=Nat.le_trans (zb9 he).evs (by decide)
theorem yjr (l:List Ev):srt (zec (zlk 5 (fun _ e=>e.t) (fun _ _=>true)) l l.length)=zdb l:=by
 rw [zdb,yed 5 Ev.t (fun _=>true)];simp only [Bool.and_true]
theorem yov (l:List Ev) (x:Int):zec (zlk 2 (fun _ e=>e.t) (fun _ e=>e.o==x && (za6 e.t (zp6 l)).getD false)) l l.length=yp1 l x:=by
 rw [yed 2 Ev.t (fun e=>e.o==x && (za6 e.t (zp6 l)).getD false),yp1];simp only [yjm]
theorem yrp {h:Hist} {x:Int} (hc:decide (zbq (fun o:Ord=>o.o==x) 0 h.ords ≥ 0)=true):∃k,∃hk:k < h.ords.length,zbq (fun o:Ord=>o.o==x) 0 h.ords=(k:Int)∧zax h x=h.ords[k].ts:=by
 have:=zfp (fun o:Ord=>o.o==x) h.ords 0
 cases hf:h.ords.find? (fun o=>o.o==x) with
 |none=>rw [hf] at this;simp only at this;rw [this] at hc;exact absurd hc (by decide)
 |some o=>
  rw [hf] at this
  obtain ⟨k,hk,e,eo,_⟩:=this
  exact ⟨k,hk,by rw [e,Nat.zero_add],by rw [zax,hf,eo]⟩
theorem yro {h:Hist} {x:Int} (hc:decide (zbq (fun o:Ord=>o.o==x) 0 h.ords ≥ 0)=false):zax h x=zb7 (yp1 h.evs x):=by
 have:=zfp (fun o:Ord=>o.o==x) h.ords 0
 cases hf:h.ords.find? (fun o=>o.o==x) with
 |none=>rw [zax,hf]
 |some o=>
  rw [hf] at this
  obtain ⟨k,hk,e,eo,_⟩:=this
  rw [e] at hc
  have:=oF hc
  omega
theorem yos (h:Hist) (la:h.evs.length≤1000000) (b1:Nat):y7 Tryz.prog 172 [pZ b1] (.glob 2 156 y3:: .glob 4 305 y4:: .glob 5 308 y2:: .glob 3 246 q7:: .box b1 28 (y9 h):: []) (fun r h'=>∃s:SV,h'= .row s.v 1 3 ((zdb h.evs).map zai):: .glob 2 156 y3:: .glob 4 305 y4:: .glob 5 308 y2:: .glob 3 246 q7:: .box b1 28 (y9 h):: []∧r= .v s.v):=by
 refine z6 Tryz.func172 rfl rfl rfl ?_
 refine rn ?_;refine z8 rfl (v2 rfl rfl (y1.of_fun (yla h la 5 _ rfl _ (fun _ e=>e.t) (fun _ _=>true) (fun k hk _=>y1.pure (R:=fun r=>r=_) (y1.of_fun (yoo k h.evs[k]))))) rfl ?_)
 rintro _ _ ⟨s,rfl,rfl⟩
 refine rn ?_;refine z8 rfl (v2 rfl rfl (zgn (y1.of_fun (ybr s _ (by have:=(zf2 (zlk 5 (fun _ e=>e.t) (fun _ e=>true)) h.evs h.evs.length);omega)))) rfl ?_)
 rintro _ _ ⟨rfl,rfl⟩
 refine rn ?_;exact j6 rfl (.refl _ _) ⟨s,by rw [yjr],rfl⟩
theorem yot (h:Hist) (la:Lim 4611686018427387904 h):y7 Tryz.prog 133 [.agg (y9 h)] (.glob 2 156 y3:: .glob 4 305 y4:: .glob 5 308 y2:: .glob 3 246 q7:: []) (fun r h'=>∃s:SV,h'= .row s.v 1 3 ((onE (v7 h) (zdb h.evs)).map zai):: .glob 2 156 y3:: .glob 4 305 y4:: .glob 5 308 y2:: .glob 3 246 q7:: []∧r= .tup [.v s.v,iv (v7 h)]):=by
 refine z6 Tryz.func133 rfl rfl rfl ?_
 refine rn ?_;refine z8 rfl (w8 rfl rfl rfl fun b1=> ?_)
 refine rn ?_;refine z8 rfl (v2 rfl rfl (y1.perm ((pt1 _ _ _).trans (.cons _ ((pt1 _ _ _).trans (.cons _ ((pt1 _ _ _).trans (.cons _ (pt1 _ _ _))))))) (y1.of_fun (ylb h la 0 1 (.fn (.func 172) [] [pZ b1]) rfl (zdb h.evs) [.box b1 28 (y9 h)] (fun he=>y1.of_acall (fs:= []) (cs:= [pZ b1]) (yos h (ypo he) b1))))) rfl ?_)
 rintro _ _ ⟨s,rfl,rfl⟩
 refine rn ?_;exact zb0 rfl rfl (.trans (.perm (pt5 _ _ _ _ _ _ _) _) (.drop [_] _ _)) ⟨s,by rw [ylt],by rw [ylt];rfl⟩
theorem yd3 (h:Hist) (la:Lim 4611686018427387904 h):y7 Tryz.prog 133 [.agg (y9 h)] (.glob 2 156 y3:: .glob 4 305 y4:: .glob 5 308 y2:: .glob 3 246 q7:: []) (fun r h'=>h'= .glob 2 156 y3:: .glob 4 305 y4:: .glob 5 308 y2:: .glob 3 246 q7:: []∧r= .tup [zaq (onE (v7 h) (zdb h.evs)),iv (v7 h)]):=
 (yot h la).ventR (by rintro _ _ ⟨s,rfl,rfl⟩;exact ⟨_,_,zbe [] [_],rfl,rfl⟩)
theorem ysg (h:Hist) (la:Lim 3000 h) (x:Int) (W:List Res):y7 Tryz.prog 152 [.agg (y9 h),iv x] W (fun r h'=>∃s:SV,h'= .row s.v 1 3 ((zax h x).map zai)::W∧r= .v s.v):=by
 refine z6 Tryz.func152 rfl rfl rfl ?_
 have le:h.evs.length≤1000000:=Nat.le_trans la.evs (by decide)
 have lo:=la.ords
 refine rn ?_;refine z8 rfl (w8 rfl rfl rfl fun b2=> ?_)
 refine z8 rfl (w8 rfl rfl rfl fun b3=> ?_)
 refine rn ?_;refine qv rfl rfl (y0 rfl rfl (y1.of_fun (zl5 h.ords _ (fun o:Ord=>o.o==x) _ (fun a _=>y1.qt (y1.of_acall (fs:= []) (cs:= [pZ b3]) (yvm x a b3)) (.refl _)) (Nat.le_trans la.ords (by decide))))) ?_
 refine rn ?_;refine z7 rfl (fun hc13=> ?_) (fun hc13=> ?_)
 ·obtain ⟨k,hk,ek,hx⟩:=yrp hc13
  have rk:=zae (f:=zef) hk
  rw [ek]
  refine rn ?_;refine z8 rfl (v2 rfl rfl (y1.fr (y1.rowS (y1.of_fun (zok (h.ords[k].ts.map zai) (by rw [oM];exact Nat.le_trans (la.ordts h.ords[k] (List.getElem_mem hk)) (by decide)) (zg3 _)))) (.refl _)) rfl ?_)
  rintro _ _ ⟨_,rfl,s,rfl,rfl⟩
  refine rn ?_;exact j6 rfl (.trans (.perm ((pt1 _ _ _).trans (.cons _ (pt1 _ _ _))) _) (.drop [_,_] _ _)) ⟨s,by rw [hx],rfl⟩
 ·have hx:=yro hc13
  refine rn ?_;refine z8 rfl (v2 rfl rfl (y1.of_fun (yor h le _)) rfl ?_)
  rintro _ _ ⟨rm,rfl,rfl⟩
  refine z8 rfl (y5 rfl fun b6=> ?_)
  refine rn ?_;refine z8 rfl (v2 rfl rfl (y1.of_fun (yla h le 2 _ rfl _ (fun _ e=>e.t) (fun _ e=>e.o==x && (za6 e.t (zp6 h.evs)).getD false) (fun k hk _=>y1.qt (y1.of_acall (fs:= []) (cs:= [pZ b3,pZ b6]) (yon k x h.evs[k] b3 b6 rm (zp6 h.evs))) (pt2 _ _ _ _)))) rfl ?_)
  rintro _ _ ⟨s,rfl,rfl⟩
  refine rn ?_;refine z8 rfl (v2 rfl rfl (za2 (y1.of_fun (ye4 s _ (by have:=(zf2 (zlk 2 (fun _ e=>e.t) (fun _ e=>e.o==x && (za6 e.t (zp6 h.evs)).getD false)) h.evs h.evs.length);omega)))) rfl ?_)
  rintro _ _ ⟨s',rfl,rfl⟩
  refine rn ?_;exact j6 rfl (.trans (.perm ((pt1 _ _ _).trans (.cons _ ((pt1 _ _ _).trans (.cons _ ((pt1 _ _ _).trans (.cons _ (pt1 _ _ _))))))) _) (.drop [_,_,_,_] _ _)) ⟨s',by rw [hx,yov],rfl⟩
theorem ysf (h:Hist) (la:Lim 3000 h) (x:Int) (b2 b3:Nat):y7 Tryz.prog 151 [pZ b2,pZ b3] (.glob 2 156 y3:: .glob 4 305 y4:: .glob 5 308 y2:: .glob 3 246 q7:: .box b2 28 (y9 h):: .box b3 3 [iv x]:: []) (fun r h'=>∃s:SV,h'= .row s.v 1 3 ((zax h x).map zai):: .glob 2 156 y3:: .glob 4 305 y4:: .glob 5 308 y2:: .glob 3 246 q7:: .box b2 28 (y9 h):: .box b3 3 [iv x]:: []∧r= .v s.v):=by
 refine z6 Tryz.func151 rfl rfl rfl ?_
 refine rn ?_;refine z8 rfl (v2 rfl rfl (y1.of_fun (ysg h la x _)) rfl ?_)
 rintro _ _ ⟨s,rfl,rfl⟩
 refine rn ?_;exact j6 rfl (.refl _ _) ⟨s,rfl,rfl⟩
theorem yop (h:Hist) (la:Lim 4611686018427387904 h) (x:Int):y7 Tryz.prog 101 [.agg (y9 h),iv x] (.glob 2 156 y3:: .glob 4 305 y4:: .glob 5 308 y2:: .glob 3 246 q7:: []) (fun r h'=>∃s:SV,h'= .row s.v 1 3 ((onE (zhn h x h.os.length) (zax h x)).map zai):: .glob 2 156 y3:: .glob 4 305 y4:: .glob 5 308 y2:: .glob 3 246 q7:: []∧r= .tup [.v s.v,iv (zhn h x h.os.length)]):=by
 refine z6 Tryz.func101 rfl rfl rfl ?_
 refine rn ?_;refine z8 rfl (w8 rfl rfl rfl fun b2=> ?_)
 refine z8 rfl (w8 rfl rfl rfl fun b3=> ?_)
 refine rn ?_;refine z8 rfl (v2 rfl rfl (y1.perm ((pt2 _ _ _ _).trans (.cons _ ((pt2 _ _ _ _).trans (.cons _ ((pt2 _ _ _ _).trans (.cons _ ((pt2 _ _ _ _).trans (.cons _ (pt1 _ _ _))))))))) (y1.of_fun (ylb h la x (h.os.map zdi).length (.fn (.func 151) [] [pZ b2,pZ b3]) rfl (zax h x) [.box b2 28 (y9 h),.box b3 3 [iv x]] (fun he=>y1.of_acall (fs:= []) (cs:= [pZ b2,pZ b3]) (ysf h (yfo he) x b2 b3))))) rfl ?_)
 rintro _ _ ⟨s,rfl,rfl⟩
 refine rn ?_;exact zb0 rfl rfl (.trans (.perm ((pt5 _ _ _ _ _ _ _).trans (.cons _ (pt5 _ _ _ _ _ _ _))) _) (.drop [_,_] _ _)) ⟨s,by simp only [oM],by simp only [oM];rfl⟩
theorem yk8 (h:Hist) (la:Lim 4611686018427387904 h) (x:Int):y7 Tryz.prog 101 [.agg (y9 h),iv x] (.glob 2 156 y3:: .glob 4 305 y4:: .glob 5 308 y2:: .glob 3 246 q7:: []) (fun r h'=>h'= .glob 2 156 y3:: .glob 4 305 y4:: .glob 5 308 y2:: .glob 3 246 q7:: []∧r= .tup [zaq (onE (zhn h x h.os.length) (zax h x)),iv (zhn h x h.os.length)]):=
 (yop h la x).ventR (by rintro _ _ ⟨s,rfl,rfl⟩;exact ⟨_,_,zbe [] [_],rfl,rfl⟩)
theorem yv0 {l:List Ev} {t x:Int} {a:Nat} (ha:l.length≤a) (h0:(((zec (zgl t x a) l l.length).map zlm).length:Int)=0):zjc l t x=none:=by
 have hl:=zll l t x a l.length (Nat.le_refl _)
 rw [Nat.min_eq_left ha] at hl
 rw [zjc,←hl]
 generalize zec (zgl t x a) l l.length=L at *
 rw [oM] at h0
 cases L with
 |nil=>rfl
 |cons b r=>rw [List.length_cons] at h0;omega
theorem yvz {l:List Ev} {t x:Int} {a:Nat} (h0:(((zec (zgl t x a) l l.length).map zlm).length:Int)≠0):∃p,zc4 l t x (min l.length a)=some p∧((zec (zgl t x a) l l.length).map zlm)[((((zec (zgl t x a) l l.length).map zlm).length:Int) - 1).toNat]? =some (zlm p)∧0≤(((zec (zgl t x a) l l.length).map zlm).length:Int) - 1∧((((zec (zgl t x a) l l.length).map zlm).length:Int) - 1).toNat < ((zec (zgl t x a) l l.length).map zlm).length:=by
 have hl:=zll l t x a l.length (Nat.le_refl _)
 generalize zec (zgl t x a) l l.length=L at *
 rw [oM] at h0 ⊢
 have hn:0 < L.length:=by omega
 refine ⟨L[L.length - 1],?_,?_,by omega,by omega⟩
 ·rw [←hl,List.getLast?_eq_getElem?,List.getElem?_eq_getElem (by omega)]
 ·rw [show ((L.length:Int) - 1).toNat=L.length - 1 by omega,List.getElem?_map,List.getElem?_eq_getElem (by omega)];rfl
def yji (h:Hist) (t x:Int):Ver×Nat:=(zjc h.evs t x).getD (⟨0,0⟩,0)
theorem ysx (h:Hist) (t x:Int):(yji h t x).1=zqs (zjc h.evs t x):=by rw [yji];cases zjc h.evs t x <;> rfl
theorem ysy (h:Hist) (t x:Int):(((yji h t x).2:Nat):Int)=atO (zjc h.evs t x):=by rw [yji];cases zjc h.evs t x <;> rfl
def yp2 (h:Hist) (t x:Int):Option (Ver×Nat):=if v7 h=0 then zjc h.evs t x else none
theorem yiy (h:Hist) (la:h.evs.length≤1000000) (t x:Int) (a:Nat) (W:List Res):y7 Tryz.prog 153 [.agg (y9 h),iv t,iv x,iv a] W (fun r h'=>∃s:SV,h'= .row s.v 3 139 ((zec (zgl t x a) h.evs h.evs.length).map zlm)::W∧r= .v s.v):=by
 refine z6 Tryz.func153 rfl rfl rfl ?_
 refine rn ?_;refine z8 rfl (w8 rfl rfl rfl fun b4=> ?_)
 refine z8 rfl (w8 rfl rfl rfl fun b5=> ?_)
 refine z8 rfl (w8 rfl rfl rfl fun b6=> ?_)
 refine z8 rfl (w8 rfl rfl rfl fun b7=> ?_)
 refine rn ?_;refine z8 rfl (v2 rfl rfl (y1.of_fun (ysh h la 2 _ rfl _ (fun k e=>(e.v,k)) (fun k e=>e.t==t && e.o==x && decide (k < a)) (fun k hk _=>y1.qt (y1.of_acall (fs:= []) (cs:= [pZ b5,pZ b6,pZ b7]) (yom k a t x h.evs[k] b5 b6 b7)) ((pt2 _ _ _ _).trans (.cons _ (pt1 _ _ _)))))) rfl ?_)
 rintro _ _ ⟨s,rfl,rfl⟩
 refine rn ?_;exact j6 rfl (.trans (.perm ((pt1 _ _ _).trans (.cons _ ((pt1 _ _ _).trans (.cons _ ((pt1 _ _ _).trans (.cons _ (pt1 _ _ _))))))) _) (.drop [_,_,_,_] _ _)) ⟨s,rfl,rfl⟩
theorem yvn (h:Hist) (la:h.evs.length≤1000000) (t x:Int) (W:List Res):y7 Tryz.prog 104 [.agg (y9 h),iv t,iv x] W (fun r h'=>h'=W∧r= .tup [.agg (zlm (yji h t x)),bv (zjc h.evs t x).isSome]):=by
 refine z6 Tryz.func104 rfl rfl rfl ?_
 refine rn ?_;refine z8 rfl (w8 rfl rfl rfl fun b3=> ?_)
 refine z8 rfl (y5 rfl fun b6=> ?_)
 refine q1 ?_;refine u3 (zag ?_)
 refine w9 (y6 ?_)
 refine q1 ?_;refine q1 ?_;refine q1 ?_;refine q1 ?_;refine q1 ?_;refine q1 ?_;rw [oM]
 refine z8 rfl (v2 rfl rfl (y1.of_fun (yiy h la t x h.evs.length _)) rfl ?_)
 rintro _ _ ⟨s,rfl,rfl⟩
 refine rn ?_;refine z7 rfl (fun hc18=> ?_) (fun hc18=> ?_)
 ·have hw:=yv0 (l:=h.evs) (t:=t) (x:=x) (a:=h.evs.length) (Nat.le_refl _) (by simpa using hc18)
  refine w9 (y6 ?_)
  refine qq rfl rfl (j7 (out:= [iv 0,iv 0,iv 0]) rfl (by rfl)) ?_
  refine rn ?_;exact zej (.cons _ _ _ _ (.agg _ _ _ _ _ _ _ rfl inferInstance inferInstance inferInstance rfl) (.cons _ _ _ _ (.tmp _ _ rfl) .nil)) (.drop [_,_,_] _ _) ⟨rfl,by rw [yji,hw];rfl⟩
 ·obtain ⟨p,hp,f1,f2,f3⟩:=yvz (l:=h.evs) (t:=t) (x:=x) (a:=h.evs.length) (by simpa using hc18)
  rw [Nat.min_self] at hp
  have hL:=zf2 (zgl t x h.evs.length) h.evs h.evs.length
  refine za8 ?_;refine zag ?_;refine w9 (y6 ?_)
  refine q1 ?_;refine q1 ?_;refine q1 ?_;refine qq rfl rfl (zc1 rfl rfl rfl (by rw [oM];omega)) ?_
  refine qq rfl rfl (zq6 rfl rfl f2 f3) ?_
  refine qq rfl rfl (zer rfl f1 rfl) ?_
  refine rn ?_;exact zej (.cons _ _ _ _ (.agg _ _ _ _ _ _ _ rfl inferInstance inferInstance inferInstance rfl) (.cons _ _ _ _ (.tmp _ _ rfl) .nil)) (.drop [_,_,_] _ _) ⟨rfl,by rw [yji,zjc,hp];rfl⟩
theorem yoq (h:Hist) (la:Lim 4611686018427387904 h) (t x:Int):y7 Tryz.prog 121 [.agg (y9 h),iv t,iv x] (.glob 2 156 y3:: .glob 4 305 y4:: .glob 5 308 y2:: .glob 3 246 q7:: []) (fun r h'=>h'= .glob 2 156 y3:: .glob 4 305 y4:: .glob 5 308 y2:: .glob 3 246 q7:: []∧r= .tup [.agg (zy8 (zqs (yp2 h t x))),iv (atO (yp2 h t x)),bv (yp2 h t x).isSome]):=by
 refine z6 Tryz.func121 rfl rfl rfl ?_
 refine rn ?_;refine z8 rfl (w8 rfl rfl rfl fun b3=> ?_)
 refine z8 rfl (y5 rfl fun b6=> ?_)
 refine rn ?_;refine qv rfl rfl (y0 rfl rfl (y1.qt (y1.of_fun (yd4 h la)) ((pt2 _ _ _ _).trans (.cons _ ((pt2 _ _ _ _).trans (.cons _ ((pt2 _ _ _ _).trans (.cons _ (pt2 _ _ _ _))))))))) ?_
 refine rn ?_;refine z7 rfl (fun hc13=> ?_) (fun hc13=> ?_)
 ·have hc:v7 h≠0:=by simpa using hc13
  refine w9 (y6 ?_)
  refine qq rfl rfl (j7 (out:= [iv 0,iv 0]) rfl (by rfl)) ?_
  refine rn ?_;exact zej (.cons _ _ _ _ (.agg _ _ _ _ _ _ _ rfl inferInstance inferInstance inferInstance rfl) (.cons _ _ _ _ (.tmp _ _ rfl) (.cons _ _ _ _ (.tmp _ _ rfl) .nil))) (.drop [_,_] _ _) ⟨rfl,by rw [yp2,if_neg hc];rfl⟩
 ·have hc:v7 h=0:=by simpa using hc13
  refine rn ?_;refine qv rfl rfl (y0 rfl rfl (y1.of_fun (yvn h (ypf hc) t x _))) ?_
  refine rn ?_;refine z8 rfl (y5 rfl fun b9=> ?_)
  refine rn ?_;refine zcw 7 [(b6,57,_)] rfl ((pt1 _ _ _).trans (List.perm_append_comm (l₁:= [_]))) ?_
  refine rn ?_;refine dw 0 rfl rfl rfl rfl rfl (Nat.le_of_ble_eq_true rfl) ?_
  refine rn2 ?_;show zch _ _ _ _ _ _ ⟨_,.box b6 57 (zy8 (yji h t x).1):: .box b9 139 (zlm (yji h t x)):: .box b3 28 (y9 h):: .glob 2 156 y3:: .glob 4 305 y4:: .glob 5 308 y2:: .glob 3 246 q7:: [],_⟩
  refine rn ?_;exact zej (.cons _ _ _ _ (.agg _ _ _ _ _ _ _ rfl inferInstance inferInstance inferInstance rfl) (.cons _ _ _ _ (.tmp _ _ rfl) (.cons _ _ _ _ (.tmp _ _ rfl) .nil))) (.drop [_,_,_] _ _) ⟨rfl,by rw [yp2,if_pos hc,←ysx,←ysy];rfl⟩
end Go.Proofs
namespace Go.Ab
open Go
section
variable {P:Program} {ro:Option Nat} {nt:Nat} {c:Code} {Q:Exit→St→Prop} {t:Fr} {h:List Res} {ds:List Nat}
theorem zwk {σ:Type} (n:Nat) (p:Nat→σ→Prop) (v:Nat→σ→Fr) (cs:Fr) (x0:σ) (hp:p 0 x0)
 (round:∀k x,k≤n→p k x→aw P ro nt c (thn (fun s'=>k < n∧∃x',p (k+1) x'∧Ent nt s' ⟨v (k+1) x'++cs,h,ds⟩) Q) ⟨v k x++cs,h,ds⟩)
 (hs:SubF t (v 0 x0++cs):=by repeat (first|exact .nil|refine .cons _ _ _ rfl ?_)):aw P ro nt (.loop c) Q ⟨t,h,ds⟩:=
 k7 (fun x:Nat×σ=>x.1≤n∧p x.1 x.2) (fun x=>⟨v x.1 x.2++cs,h,ds⟩) (fun x=>n - x.1) (0,x0) ⟨Nat.zero_le _,hp⟩ (v1 hs) fun x hk=>zgc (fun e s' hq=>by
  cases e with
  |normal=>
   obtain ⟨h1,x',h2,h3⟩:=hq
   exact ⟨(x.1+1,x'),⟨h1,h2⟩,h3,by simp only;omega⟩
  |_=>exact hq) (round x.1 x.2 hk.1 hk.2)
end
end Go.Ab
set_option maxRecDepth 10000
namespace Go.Proofs
open Go Go.Ab
attribute [local irreducible] QR QV OE zch aw zc6 zdc zbg zb8 thn zfa
open Go.H
theorem ynb {f g:Bool} (l m:List Seen) (hl:l.length≤4611686018427387904) (hm:m.length≤4611686018427387904):y7 Tryz.prog 130 [.list f 3 (l.map zaj),.list g 3 (m.map zaj)] [] (fun r h'=>h'= []∧r=bv (eqF zge l m)):=by
 refine z6 Tryz.func130 rfl rfl rfl ?_
 refine rn ?_;refine z7 rfl (fun hc10=> ?_) (fun hc10=> ?_)
 ·refine rn ?_;have hne:(l.length==m.length)=false:=beq_eq_false_iff_ne.2 fun q=>by simp [q] at hc10
  exact j6 rfl (.refl _ _) ⟨rfl,by rw [eqF,hne,Bool.false_and];rfl⟩
 ·have hlm:l.length=m.length:=by simp at hc10;omega
  refine rn ?_;refine k7 (fun k:Nat=>k≤l.length∧zmc zge l m=zmc zge (l.drop k) (m.drop k)) (fun k=>⟨[(13,iv k),(12,iv (l.map zaj).length),(0,.list f 3 (l.map zaj)),(1,.list g 3 (m.map zaj))],[],[]⟩) (fun k=>l.length - k) 0 ⟨Nat.zero_le _,by simp⟩
   (v1 (.cons _ _ _ rfl (.cons _ _ _ rfl (.cons _ _ _ rfl (.cons _ _ _ rfl (.nil)))))) ?_
  rintro k ⟨hk,hz⟩
  refine rn ?_;refine z7 rfl (fun hc14=> ?_) (fun hc14=> ?_)
  ·have hk2:k < l.length:=by simpa using hc14
   have hk3:k < m.length:=by omega
   have hrow1:(l.map zaj)[k]? =some (zaj l[k]):=by simp [hk2]
   have hrow2:(m.map zaj)[k]? =some (zaj m[k]):=by simp [hk3]
   have hd1:=List.drop_eq_getElem_cons hk2
   have hd2:=List.drop_eq_getElem_cons hk3
   refine rn ?_;refine u4 8 rfl ?_
   refine rn ?_;refine z7 rfl (fun hc24=> ?_) (fun hc24=> ?_)
   ·refine rn ?_;exact j6 rfl (.refl _ _) ⟨rfl,by rw [eqF,hz,hd1,hd2,zmc,show zge l[k] m[k]=false from zvh hc24,Bool.false_and,Bool.and_false];rfl⟩
   ·refine rn ?_;exact ⟨k+1,⟨by omega,by rw [hz,hd1,hd2,zmc,show zge l[k] m[k]=true from zvi hc24,Bool.true_and]⟩,(v1 (.cons _ _ _ rfl (.cons _ _ _ rfl (.cons _ _ _ rfl (.cons _ _ _ rfl (.nil)))))),by omega⟩
  ·have hk3:k=l.length:=by
    have:l.length≤k:=by simpa using hc14
    omega
   refine rn ?_;exact j6 rfl (.refl _ _) ⟨rfl,by rw [eqF,hz,hk3,List.drop_length,zjy,hlm,beq_self_eq_true];rfl⟩
theorem yhk {f g:Bool} (l m:List ByteArray) (hl:l.length≤4611686018427387904) (hm:m.length≤4611686018427387904):y7 Tryz.prog 78 [.list f 1 (l.map zdi),.list g 1 (m.map zdi)] [] (fun r h'=>h'= []∧r=bv (eqF zr9 l m)):=by
 refine z6 Tryz.func78 rfl rfl rfl ?_
 refine rn ?_;refine z7 rfl (fun hc10=> ?_) (fun hc10=> ?_)
 ·refine rn ?_;have hne:(l.length==m.length)=false:=beq_eq_false_iff_ne.2 fun q=>by simp [q] at hc10
  exact j6 rfl (.refl _ _) ⟨rfl,by rw [eqF,hne,Bool.false_and];rfl⟩
 ·have hlm:l.length=m.length:=by simp at hc10;omega
  refine rn ?_;refine k7 (fun k:Nat=>k≤l.length∧zmc zr9 l m=zmc zr9 (l.drop k) (m.drop k)) (fun k=>⟨[(13,iv k),(12,iv (l.map zdi).length),(0,.list f 1 (l.map zdi)),(1,.list g 1 (m.map zdi))],[],[]⟩) (fun k=>l.length - k) 0 ⟨Nat.zero_le _,by simp⟩
   (v1 (.cons _ _ _ rfl (.cons _ _ _ rfl (.cons _ _ _ rfl (.cons _ _ _ rfl (.nil)))))) ?_
  rintro k ⟨hk,hz⟩
  refine rn ?_;refine z7 rfl (fun hc14=> ?_) (fun hc14=> ?_)
  ·have hk2:k < l.length:=by simpa using hc14
   have hk3:k < m.length:=by omega
   have hrow1:(l.map zdi)[k]? =some (zdi l[k]):=by simp [hk2]
   have hrow2:(m.map zdi)[k]? =some (zdi m[k]):=by simp [hk3]
   have hd1:=List.drop_eq_getElem_cons hk2
   have hd2:=List.drop_eq_getElem_cons hk3
   refine rn ?_;refine u4 8 rfl ?_
   refine rn ?_;refine z7 rfl (fun hc24=> ?_) (fun hc24=> ?_)
   ·refine rn ?_;exact j6 rfl (.refl _ _) ⟨rfl,by rw [eqF,hz,hd1,hd2,zmc,show zr9 l[k] m[k]=false from zvh hc24,Bool.false_and,Bool.and_false];rfl⟩
   ·refine rn ?_;exact ⟨k+1,⟨by omega,by rw [hz,hd1,hd2,zmc,show zr9 l[k] m[k]=true from zvi hc24,Bool.true_and]⟩,(v1 (.cons _ _ _ rfl (.cons _ _ _ rfl (.cons _ _ _ rfl (.cons _ _ _ rfl (.nil)))))),by omega⟩
  ·have hk3:k=l.length:=by
    have:l.length≤k:=by simpa using hc14
    omega
   refine rn ?_;exact j6 rfl (.refl _ _) ⟨rfl,by rw [eqF,hz,hk3,List.drop_length,zjy,hlm,beq_self_eq_true];rfl⟩
theorem zzj {f g:Bool} (l m:List Int) (hl:l.length≤4611686018427387904) (hm:m.length≤4611686018427387904):y7 Tryz.prog 80 [.list f 1 (l.map zai),.list g 1 (m.map zai)] [] (fun r h'=>h'= []∧r=bv (eqF ztb l m)):=by
 refine z6 Tryz.func80 rfl rfl rfl ?_
 refine rn ?_;refine z7 rfl (fun hc10=> ?_) (fun hc10=> ?_)
 ·refine rn ?_;have hne:(l.length==m.length)=false:=beq_eq_false_iff_ne.2 fun q=>by simp [q] at hc10
  exact j6 rfl (.refl _ _) ⟨rfl,by rw [eqF,hne,Bool.false_and];rfl⟩
 ·have hlm:l.length=m.length:=by simp at hc10;omega
  refine rn ?_;refine k7 (fun k:Nat=>k≤l.length∧zmc ztb l m=zmc ztb (l.drop k) (m.drop k)) (fun k=>⟨[(13,iv k),(12,iv (l.map zai).length),(0,.list f 1 (l.map zai)),(1,.list g 1 (m.map zai))],[],[]⟩) (fun k=>l.length - k) 0 ⟨Nat.zero_le _,by simp⟩
   (v1 (.cons _ _ _ rfl (.cons _ _ _ rfl (.cons _ _ _ rfl (.cons _ _ _ rfl (.nil)))))) ?_
  rintro k ⟨hk,hz⟩
  refine rn ?_;refine z7 rfl (fun hc14=> ?_) (fun hc14=> ?_)
  ·have hk2:k < l.length:=by simpa using hc14
   have hk3:k < m.length:=by omega
   have hrow1:(l.map zai)[k]? =some (zai l[k]):=by simp [hk2]
   have hrow2:(m.map zai)[k]? =some (zai m[k]):=by simp [hk3]
   have hd1:=List.drop_eq_getElem_cons hk2
   have hd2:=List.drop_eq_getElem_cons hk3
   refine rn ?_;refine u4 8 rfl ?_
   refine rn ?_;refine z7 rfl (fun hc24=> ?_) (fun hc24=> ?_)
   ·refine rn ?_;exact j6 rfl (.refl _ _) ⟨rfl,by rw [eqF,hz,hd1,hd2,zmc,show ztb l[k] m[k]=false from zvh hc24,Bool.false_and,Bool.and_false];rfl⟩
   ·refine rn ?_;exact ⟨k+1,⟨by omega,by rw [hz,hd1,hd2,zmc,show ztb l[k] m[k]=true from zvi hc24,Bool.true_and]⟩,(v1 (.cons _ _ _ rfl (.cons _ _ _ rfl (.cons _ _ _ rfl (.cons _ _ _ rfl (.nil)))))),by omega⟩
  ·have hk3:k=l.length:=by
    have:l.length≤k:=by simpa using hc14
    omega
   refine rn ?_;exact j6 rfl (.refl _ _) ⟨rfl,by rw [eqF,hz,hk3,List.drop_length,zjy,hlm,beq_self_eq_true];rfl⟩
theorem zjn (n m:Int):y7 Tryz.prog 21 [iv n,iv m] [] (fun r h'=>h'= []∧r=bv (isB n m)):=by
 refine z6 Tryz.func21 rfl rfl rfl ?_
 refine rn ?_;refine w7 (fun hg1_2=> ?_) (fun hg1_2=> ?_)
 ·refine rn ?_;exact j6 rfl (.refl _ _) ⟨rfl,congrArg bv (by first|(simp only [isB, *,Bool.true_and,Bool.false_and,Bool.and_false,Bool.and_true,Bool.true_or,Bool.or_false,Bool.false_or,Bool.or_true,if_true,if_false,Bool.false_eq_true,Bool.not_true,Bool.not_false];done)|(simp_all [isB];done)|(simp_all [isB] <;> omega))⟩
 ·refine rn ?_;exact j6 rfl (.refl _ _) ⟨rfl,congrArg bv (by first|(simp only [isB, *,Bool.true_and,Bool.false_and,Bool.and_false,Bool.and_true,Bool.true_or,Bool.or_false,Bool.false_or,Bool.or_true,if_true,if_false,Bool.false_eq_true,Bool.not_true,Bool.not_false];done)|(simp_all [isB];done)|(simp_all [isB] <;> omega))⟩
theorem bvz0_1100 {a b:Bool} (h:a=b:=by first|(simp only [zfw, *,Bool.true_and,Bool.false_and,Bool.and_false,Bool.and_true,Bool.true_or,Bool.or_false,Bool.false_or,Bool.or_true,if_true,if_false,Bool.false_eq_true,Bool.not_true,Bool.not_false];done)|(simp_all [zfw];done)|(simp_all [zfw] <;> omega)):bv a=bv b:=congrArg bv h
theorem zgi (v:Ver) (m:Int):y7 Tryz.prog 216 [.agg (zy8 v),iv m] [] (fun r h'=>h'= []∧r=bv (zfw v m)):=by
 refine z6 Tryz.func216 rfl rfl rfl ?_
 refine rn ?_;refine z8 rfl (w8 rfl rfl rfl fun b2=> ?_)
 refine rn ?_;refine w7 (fun hg1_3=> ?_) (fun hg1_3=> ?_)
 ·refine rn ?_;exact j6 rfl (.drop [_] _ _) ⟨rfl,bvz0_1100⟩
 ·refine rn ?_;refine qv rfl rfl (y0 rfl rfl (v8 (zjn _ _) (Sbs.refl _))) ?_
  refine rn ?_;refine w7 (fun hg1_8=> ?_) (fun hg1_8=> ?_)
  ·refine rn ?_;refine w7 (fun hg1_13=> ?_) (fun hg1_13=> ?_)
   ·refine rn ?_;exact j6 rfl (.drop [_] _ _) ⟨rfl,bvz0_1100⟩
   ·refine rn ?_;exact j6 rfl (.drop [_] _ _) ⟨rfl,bvz0_1100⟩
  ·refine rn ?_;exact j6 rfl (.drop [_] _ _) ⟨rfl,bvz0_1100⟩
theorem bvz1_6315 {a b:Bool} (h:a=b:=by first|(simp only [zkr, *,Bool.true_and,Bool.false_and,Bool.and_false,Bool.and_true,Bool.true_or,Bool.or_false,Bool.false_or,Bool.or_true,if_true,if_false,Bool.false_eq_true,Bool.not_true,Bool.not_false];done)|(simp_all [zkr];done)|(simp_all [zkr] <;> omega)):bv a=bv b:=congrArg bv h
theorem zfx (a b:Ev) (ha:a.scan.length≤4611686018427387904) (hb:b.scan.length≤4611686018427387904):y7 Tryz.prog 79 [.agg (evR a),.agg (evR b)] [] (fun r h'=>h'= []∧r=bv (zkr a b)):=by
 refine z6 Tryz.func79 rfl rfl rfl ?_
 refine rn ?_;refine z8 rfl (w8 rfl rfl rfl fun b2=> ?_)
 refine z8 rfl (w8 rfl rfl rfl fun b3=> ?_)
 refine rn ?_;refine w7 (fun hg1_5=> ?_) (fun hg1_5=> ?_)
 ·refine rn ?_;refine w7 (fun hg1_12=> ?_) (fun hg1_12=> ?_)
  ·refine rn ?_;refine w7 (fun hg1_19=> ?_) (fun hg1_19=> ?_)
   ·refine rn ?_;refine w7 (fun hg1_26=> ?_) (fun hg1_26=> ?_)
    ·refine rn ?_;refine w7 (fun hg1_33=> ?_) (fun hg1_33=> ?_)
     ·refine rn ?_;refine w7 (fun hg1_40=> ?_) (fun hg1_40=> ?_)
      ·refine rn ?_;refine w7 (fun hg1_47=> ?_) (fun hg1_47=> ?_)
       ·refine rn ?_;refine qv rfl rfl (y0 rfl rfl (v8 (ynb _ _ ha hb) (Sbs.refl _))) ?_
        refine rn ?_;exact j6 rfl (.drop [_,_] _ _) ⟨rfl,bvz1_6315⟩
       ·refine rn ?_;exact j6 rfl (.drop [_,_] _ _) ⟨rfl,bvz1_6315⟩
      ·refine rn ?_;exact j6 rfl (.drop [_,_] _ _) ⟨rfl,bvz1_6315⟩
     ·refine rn ?_;exact j6 rfl (.drop [_,_] _ _) ⟨rfl,bvz1_6315⟩
    ·refine rn ?_;exact j6 rfl (.drop [_,_] _ _) ⟨rfl,bvz1_6315⟩
   ·refine rn ?_;exact j6 rfl (.drop [_,_] _ _) ⟨rfl,bvz1_6315⟩
  ·refine rn ?_;exact j6 rfl (.drop [_,_] _ _) ⟨rfl,bvz1_6315⟩
 ·refine rn ?_;exact j6 rfl (.drop [_,_] _ _) ⟨rfl,bvz1_6315⟩
theorem zzp {f:Bool} (l:List Int) (n:Int) (hl:l.length≤4611686018427387904):y7 Tryz.prog 77 [.list f 1 (l.map zai),iv n] [] (fun r h'=>h'= []∧r=iv (atI n 0 l)):=by
 refine z6 Tryz.func77 rfl rfl rfl ?_
 refine rn ?_;refine k7 (fun k:Nat=>k≤l.length∧atI n 0 l=atI n k (l.drop k)) (fun k=>⟨[(9,iv k),(8,iv (l.map zai).length),(7,.list f 1 (l.map zai)),(1,iv n)],[],[]⟩) (fun k=>l.length - k) 0 ⟨Nat.zero_le _,by simp⟩
  (v1 (.cons _ _ _ rfl (.cons _ _ _ rfl (.cons _ _ _ rfl (.cons _ _ _ rfl (.nil)))))) ?_
 rintro k ⟨hk,hz⟩
 refine rn ?_;refine z7 rfl (fun hc10=> ?_) (fun hc10=> ?_)
 ·have hk2:k < l.length:=by simpa using hc10
  have hrow:(l.map zai)[k]? =some (zai l[k]):=by simp [hk2]
  have hd:=List.drop_eq_getElem_cons hk2
  refine rn ?_;refine z7 rfl (fun hc16=> ?_) (fun hc16=> ?_)
  ·have hx:l[k]=n:=by simpa using hc16
   refine rn ?_;exact j6 rfl (.refl _ _) ⟨rfl,congrArg iv (by rw [hz,hd,atI,if_pos hx])⟩
  ·have hx:¬l[k]=n:=by simpa using hc16
   refine rn ?_;exact ⟨k+1,⟨by omega,by rw [hz,hd,atI,if_neg hx]⟩,(v1 (.cons _ _ _ rfl (.cons _ _ _ rfl (.cons _ _ _ rfl (.cons _ _ _ rfl (.nil)))))),by omega⟩
 ·have hk3:k=l.length:=by
   have:l.length≤k:=by simpa using hc10
   omega
  refine rn ?_;exact j6 rfl (.refl _ _) ⟨rfl,congrArg iv (by rw [hz,hk3,List.drop_length];rfl)⟩
attribute [local irreducible] zd9 jch zfo
theorem yq1 (h:Hist) (t c:Int) (la:Lim 4611686018427387904 h):y7 Tryz.prog 91 [.agg (y9 h),iv t,iv c] [] (fun r h'=>h'= []∧r=bv (zfb h.evs t c)):=by
 refine z6 Tryz.func91 rfl rfl rfl ?_
 refine rn ?_;refine z8 rfl (w8 rfl rfl rfl fun b3=> ?_)
 refine rn ?_;refine zc8 (h.evs.length) (fun k:Nat=>h.evs.all (fun e:Ev=> !(e.t==t && e.kind==c))=(h.evs.drop k).all (fun e:Ev=> !(e.t==t && e.kind==c))) (fun k=> [(12,iv k)]) [(1,_),(2,_),(10,_),(11,_)] rfl ?_
 intro k lk zk
 refine rn ?_;refine z7 rfl (fun hc13=> ?_) (fun hc13=> ?_)
 ·have hk:=zay hc13
  have rk:=zae (f:=evR) hk
  have bk:=la.evs
  refine rn ?_;refine z8 rfl (y5 rfl fun b8=> ?_)
  refine rn ?_;refine w7 (fun hg4_4=> ?_) (fun hg4_4=> ?_)
  ·refine rn ?_;refine z7 rfl (fun hc25=> ?_) (fun hc25=> ?_)
   ·refine rn ?_;refine rq 2 ?_
    exact ⟨rfl,congrArg bv (by rw [zfb,zuf hk (by simp_all)];rfl)⟩
   ·refine rn ?_;exact ⟨hk,zwo hk zk (by simp_all),eA⟩
  ·refine rn ?_;refine zdo rfl ?_;refine rn ?_;exact ⟨hk,zwo hk zk (by simp_all),eA⟩
 ·have qk:=zaz hc13 lk
  have ak:=yau qk zk
  refine rn ?_;refine rq 1 ?_
  exact ⟨rfl,congrArg bv (by rw [zfb,ak];rfl)⟩
theorem yco (h:Hist) (t:Int) (la:Lim 4611686018427387904 h):y7 Tryz.prog 36 [.agg (y9 h),iv t] [] (fun r h'=>h'= []∧r=bv (zfb h.evs t 5)):=by
 refine z6 Tryz.func36 rfl rfl rfl ?_
 refine rn ?_;refine z8 rfl (w8 rfl rfl rfl fun b2=> ?_)
 refine rn ?_;refine qv rfl rfl (y0 rfl rfl (v8 (yq1 h t 5 la) (Sbs.refl _))) ?_
 refine rn ?_;refine rq 1 ?_
 exact ⟨rfl,rfl⟩
theorem zuy (ts f:List Int) (hl:ts.length≤4611686018427387904) (hm:f.length≤4611686018427387904):y7 Tryz.prog 276 [zaq ts,zaq f] [] (fun r h'=>h'= []∧r=bv (zgv ts f)):=by
 refine z6 Tryz.func276 rfl rfl rfl ?_
 refine rn ?_;refine zc8 (ts.length) (fun k:Nat=>yj8 ts f k) (fun k=> [(9,iv k)]) [(0,_),(1,_),(7,_),(8,_)] (fun j _ h=>absurd h (Nat.not_lt_zero _)) ?_
 intro k lk zk
 refine rn ?_;refine z7 rfl (fun hc10=> ?_) (fun hc10=> ?_)
 ·have hk:=zay hc10
  have rk:=zae (f:=zai) hk
  refine rn ?_;refine qv rfl rfl (y0 rfl rfl (v8 (zzp f ts[k] hm) (Sbs.refl _))) ?_
  refine rn ?_;refine w7 (fun hg4_4=> ?_) (fun hg4_4=> ?_)
  ·refine rn ?_;refine zdh rfl ?_;refine rn ?_;refine rq 0 ?_
   exact ⟨rfl,congrArg bv (by rw [ykl hk (by first|exact .inl hg4_4|exact .inr (by simpa using hc24))])⟩
  ·refine rn ?_;refine qv rfl rfl (y0 rfl rfl (v8 (zzp ts ts[k] hl) (Sbs.refl _))) ?_
   refine rn ?_;refine z7 rfl (fun hc24=> ?_) (fun hc24=> ?_)
   ·refine rn ?_;refine rq 0 ?_
    exact ⟨rfl,congrArg bv (by rw [ykl hk (by first|exact .inl hg4_4|exact .inr (by simpa using hc24))])⟩
   ·refine rn ?_;exact ⟨hk,ymr hk zk (by simp_all) (by simp_all),eA⟩
 ·have qk:=zaz hc10 lk
  refine rn ?_;refine rq 0 ?_
  exact ⟨rfl,congrArg bv (by rw [yqj (qk ▸ zk)])⟩
theorem zit (h:Hist) (x:Int) (la:Lim 1000000 h):y7 Tryz.prog 129 [.agg (y9 h),iv x] [] (fun r h'=>h'= []∧r=zaq (zbj h x)):=by
 refine z6 Tryz.func129 rfl rfl rfl ?_
 have be:=la.evs
 have bt:=la.ts
 refine rn ?_;refine z8 rfl (w8 rfl rfl rfl fun b2=> ?_)
 refine rn0 ?_;refine w9 (y6 ?_)
 refine rn0 ?_;refine w9 ?_;refine w9 ?_;refine zf3 (zac 1 3) ?_
 refine rn ?_;refine zc7 h.ts.length (fun k s=>⟨[(13,iv k),(5,.v s.v),(1,iv x),(2,pZ b2),(12,iv (h.ts.map zdi).length)],.row s.v 1 3 ((zdq h x k).map zai):: .box b2 28 (y9 h):: [],[]⟩) ⟨none,0,0⟩ es ?_
 intro k s lk
 refine rn ?_;refine z7 rfl (fun hc14=> ?_) (fun hc14=> ?_)
 ·have hk:=zay hc14
  have rk:=zae (f:=zdi) hk
  refine rn ?_;refine zwk h.evs.length (fun j wb=>wb=(h.evs.take j).any (zam k x)) (fun j wb=> [(19,iv j),(7,bv wb)]) [(1,_),(2,_),(5,_),(6,_),(12,_),(13,_),(17,_),(18,_)] false rfl ?_
  intro j wb lj zj
  refine rn ?_;refine z7 rfl (fun hc20=> ?_) (fun hc20=> ?_)
  ·have hj:=zay hc20
   have rj:=zae (f:=evR) hj
   refine rn ?_;refine z8 rfl (y5 rfl fun b9=> ?_)
   refine rn ?_;refine w7 (fun hg9_1=> ?_) (fun hg9_1=> ?_)
   ·refine rn ?_;refine ⟨hj,_,?_,eA⟩
    rw [za9 hj,←zj]
    simp_all [zam]
   ·refine rn ?_;refine w7 (fun hg9_5=> ?_) (fun hg9_5=> ?_)
    ·refine rn ?_;refine w7 (fun hg9_11=> ?_) (fun hg9_11=> ?_)
     ·refine rn ?_;refine ⟨hj,_,?_,eA⟩
      rw [za9 hj,←zj]
      simp_all [zam]
     ·refine rn ?_;refine ⟨hj,_,?_,eA⟩
      rw [za9 hj,←zj]
      simp_all [zam]
    ·refine rn ?_;refine ⟨hj,_,?_,eA⟩
     rw [za9 hj,←zj]
     simp_all [zam]
  ·have qj:=zaz hc20 lj
   have wq:wb=h.evs.any (zam k x):=by rw [zj,qj,List.take_length]
   refine rn ?_;refine w7 (fun hg11_1=> ?_) (fun hg11_1=> ?_)
   ·refine rn ?_;refine qv rfl rfl (y0 rfl rfl (v8 (yco h k (la.mono (by decide))) (Sbs.refl _))) ?_
    refine rn ?_;refine z7 rfl (fun hc47=> ?_) (fun hc47=> ?_)
    ·refine rn ?_;refine qv rfl rfl (q6 rfl rfl) ?_
     refine z8 rfl (u7 rfl rfl (by simp only [oM];have:=zlt h x k;simp;omega) rfl (fun s51=> ?_) (zg3 [(k:Int)]))
     refine k8 s51 fun sv hsv=> ?_
     subst hsv
     refine rn ?_;first|exact ⟨hk,sv,by rw [zk1 (by simp_all) (by simp_all),List.map_append];exact eA⟩|exact ⟨hk,s,by rw [zk2 (by simp_all)];exact eA⟩
    ·refine rn ?_;first|exact ⟨hk,sv,by rw [zk1 (by simp_all) (by simp_all),List.map_append];exact eA⟩|exact ⟨hk,s,by rw [zk2 (by simp_all)];exact eA⟩
   ·refine rn ?_;refine zdo rfl ?_;refine rn ?_;first|exact ⟨hk,sv,by rw [zk1 (by simp_all) (by simp_all),List.map_append];exact eA⟩|exact ⟨hk,s,by rw [zk2 (by simp_all)];exact eA⟩
 ·have qk:=zaz hc14 lk
  refine rn ?_;exact j6 rfl (.trans zbr (.drop1 _ _ _)) ⟨rfl,by rw [qk,zr1];rfl⟩
theorem yhj (h:Hist) (i:Nat) (hi:i < h.ords.length) (la:Lim 1000000 h):y7 Tryz.prog 259 [.agg (y9 h),iv i] [] (fun r h'=>h'= []∧r=bv (zke h i h.ords[i])):=by
 refine z6 Tryz.func259 rfl rfl rfl ?_
 have ri:=zae (f:=zef) hi
 have bo:=la.ords
 have si:=la.ordts h.ords[i] (List.getElem_mem hi)
 refine rn ?_;refine z8 rfl (w8 rfl rfl rfl fun b2=> ?_)
 refine rn ?_;refine z8 rfl (y5 rfl fun b5=> ?_)
 first|refine z8 rfl (j5 rfl rfl rfl ?_)|refine z8 rfl (zak rfl rfl rfl rfl (Nat.le_of_ble_eq_true rfl) ?_)
 refine u3 (zag ?_)
 refine w9 ?_;refine w9 (y6 ?_)
 refine q1 ?_;refine q1 ?_;refine q1 ?_;refine qq rfl rfl (zcc (k:=i) rfl rfl (by simp;omega)) ?_
 rw [←List.map_take]
 refine rn ?_;refine zc8 ((h.ords.take i).length) (fun j:Nat=>(h.ords.take i).all (fun p:Ord=> !(p.o==h.ords[i].o))=((h.ords.take i).drop j).all (fun p:Ord=> !(p.o==h.ords[i].o))) (fun j=> [(19,iv j)]) [(2,_),(5,_),(17,_),(18,_)] rfl ?_
 intro j lj zj
 refine rn ?_;refine z7 rfl (fun hc20=> ?_) (fun hc20=> ?_)
 ·have hj:=zay hc20
  have rj:=zae (f:=zef) hj
  have bj:(h.ords.take i).length≤4611686018427387904:=by simp;omega
  refine rn ?_;refine z8 rfl (y5 rfl fun b7=> ?_)
  refine rn ?_;refine z7 rfl (fun hc27=> ?_) (fun hc27=> ?_)
  ·refine rn ?_;refine rq 3 ?_
   exact ⟨rfl,congrArg bv (by rw [yh8 (zuf hj (by simpa using hc27))])⟩
  ·refine rn ?_;exact ⟨hj,zwo hj zj (by simpa using hc27),eA⟩
 ·have qj:=zaz hc20 lj
  have aj:=yau qj zj
  refine rn ?_;refine qv rfl rfl (y0 rfl rfl (v8 (zit h h.ords[i].o la) (Sbs.refl _))) ?_
  refine rn ?_;refine qv rfl rfl (y0 rfl rfl (v8 (zuy h.ords[i].ts (zbj h h.ords[i].o) (Nat.le_trans si (by decide)) (Nat.le_trans (zgs _ _) (Nat.le_trans la.ts (by decide)))) (Sbs.refl _))) ?_
  refine rn ?_;refine w7 (fun hg9_5=> ?_) (fun hg9_5=> ?_)
  ·refine rn ?_;refine rq 2 ?_
   exact ⟨rfl,congrArg bv (by rw [zxw aj];simp_all)⟩
  ·refine rn ?_;refine qv rfl rfl (y0 rfl rfl (v8 (zuy (zbj h h.ords[i].o) h.ords[i].ts (Nat.le_trans (zgs _ _) (Nat.le_trans la.ts (by decide))) (Nat.le_trans si (by decide))) (Sbs.refl _))) ?_
   refine rn ?_;refine rq 2 ?_
   exact ⟨rfl,congrArg bv (by rw [zxw aj];simp_all)⟩
theorem zzk (h:Hist) (x:Int) (la:Lim 1000000 h):y7 Tryz.prog 260 [.agg (y9 h),iv x] [] (fun r h'=>h'= []∧r=bv (zo5 h x)):=by
 refine z6 Tryz.func260 rfl rfl rfl ?_
 refine rn ?_;refine z8 rfl (w8 rfl rfl rfl fun b2=> ?_)
 refine rn ?_;refine zc8 (h.ords.length) (fun j:Nat=>h.ords.all (fun p:Ord=> !(p.o==x))=(h.ords.drop j).all (fun p:Ord=> !(p.o==x))) (fun j=> [(10,iv j)]) [(1,_),(2,_),(8,_),(9,_)] rfl ?_
 intro j lj zj
 refine rn ?_;refine z7 rfl (fun hc11=> ?_) (fun hc11=> ?_)
 ·have hj:=zay hc11
  have rj:=zae (f:=zef) hj
  have bo:=la.ords
  refine rn ?_;refine z8 rfl (y5 rfl fun b6=> ?_)
  refine rn ?_;refine z7 rfl (fun hc17=> ?_) (fun hc17=> ?_)
  ·refine rn ?_;refine rq 2 ?_
   exact ⟨rfl,congrArg bv (by rw [yn4 (zuf hj (by simpa using hc17))])⟩
  ·refine rn ?_;exact ⟨hj,zwo hj zj (by simpa using hc17),eA⟩
 ·have qj:=zaz hc11 lj
  have aj:=yau qj zj
  refine rn ?_;refine qv rfl rfl (y0 rfl rfl (v8 (zit h x la) (Sbs.refl _))) ?_
  refine rn ?_;refine rq 1 ?_
  exact ⟨rfl,congrArg bv (by rw [yn5 aj];simp;omega)⟩
theorem yhl (h:Hist) (i:Nat) (hi:i < h.mats.length) (la:Lim 1000000 h):y7 Tryz.prog 261 [.agg (y9 h),iv i] [] (fun r h'=>h'= []∧r=bv (zkj h i h.mats[i])):=by
 refine z6 Tryz.func261 rfl rfl rfl ?_
 have ri:=zae (f:=zd8) hi
 have bo:=la.mats
 have si:=la.matts h.mats[i] (List.getElem_mem hi)
 refine rn ?_;refine z8 rfl (w8 rfl rfl rfl fun b2=> ?_)
 refine rn ?_;refine z8 rfl (y5 rfl fun b5=> ?_)
 first|refine z8 rfl (j5 rfl rfl rfl ?_)|refine z8 rfl (zak rfl rfl rfl rfl (Nat.le_of_ble_eq_true rfl) ?_)
 refine u3 (zag ?_)
 refine w9 ?_;refine w9 (y6 ?_)
 refine q1 ?_;refine q1 ?_;refine q1 ?_;refine qq rfl rfl (zcc (k:=i) rfl rfl (by simp;omega)) ?_
 rw [←List.map_take]
 refine rn ?_;refine zc8 ((h.mats.take i).length) (fun j:Nat=>(h.mats.take i).all (fun p:Mat=> !(p.p==h.mats[i].p && p.o==h.mats[i].o))=((h.mats.take i).drop j).all (fun p:Mat=> !(p.p==h.mats[i].p && p.o==h.mats[i].o))) (fun j=> [(18,iv j)]) [(2,_),(5,_),(16,_),(17,_)] rfl ?_
 intro j lj zj
 refine rn ?_;refine z7 rfl (fun hc19=> ?_) (fun hc19=> ?_)
 ·have hj:=zay hc19
  have rj:=zae (f:=zd8) hj
  have bj:(h.mats.take i).length≤4611686018427387904:=by simp;omega
  refine rn ?_;refine z8 rfl (y5 rfl fun b7=> ?_)
  refine rn ?_;refine w7 (fun hg5_5=> ?_) (fun hg5_5=> ?_)
  ·refine rn ?_;refine z7 rfl (fun hc33=> ?_) (fun hc33=> ?_)
   ·refine rn ?_;refine rq 3 ?_
    exact ⟨rfl,congrArg bv (by rw [yig (zuf hj (by simp_all))])⟩
   ·refine rn ?_;exact ⟨hj,zwo hj zj (by simp_all),eA⟩
  ·refine rn ?_;refine zdo rfl ?_;refine rn ?_;exact ⟨hj,zwo hj zj (by simp_all),eA⟩
 ·have qj:=zaz hc19 lj
  have aj:=yau qj zj
  refine rn ?_;refine u4 6 rfl ?_
  refine rn ?_;refine dv rfl rfl (by exact y0 rfl rfl (v8 (zit h h.mats[i].o la) (Sbs.refl _))) ?_
  refine rn ?_;refine qv rfl rfl (y0 rfl rfl (v8 (zuy h.mats[i].ts (zbj h h.mats[i].o) (Nat.le_trans si (by decide)) (Nat.le_trans (zgs _ _) (Nat.le_trans la.ts (by decide)))) (Sbs.refl _))) ?_
  refine rn ?_;refine rq 2 ?_
  exact ⟨rfl,congrArg bv (by rw [yih aj])⟩
theorem yna (h:Hist) (i:Nat) (hi:i < h.wants.length) (la:Lim 1000000 h):y7 Tryz.prog 262 [.agg (y9 h),iv i] [] (fun r h'=>h'= []∧r=bv (zk3 h i h.wants[i])):=by
 refine z6 Tryz.func262 rfl rfl rfl ?_
 have ri:=zae (f:=zfh) hi
 have bo:=la.wants
 refine rn ?_;refine z8 rfl (w8 rfl rfl rfl fun b2=> ?_)
 refine q1 ?_;refine u3 (zag ?_)
 refine w9 ?_;refine w9 (y6 ?_)
 refine q1 ?_;refine q1 ?_;refine q1 ?_;refine qq rfl rfl (zcc (k:=i) rfl rfl (by simp;omega)) ?_
 rw [←List.map_take]
 refine rn ?_;refine zc8 ((h.wants.take i).length) (fun j:Nat=>(h.wants.take i).all (fun p:Wan=> !(p.s==h.wants[i].s))=((h.wants.take i).drop j).all (fun p:Wan=> !(p.s==h.wants[i].s))) (fun j=> [(14,iv j)]) [(1,_),(2,_),(12,_),(13,_)] rfl ?_
 intro j lj zj
 refine rn ?_;refine z7 rfl (fun hc15=> ?_) (fun hc15=> ?_)
 ·have hj:=zay hc15
  have rj:=zae (f:=zfh) hj
  have bj:(h.wants.take i).length≤4611686018427387904:=by simp;omega
  refine rn ?_;refine z8 rfl (y5 rfl fun b6=> ?_)
  refine rn ?_;refine u4 8 rfl ?_
  refine rn ?_;refine z7 rfl (fun hc26=> ?_) (fun hc26=> ?_)
  ·refine rn ?_;refine rq 2 ?_
   exact ⟨rfl,congrArg bv (by rw [ymb (zuf hj (by simpa using hc26))])⟩
  ·refine rn ?_;exact ⟨hj,zwo hj zj (by simpa using hc26),eA⟩
 ·have qj:=zaz hc15 lj
  have aj:=yau qj zj
  refine rn ?_;refine zc8 (h.evs.length) (fun k:Nat=>h.evs.all (fun e:Ev=> !(e.kind==1 && e.s==h.wants[i].s))=(h.evs.drop k).all (fun e:Ev=> !(e.kind==1 && e.s==h.wants[i].s))) (fun k=> [(31,iv k)]) [(1,_),(2,_),(29,_),(30,_)] rfl ?_
  intro k lk zk
  refine rn ?_;refine z7 rfl (fun hc32=> ?_) (fun hc32=> ?_)
  ·have hk:=zay hc32
   have rk:=zae (f:=evR) hk
   have bk:=la.evs
   refine rn ?_;refine z8 rfl (y5 rfl fun b8=> ?_)
   refine rn ?_;refine u4 12 rfl ?_
   refine rn ?_;refine zcv (fun hg10_3=> ?_) (fun hg10_3=> ?_)
   ·refine rn ?_;refine z7 rfl (fun hc48=> ?_) (fun hc48=> ?_)
    ·refine rn ?_;refine rq 2 ?_
     exact ⟨rfl,congrArg bv (by rw [ybc aj (zuf hk (by simp_all))])⟩
    ·refine rn ?_;exact ⟨hk,zwo hk zk (by simp_all),eA⟩
   ·refine rn ?_;refine zdo rfl ?_;refine rn ?_;exact ⟨hk,zwo hk zk (by simp_all),eA⟩
  ·have qk:=zaz hc32 lk
   have ak:=yau qk zk
   refine rn ?_;refine rq 1 ?_
   exact ⟨rfl,congrArg bv (by rw [ybc aj ak])⟩
theorem yck (e:Ev):y7 Tryz.prog 278 [.agg (evR e)] [] (fun r h'=>h'= []∧r=zei (u6 e)):=by
 refine z6 Tryz.func278 rfl rfl rfl ?_
 refine rn ?_;refine z8 rfl (w8 rfl rfl rfl fun b1=> ?_)
 refine rn ?_;refine z7 rfl (fun hc5=> ?_) (fun hc5=> ?_)
 ·refine rn ?_;refine qv rfl rfl (q6 rfl rfl) ?_
  refine rn ?_;exact j6 rfl (.trans (.drop [_] _ _) (.le Sb.unfull.le)) ⟨rfl,by rw [u6,if_pos (by simpa using hc5)];rfl⟩
 ·refine rn ?_;refine rq 1 ?_
  exact ⟨rfl,by rw [u6,if_neg (by simpa using hc5)];rfl⟩
theorem zxo (l:List Ev) (t x:Int) (la:l.length≤1000000):y7 Tryz.prog 277 [zoc l,iv t,iv x] [] (fun r h'=>h'= []∧r=zoc (zco l t x)):=by
 refine z6 Tryz.func277 rfl rfl rfl ?_
 refine w9 (y6 ?_)
 refine rn0 ?_;refine w9 (y6 ?_)
 refine rn0 ?_;refine w9 ?_;refine w9 ?_;refine zf3 (zac 9 60) ?_
 refine rn ?_;refine zc7 l.length (fun k s=>⟨[(12,iv k),(7,.v s.v),(1,iv t),(2,iv x),(10,zoc l),(11,iv (l.map evR).length)],.row s.v 9 60 ((zco (l.take k) t x).map evR):: [],[]⟩) ⟨none,0,0⟩ es ?_
 intro k s lk
 refine rn ?_;refine z7 rfl (fun hc13=> ?_) (fun hc13=> ?_)
 ·have hk:=zay hc13
  have rk:=zae (f:=evR) hk
  refine rn ?_;refine z8 rfl (y5 rfl fun b9=> ?_)
  refine rn ?_;refine w7 (fun hg5_3=> ?_) (fun hg5_3=> ?_)
  ·refine rn ?_;refine w7 (fun hg5_9=> ?_) (fun hg5_9=> ?_)
   ·refine rn ?_;refine z7 rfl (fun hc30=> ?_) (fun hc30=> ?_)
    ·refine rn ?_;refine qv rfl rfl (q6 rfl rfl) ?_
     refine z8 rfl (u7 rfl rfl (by simp only [oM];have:=ygi l t x k;simp;omega) rfl (fun s34=> ?_) (yrt [l[k]]))
     refine k8 s34 fun sv hsv=> ?_
     subst hsv
     refine rn ?_;first|exact ⟨hk,sv,by rw [zqm hk (by simp_all),List.map_append];exact eA⟩|exact ⟨hk,s,by rw [zqn hk (by simp_all)];exact eA⟩
    ·refine rn ?_;first|exact ⟨hk,sv,by rw [zqm hk (by simp_all),List.map_append];exact eA⟩|exact ⟨hk,s,by rw [zqn hk (by simp_all)];exact eA⟩
   ·refine rn ?_;refine zdo rfl ?_;refine rn ?_;first|exact ⟨hk,sv,by rw [zqm hk (by simp_all),List.map_append];exact eA⟩|exact ⟨hk,s,by rw [zqn hk (by simp_all)];exact eA⟩
  ·refine rn ?_;refine zdo rfl ?_;refine rn ?_;first|exact ⟨hk,sv,by rw [zqm hk (by simp_all),List.map_append];exact eA⟩|exact ⟨hk,s,by rw [zqn hk (by simp_all)];exact eA⟩
 ·have qk:=zaz hc13 lk
  refine rn ?_;exact j6 rfl zbr ⟨rfl,by rw [qk,List.take_length];rfl⟩
theorem bvz2_5231 {a b:Bool} (h:a=b:=by subst e1;show _=(zhm l e.t && e.kind==1|| !zhm l e.t && e.kind !=1);rw [←zB];clear zb zo zB zO;simp_all):bv a=bv b:=congrArg bv h
theorem zzn (rl:Nat) (e:Ev) (l:List Ev) (h1:1≤rl) (h6:rl≤6) (la:l.length≤1000000) (hl:e.scan.length≤1000000):y7 Tryz.prog 263 [iv rl,.agg (evR e),zoc l] [] (fun r h'=>h'= []∧r=bv (zdk rl e l)):=by
 refine z6 Tryz.func263 rfl rfl rfl ?_
 refine rn ?_;refine z8 rfl (w8 rfl rfl rfl fun b4=> ?_)
 refine rn ?_;refine zwk l.length (fun j x=>x.1=(l.take j).any (fun y:Ev=>y.t==e.t && y.kind==1)∧x.2=(l.take j).any (fun y:Ev=>y.t==e.t && (y.kind==5||y.kind==6))) (fun j x=> [(21,iv j),(7,bv x.1),(8,bv x.2)]) [(0,_),(2,_),(4,_),(19,_),(20,_)] (false,false) ⟨rfl,rfl⟩ ?_
 rintro j ⟨bg,ov⟩ lj ⟨zb,zo⟩
 refine rn ?_;refine z7 rfl (fun hc22=> ?_) (fun hc22=> ?_)
 ·have hj:=zay hc22
  have rj:=zae (f:=evR) hj
  refine rn ?_;refine z8 rfl (y5 rfl fun b10=> ?_)
  refine rn ?_;refine z7 rfl (fun hc29=> ?_) (fun hc29=> ?_)
  ·refine rn ?_;refine w7 (fun hg6_1=> ?_) (fun hg6_1=> ?_)
   ·refine rn ?_;refine w7 (fun hg7_1=> ?_) (fun hg7_1=> ?_)
    ·refine rn ?_;refine ⟨hj,(_,_),?_,eA⟩
     rw [za9 hj,za9 hj]
     generalize (l.take j).any (fun y:Ev=>y.t==e.t && y.kind==1)=A at *
     generalize (l.take j).any (fun y:Ev=>y.t==e.t && (y.kind==5||y.kind==6))=B at *
     simp_all
    ·refine rn ?_;refine w7 (fun hg7_6=> ?_) (fun hg7_6=> ?_)
     ·refine rn ?_;refine ⟨hj,(_,_),?_,eA⟩
      rw [za9 hj,za9 hj]
      generalize (l.take j).any (fun y:Ev=>y.t==e.t && y.kind==1)=A at *
      generalize (l.take j).any (fun y:Ev=>y.t==e.t && (y.kind==5||y.kind==6))=B at *
      simp_all
     ·refine rn ?_;refine ⟨hj,(_,_),?_,eA⟩
      rw [za9 hj,za9 hj]
      generalize (l.take j).any (fun y:Ev=>y.t==e.t && y.kind==1)=A at *
      generalize (l.take j).any (fun y:Ev=>y.t==e.t && (y.kind==5||y.kind==6))=B at *
      simp_all
   ·refine rn ?_;refine w7 (fun hg7_1=> ?_) (fun hg7_1=> ?_)
    ·refine rn ?_;refine ⟨hj,(_,_),?_,eA⟩
     rw [za9 hj,za9 hj]
     generalize (l.take j).any (fun y:Ev=>y.t==e.t && y.kind==1)=A at *
     generalize (l.take j).any (fun y:Ev=>y.t==e.t && (y.kind==5||y.kind==6))=B at *
     simp_all
    ·refine rn ?_;refine w7 (fun hg7_6=> ?_) (fun hg7_6=> ?_)
     ·refine rn ?_;refine ⟨hj,(_,_),?_,eA⟩
      rw [za9 hj,za9 hj]
      generalize (l.take j).any (fun y:Ev=>y.t==e.t && y.kind==1)=A at *
      generalize (l.take j).any (fun y:Ev=>y.t==e.t && (y.kind==5||y.kind==6))=B at *
      simp_all
     ·refine rn ?_;refine ⟨hj,(_,_),?_,eA⟩
      rw [za9 hj,za9 hj]
      generalize (l.take j).any (fun y:Ev=>y.t==e.t && y.kind==1)=A at *
      generalize (l.take j).any (fun y:Ev=>y.t==e.t && (y.kind==5||y.kind==6))=B at *
      simp_all
  ·refine rn ?_;refine ⟨hj,(_,_),?_,eA⟩
   rw [za9 hj,za9 hj]
   generalize (l.take j).any (fun y:Ev=>y.t==e.t && y.kind==1)=A at *
   generalize (l.take j).any (fun y:Ev=>y.t==e.t && (y.kind==5||y.kind==6))=B at *
   simp_all
 ·have qj:=zaz hc22 lj
  have zB:bg=zhm l e.t:=by rw [yfj,zyt];simpa [qj] using zb
  have zO:ov=zo4 l e.t:=by rw [zo4];simpa [qj] using zo
  refine rn ?_;refine z7 rfl (fun hc49=> ?_) (fun hc49=> ?_)
  ·have e1:rl=1:=by have h:=hc49;simp at h;omega
   refine rn ?_;refine w7 (fun hg11_1=> ?_) (fun hg11_1=> ?_)
   ·refine rn ?_;refine w7 (fun hg11_6=> ?_) (fun hg11_6=> ?_)
    ·refine rn ?_;refine rq 1 ?_
     exact ⟨rfl,bvz2_5231⟩
    ·refine rn ?_;refine w7 (fun hg11_9=> ?_) (fun hg11_9=> ?_)
     ·refine rn ?_;refine rq 1 ?_
      exact ⟨rfl,bvz2_5231⟩
     ·refine rn ?_;refine rq 1 ?_
      exact ⟨rfl,bvz2_5231⟩
   ·refine rn ?_;refine w7 (fun hg11_9=> ?_) (fun hg11_9=> ?_)
    ·refine rn ?_;refine rq 1 ?_
     exact ⟨rfl,bvz2_5231⟩
    ·refine rn ?_;refine rq 1 ?_
     exact ⟨rfl,bvz2_5231⟩
  ·have n1:rl≠1:=by intro h;subst h;exact absurd hc49 (by decide)
   refine rn ?_;refine z7 rfl (fun hc66=> ?_) (fun hc66=> ?_)
   ·have e2:rl=2:=by have h:=hc66;simp at h;omega
    refine rn ?_;refine rq 1 ?_
    exact ⟨rfl,congrArg bv (by subst e2;show _=zo4 l e.t;rw [←zO])⟩
   ·have n2:rl≠2:=by intro h;subst h;exact absurd hc66 (by decide)
    refine rn ?_;refine z7 rfl (fun hc69=> ?_) (fun hc69=> ?_)
    ·have e3:rl=3:=by have h:=hc69;simp at h;omega
     refine rn ?_;refine u4 15 rfl ?_
     refine rn ?_;refine zcv (fun hg15_3=> ?_) (fun hg15_3=> ?_)
     ·refine rn ?_;refine dv rfl rfl (by exact y0 rfl rfl (v8 (zxo l e.t e.o la) (Sbs.refl _))) ?_
      refine dq rfl rfl qrA ?_;first|refine ds rfl rfl ?_|refine dq rfl rfl (zc1 rfl rfl rfl (by rw [oM];have:=zhs l e.t e.o;omega)) ?_
      refine rn ?_;refine rq 1 ?_
      exact ⟨rfl,congrArg bv (by subst e3;simp_all [zdk])⟩
     ·refine rn ?_;refine rq 1 ?_
      exact ⟨rfl,congrArg bv (by subst e3;simp_all [zdk])⟩
    ·have n3:rl≠3:=by intro h;subst h;exact absurd hc69 (by decide)
     refine rn ?_;refine qv rfl rfl (y0 rfl rfl (v8 (yck e) (Sbs.refl _))) ?_
     refine rn ?_;refine zc8 ((u6 e).length) (fun k:Nat=>OkS rl e l k) (fun k=> [(91,iv k)]) [(0,_),(2,_),(4,_),(89,_),(90,_)] (fun i _ h=>absurd h (Nat.not_lt_zero _)) ?_
     intro k lk zk
     refine rn ?_;refine z7 rfl (fun hc92=> ?_) (fun hc92=> ?_)
     ·have hk:=zay hc92
      have rk:=zae (f:=zaj) hk
      have sl:=zk7 (e:=e) (Nat.le_trans hl (by decide))
      refine rn ?_;refine z8 rfl (y5 rfl fun b12=> ?_)
      refine rn ?_;refine qv rfl rfl (y0 rfl rfl (v8 (zxo l e.t (u6 e)[k].o la) (Sbs.refl _))) ?_
      refine rn ?_;refine zwk l.length (fun m x=>x=((u6 e)[k].v.k==0||(l.take m).any (fun y:Ev=>y.kind==2 && y.o==(u6 e)[k].o && y.v==(u6 e)[k].v))) (fun m x=> [(108,iv m),(14,bv x)]) [(0,_),(2,_),(4,_),(11,_),(12,_),(13,_),(89,_),(90,_),(91,_),(106,_),(107,_)] ((u6 e)[k].v.k==0) (by simp) ?_
      intro m th lm zm
      refine rn ?_;refine z7 rfl (fun hc109=> ?_) (fun hc109=> ?_)
      ·have hm:=zay hc109
       have rm:=zae (f:=evR) hm
       refine rn ?_;refine z8 rfl (y5 rfl fun b16=> ?_)
       refine rn ?_;refine w7 (fun hg24_1=> ?_) (fun hg24_1=> ?_)
       ·refine rn ?_;refine ⟨hm,_,?_,eA⟩
        try rw [zci]
        rw [za9 hm]
        generalize (l.take m).any (fun y:Ev=>y.kind==2 && y.o==(u6 e)[k].o && y.v==(u6 e)[k].v)=A at *
        generalize ((u6 e)[k].v.k==0)=B at *
        generalize (l[m].v==(u6 e)[k].v)=D at *
        cases A <;> cases B <;> simp_all
       ·refine rn ?_;refine w7 (fun hg24_5=> ?_) (fun hg24_5=> ?_)
        ·refine rn ?_;refine w7 (fun hg24_12=> ?_) (fun hg24_12=> ?_)
         ·refine rn ?_;refine ⟨hm,_,?_,eA⟩
          try rw [zci]
          rw [za9 hm]
          generalize (l.take m).any (fun y:Ev=>y.kind==2 && y.o==(u6 e)[k].o && y.v==(u6 e)[k].v)=A at *
          generalize ((u6 e)[k].v.k==0)=B at *
          generalize (l[m].v==(u6 e)[k].v)=D at *
          cases A <;> cases B <;> simp_all
         ·refine rn ?_;refine ⟨hm,_,?_,eA⟩
          try rw [zci]
          rw [za9 hm]
          generalize (l.take m).any (fun y:Ev=>y.kind==2 && y.o==(u6 e)[k].o && y.v==(u6 e)[k].v)=A at *
          generalize ((u6 e)[k].v.k==0)=B at *
          generalize (l[m].v==(u6 e)[k].v)=D at *
          cases A <;> cases B <;> simp_all
        ·refine rn ?_;refine ⟨hm,_,?_,eA⟩
         try rw [zci]
         rw [za9 hm]
         generalize (l.take m).any (fun y:Ev=>y.kind==2 && y.o==(u6 e)[k].o && y.v==(u6 e)[k].v)=A at *
         generalize ((u6 e)[k].v.k==0)=B at *
         generalize (l[m].v==(u6 e)[k].v)=D at *
         cases A <;> cases B <;> simp_all
      ·have qm:=zaz hc109 lm
       have zT:th=((u6 e)[k].v.k==0||zfi l (u6 e)[k].o (u6 e)[k].v):=by rw [zm,qm,List.take_length];rfl
       refine rn ?_;refine z7 rfl (fun hc134=> ?_) (fun hc134=> ?_)
       ·have e4:rl=4:=by have h:=hc134;simp at h;omega
        refine rn ?_;refine z7 rfl (fun hc137=> ?_) (fun hc137=> ?_)
        ·refine rn ?_;refine rq 2 ?_
         exact ⟨rfl,congrArg bv (by subst e4;rw [zqo (by omega) hk (by show (!((u6 e)[k].v.k==0||zfi l (u6 e)[k].o (u6 e)[k].v))=true;rw [←zT];exact hc137)])⟩
        ·refine rn ?_;exact ⟨hk,ydc hk zk (by first|(subst e4;show (!((u6 e)[k].v.k==0||zfi l (u6 e)[k].o (u6 e)[k].v))=false;rw [←zT];exact hc137)|(subst e5;rw [zk8 hw1,bne,←zci];exact hc154)|(subst e5;exact znn hg31_3)|(subst e6;show ((u6 e).take k).any _=false;rw [ze5,au];rfl)|(exfalso;omega)),eA⟩
       ·have n4:rl≠4:=by intro h;subst h;exact absurd hc134 (by decide)
        refine rn ?_;refine z7 rfl (fun hc138=> ?_) (fun hc138=> ?_)
        ·have e5:rl=5:=by have h:=hc138;simp at h;omega
         refine rn ?_;refine u4 13 rfl ?_
         refine rn ?_;refine zcv (fun hg31_3=> ?_) (fun hg31_3=> ?_)
         ·try obtain ⟨w,hw1,hw2,hw3⟩:=zx4 hg31_3
          refine dq rfl rfl qrA ?_;refine dq rfl rfl qrA ?_;refine dq rfl rfl qrA ?_;first|refine ds rfl rfl ?_|refine dq rfl rfl (zc1 rfl rfl rfl (by rw [oM];have:=zhs l e.t (u6 e)[k].o;omega)) ?_
          first|refine ds rfl rfl ?_|refine dq rfl rfl (zau rfl rfl hw3 hw2) ?_
          refine rn ?_;refine z7 rfl (fun hc154=> ?_) (fun hc154=> ?_)
          ·refine rn ?_;refine rq 2 ?_
           exact ⟨rfl,congrArg bv (by subst e5;rw [zqo (by omega) hk (by rw [zk8 hw1,bne,←zci];exact hc154)])⟩
          ·refine rn ?_;exact ⟨hk,ydc hk zk (by first|(subst e4;show (!((u6 e)[k].v.k==0||zfi l (u6 e)[k].o (u6 e)[k].v))=false;rw [←zT];exact hc137)|(subst e5;rw [zk8 hw1,bne,←zci];exact hc154)|(subst e5;exact znn hg31_3)|(subst e6;show ((u6 e).take k).any _=false;rw [ze5,au];rfl)|(exfalso;omega)),eA⟩
         ·try obtain ⟨w,hw1,hw2,hw3⟩:=zx4 hg31_3
          refine rn ?_;refine zdo rfl ?_;refine rn ?_;exact ⟨hk,ydc hk zk (by first|(subst e4;show (!((u6 e)[k].v.k==0||zfi l (u6 e)[k].o (u6 e)[k].v))=false;rw [←zT];exact hc137)|(subst e5;rw [zk8 hw1,bne,←zci];exact hc154)|(subst e5;exact znn hg31_3)|(subst e6;show ((u6 e).take k).any _=false;rw [ze5,au];rfl)|(exfalso;omega)),eA⟩
        ·have n5:rl≠5:=by intro h;subst h;exact absurd hc138 (by decide)
         refine rn ?_;refine z7 rfl (fun hc155=> ?_) (fun hc155=> ?_)
         ·have e6:rl=6:=by have h:=hc155;simp at h;omega
          refine rn ?_;refine qv rfl rfl (y0 rfl rfl (v8 (yck e) (Sbs.refl _))) ?_
          refine q1 ?_;refine qq rfl rfl (zcc (k:=k) rfl rfl (by simp;omega)) ?_
          rw [←List.map_take]
          refine rn ?_;refine zc8 (((u6 e).take k).length) (fun u:Nat=>((u6 e).take k).all (fun p:Seen=> !(p.o==(u6 e)[k].o))=(((u6 e).take k).drop u).all (fun p:Seen=> !(p.o==(u6 e)[k].o))) (fun u=> [(162,iv u)]) [(0,_),(2,_),(4,_),(12,_),(89,_),(90,_),(91,_),(160,_),(161,_)] rfl ?_
          intro u lu zu
          refine rn ?_;refine z7 rfl (fun hc163=> ?_) (fun hc163=> ?_)
          ·have hu:=zay hc163
           have ru:=zae (f:=zaj) hu
           have bu:((u6 e).take k).length≤4611686018427387904:=by simp;omega
           refine rn ?_;refine z8 rfl (y5 rfl fun b18=> ?_)
           refine rn ?_;refine z7 rfl (fun hc170=> ?_) (fun hc170=> ?_)
           ·refine rn ?_;refine rq 3 ?_
            exact ⟨rfl,congrArg bv (by subst e6;rw [zqo (by omega) hk (by show ((u6 e).take k).any _=true;rw [ze5,zuf hu (by simpa using hc170)];rfl)])⟩
           ·refine rn ?_;exact ⟨hu,zwo hu zu (by simpa using hc170),eA⟩
          ·have qu:=zaz hc163 lu
           have au:=yau qu zu
           refine rn ?_;exact ⟨hk,ydc hk zk (by first|(subst e4;show (!((u6 e)[k].v.k==0||zfi l (u6 e)[k].o (u6 e)[k].v))=false;rw [←zT];exact hc137)|(subst e5;rw [zk8 hw1,bne,←zci];exact hc154)|(subst e5;exact znn hg31_3)|(subst e6;show ((u6 e).take k).any _=false;rw [ze5,au];rfl)|(exfalso;omega)),eA⟩
         ·have n6:rl≠6:=by intro h;subst h;exact absurd hc155 (by decide)
          refine rn ?_;exact ⟨hk,ydc hk zk (by first|(subst e4;show (!((u6 e)[k].v.k==0||zfi l (u6 e)[k].o (u6 e)[k].v))=false;rw [←zT];exact hc137)|(subst e5;rw [zk8 hw1,bne,←zci];exact hc154)|(subst e5;exact znn hg31_3)|(subst e6;show ((u6 e).take k).any _=false;rw [ze5,au];rfl)|(exfalso;omega)),eA⟩
     ·have qk:=zaz hc92 lk
      refine rn ?_;refine rq 1 ?_
      exact ⟨rfl,congrArg bv (by rw [ygk (by omega) (qk ▸ zk)])⟩
theorem ycp (h:Hist) (rl i:Nat) (h1:1≤rl) (h10:rl≤10) (hi:i < zg6 h rl) (la:Lim 1000000 h):y7 Tryz.prog 217 [.agg (y9 h),iv rl,iv i] [] (fun r h'=>h'= []∧r=bv (zhg h rl i)):=by
 refine z6 Tryz.func217 rfl rfl rfl ?_
 refine rn ?_;refine z8 rfl (w8 rfl rfl rfl fun b3=> ?_)
 refine rn ?_;refine z7 rfl (fun hc8=> ?_) (fun hc8=> ?_)
 ·obtain rfl:rl=7:=by have q:=hc8;simp at q;omega
  have hi2:i < h.ords.length:=hi
  refine rn ?_;refine qv rfl rfl (y0 rfl rfl (v8 (yhj h i hi2 la) (Sbs.refl _))) ?_
  refine rn ?_;refine rq 1 ?_
  exact ⟨rfl,congrArg bv (by exact (zma hi2).symm)⟩
 ·have n7:rl≠7:=by intro q;subst q;exact absurd hc8 (by decide)
  refine rn ?_;refine z7 rfl (fun hc13=> ?_) (fun hc13=> ?_)
  ·obtain rfl:rl=8:=by have q:=hc13;simp at q;omega
   have hi2:i < h.os.length:=hi
   refine rn ?_;refine qv rfl rfl (y0 rfl rfl (v8 (zzk h i la) (Sbs.refl _))) ?_
   refine rn ?_;refine rq 1 ?_
   exact ⟨rfl,congrArg bv (by exact (zma (w:=fun x _=>zo5 h (x:Int)) hi2).symm)⟩
  ·have n8:rl≠8:=by intro q;subst q;exact absurd hc13 (by decide)
   refine rn ?_;refine z7 rfl (fun hc18=> ?_) (fun hc18=> ?_)
   ·obtain rfl:rl=9:=by have q:=hc18;simp at q;omega
    have hi2:i < h.mats.length:=hi
    refine rn ?_;refine qv rfl rfl (y0 rfl rfl (v8 (yhl h i hi2 la) (Sbs.refl _))) ?_
    refine rn ?_;refine rq 1 ?_
    exact ⟨rfl,congrArg bv (by exact (zma hi2).symm)⟩
   ·have n9:rl≠9:=by intro q;subst q;exact absurd hc18 (by decide)
    refine rn ?_;refine z7 rfl (fun hc23=> ?_) (fun hc23=> ?_)
    ·obtain rfl:rl=10:=by have q:=hc23;simp at q;omega
     have hi2:i < h.wants.length:=hi
     refine rn ?_;refine qv rfl rfl (y0 rfl rfl (v8 (yna h i hi2 la) (Sbs.refl _))) ?_
     refine rn ?_;refine rq 1 ?_
     exact ⟨rfl,congrArg bv (by exact (zma hi2).symm)⟩
    ·have n10:rl≠10:=by intro q;subst q;exact absurd hc23 (by decide)
     have hi2:i < h.evs.length:=by rw [←ydl n7 n8 n9 n10];exact hi
     have ri:=zae (f:=evR) hi2
     have be:=la.evs
     have sc:=la.scans h.evs[i] (List.getElem_mem hi2)
     refine rn ?_;refine u4 10 rfl ?_
     refine dq rfl rfl qrA ?_;refine dq rfl rfl qrA ?_;refine dq rfl rfl qrA ?_;refine dq rfl rfl qrA ?_;refine dq rfl rfl qrA ?_;refine dq rfl rfl qrA ?_;refine dq rfl rfl qrA ?_;refine dq rfl rfl qrA ?_;refine dq rfl rfl qrA ?_;refine dq rfl rfl (zcc (k:=i) rfl rfl (by simp;omega)) ?_
     rw [←List.map_take]
     refine rn ?_;refine qv rfl rfl (y0 rfl rfl (v8 (zzn rl h.evs[i] (h.evs.take i) h1 (by omega) (by simp;omega) sc) (Sbs.refl _))) ?_
     refine rn ?_;refine rq 1 ?_
     exact ⟨rfl,congrArg bv (by rw [yff n7 n8 n9 n10,zma hi2])⟩
theorem yhi (h:Hist) (rl:Nat) (h1:1≤rl) (h10:rl≤10) (la:Lim 1000000 h):y7 Tryz.prog 168 [.agg (y9 h),iv rl] [] (fun r h'=>h'= []∧r=iv (zxt (ze3 h rl))):=by
 refine z6 Tryz.func168 rfl rfl rfl ?_
 refine rn ?_;refine z8 rfl (w8 rfl rfl rfl fun b2=> ?_)
 refine rn0 ?_;refine w9 (y6 ?_)
 refine rn0 ?_;refine zqh (⟨[(5,iv (zg6 h rl)),(1,iv rl),(2,pZ b2)],.box b2 28 (y9 h):: [],[]⟩) ?_ ?_
 ·refine rn ?_;refine z7 rfl (fun hc11=> ?_) (fun hc11=> ?_)
  ·obtain rfl:rl=7:=by have q:=hc11;simp at q;omega
   refine rn ?_;first|(rw [ydp];exact es)|(rw [ydo];exact es)|(rw [ydn];exact es)|(rw [zs3];exact es)|(rw [ydm n7 n8 n9 n10];exact es)
  ·have n7:rl≠7:=by intro q;subst q;exact absurd hc11 (by decide)
   refine rn ?_;refine z7 rfl (fun hc16=> ?_) (fun hc16=> ?_)
   ·obtain rfl:rl=8:=by have q:=hc16;simp at q;omega
    refine rn ?_;first|(rw [ydp];exact es)|(rw [ydo];exact es)|(rw [ydn];exact es)|(rw [zs3];exact es)|(rw [ydm n7 n8 n9 n10];exact es)
   ·have n8:rl≠8:=by intro q;subst q;exact absurd hc16 (by decide)
    refine rn ?_;refine z7 rfl (fun hc21=> ?_) (fun hc21=> ?_)
    ·obtain rfl:rl=9:=by have q:=hc21;simp at q;omega
     refine rn ?_;first|(rw [ydp];exact es)|(rw [ydo];exact es)|(rw [ydn];exact es)|(rw [zs3];exact es)|(rw [ydm n7 n8 n9 n10];exact es)
    ·have n9:rl≠9:=by intro q;subst q;exact absurd hc21 (by decide)
     refine rn ?_;refine z7 rfl (fun hc26=> ?_) (fun hc26=> ?_)
     ·obtain rfl:rl=10:=by have q:=hc26;simp at q;omega
      refine rn ?_;first|(rw [ydp];exact es)|(rw [ydo];exact es)|(rw [ydn];exact es)|(rw [zs3];exact es)|(rw [ydm n7 n8 n9 n10];exact es)
     ·have n10:rl≠10:=by intro q;subst q;exact absurd hc26 (by decide)
      refine rn ?_;first|(rw [ydp];exact es)|(rw [ydo];exact es)|(rw [ydn];exact es)|(rw [zs3];exact es)|(rw [ydm n7 n8 n9 n10];exact es)
 ·refine rn ?_;refine zc8 (zg6 h rl) (fun k:Nat=>∀j,j < k→zhg h rl j=false) (fun k=> [(32,iv k)]) [(1,_),(2,_),(31,_)] (fun j q=>absurd q (Nat.not_lt_zero _)) ?_
  intro k lk zk
  refine rn ?_;refine z7 rfl (fun hc33=> ?_) (fun hc33=> ?_)
  ·have hk:k < zg6 h rl:=by have q:=hc33;simp at q;omega
   have mb:zg6 h rl≤1000000:=yim la
   refine rn ?_;refine qv rfl rfl (y0 rfl rfl (v8 (ycp h rl k h1 h10 hk la) (Sbs.refl _))) ?_
   refine rn ?_;refine z7 rfl (fun hc38=> ?_) (fun hc38=> ?_)
   ·refine rn ?_;refine rq 1 ?_
    exact ⟨rfl,by rw [yc0 hk hc38 zk];rfl⟩
   ·refine rn ?_;exact ⟨hk,ymf zk hc38,eA⟩
  ·have qk:k=zg6 h rl:=by have q:=hc33;simp at q;omega
   refine rn ?_;refine rq 1 ?_
   exact ⟨rfl,by rw [zz2 (qk ▸ zk)];rfl⟩
theorem yc2 {o:Option Nat} (h:decide (zxt o ≥ 0)=true):∃n,o=some n:=by
 cases o with
 |none=>exact absurd h (by decide)
 |some n=>exact ⟨n,rfl⟩
theorem yc1 {o:Option Nat} (h:decide (zxt o ≥ 0)=false):o=none:=by
 cases o with
 |none=>rfl
 |some n=>have:=oF h;simp [zxt] at this
theorem zzm (h:Hist) (la:Lim 1000000 h):y7 Tryz.prog 124 [.agg (y9 h)] [] (fun r h'=>h'= []∧r= .tup [.agg (yv7 (za7 (ze3 h) rules10)),bv (za7 (ze3 h) rules10).isSome]):=by
 refine z6 Tryz.func124 rfl rfl rfl ?_
 refine rn ?_;refine z8 rfl (w8 rfl rfl rfl fun b1=> ?_)
 refine z8 rfl (y5 rfl fun b2=> ?_)
 refine rn ?_;refine zkw (fun k:Nat=>(1≤k∧k≤11)∧za7 (ze3 h) rules10=za7 (ze3 h) (rules10.drop (k - 1))) (fun k=>⟨[(4,iv k),(1,pZ b1),(2,pZ b2)],(.box b2 158 [iv 0,iv 0]:: .box b1 28 (y9 h):: []),[]⟩) (fun k=>11 - k) 1 ⟨by omega,rfl⟩ es ?_
 rintro k ⟨⟨k1,k3⟩,zk⟩
 refine rn ?_;refine z7 rfl (fun hc7=> ?_) (fun hc7=> ?_)
 ·have k2:k≤10:=by have:=oT hc7;omega
  refine rn ?_;refine qv rfl rfl (y0 rfl rfl (v8 (yhi h k k1 k2 la) (Sbs.refl _))) ?_
  refine rn ?_;refine z7 rfl (fun hc14=> ?_) (fun hc14=> ?_)
  ·refine rn ?_;exact zej (.cons _ _ _ _ (.agg _ _ _ _ _ _ _ rfl inferInstance inferInstance inferInstance rfl) (.cons _ _ _ _ (.tmp _ _ rfl) .nil)) (.drop [_,_] _ _) ⟨rfl,by
    obtain ⟨n,hp⟩:=yc2 hc14
    rw [ztg k1 k2 zk hp,hp];rfl⟩
  ·refine rn ?_;exact ⟨k+1,⟨by omega,zp1 k1 k2 zk (yc1 hc14)⟩,eA,by omega⟩
 ·have k2:11≤k:=by have:=oF hc7;omega
  refine rn ?_;exact zej (.cons _ _ _ _ (.agg _ _ _ _ _ _ _ rfl inferInstance inferInstance inferInstance rfl) (.cons _ _ _ _ (.tmp _ _ rfl) .nil)) (.drop [_,_] _ _) ⟨rfl,by rw [zp2 k2 k3 zk];rfl⟩
theorem yxd (l:Int):y7 Tryz.prog 215 [iv l] [] (fun r h'=>h'= []∧r=bv (zi5 l)):=by
 refine z6 Tryz.func215 rfl rfl rfl ?_
 refine rn ?_;refine w7 (fun hg1_2=> ?_) (fun hg1_2=> ?_)
 ·refine rn ?_;exact j6 rfl (.refl _ _) ⟨rfl,congrArg bv (by first|(simp only [zi5, *,Bool.true_and,Bool.false_and,Bool.and_false,Bool.and_true,Bool.true_or,Bool.or_false,Bool.false_or,Bool.or_true,if_true,if_false,Bool.false_eq_true,Bool.not_true,Bool.not_false];done)|(simp_all [zi5];done)|(simp_all [zi5] <;> omega))⟩
 ·refine rn ?_;exact j6 rfl (.refl _ _) ⟨rfl,congrArg bv (by first|(simp only [zi5, *,Bool.true_and,Bool.false_and,Bool.and_false,Bool.and_true,Bool.true_or,Bool.or_false,Bool.false_or,Bool.or_true,if_true,if_false,Bool.false_eq_true,Bool.not_true,Bool.not_false];done)|(simp_all [zi5];done)|(simp_all [zi5] <;> omega))⟩
theorem bvz3_9052 {a b:Bool} (h:a=b:=by first|(simp only [zs8, *,Bool.true_and,Bool.false_and,Bool.and_false,Bool.and_true,Bool.true_or,Bool.or_false,Bool.false_or,Bool.or_true,if_true,if_false,Bool.false_eq_true,Bool.not_true,Bool.not_false];done)|(simp_all [zs8];done)|(simp_all [zs8] <;> omega)):bv a=bv b:=congrArg bv h
theorem zzq (c:Int):y7 Tryz.prog 257 [.v (.int .i32 c)] [] (fun r h'=>h'= []∧r=bv (zs8 c)):=by
 refine z6 Tryz.func257 rfl rfl rfl ?_
 refine rn ?_;refine w7 (fun hg1_2=> ?_) (fun hg1_2=> ?_)
 ·refine rn ?_;refine w7 (fun hg1_6=> ?_) (fun hg1_6=> ?_)
  ·refine rn ?_;exact j6 rfl (.refl _ _) ⟨rfl,bvz3_9052⟩
  ·refine rn ?_;refine w7 (fun hg1_9=> ?_) (fun hg1_9=> ?_)
   ·refine rn ?_;refine w7 (fun hg1_14=> ?_) (fun hg1_14=> ?_)
    ·refine rn ?_;exact j6 rfl (.refl _ _) ⟨rfl,bvz3_9052⟩
    ·refine rn ?_;refine w7 (fun hg1_18=> ?_) (fun hg1_18=> ?_)
     ·refine rn ?_;exact j6 rfl (.refl _ _) ⟨rfl,bvz3_9052⟩
     ·refine rn ?_;exact j6 rfl (.refl _ _) ⟨rfl,bvz3_9052⟩
   ·refine rn ?_;refine w7 (fun hg1_18=> ?_) (fun hg1_18=> ?_)
    ·refine rn ?_;exact j6 rfl (.refl _ _) ⟨rfl,bvz3_9052⟩
    ·refine rn ?_;exact j6 rfl (.refl _ _) ⟨rfl,bvz3_9052⟩
 ·refine rn ?_;refine w7 (fun hg1_9=> ?_) (fun hg1_9=> ?_)
  ·refine rn ?_;refine w7 (fun hg1_14=> ?_) (fun hg1_14=> ?_)
   ·refine rn ?_;exact j6 rfl (.refl _ _) ⟨rfl,bvz3_9052⟩
   ·refine rn ?_;refine w7 (fun hg1_18=> ?_) (fun hg1_18=> ?_)
    ·refine rn ?_;exact j6 rfl (.refl _ _) ⟨rfl,bvz3_9052⟩
    ·refine rn ?_;exact j6 rfl (.refl _ _) ⟨rfl,bvz3_9052⟩
  ·refine rn ?_;refine w7 (fun hg1_18=> ?_) (fun hg1_18=> ?_)
   ·refine rn ?_;exact j6 rfl (.refl _ _) ⟨rfl,bvz3_9052⟩
   ·refine rn ?_;exact j6 rfl (.refl _ _) ⟨rfl,bvz3_9052⟩
theorem zsr (c:Int):y7 Tryz.prog 258 [.v (.int .i32 c)] [] (fun r h'=>h'= []∧r=bv (zkz c)):=by
 refine z6 Tryz.func258 rfl rfl rfl ?_
 refine rn ?_;refine w7 (fun hg1_2=> ?_) (fun hg1_2=> ?_)
 ·refine rn ?_;exact j6 rfl (.refl _ _) ⟨rfl,congrArg bv (by first|(simp only [zkz, *,Bool.true_and,Bool.false_and,Bool.and_false,Bool.and_true,Bool.true_or,Bool.or_false,Bool.false_or,Bool.or_true,if_true,if_false,Bool.false_eq_true,Bool.not_true,Bool.not_false];done)|(simp_all [zkz];done)|(simp_all [zkz] <;> omega))⟩
 ·refine rn ?_;exact j6 rfl (.refl _ _) ⟨rfl,congrArg bv (by first|(simp only [zkz, *,Bool.true_and,Bool.false_and,Bool.and_false,Bool.and_true,Bool.true_or,Bool.or_false,Bool.false_or,Bool.or_true,if_true,if_false,Bool.false_eq_true,Bool.not_true,Bool.not_false];done)|(simp_all [zkz];done)|(simp_all [zkz] <;> omega))⟩
theorem yq0 {f:Bool} (h:Hist) (l:List Int) (hl:l.length≤4611686018427387904):y7 Tryz.prog 165 [.agg (y9 h),.list f 1 (l.map zai)] [] (fun r h'=>h'= []∧r=bv (zgz h l)):=by
 refine z6 Tryz.func165 rfl rfl rfl ?_
 refine rn ?_;refine z8 rfl (w8 rfl rfl rfl fun b2=> ?_)
 refine rn ?_;refine k7 (fun k:Nat=>k≤l.length∧l.all (fun t=>isB t h.ts.length)=(l.drop k).all (fun t=>isB t h.ts.length)) (fun k=>⟨[(9,iv k),(8,iv (l.map zai).length),(7,.list f 1 (l.map zai)),(1,.list f 1 (l.map zai)),(2,pZ b2)],[.box b2 28 (y9 h)],[]⟩) (fun k=>l.length - k) 0 ⟨Nat.zero_le _,by simp⟩
  (v1 (.cons _ _ _ rfl (.cons _ _ _ rfl (.cons _ _ _ rfl (.cons _ _ _ rfl (.cons _ _ _ rfl (.nil))))))) ?_
 rintro k ⟨hk,hz⟩
 refine rn ?_;refine z7 rfl (fun hc10=> ?_) (fun hc10=> ?_)
 ·have hk2:k < l.length:=by simpa using hc10
  have hrow:(l.map zai)[k]? =some (zai l[k]):=by simp [hk2]
  have hd:=List.drop_eq_getElem_cons hk2
  refine rn ?_;refine qv rfl rfl (y0 rfl rfl (v8 (zjn _ _) (Sbs.refl _))) ?_
  refine rn ?_;refine z7 rfl (fun hc18=> ?_) (fun hc18=> ?_)
  ·have hx:isB l[k] h.ts.length=false:=by simpa using hc18
   refine rn ?_;exact j6 rfl (.drop [_] _ _) ⟨rfl,congrArg bv (by rw [zgz,hz,hd,List.all_cons,hx,Bool.false_and];rfl)⟩
  ·have hx:isB l[k] h.ts.length=true:=by simpa using hc18
   refine rn ?_;exact ⟨k+1,⟨by omega,by rw [hz,hd,List.all_cons,hx,Bool.true_and]⟩,(v1 (.cons _ _ _ rfl (.cons _ _ _ rfl (.cons _ _ _ rfl (.cons _ _ _ rfl (.cons _ _ _ rfl (.nil))))))),by omega⟩
 ·have hk3:k=l.length:=by
   have:l.length≤k:=by simpa using hc10
   omega
  refine rn ?_;exact j6 rfl (.drop [_] _ _) ⟨rfl,congrArg bv (by rw [zgz,hz,hk3,List.drop_length];simp)⟩
end Go.Proofs
