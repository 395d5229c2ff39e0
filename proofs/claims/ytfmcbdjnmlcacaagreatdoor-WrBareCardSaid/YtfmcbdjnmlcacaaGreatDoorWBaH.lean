/- The walk of history.spoken, reading. Conditions: none. -/
import Derived.Test.YtfmcbdjnmlcacaaGreatDoorWBaG
set_option maxHeartbeats 4000000
set_option linter.unusedSectionVars false
set_option linter.unusedSimpArgs false
set_option linter.unusedVariables false
set_option maxRecDepth 10000
namespace Go.Proofs
open Go Go.Ab
attribute [local irreducible] QR QV OE zb8 aw zch zcv za4 zbx thn zeg
open Go.H
theorem zue {σ:Type} (step:σ→Nat×Int→Option σ) (ok:Nat×Int→Prop) (IJ:Option σ→List Res→Prop) (y:AV) (hy:∀(s:σ) (L:List Res) (sort:Nat) (n:Int) (cells:List AV),ok (sort,n)→IJ (some s) L→y1 Tryz.prog y [iv sort,.pp (iv n::cells)] L (fun r h'=>r=bv (step s (sort,n)).isSome∧IJ (step s (sort,n)) h')) (sort:Nat) (n:Int) (hs:ok (sort,n)) (cells:List AV) (bm by_:Nat) (st:Option σ) (L:List Res) (hI:IJ st L):y8 Tryz.prog 202 [iv sort,.pp (iv n::cells),pZ bm,pZ by_] (.box bm 4 [bv (st).isSome]:: .box by_ 239 [y]::L) (fun r h'=>∃L',IJ (goes step st [(sort,n)]) L'∧h'= .box bm 4 [bv (goes step st [(sort,n)]).isSome]:: .box by_ 239 [y]::L'):=by
 refine z6 Tryz.func202 rfl rfl rfl ?_
 refine rn ?_;refine v8 (fun hg0_1=> ?_) (fun hg0_1=> ?_)
 ·refine rn ?_;obtain ⟨s,rfl⟩:=Option.isSome_iff_exists.1 hg0_1
  refine z7 rfl (q7 rfl rfl (y1.fr2 (hy s L sort n cells hs hI)) rfl ?_)
  rintro _ _ ⟨L2,rfl,rfl,hI2⟩
  refine rn ?_;first
   |exact zc4 .nil (.refl _ _) ⟨L2,hI2,rfl⟩
   |(obtain rfl:=Option.not_isSome_iff_eq_none.1 (show ¬st.isSome=true by simp [hg0_1])
     exact zc4 .nil (.refl _ _) ⟨L,hI,rfl⟩)
 ·refine rn ?_;first
   |exact zc4 .nil (.refl _ _) ⟨L2,hI2,rfl⟩
   |(obtain rfl:=Option.not_isSome_iff_eq_none.1 (show ¬st.isSome=true by simp [hg0_1])
     exact zc4 .nil (.refl _ _) ⟨L,hI,rfl⟩)
theorem ygg {σ:Type} (step:σ→Nat×Int→Option σ) (ok:Nat×Int→Prop) (IJ:Option σ→List Res→Prop) (y:AV) (hy:∀(s:σ) (L:List Res) (sort:Nat) (n:Int) (cells:List AV),ok (sort,n)→IJ (some s) L→y1 Tryz.prog y [iv sort,.pp (iv n::cells)] L (fun r h'=>r=bv (step s (sort,n)).isSome∧IJ (step s (sort,n)) h')) (v:Ver) (hv:∀x∈zf3 v,ok x) (cells:List AV) (bs bm by_:Nat) (st:Option σ) (L:List Res) (hI:IJ st L):y8 Tryz.prog 203 [.pp (iv v.t::iv v.k::cells),pZ bs] (.box bs 240 [.fn (.func 202) [] [pZ bm,pZ by_]]:: .box bm 4 [bv (st).isSome]:: .box by_ 239 [y]::L) (fun r h'=>∃L',IJ (goes step st (zf3 v)) L'∧h'= .box bs 240 [.fn (.func 202) [] [pZ bm,pZ by_]]:: .box bm 4 [bv (goes step st (zf3 v)).isSome]:: .box by_ 239 [y]::L'):=by
 refine z6 Tryz.func203 rfl rfl rfl ?_
 refine rn ?_;refine y0 rfl (fun hc7=> ?_) (fun hc7=> ?_)
 ·refine j3 4 rfl ?_
  refine rn ?_;refine z7 rfl (q7 rfl rfl (y1.fr1 (y1.of_acall (fs:= []) (cs:= [pZ bm,pZ by_]) (zue step ok IJ y hy 0 v.t (hv _ (by rw [zf3,if_pos hc7];simp)) (iv v.k::cells) bm by_ _ _ hI))) rfl ?_)
  rintro _ _ ⟨_,rfl,L2,hI2,rfl⟩
  refine rn ?_;first
   |(have hm:zf3 v= [(0,v.t)]:=by rw [zf3,if_pos hc7]
     rw [hm];exact zc4 .nil (.refl _ _) ⟨L2,hI2,rfl⟩)
   |(have hm:zf3 v= []:=by rw [zf3,if_neg (by rw [hc7];decide)]
     rw [hm];exact zc4 .nil (.refl _ _) ⟨L,hI,rfl⟩)
 ·refine rn ?_;first
   |(have hm:zf3 v= [(0,v.t)]:=by rw [zf3,if_pos hc7]
     rw [hm];exact zc4 .nil (.refl _ _) ⟨L2,hI2,rfl⟩)
   |(have hm:zf3 v= []:=by rw [zf3,if_neg (by rw [hc7];decide)]
     rw [hm];exact zc4 .nil (.refl _ _) ⟨L,hI,rfl⟩)
theorem yew {σ:Type} (step:σ→Nat×Int→Option σ) (ok:Nat×Int→Prop) (IJ:Option σ→List Res→Prop) (y:AV) (hone:y.cellsOf=some [y]) (hy:∀(s:σ) (L:List Res) (sort:Nat) (n:Int) (cells:List AV),ok (sort,n)→IJ (some s) L→y1 Tryz.prog y [iv sort,.pp (iv n::cells)] L (fun r h'=>r=bv (step s (sort,n)).isSome∧IJ (step s (sort,n)) h')) (h:Hist) (la:Lim 4611686018427387904 h) (b1 bh:Nat) (hok:∀x∈zc0 h,ok x) (s0:σ) (L0:List Res) (h0:IJ (some s0) L0):y8 Tryz.prog 201 [y,pZ b1] (.box b1 184 [pZ bh]:: .box bh 28 (y9 h)::L0) (fun r h'=>∃L',IJ (goes step (some s0) (zc0 h)) L'∧h'= .box b1 184 [pZ bh]:: .box bh 28 (y9 h)::L'):=by
 refine z6 Tryz.func201 rfl rfl rfl ?_
 refine rn ?_;refine z7 rfl (w7 rfl hone rfl fun by_=> ?_)
 refine rn ?_;refine z7 rfl (y7 rfl fun bm=> ?_)
 refine rn ?_;refine z7 rfl (y7 rfl fun bs=> ?_)
 refine rn ?_;refine zaa (fun x:Nat×Option σ×List Res=>x.1≤h.evs.length∧IJ x.2.1 x.2.2∧Rem step ok x.2.1 (((h.evs.drop x.1).flatMap evL)++(h.ords.flatMap yfw++(h.mats.flatMap ybj++h.wants.flatMap zzm))) (goes step (some s0) (zc0 h))) (fun x=>⟨[(22,iv x.1),(21,iv (h.evs.map evR).length),(1,pZ b1),(4,pZ bs),(5,.fn (.func 203) [] [pZ bs])],.box b1 184 [pZ bh]:: .box bh 28 (y9 h):: .box bs 240 [.fn (.func 202) [] [pZ bm,pZ by_]]:: .box bm 4 [bv (x.2.1).isSome]:: .box by_ 239 [y]::x.2.2,[]⟩) (fun x=>h.evs.length - x.1) (0,some s0,L0) ⟨by omega,h0,rfl,hok⟩
  (v6 (zau ((pt3 _ _ _ _ _).trans (.cons _ (pt3 _ _ _ _ _)))) (v1 (.cons _ _ _ rfl (.cons _ _ _ rfl (.cons _ _ _ rfl (.cons _ _ _ rfl (.cons _ _ _ rfl (.nil)))))))) ?_
 rintro ⟨k,st,L⟩ ⟨hk,hI,hF⟩
 simp only at hk hI hF
 refine rn ?_;refine y0 rfl (fun hc23=> ?_) (fun hc23=> ?_)
 ·have k2:k < h.evs.length:=by simpa using hc23
  obtain ⟨e,he⟩:∃e,e=h.evs[k]:=⟨_,rfl⟩
  have hrowe:(h.evs.map evR)[k]? =some (evR e):=by rw [he];simp [k2]
  have hde:=List.drop_eq_getElem_cons k2
  rw [hde,←he] at hF
  simp only [List.flatMap_cons,evL,List.cons_append,List.append_assoc] at hF
  obtain ⟨hx,hF⟩:=hF.cons
  obtain ⟨hkx,hF⟩:=hF.app
  have hle:=la.evs
  have hls:=la.scans e (by rw [he];simp)
  refine rn ?_;refine j3 4 rfl ?_
  refine rn ?_;refine z7 rfl (q7 rfl rfl (y1.fr3 (y1.of_acall (fs:= []) (cs:= [pZ bm,pZ by_]) (zue step ok IJ y hy 0 e.t hx _ bm by_ _ _ hI))) rfl ?_)
  rintro _ _ ⟨_,rfl,L,hI,rfl⟩
  refine rn0 ?_;refine zy5 (fun L=>IJ (goes step (goes step st [(0,e.t)]) (zf6 e)) L) (fun L=>⟨[(7,.pp (evR e)),(22,iv k),(21,iv (h.evs.map evR).length),(1,pZ b1),(4,pZ bs),(5,.fn (.func 203) [] [pZ bs])],.box b1 184 [pZ bh]:: .box bh 28 (y9 h):: .box bs 240 [.fn (.func 202) [] [pZ bm,pZ by_]]:: .box bm 4 [bv (goes step (goes step st [(0,e.t)]) (zf6 e)).isSome]:: .box by_ 239 [y]::L,[]⟩) ?_ ?_
  ·refine rn ?_;refine y0 rfl (fun hc40=> ?_) (fun hc40=> ?_)
   ·have hkl:=zxx (e:=e) (by simpa using hc40)
    refine j3 4 rfl ?_
    refine rn ?_;refine z7 rfl (q7 rfl rfl (y1.fr3 (y1.of_acall (fs:= []) (cs:= [pZ bm,pZ by_]) (zue step ok IJ y hy 1 e.s (hkx _ (by rw [hkl];simp)) _ bm by_ _ _ hI))) rfl ?_)
    rintro _ _ ⟨_,rfl,L,hI,rfl⟩
    refine rn ?_;refine ⟨L,?_,?_⟩
    ·show IJ (goes step _ (zf6 e)) L
     rw [hkl];exact hI
    ·rw [hkl];exact (v1 (.cons _ _ _ rfl (.cons _ _ _ rfl (.cons _ _ _ rfl (.cons _ _ _ rfl (.cons _ _ _ rfl (.cons _ _ _ rfl (.nil))))))))
   ·have hn1:e.kind≠1:=by simpa using hc40
    refine rn ?_;refine y0 rfl (fun hc47=> ?_) (fun hc47=> ?_)
    ·have hk23:e.kind=2∨e.kind=3:=by simp at hc47;omega
     have hkl:=zk8 hk23
     refine rn ?_;refine y0 rfl (fun hc47=> ?_) (fun hc47=> ?_)
     ·have hk23:e.kind=2∨e.kind=3:=by simp at hc47;omega
      have hkl:=zk8 hk23
      refine rn ?_;refine j3 4 rfl ?_
      refine rn ?_;refine z7 rfl (q7 rfl rfl (y1.fr3 (y1.of_acall (fs:= []) (cs:= [pZ bm,pZ by_]) (zue step ok IJ y hy 2 e.o (hkx _ (by rw [hkl];simp)) _ bm by_ _ _ hI))) rfl ?_)
      rintro _ _ ⟨_,rfl,L,hI,rfl⟩
      refine rn ?_;refine z7 rfl (q7 rfl rfl (y1.fr2 (y1.of_acall (fs:= []) (cs:= [pZ bs]) (ygg step ok IJ y hy e.v (fun x hx=>hkx x (by rw [hkl];simp [hx])) _ bs bm by_ _ _ hI))) rfl ?_)
      rintro _ _ ⟨_,rfl,L,hI,rfl⟩
      refine rn ?_;refine ⟨L,?_,?_⟩
      ·show IJ (goes step _ (zf6 e)) L
       rw [hkl];exact hI
      ·rw [hkl];exact (v1 (.cons _ _ _ rfl (.cons _ _ _ rfl (.cons _ _ _ rfl (.cons _ _ _ rfl (.cons _ _ _ rfl (.cons _ _ _ rfl (.nil))))))))
     ·first|cases hc47|exact absurd hc47 (by decide)|(exfalso;simp_all;done)
    ·have hn23:=hc47
     simp at hn23
     refine rn ?_;refine y0 rfl (fun hc47=> ?_) (fun hc47=> ?_)
     ·have hk23:e.kind=2∨e.kind=3:=by simp at hc47;omega
      have hkl:=zk8 hk23
      refine rn ?_;refine j3 4 rfl ?_
      refine rn ?_;refine z7 rfl (q7 rfl rfl (y1.fr3 (y1.of_acall (fs:= []) (cs:= [pZ bm,pZ by_]) (zue step ok IJ y hy 2 e.o (hkx _ (by rw [hkl];simp)) _ bm by_ _ _ hI))) rfl ?_)
      rintro _ _ ⟨_,rfl,L,hI,rfl⟩
      refine rn ?_;refine z7 rfl (q7 rfl rfl (y1.fr2 (y1.of_acall (fs:= []) (cs:= [pZ bs]) (ygg step ok IJ y hy e.v (fun x hx=>hkx x (by rw [hkl];simp [hx])) _ bs bm by_ _ _ hI))) rfl ?_)
      rintro _ _ ⟨_,rfl,L,hI,rfl⟩
      refine rn ?_;refine ⟨L,?_,?_⟩
      ·show IJ (goes step _ (zf6 e)) L
       rw [hkl];exact hI
      ·rw [hkl];exact (v1 (.cons _ _ _ rfl (.cons _ _ _ rfl (.cons _ _ _ rfl (.cons _ _ _ rfl (.cons _ _ _ rfl (.cons _ _ _ rfl (.nil))))))))
     ·have hn23:=hc47
      simp at hn23
      refine rn ?_;refine y0 rfl (fun hc60=> ?_) (fun hc60=> ?_)
      ·have hkl:=zxw (e:=e) (by simpa using hc60)
       refine j3 4 rfl ?_
       refine rn ?_;refine z7 rfl (q7 rfl rfl (y1.fr3 (y1.of_acall (fs:= []) (cs:= [pZ bm,pZ by_]) (zue step ok IJ y hy 3 e.p (hkx _ (by rw [hkl];simp)) _ bm by_ _ _ hI))) rfl ?_)
       rintro _ _ ⟨_,rfl,L,hI,rfl⟩
       refine rn ?_;refine ⟨L,?_,?_⟩
       ·show IJ (goes step _ (zf6 e)) L
        rw [hkl];exact hI
       ·rw [hkl];exact (v1 (.cons _ _ _ rfl (.cons _ _ _ rfl (.cons _ _ _ rfl (.cons _ _ _ rfl (.cons _ _ _ rfl (.cons _ _ _ rfl (.nil))))))))
      ·have hn4:e.kind≠4:=by simpa using hc60
       have hkl:=zxy (e:=e) hn1 (by omega) (by omega) hn4
       refine rn ?_;refine ⟨L,?_,?_⟩
       ·show IJ (goes step _ (zf6 e)) L
        rw [hkl];exact hI
       ·rw [hkl];exact (v1 (.cons _ _ _ rfl (.cons _ _ _ rfl (.cons _ _ _ rfl (.cons _ _ _ rfl (.cons _ _ _ rfl (.cons _ _ _ rfl (.nil))))))))
  ·rintro L hI
   revert hI hF
   generalize goes step (goes step st [(0,e.t)]) (zf6 e)=st2
   intro hF hI
   refine rn ?_;refine zaa (fun x:Nat×Option σ×List Res=>x.1≤e.scan.length∧IJ x.2.1 x.2.2∧Rem step ok x.2.1 (((e.scan.drop x.1).flatMap zwe)++(((h.evs.drop (k+1)).flatMap evL)++(h.ords.flatMap yfw++(h.mats.flatMap ybj++h.wants.flatMap zzm)))) (goes step (some s0) (zc0 h))) (fun x=>⟨[(72,iv x.1),(71,iv (e.scan.map zas).length),(7,.pp (evR e)),(22,iv k),(21,iv (h.evs.map evR).length),(1,pZ b1),(4,pZ bs),(5,.fn (.func 203) [] [pZ bs])],.box b1 184 [pZ bh]:: .box bh 28 (y9 h):: .box bs 240 [.fn (.func 202) [] [pZ bm,pZ by_]]:: .box bm 4 [bv (x.2.1).isSome]:: .box by_ 239 [y]::x.2.2,[]⟩) (fun x=>e.scan.length - x.1) (0,st2,L) ⟨by omega,hI,hF⟩
    (v1 (.cons _ _ _ rfl (.cons _ _ _ rfl (.cons _ _ _ rfl (.cons _ _ _ rfl (.cons _ _ _ rfl (.cons _ _ _ rfl (.cons _ _ _ rfl (.cons _ _ _ rfl (.nil)))))))))) ?_
   rintro ⟨j,st,L⟩ ⟨hj,hI,hF⟩
   simp only at hj hI hF
   refine rn ?_;refine y0 rfl (fun hc73=> ?_) (fun hc73=> ?_)
   ·have j2:j < e.scan.length:=by simpa using hc73
    obtain ⟨x,hx⟩:∃x,x=e.scan[j]:=⟨_,rfl⟩
    have hrowx:(e.scan.map zas)[j]? =some (zas x):=by rw [hx];simp [j2]
    have hdx:=List.drop_eq_getElem_cons j2
    rw [hdx,←hx] at hF
    simp only [List.flatMap_cons,zwe,List.cons_append,List.append_assoc] at hF
    obtain ⟨hx,hF⟩:=hF.cons
    obtain ⟨hkx,hF⟩:=hF.app
    refine rn ?_;refine j3 8 rfl ?_
    refine rn ?_;refine z7 rfl (q7 rfl rfl (y1.fr3 (y1.of_acall (fs:= []) (cs:= [pZ bm,pZ by_]) (zue step ok IJ y hy 2 x.o hx _ bm by_ _ _ hI))) rfl ?_)
    rintro _ _ ⟨_,rfl,L,hI,rfl⟩
    refine rn ?_;refine z7 rfl (q7 rfl rfl (y1.fr2 (y1.of_acall (fs:= []) (cs:= [pZ bs]) (ygg step ok IJ y hy x.v hkx _ bs bm by_ _ _ hI))) rfl ?_)
    rintro _ _ ⟨_,rfl,L,hI,rfl⟩
    refine rn ?_;exact ⟨(j+1,_,L),⟨by omega,hI,hF⟩,(v1 (.cons _ _ _ rfl (.cons _ _ _ rfl (.cons _ _ _ rfl (.cons _ _ _ rfl (.cons _ _ _ rfl (.cons _ _ _ rfl (.cons _ _ _ rfl (.cons _ _ _ rfl (.nil)))))))))),by simp only;omega⟩
   ·obtain rfl:j=e.scan.length:=by
     have:e.scan.length≤j:=by simpa using hc73
     omega
    rw [List.drop_length,List.flatMap_nil,List.nil_append] at hF
    refine rn ?_;exact ⟨(k+1,_,L),⟨by omega,hI,hF⟩,(v1 (.cons _ _ _ rfl (.cons _ _ _ rfl (.cons _ _ _ rfl (.cons _ _ _ rfl (.cons _ _ _ rfl (.nil))))))),by simp only;omega⟩
 ·obtain rfl:k=h.evs.length:=by
   have:h.evs.length≤k:=by simpa using hc23
   omega
  rw [List.drop_length,List.flatMap_nil,List.nil_append] at hF
  refine rn ?_;refine zaa (fun x:Nat×Option σ×List Res=>x.1≤h.ords.length∧IJ x.2.1 x.2.2∧Rem step ok x.2.1 (((h.ords.drop x.1).flatMap yfw)++(h.mats.flatMap ybj++h.wants.flatMap zzm)) (goes step (some s0) (zc0 h))) (fun x=>⟨[(100,iv x.1),(99,iv (h.ords.map zet).length),(1,pZ b1),(4,pZ bs),(5,.fn (.func 203) [] [pZ bs])],.box b1 184 [pZ bh]:: .box bh 28 (y9 h):: .box bs 240 [.fn (.func 202) [] [pZ bm,pZ by_]]:: .box bm 4 [bv (x.2.1).isSome]:: .box by_ 239 [y]::x.2.2,[]⟩) (fun x=>h.ords.length - x.1) (0,st,L) ⟨by omega,hI,hF⟩
   (v1 (.cons _ _ _ rfl (.cons _ _ _ rfl (.cons _ _ _ rfl (.cons _ _ _ rfl (.cons _ _ _ rfl (.nil))))))) ?_
  rintro ⟨k,st,L⟩ ⟨hk,hI,hF⟩
  simp only at hk hI hF
  refine rn ?_;refine y0 rfl (fun hc101=> ?_) (fun hc101=> ?_)
  ·have k2:k < h.ords.length:=by simpa using hc101
   obtain ⟨r,hr⟩:∃r,r=h.ords[k]:=⟨_,rfl⟩
   have hrowr:(h.ords.map zet)[k]? =some (zet r):=by rw [hr];simp [k2]
   have hdr:=List.drop_eq_getElem_cons k2
   rw [hdr,←hr] at hF
   simp only [List.flatMap_cons,yfw,List.cons_append,List.append_assoc] at hF
   obtain ⟨hx,hF⟩:=hF.cons
   have hle:=la.ords
   have hls:=la.ordts r (by rw [hr];simp)
   refine rn ?_;refine j3 8 rfl ?_
   refine rn ?_;refine z7 rfl (q7 rfl rfl (y1.fr3 (y1.of_acall (fs:= []) (cs:= [pZ bm,pZ by_]) (zue step ok IJ y hy 2 r.o hx _ bm by_ _ _ hI))) rfl ?_)
   rintro _ _ ⟨_,rfl,L,hI,rfl⟩
   refine rn ?_;refine zaa (fun x:Nat×Option σ×List Res=>x.1≤r.ts.length∧IJ x.2.1 x.2.2∧Rem step ok x.2.1 (((r.ts.drop x.1).map fun t=>((0:Nat),t))++(((h.ords.drop (k+1)).flatMap yfw)++(h.mats.flatMap ybj++h.wants.flatMap zzm))) (goes step (some s0) (zc0 h))) (fun x=>⟨[(121,iv x.1),(120,iv (r.ts.map za9).length),(9,iv k),(100,iv k),(99,iv (h.ords.map zet).length),(1,pZ b1),(4,pZ bs),(5,.fn (.func 203) [] [pZ bs])],.box b1 184 [pZ bh]:: .box bh 28 (y9 h):: .box bs 240 [.fn (.func 202) [] [pZ bm,pZ by_]]:: .box bm 4 [bv (x.2.1).isSome]:: .box by_ 239 [y]::x.2.2,[]⟩) (fun x=>r.ts.length - x.1) (0,_,L) ⟨by omega,hI,hF⟩
    (v1 (.cons _ _ _ rfl (.cons _ _ _ rfl (.cons _ _ _ rfl (.cons _ _ _ rfl (.cons _ _ _ rfl (.cons _ _ _ rfl (.cons _ _ _ rfl (.cons _ _ _ rfl (.nil)))))))))) ?_
   rintro ⟨j,st,L⟩ ⟨hj,hI,hF⟩
   simp only at hj hI hF
   refine rn ?_;refine y0 rfl (fun hc122=> ?_) (fun hc122=> ?_)
   ·have j2:j < r.ts.length:=by simpa using hc122
    obtain ⟨t,ht⟩:∃t,t=r.ts[j]:=⟨_,rfl⟩
    have hrowt:(r.ts.map za9)[j]? =some (za9 t):=by rw [ht];simp [j2]
    have hdt:=List.drop_eq_getElem_cons j2
    rw [hdt,←ht] at hF
    simp only [List.map_cons,List.cons_append] at hF
    obtain ⟨hx,hF⟩:=hF.cons
    refine rn ?_;refine j3 11 rfl ?_
    refine rn ?_;refine z7 rfl (q7 rfl rfl (y1.fr3 (y1.of_acall (fs:= []) (cs:= [pZ bm,pZ by_]) (zue step ok IJ y hy 0 t hx _ bm by_ _ _ hI))) rfl ?_)
    rintro _ _ ⟨_,rfl,L,hI,rfl⟩
    refine rn ?_;exact ⟨(j+1,_,L),⟨by omega,hI,hF⟩,(v1 (.cons _ _ _ rfl (.cons _ _ _ rfl (.cons _ _ _ rfl (.cons _ _ _ rfl (.cons _ _ _ rfl (.cons _ _ _ rfl (.cons _ _ _ rfl (.cons _ _ _ rfl (.nil)))))))))),by simp only;omega⟩
   ·obtain rfl:j=r.ts.length:=by
     have:r.ts.length≤j:=by simpa using hc122
     omega
    rw [List.drop_length,List.map_nil,List.nil_append] at hF
    refine rn ?_;exact ⟨(k+1,_,L),⟨by omega,hI,hF⟩,(v1 (.cons _ _ _ rfl (.cons _ _ _ rfl (.cons _ _ _ rfl (.cons _ _ _ rfl (.cons _ _ _ rfl (.nil))))))),by simp only;omega⟩
  ·obtain rfl:k=h.ords.length:=by
    have:h.ords.length≤k:=by simpa using hc101
    omega
   rw [List.drop_length,List.flatMap_nil,List.nil_append] at hF
   refine rn ?_;refine zaa (fun x:Nat×Option σ×List Res=>x.1≤h.mats.length∧IJ x.2.1 x.2.2∧Rem step ok x.2.1 (((h.mats.drop x.1).flatMap ybj)++h.wants.flatMap zzm) (goes step (some s0) (zc0 h))) (fun x=>⟨[(143,iv x.1),(142,iv (h.mats.map zee).length),(1,pZ b1),(4,pZ bs),(5,.fn (.func 203) [] [pZ bs])],.box b1 184 [pZ bh]:: .box bh 28 (y9 h):: .box bs 240 [.fn (.func 202) [] [pZ bm,pZ by_]]:: .box bm 4 [bv (x.2.1).isSome]:: .box by_ 239 [y]::x.2.2,[]⟩) (fun x=>h.mats.length - x.1) (0,st,L) ⟨by omega,hI,hF⟩
    (v1 (.cons _ _ _ rfl (.cons _ _ _ rfl (.cons _ _ _ rfl (.cons _ _ _ rfl (.cons _ _ _ rfl (.nil))))))) ?_
   rintro ⟨k,st,L⟩ ⟨hk,hI,hF⟩
   simp only at hk hI hF
   refine rn ?_;refine y0 rfl (fun hc144=> ?_) (fun hc144=> ?_)
   ·have k2:k < h.mats.length:=by simpa using hc144
    obtain ⟨r,hr⟩:∃r,r=h.mats[k]:=⟨_,rfl⟩
    have hrowr:(h.mats.map zee)[k]? =some (zee r):=by rw [hr];simp [k2]
    have hdr:=List.drop_eq_getElem_cons k2
    rw [hdr,←hr] at hF
    simp only [List.flatMap_cons,ybj,List.cons_append,List.append_assoc] at hF
    obtain ⟨hx,hF⟩:=hF.cons
    obtain ⟨hx2,hF⟩:=hF.cons
    have hle:=la.mats
    have hls:=la.matts r (by rw [hr];simp)
    refine rn ?_;refine j3 4 rfl ?_
    refine rn ?_;refine z7 rfl (q7 rfl rfl (y1.fr3 (y1.of_acall (fs:= []) (cs:= [pZ bm,pZ by_]) (zue step ok IJ y hy 3 r.p hx _ bm by_ _ _ hI))) rfl ?_)
    rintro _ _ ⟨_,rfl,L,hI,rfl⟩
    refine rn ?_;refine j3 4 rfl ?_
    refine rn ?_;refine z7 rfl (q7 rfl rfl (y1.fr3 (y1.of_acall (fs:= []) (cs:= [pZ bm,pZ by_]) (zue step ok IJ y hy 2 r.o hx2 _ bm by_ _ _ hI))) rfl ?_)
    rintro _ _ ⟨_,rfl,L,hI,rfl⟩
    refine rn ?_;refine zaa (fun x:Nat×Option σ×List Res=>x.1≤r.ts.length∧IJ x.2.1 x.2.2∧Rem step ok x.2.1 (((r.ts.drop x.1).map fun t=>((0:Nat),t))++(((h.mats.drop (k+1)).flatMap ybj)++h.wants.flatMap zzm)) (goes step (some s0) (zc0 h))) (fun x=>⟨[(167,iv x.1),(166,iv (r.ts.map za9).length),(12,.pp (zee r)),(143,iv k),(142,iv (h.mats.map zee).length),(1,pZ b1),(4,pZ bs),(5,.fn (.func 203) [] [pZ bs])],.box b1 184 [pZ bh]:: .box bh 28 (y9 h):: .box bs 240 [.fn (.func 202) [] [pZ bm,pZ by_]]:: .box bm 4 [bv (x.2.1).isSome]:: .box by_ 239 [y]::x.2.2,[]⟩) (fun x=>r.ts.length - x.1) (0,_,L) ⟨by omega,hI,hF⟩
     (v1 (.cons _ _ _ rfl (.cons _ _ _ rfl (.cons _ _ _ rfl (.cons _ _ _ rfl (.cons _ _ _ rfl (.cons _ _ _ rfl (.cons _ _ _ rfl (.cons _ _ _ rfl (.nil)))))))))) ?_
    rintro ⟨j,st,L⟩ ⟨hj,hI,hF⟩
    simp only at hj hI hF
    refine rn ?_;refine y0 rfl (fun hc168=> ?_) (fun hc168=> ?_)
    ·have j2:j < r.ts.length:=by simpa using hc168
     obtain ⟨t,ht⟩:∃t,t=r.ts[j]:=⟨_,rfl⟩
     have hrowt:(r.ts.map za9)[j]? =some (za9 t):=by rw [ht];simp [j2]
     have hdt:=List.drop_eq_getElem_cons j2
     rw [hdt,←ht] at hF
     simp only [List.map_cons,List.cons_append] at hF
     obtain ⟨hx,hF⟩:=hF.cons
     refine rn ?_;refine j3 7 rfl ?_
     refine rn ?_;refine z7 rfl (q7 rfl rfl (y1.fr3 (y1.of_acall (fs:= []) (cs:= [pZ bm,pZ by_]) (zue step ok IJ y hy 0 t hx _ bm by_ _ _ hI))) rfl ?_)
     rintro _ _ ⟨_,rfl,L,hI,rfl⟩
     refine rn ?_;exact ⟨(j+1,_,L),⟨by omega,hI,hF⟩,(v1 (.cons _ _ _ rfl (.cons _ _ _ rfl (.cons _ _ _ rfl (.cons _ _ _ rfl (.cons _ _ _ rfl (.cons _ _ _ rfl (.cons _ _ _ rfl (.cons _ _ _ rfl (.nil)))))))))),by simp only;omega⟩
    ·obtain rfl:j=r.ts.length:=by
      have:r.ts.length≤j:=by simpa using hc168
      omega
     rw [List.drop_length,List.map_nil,List.nil_append] at hF
     refine rn ?_;exact ⟨(k+1,_,L),⟨by omega,hI,hF⟩,(v1 (.cons _ _ _ rfl (.cons _ _ _ rfl (.cons _ _ _ rfl (.cons _ _ _ rfl (.cons _ _ _ rfl (.nil))))))),by simp only;omega⟩
   ·obtain rfl:k=h.mats.length:=by
     have:h.mats.length≤k:=by simpa using hc144
     omega
    rw [List.drop_length,List.flatMap_nil,List.nil_append] at hF
    refine rn ?_;refine zaa (fun x:Nat×Option σ×List Res=>x.1≤h.wants.length∧IJ x.2.1 x.2.2∧Rem step ok x.2.1 (((h.wants.drop x.1).flatMap zzm)++ []) (goes step (some s0) (zc0 h))) (fun x=>⟨[(185,iv x.1),(184,iv (h.wants.map zfq).length),(1,pZ b1),(4,pZ bs),(5,.fn (.func 203) [] [pZ bs])],.box b1 184 [pZ bh]:: .box bh 28 (y9 h):: .box bs 240 [.fn (.func 202) [] [pZ bm,pZ by_]]:: .box bm 4 [bv (x.2.1).isSome]:: .box by_ 239 [y]::x.2.2,[]⟩) (fun x=>h.wants.length - x.1) (0,st,L) ⟨by omega,hI,by rw [List.append_nil];exact hF⟩
     (v1 (.cons _ _ _ rfl (.cons _ _ _ rfl (.cons _ _ _ rfl (.cons _ _ _ rfl (.cons _ _ _ rfl (.nil))))))) ?_
    rintro ⟨k,st,L⟩ ⟨hk,hI,hF⟩
    simp only at hk hI hF
    refine rn ?_;refine y0 rfl (fun hc186=> ?_) (fun hc186=> ?_)
    ·have k2:k < h.wants.length:=by simpa using hc186
     obtain ⟨r,hr⟩:∃r,r=h.wants[k]:=⟨_,rfl⟩
     have hrowr:(h.wants.map zfq)[k]? =some (zfq r):=by rw [hr];simp [k2]
     have hdr:=List.drop_eq_getElem_cons k2
     rw [hdr,←hr] at hF
     simp only [List.flatMap_cons,zzm,List.cons_append,List.append_assoc,List.nil_append] at hF
     obtain ⟨hx,hF⟩:=hF.cons
     have hle:=la.wants
     refine rn ?_;refine j3 8 rfl ?_
     refine rn ?_;refine z7 rfl (q7 rfl rfl (y1.fr3 (y1.of_acall (fs:= []) (cs:= [pZ bm,pZ by_]) (zue step ok IJ y hy 1 r.s hx _ bm by_ _ _ hI))) rfl ?_)
     rintro _ _ ⟨_,rfl,L,hI,rfl⟩
     refine rn ?_;exact ⟨(k+1,_,L),⟨by omega,hI,hF⟩,(v1 (.cons _ _ _ rfl (.cons _ _ _ rfl (.cons _ _ _ rfl (.cons _ _ _ rfl (.cons _ _ _ rfl (.nil))))))),by simp only;omega⟩
    ·obtain rfl:k=h.wants.length:=by
      have:h.wants.length≤k:=by simpa using hc186
      omega
     rw [List.drop_length,List.flatMap_nil,List.nil_append] at hF
     refine rn ?_;have hF':st=goes step (some s0) (zc0 h):=hF.fin
     exact zc4 .nil (.trans (.perm ((pt2 _ _ _ _).trans (.cons _ ((pt2 _ _ _ _).trans (.cons _ (pt2 _ _ _ _))))) _) (.drop [_,_,_] _ _)) ⟨L,hF' ▸ hI,rfl⟩
theorem spoken (bh:Nat) (h:List Res):y8 Tryz.prog 141 [pZ bh] h (fun r h'=>∃b1,h'= .box b1 184 [pZ bh]::h∧r= .fn (.func 201) [] [pZ b1]):=by
 refine z6 Tryz.func141 rfl rfl rfl ?_
 refine rn ?_;refine z7 rfl (w7 rfl rfl rfl fun b1=> ?_)
 refine rn ?_;exact zak rfl (.refl _ _) ⟨_,rfl,rfl⟩
def IJC (lp:LP) (q b2 b3:Nat):Option (List Int)→List Res→Prop
 |some m,L=>L=lp .ready none:: .defs q:: .box b3 156 ((m).map iv):: .box b2 33 [iv 0]:: [.glob 2 156 y2,.glob 4 305 y3,.glob 5 308 z8]∧m.length=4
 |none,L=>∃m:List Int,L=lp .done (some .ret):: .defs q:: .box b3 156 ((m).map iv):: .box b2 33 [iv 210]:: [.glob 2 156 y2,.glob 4 305 y3,.glob 5 308 z8]
theorem ykw (h:Hist) (la:Lim 4611686018427387904 h):y8 Tryz.prog 93 [.agg (y9 h)] [.glob 2 156 y2,.glob 4 305 y3,.glob 5 308 z8] (fun r h'=>h'= [.glob 2 156 y2,.glob 4 305 y3,.glob 5 308 z8]∧r=iv (zc8 h)):=by
 refine z6 Tryz.func93 rfl rfl rfl ?_
 refine rn ?_;refine z7 rfl (w7 rfl rfl rfl fun b1=> ?_)
 refine z7 rfl (y7 rfl fun b2=> ?_)
 refine rn ?_;refine qv rfl rfl (y4 rfl rfl (y1.qt (y1.of_fun (yie h la)) ((pt2 _ _ _ _).trans (.cons _ ((pt2 _ _ _ _).trans (.cons _ (pt2 _ _ _ _))))))) ?_
 refine rn ?_;refine y0 rfl (fun hc10=> ?_) (fun hc10=> ?_)
 ·have hs:za2 h=false:=ybb hc10
  refine rn ?_;exact zdw (.cons _ _ _ _ (.one _ _ _ _ _ _ _ rfl inferInstance inferInstance rfl) .nil) (.drop [_,_] _ _) ⟨rfl,congrArg iv (ych hs).symm⟩
 ·have hs:za2 h=true:=ybc hc10
  refine rn ?_;refine z7 rfl (y7 rfl fun b3=> ?_)
  refine rn ?_;refine z7 rfl (q7 rfl rfl (y1.of_fun (spoken b1 _)) rfl ?_)
  rintro _ _ ⟨b1',rfl,rfl⟩
  refine rn ?_;refine zjt (fun pend h''=>(pend=none∧∃m:List Int,zpb h=some m∧m.length=4∧h''= .box b1' 184 [pZ b1]:: .box b1 28 (y9 h):: .box b3 156 ((m).map iv):: .box b2 33 [iv 0]:: [.glob 2 156 y2,.glob 4 305 y3,.glob 5 308 z8])∨(pend=some .ret∧zpb h=none∧∃m:List Int,h''= .box b1' 184 [pZ b1]:: .box b1 28 (y9 h):: .box b3 156 ((m).map iv):: .box b2 33 [iv 210]:: [.glob 2 156 y2,.glob 4 305 y3,.glob 5 308 z8])) rfl (fun fn l q lp hlp=> ?_) (fun q h'' hK=> ?_) (fun q h'' c hK=> ?_)
  ·suffices hy:∀(s:List Int) (L:List Res) (sort:Nat) (n:Int) (cells:List AV),OkN h (sort,n)→IJC lp q b2 b3 (some s) L→y1 Tryz.prog (yv l) [iv sort,.pp (iv n::cells)] L (fun r h'=>r=bv (zd3 s (sort,n)).isSome∧IJC lp q b2 b3 (zd3 s (sort,n)) h') by
    refine y8.mono (y8.perm ((pt2 _ _ _ _).trans (.cons _ (pt4 _ _ _ _ _ _))) (yew zd3 (OkN h) (IJC lp q b2 b3) (yv l) rfl hy h la b1' b1 (zwb hs) [0,0,0,0] _ ⟨rfl,rfl⟩)) ?_
    rintro _ _ ⟨L',hI,rfl⟩
    cases hm:goes zd3 (some [0,0,0,0]) (zc0 h) with
    |some m=>
     rw [hm] at hI
     obtain ⟨rfl,hl⟩:=hI
     exact ⟨_,_,_,((pt2 _ _ _ _).trans (.cons _ (pt2 _ _ _ _))),by simp,.inl ⟨rfl,m,hm,hl,rfl⟩⟩
    |none=>
     rw [hm] at hI
     obtain ⟨m,rfl⟩:=hI
     exact ⟨_,_,_,((pt2 _ _ _ _).trans (.cons _ (pt2 _ _ _ _))),by simp,.inr ⟨rfl,hm,m,rfl⟩⟩
   rintro m _ sort n cells ⟨hs4,hn0,hn1⟩ ⟨rfl,hl⟩
   simp only at hs4 hn0 hn1
   have hnm:=la.nm sort
   refine ztm hlp rfl rfl ?_
   refine rn ?_;refine ⟨[(4,iv sort),(5,.pp (iv n::cells)),(3,pZ b3),(2,pZ b2)],(v1 (.cons _ _ _ rfl (.cons _ _ _ rfl (.cons _ _ _ rfl (.cons _ _ _ rfl (.nil)))))),?_⟩
   refine rn ?_;refine j3 6 rfl ?_
   refine dq rfl rfl qrA ?_;refine dq rfl rfl qrA ?_;refine dq rfl rfl qrA ?_;refine dq rfl rfl qrA ?_;refine dq rfl rfl (zaf rfl rfl hs4) ?_
   refine dq rfl rfl (k9 rfl (ymz hl hs4)) ?_
   refine rn ?_;refine y0 rfl (fun hc20=> ?_) (fun hc20=> ?_)
   ·refine rn ?_;have hst:zd3 m (sort,n)=none:=by rw [zd3];exact if_pos (by simpa using hc20)
    exact znr (.refl _) (by rw [hst];exact ⟨rfl,_,rfl⟩)
   ·refine rn ?_;refine j3 9 rfl ?_
    refine dq rfl rfl qrA ?_;refine dq rfl rfl qrA ?_;refine dq rfl rfl (zaf rfl rfl hs4) ?_
    refine dq rfl rfl (k9 rfl (ymz hl hs4)) ?_
    refine rn2 ?_;refine qq rfl rfl (zaf rfl rfl hs4) ?_
    refine z7 rfl (zad rfl rfl rfl rfl (by simp [hl];omega) ?_)
    refine rn ?_;have hst:zd3 m (sort,n)=some (m.set sort (max (m.getD sort 0) (n+1))):=by rw [zd3];exact if_neg (by simpa using hc20)
    exact zce (.refl _) (by rw [hst];exact ⟨rfl,by rw [←yoe hl hs4];rfl,by simpa using hl⟩)
  ·obtain ⟨_,m,hm,hl,rfl⟩|⟨hc,_⟩:=hK
   rotate_left
   ·cases hc
   refine rn ?_;refine qv rfl rfl (y4 rfl rfl (zat (yf3 _) (Sbs.refl _))) ?_
   refine rn ?_;refine zaa (fun k:Nat=>k≤4∧∀j,j < k→m.getD j 0=(nmK h j).length) (fun k=>⟨[(33,iv k),(32,.agg (zjc h)),(3,pZ b3),(2,pZ b2)],.defs q:: .box b1' 184 [pZ b1]:: .box b1 28 (y9 h):: .box b3 156 ((m).map iv):: .box b2 33 [iv 0]:: [.glob 2 156 y2,.glob 4 305 y3,.glob 5 308 z8],[q]⟩) (fun k=>4 - k) 0 ⟨by omega,fun j hj=>absurd hj (Nat.not_lt_zero j)⟩
    (v1 (.cons _ _ _ rfl (.cons _ _ _ rfl (.cons _ _ _ rfl (.cons _ _ _ rfl (.nil)))))) ?_
   rintro k ⟨hk,hz⟩
   refine rn ?_;refine y0 rfl (fun hc34=> ?_) (fun hc34=> ?_)
   ·have hk4:k < 4:=by simp at hc34;omega
    refine zbz ?_;refine zai ?_;refine w9 ?_;refine zc9 ?_;refine w9 (y6 ?_)
    refine q1 ?_;refine qq rfl rfl (zb0 rfl rfl (by omega) (by have:=zxf h hk4;simpa using this)) ?_
    refine q1 ?_;refine q1 ?_;refine u4 (zai ?_)
    refine w9 (y6 ?_)
    refine q1 ?_;refine qq rfl rfl (zaf rfl rfl hk4) ?_
    refine qq rfl rfl (k9 rfl (ymz hl hk4)) ?_
    refine rn ?_;refine y0 rfl (fun hc42=> ?_) (fun hc42=> ?_)
    ·refine rn ?_;exact zfy (.refl _) (.cons _ _ _ _ (.one _ _ _ _ _ _ _ rfl inferInstance inferInstance rfl) .nil) (.drop [_,_,_,_] _ _) ⟨rfl,congrArg iv (yci hm hk4 (by simpa using hc42)).symm⟩
    ·refine rn ?_;exact ⟨k+1,⟨by omega,fun j hj=>by
      by_cases hjk:j=k
      ·subst hjk;simpa using hc42
      ·exact hz j (by omega)⟩,(v1 (.cons _ _ _ rfl (.cons _ _ _ rfl (.cons _ _ _ rfl (.cons _ _ _ rfl (.nil)))))),by omega⟩
   ·have hk4:k=4:=by simp at hc34;omega
    subst hk4
    refine rn ?_;exact zfy (.refl _) (.cons _ _ _ _ (.one _ _ _ _ _ _ _ rfl inferInstance inferInstance rfl) .nil) (.drop [_,_,_,_] _ _) ⟨rfl,congrArg iv (ycj hs hm hl hz).symm⟩
  ·obtain ⟨hc,_⟩|⟨hc,hm,m,rfl⟩:=hK
   ·cases hc
   obtain rfl:c= .ret:=by simpa using hc
   refine rn ?_;exact zfy (.refl _) (.cons _ _ _ _ (.one _ _ _ _ _ _ _ rfl inferInstance inferInstance rfl) .nil) (.drop [_,_,_,_] _ _) ⟨rfl,congrArg iv (zu9 hm).symm⟩
attribute [local irreducible] zdc jch zef
def w6:List AV:= [.any,.fn (.func 300) [] [],.fn (.func 307) [] [],.fn (.func 308) [] [],.fn (.func 309) [] [],.fn (.func 310) [] [],.fn (.func 311) [] [],.fn (.func 312) [] [],.fn (.func 313) [] [],.fn (.func 314) [] [],.fn (.func 315) [] []]
def ylo (k:Nat):AV:=w6.getD k .any
theorem yhi {k:Nat} (h2:k≤10):w6[k]? =some (ylo k):=by
 have:k < w6.length:=by show k < 11;omega
 rw [ylo,List.getD_eq_getElem?_getD,List.getElem?_eq_getElem this];rfl
theorem ycr (h:Hist) (la:Lim 3000 h) (b:Nat) (G:List Res) {k:Nat} (h1:1≤k) (h2:k≤10):y1 Tryz.prog (ylo k) [pZ b] (.box b 252 (zbq h)::G) (fun r h'=>h'=G∧r=za8 (zb4 h k)):=by
 match k,h1,h2 with
 |1,_,_=>exact y1.of_acall (fs:= []) (cs:= []) (yi8 h la b G)
 |2,_,_=>exact y1.of_acall (fs:= []) (cs:= []) (yon h la b G)
 |3,_,_=>exact y1.of_acall (fs:= []) (cs:= []) (yi7 h la b G)
 |4,_,_=>exact y1.of_acall (fs:= []) (cs:= []) (yao h la b G)
 |5,_,_=>exact y1.of_acall (fs:= []) (cs:= []) (yoj h la b G)
 |6,_,_=>exact y1.of_acall (fs:= []) (cs:= []) (yma h la b G)
 |7,_,_=>exact y1.of_acall (fs:= []) (cs:= []) (yi1 h la b G)
 |8,_,_=>exact y1.of_acall (fs:= []) (cs:= []) (yar h la b G)
 |9,_,_=>exact y1.of_acall (fs:= []) (cs:= []) (yi4 h la b G)
 |10,_,_=>exact y1.of_acall (fs:= []) (cs:= []) (yl8 h la b G)
 |k+11,_,h2=>omega
theorem yft {o:Option Nat} {i:Int} {b:Bool} (h:za8 o= .tup [iv i,bv b]):i=yoq o∧b=o.isSome:=by
 cases o with
 |none=>simp only [za8,AV.tup.injEq,List.cons.injEq,AV.v.injEq,Value.int.injEq,Value.bool.injEq,true_and,and_true] at h;exact ⟨h.1.symm,h.2.symm⟩
 |some n=>simp only [za8,AV.tup.injEq,List.cons.injEq,AV.v.injEq,Value.int.injEq,Value.bool.injEq,true_and,and_true] at h;exact ⟨h.1.symm,h.2.symm⟩
theorem zrf {h:Hist} (hm:zfo h=true):Lim 3000 h:=by
 unfold zfo at hm;simp only [Bool.and_eq_true] at hm;exact zud hm.1
theorem yi6 (h:Hist) (la:Lim 4611686018427387904 h):y8 Tryz.prog 143 [.agg (y9 h)] [.glob 2 156 y2,.glob 4 305 y3,.glob 5 308 z8,.glob 3 246 w6] (fun r h'=>h'= [.glob 2 156 y2,.glob 4 305 y3,.glob 5 308 z8,.glob 3 246 w6]∧r=zgm h):=by
 refine z6 Tryz.func143 rfl rfl rfl ?_
 refine rn ?_;refine z7 rfl (w7 rfl rfl rfl fun b1=> ?_)
 refine z7 rfl (y7 rfl fun b2=> ?_)
 refine rn ?_;refine qv rfl rfl (y4 rfl rfl (y1.qt (y1.of_fun (ykw h la)) ((pt2 _ _ _ _).trans (.cons _ ((pt2 _ _ _ _).trans (.cons _ (pt2 _ _ _ _))))))) ?_
 refine rn ?_;refine y0 rfl (fun hc12=> ?_) (fun hc12=> ?_)
 ·have hm:¬zfo h=true:=by intro q;rw [zc8,if_pos q] at hc12;cases hc12
  have he:zc8 h=210:=by rw [zc8,if_neg hm]
  refine rn ?_;exact zdw (.cons _ _ _ _ (.agg _ _ _ _ _ _ _ rfl inferInstance inferInstance inferInstance rfl) (.cons _ _ _ _ (.tmp _ _ rfl) (.cons _ _ _ _ (.tmp _ _ rfl) .nil))) (.drop [_,_] _ _) ⟨rfl,by rw [zgm,if_neg hm,he];rfl⟩
 ·have hm:zfo h=true:=zyx.1 (by simpa using hc12)
  have la3:=zrf hm
  refine rn ?_;refine yco (fun k:Nat=>(1≤k∧k≤11)∧zbm (zb4 h) rules10=zbm (zb4 h) (rules10.drop (k - 1))) (fun k=>⟨[(6,iv k),(1,pZ b1),(2,pZ b2)],(.box b2 158 [iv 0,iv 0]:: .box b1 28 (y9 h):: .glob 2 156 y2:: .glob 4 305 y3:: .glob 5 308 z8:: .glob 3 246 w6:: []),[]⟩) (fun k=>11 - k) 1 ⟨by omega,rfl⟩ es ?_
  rintro k ⟨⟨k1,k3⟩,zk⟩
  obtain ⟨pi,pb,hpv⟩:∃i b,za8 (zb4 h k)= .tup [iv i,bv b]:=zc5 _
  obtain ⟨ei,eb⟩:=yft hpv
  refine rn ?_;refine y0 rfl (fun hc16=> ?_) (fun hc16=> ?_)
  ·have k2:k≤10:=by have:=oT hc16;omega
   refine zbz ?_;refine rn0 ?_;refine w9 ?_;refine zc9 ?_;refine w9 ?_;refine zgq 11 [5,6] [7,8,9,10] (fun he=>he=(.box b2 158 [iv 0,iv 0]:: .box b1 28 (y9 h):: .glob 2 156 y2:: .glob 4 305 y3:: .glob 5 308 z8:: .glob 3 246 w6:: [])∨∃b,he= .box b 252 (zbq h)::(.box b2 158 [iv 0,iv 0]:: .box b1 28 (y9 h):: .glob 2 156 y2:: .glob 4 305 y3:: .glob 5 308 z8:: .glob 3 246 w6:: [])) rfl rfl (.inl rfl) ?_
   refine jq rfl (fun he hC=>by rcases hC with rfl|⟨b,rfl⟩ <;> exact qrA) ?_
   refine jq rfl (fun he hC=>by rcases hC with rfl|⟨b,rfl⟩ <;> exact (by exact zaf rfl rfl (by show k < 11;omega))) ?_
   refine jq rfl (fun he hC=>by rcases hC with rfl|⟨b,rfl⟩ <;> exact (by exact k9 rfl (show w6[0+k * 1]? =some (ylo k) by rw [Nat.zero_add,Nat.mul_one];exact yhi k2))) ?_
   refine jq rfl (fun he hC=>by rcases hC with rfl|⟨b,rfl⟩ <;> exact qrA) ?_
   refine jq rfl (fun he hC=>by rcases hC with rfl|⟨b,rfl⟩ <;> exact (by exact u9 (out:=zbq h) rfl (by rfl))) ?_
   refine je rfl ?_;refine je rfl ?_;refine je rfl ?_;refine je rfl ?_;refine je rfl ?_;refine je rfl ?_;refine ygj ?_;refine jce rfl fun u=> ?_
   refine w7 rfl rfl rfl fun b5=>⟨_,_,rfl,.inr ⟨_,rfl⟩,?_⟩
   refine jce rfl fun u=> ?_
   refine q7 rfl rfl (ycr h la3 b5 _ k1 k2) rfl ?_
   rintro _ _ ⟨rfl,rfl⟩
   rw [hpv]
   refine ⟨_,_,rfl,.inl rfl,?_⟩
   refine jcn ?_;refine lq rfl rfl (by exact qrA) ?_
   refine lq rfl rfl (by exact qrA) ?_
   refine lq rfl rfl (by exact qrA) ?_
   refine lq rfl rfl (by exact qrA) ?_
   refine ln ?_;refine rn ?_;refine y0 rfl (fun hc29=> ?_) (fun hc29=> ?_)
   ·refine rn ?_;exact zdw (.cons _ _ _ _ (.agg _ _ _ _ _ _ _ rfl inferInstance inferInstance inferInstance rfl) (.cons _ _ _ _ (.tmp _ _ rfl) (.cons _ _ _ _ (.tmp _ _ rfl) .nil))) (.drop [_,_] _ _) ⟨rfl,by
     cases hp:zb4 h k with
     |none=>rw [hp] at eb;rw [eb] at hc29;cases hc29
     |some n=>rw [hp] at ei;subst ei;rw [zgm,if_pos hm,zjl,zyc k1 k2 zk hp];rfl⟩
   ·refine rn ?_;exact ⟨k+1,⟨by omega,zu3 k1 k2 zk (by cases hp:zb4 h k with|none=>rfl|some n=>rw [hp] at eb;rw [eb] at hc29;cases hc29)⟩,eA,by omega⟩
  ·have k2:11≤k:=by have:=oF hc16;omega
   refine rn ?_;exact zdw (.cons _ _ _ _ (.agg _ _ _ _ _ _ _ rfl inferInstance inferInstance inferInstance rfl) (.cons _ _ _ _ (.tmp _ _ rfl) (.cons _ _ _ _ (.tmp _ _ rfl) .nil))) (.drop [_,_] _ _) ⟨rfl,by rw [zgm,if_pos hm,zjl,zu4 k2 k3 zk];rfl⟩
theorem yiw (h:Hist) (la:Lim 4611686018427387904 h):y8 Tryz.prog 94 [.agg (y9 h)] [.glob 2 156 y2,.glob 4 305 y3,.glob 5 308 z8,.glob 3 246 w6] (fun r h'=>h'= [.glob 2 156 y2,.glob 4 305 y3,.glob 5 308 z8,.glob 3 246 w6]∧r=bv (zaq h)):=by
 refine z6 Tryz.func94 rfl rfl rfl ?_
 refine rn ?_;refine z7 rfl (w7 rfl rfl rfl fun b1=> ?_)
 refine q1 ?_;refine u4 (zai ?_)
 refine w9 (y6 ?_)
 obtain ⟨fi,fj,fb,fe,hf,hfb⟩:=zpn h
 refine rn ?_;refine qv rfl rfl (y4 rfl rfl (y1.qt (y1.of_fun (yi6 h la)) ((pt1 _ _ _).trans (.cons _ ((pt1 _ _ _).trans (.cons _ ((pt1 _ _ _).trans (.cons _ (pt1 _ _ _))))))))) ?_
 rw [hf]
 refine rn ?_;refine z7 rfl (y7 rfl fun b3=> ?_)
 refine rn ?_;refine v8 (fun hg2_2=> ?_) (fun hg2_2=> ?_)
 ·refine rn ?_;refine rq 2 ?_
  exact ⟨rfl,congrArg bv (by rw [hfb];simp_all)⟩
 ·refine rn ?_;refine rq 2 ?_
  exact ⟨rfl,congrArg bv (by rw [hfb];simp_all)⟩
end Go.Proofs
set_option maxRecDepth 100000
namespace Go.Proofs.YtfmcbdjnmlcacaaGreatDoor
open Go Go.Ab Go.H
def yhh:DataW Unit:=match (Rows.laid_yardarm_rules_asks:DataW Unit) with| .iface _ d=>d|d=>d
def zxg:List (List UInt8):=match yhh with| .agg ds=>ds.map (fun d=>match d with| .iface _ (.lit (.string b))=>b|_=> [])|_=> []
def nm (k:Nat):List UInt8:=zxg.getD (k+1) []
theorem zy6:yhh.funcsOut= .agg (.nil::(zxg.drop 1).map .held):=by kernel_rfl
theorem yb0 {w:World} {c:Array Value} {T0:TypeId} {fr:Nat×Nat} {g:Nat} {T:TypeId} {vs:List AV} (hh:w.heap[g]? =some (.cells c T0 fr)) (hl:vs.length=c.size) (h:∀j (h1:j < vs.length) (h2:j < c.size),Rel w noX vs[j] c[j]):(Res.glob g T vs).holds w noX:=
 ⟨fun h=>h,(Array.getElem?_eq_some_iff.1 hh).1,c,T0,fr,hh,hl,fun j h1 h2=>h j h1 h2⟩
theorem ykd (w:World) (f:Nat):Rel w noX (.fn (.func f) [] []) (.func (.func f) #[] #[]):= .fn _ _ _ _ _ rfl rfl (fun j h=>absurd h (Nat.not_lt_zero _)) (fun j h=>absurd h (Nat.not_lt_zero _))
def fnA:List Nat:= [300,307,308,309,310,311,312,313,314,315]
theorem ycq (k:Nat) (hk:k < 10):∃b r,zxg[k+1]? =some (b::r)∧((List.range Tryz.prog.funcs.size).filter fun f=>(Tryz.prog.funcs[f]?).any (·.name.toUTF8.data.toList==b::r))= [fnA.getD k 0]∧w6[k+1]? =some (.fn (.func (fnA.getD k 0)) [] []):=by
 match k,hk with
 |0,_=>exact ⟨(nm 0).headD 0,(nm 0).tail,by kernel_rfl,by kernel_rfl,by kernel_rfl⟩
 |1,_=>exact ⟨(nm 1).headD 0,(nm 1).tail,by kernel_rfl,by kernel_rfl,by kernel_rfl⟩
 |2,_=>exact ⟨(nm 2).headD 0,(nm 2).tail,by kernel_rfl,by kernel_rfl,by kernel_rfl⟩
 |3,_=>exact ⟨(nm 3).headD 0,(nm 3).tail,by kernel_rfl,by kernel_rfl,by kernel_rfl⟩
 |4,_=>exact ⟨(nm 4).headD 0,(nm 4).tail,by kernel_rfl,by kernel_rfl,by kernel_rfl⟩
 |5,_=>exact ⟨(nm 5).headD 0,(nm 5).tail,by kernel_rfl,by kernel_rfl,by kernel_rfl⟩
 |6,_=>exact ⟨(nm 6).headD 0,(nm 6).tail,by kernel_rfl,by kernel_rfl,by kernel_rfl⟩
 |7,_=>exact ⟨(nm 7).headD 0,(nm 7).tail,by kernel_rfl,by kernel_rfl,by kernel_rfl⟩
 |8,_=>exact ⟨(nm 8).headD 0,(nm 8).tail,by kernel_rfl,by kernel_rfl,by kernel_rfl⟩
 |9,_=>exact ⟨(nm 9).headD 0,(nm 9).tail,by kernel_rfl,by kernel_rfl,by kernel_rfl⟩
theorem ymv {w:World} (h:laidMetH Tryz.prog znz w):(Res.glob 3 246 w6).holds w noX:=by
 obtain ⟨g,t,cs,fuel,p,hg,ht,hv,hd⟩:=h.funcs (n:= "yardarm/rules.asks") (d:=yhh) (.tail _ (.tail _ (.head _)))
 obtain rfl:=Option.some.inj ((show Tryz.prog.globalNamed "yardarm/rules.asks" =some 3 by kernel_rfl).symm.trans hg)
 obtain rfl:=Option.some.inj ((show (Tryz.prog.globals[3]?).map (·.type)=some 246 by kernel_rfl).symm.trans ht)
 rw [zy6] at hd
 have c1:Tryz.prog.cellsOf 245=1:=by kernel_rfl
 have c11:Tryz.prog.cellsOf 246=11:=by kernel_rfl
 have hlen:cs.toList.length=11:=by
  obtain ⟨_,_,_,_,hl,_⟩:=DataW.trod_array Tryz.underlying246 hd
  rw [hl,c11]
 unfold World.var? at hv
 rw [hg] at hv
 simp only [Option.bind_some] at hv
 split at hv
 ·rename_i c T0 fr hh
  cases hv
  refine yb0 hh (by rw [show w6.length=11 from rfl];simpa using hlen.symm) fun j h1 h2=> ?_
  cases j with
  |zero=>exact .any _
  |succ k=>
   have hk:k < 10:=by have:w6.length=11:=rfl;omega
   obtain ⟨b,r,hn,hone,ha⟩:=ycq k hk
   obtain ⟨f',d,q,e1,e2⟩:=Lib.array_elem Tryz.underlying246 hd (k+1) (by omega)
   have e1':d= .held (b::r):=by
    rw [List.getElem?_cons_succ,List.getElem?_map,List.getElem?_drop,Nat.add_comm 1 k,hn] at e1
    exact (Option.some.inj e1).symm
   subst e1'
   rw [c1,Nat.mul_one,List.drop_eq_getElem_cons (by simpa using h2),List.take_succ_cons,List.take_zero] at e2
   have:=func_of_trod (f0:=fnA.getD k 0) Tryz.underlying245 hone e2
   rw [Array.getElem_toList] at this
   rw [this,show w6[k+1]= .fn (.func (fnA.getD k 0)) [] [] from Option.some.inj ((List.getElem?_eq_getElem h1).symm.trans ha)]
   exact ykd _ _
 ·cases hv
theorem zux {W:World} (h:laidMetH Tryz.prog znz W):HRel noX W [.glob 2 156 y2,.glob 4 305 y3,.glob 5 308 z8,.glob 3 246 w6]:=by
 obtain ⟨a,b,c,d⟩:=zxv h
 have hO:OO [.glob 2 156 y2,.glob 4 305 y3,.glob 5 308 z8] noX=noX:=ynn
 have hO':OO [.glob 2 156 y2,.glob 4 305 y3,.glob 5 308 z8,.glob 3 246 w6] noX=noX:=by funext b;simp [OO,j5,noX,Res.own]
 refine ⟨by simp [j5,Res.own],fun b hb=>by simp [j5,Res.own] at hb,fun b hb=>hb.elim,fun r hr=> ?_⟩
 rw [hO']
 rw [hO] at d
 simp only [List.mem_cons,List.not_mem_nil,or_false] at hr
 rcases hr with rfl|rfl|rfl|rfl
 ·exact d _ (by simp)
 ·exact d _ (by simp)
 ·exact d _ (by simp)
 ·exact ymv h
theorem ynm:OO [.glob 2 156 y2,.glob 4 305 y3,.glob 5 308 z8,.glob 3 246 w6] noX=noX:=by funext b;simp [OO,j5,noX,Res.own]
end Go.Proofs.YtfmcbdjnmlcacaaGreatDoor
namespace Go.Proofs
open Go Go.Ab
open Go.H
def yan (l:List Int):List AV:= [za5 l]
theorem yja {P:Program} {h:List Res} {f:Operand→Option AV} {o:Oper} {b c:Bool} (hq:QR P h f o (.v (.bool b))) (e:b=c):QR P h f o (.v (.bool c)):=by subst e;exact hq
theorem nzT {a:Int} (h:(a !=0)=true):a≠0:=by simpa using h
theorem nzF {a:Int} (h:(a !=0)=false):a=0:=by simpa using h
theorem zyr (l:List Ev):(zcm l).length≤l.length:=by rw [zcm,(zb9 _).length_eq,oM];exact List.length_filter_le _ _
def dnM (l:List Int):List (Int×Bool):=zox (fun _:Int=>true) (fun t:Int=>t) [] l
theorem ykt {l:List Int} {k:Nat} (hk:k < l.length):dnM (l.take (k+1))=zcq l[k] true (dnM (l.take k)):=by
 rw [dnM,dnM,zox,zox,List.take_succ_eq_append_getElem hk,List.foldl_append];rfl
theorem zeq (l:List Ev) (t:Int):(zap t (dnM (zcm l))).getD false=zf7 l t 5:=by
 rw [dnM,ze5]
 cases hq:zf7 l t 5 with
 |true=>rw [if_pos (by rw [List.any_eq_true];exact ⟨t,zoa.2 hq,by simp⟩)];rfl
 |false=>
  rw [if_neg (fun q=>by
   obtain ⟨x,hx,e⟩:=List.any_eq_true.1 q
   have e:x=t:=by simpa using e
   rw [e,zoa,hq] at hx;cases hx)]
  rfl
def evD (l:List Ev) (n:Int):Ev:=(l[n.toNat]?).getD ⟨0,0,0,0,0,⟨0,0⟩,0,[]⟩
theorem zpr {l:List Ev} {a:Nat} (ha:a < l.length):evD l (a:Int)=l[a]:=by rw [evD,Int.toNat_natCast,List.getElem?_eq_getElem ha];rfl
def zde (h:Hist) (n:Int):Int:=if q6 h=0 then (if 0≤n∧n < h.evs.length∧(evD h.evs n).kind=4 then 0 else 2) else q6 h
def zmg (h:Hist) (n:Int):List Seen:=if zde h n=0 then yey h (evD h.evs n) n.toNat else []
theorem yod {h:Hist} {n:Int} (hc:q6 h≠0):zde h n=q6 h∧zmg h n= []:=by
 have e:zde h n=q6 h:=by rw [zde,if_neg hc]
 exact ⟨e,by rw [zmg,e,if_neg hc]⟩
theorem yoc {h:Hist} {n:Int} (hc:q6 h=0) (hn:¬(0≤n∧n < h.evs.length∧(evD h.evs n).kind=4)):zde h n=2∧zmg h n= []:=by
 have e:zde h n=2:=by rw [zde,if_pos hc,if_neg hn]
 exact ⟨e,by rw [zmg,e];rfl⟩
theorem yob {h:Hist} {a:Nat} (hc:q6 h=0) (ha:a < h.evs.length) (h4:h.evs[a].kind=4):zde h a=0∧zmg h a=(upR h.os.length).map (yc8 h.evs h.evs[a].t h.evs[a].scan a):=by
 have e:zde h a=0:=by rw [zde,if_pos hc,if_pos ⟨by omega,by omega,by rw [zpr ha];exact h4⟩]
 exact ⟨e,by rw [zmg,e,if_pos rfl,zpr ha,Int.toNat_natCast];rfl⟩
set_option maxRecDepth 10000
instance:EqInts Tryz.prog 41 7:=⟨by kernel_rfl,fun w xs ys h1 h2=>match xs,ys,h1,h2 with
 | [a0,a1,a2,a3,a4,a5,a6],[c0,c1,c2,c3,c4,c5,c6],_,_=>by
   rw [run_equalIn_struct w 9999 41 _ _ (by kernel_rfl) (by kernel_rfl)]
   simp only [Program.fieldsOf,Tryz.underlying41]
   simp [Op.eqFields,part,run_equalIn_int _ 9998 3 .i64 .i64 _ _ Tryz.underlying3]
   by_cases h0:a0=c0
   case neg=>simp [h0]
   subst h0
   by_cases h1:a1=c1
   case neg=>simp [h1]
   subst h1
   by_cases h2:a2=c2
   case neg=>simp [h2]
   subst h2
   by_cases h3:a3=c3
   case neg=>simp [h3]
   subst h3
   by_cases h4:a4=c4
   case neg=>simp [h4]
   subst h4
   by_cases h5:a5=c5
   case neg=>simp [h5]
   subst h5
   by_cases h6:a6=c6
   case neg=>simp [h6]
   subst h6
   simp⟩
end Go.Proofs
namespace Go.Ab
open Go
end Go.Ab
set_option maxRecDepth 10000
namespace Go.Proofs
open Go Go.Ab
attribute [local irreducible] QR QV OE zb8 aw zch zcv za4 zbx thn zeg zdc jch zef
open Go.H
theorem yj2 (a:Int):y8 Tryz.prog 204 [iv a] [] (fun r h'=>h'= []∧r=bv false):=by
 refine z6 Tryz.func204 rfl rfl rfl ?_
 refine rn ?_;refine rq 0 ?_
 exact ⟨rfl,congrArg bv (bne_self_eq_false a)⟩
def zob (a b:Int):Int:=if a < b then -1 else if b < a then 1 else 0
theorem zyt (a b:Int) (l m:List Int):zjs (a::l) (b::m)=if zob a b=0 then zjs l m else zob a b:=by
 rw [zjs,zob]
 by_cases h1:a < b
 ·rw [if_pos h1,if_pos h1];rfl
 ·rw [if_neg h1,if_neg h1]
  by_cases h2:b < a
  ·rw [if_pos h2,if_pos h2];rfl
  ·rw [if_neg h2,if_neg h2];rfl
theorem zna (a b:Int):y8 Tryz.prog 144 [iv a,iv b] [] (fun r h'=>h'= []∧r=iv (zob a b)):=by
 refine z6 Tryz.func144 rfl rfl rfl ?_
 refine rn ?_;refine qv rfl rfl (y4 rfl rfl (zat (yj2 _) (Sbs.refl _))) ?_
 refine rn ?_;refine qv rfl rfl (y4 rfl rfl (zat (yj2 _) (Sbs.refl _))) ?_
 refine rn ?_;refine y0 rfl (fun hc11=> ?_) (fun hc11=> ?_)
 ·exact absurd hc11 (by decide)
 ·refine rn ?_;refine y0 rfl (fun hc13=> ?_) (fun hc13=> ?_)
  ·exact absurd hc13 (by decide)
  ·refine rn ?_;refine y0 rfl (fun hc16=> ?_) (fun hc16=> ?_)
   ·refine rn ?_;refine rq 0 ?_
    exact ⟨rfl,congrArg iv (by rw [zob,if_pos (oT hc16)])⟩
   ·refine rn ?_;refine y0 rfl (fun hc19=> ?_) (fun hc19=> ?_)
    ·refine rn ?_;refine rq 0 ?_
     exact ⟨rfl,congrArg iv (by rw [zob,if_neg (oF hc16),if_pos (oT hc19)])⟩
    ·refine rn ?_;refine rq 0 ?_
     exact ⟨rfl,congrArg iv (by rw [zob,if_neg (oF hc16),if_neg (oF hc19)])⟩
def zib (a b:Conf):Bool:=([a.f,a.t,a.k,a.a,a.b,a.o,a.p]:List Int)== [b.f,b.t,b.k,b.a,b.b,b.o,b.p]
theorem zlf (a b:Conf):zib a b=decide (a=b):=by
 rw [zib,Bool.eq_iff_iff,decide_eq_true_iff]
 obtain ⟨a1,a2,a3,a4,a5,a6,a7⟩:=a
 obtain ⟨b1,b2,b3,b4,b5,b6,b7⟩:=b
 simp
end Go.Proofs
namespace Go.Ab
open Go
section
variable {P:Program} {ro:Option Nat} {nt:Nat} {c:Code} {Q:Exit→St→Prop} {t:Fr} {h:List Res} {ds:List Nat}
theorem zfg {σ:Type} (n:Nat) (p:Nat→σ→Prop) (inv:Nat→σ→St) (x0:σ) (hp:p 0 x0) (h0:Ent nt ⟨t,h,ds⟩ (inv 0 x0))
 (round:∀k x,k≤n→p k x→aw P ro nt c (thn (fun s'=>k < n∧∃x',p (k+1) x'∧Ent nt s' (inv (k+1) x')) Q) (inv k x)):aw P ro nt (.loop c) Q ⟨t,h,ds⟩:=
 zaa (fun x:Nat×σ=>x.1≤n∧p x.1 x.2) (fun x=>inv x.1 x.2) (fun x=>n - x.1) (0,x0) ⟨Nat.zero_le _,hp⟩ h0 fun x hk=>zhh (fun e s' hq=>by
  cases e with
  |normal=>
   obtain ⟨h1,x',h2,h3⟩:=hq
   exact ⟨(x.1+1,x'),⟨h1,h2⟩,h3,by simp only;omega⟩
  |_=>exact hq) (round x.1 x.2 hk.1 hk.2)
end
end Go.Ab
set_option maxRecDepth 10000
namespace Go.Proofs
open Go Go.Ab
attribute [local irreducible] QR QV OE zb8 aw zch zcv za4 zbx thn zeg zdc jch zef
open Go.H
theorem zro (h:Hist) (la:Lim 4611686018427387904 h):y8 Tryz.prog 38 [.agg (y9 h)] [.glob 2 156 y2,.glob 4 305 y3,.glob 5 308 z8,.glob 3 246 w6] (fun r h'=>h'= [.glob 2 156 y2,.glob 4 305 y3,.glob 5 308 z8,.glob 3 246 w6]∧r=iv (q6 h)):=by
 refine z6 Tryz.func38 rfl rfl rfl ?_
 refine rn ?_;refine z7 rfl (w7 rfl rfl rfl fun b1=> ?_)
 refine rn ?_;refine qv rfl rfl (y4 rfl rfl (y1.qt (y1.of_fun (ykw h la)) ((pt1 _ _ _).trans (.cons _ ((pt1 _ _ _).trans (.cons _ (pt1 _ _ _))))))) ?_
 refine rn ?_;refine y0 rfl (fun hc7=> ?_) (fun hc7=> ?_)
 ·have hm:¬zfo h=true:=by intro q;rw [zc8,if_pos q] at hc7;cases hc7
  have he:zc8 h=210:=by rw [zc8,if_neg hm]
  refine rn ?_;refine rq 1 ?_
  exact ⟨rfl,by rw [q6,if_neg hm,he];rfl⟩
 ·have hm:zfo h=true:=zyx.1 (by simpa using hc7)
  refine rn ?_;refine qv rfl rfl (y4 rfl rfl (y1.qt (y1.of_fun (yiw h la)) ((pt1 _ _ _).trans (.cons _ ((pt1 _ _ _).trans (.cons _ ((pt1 _ _ _).trans (.cons _ (pt1 _ _ _))))))))) ?_
  refine rn ?_;refine y0 rfl (fun hc11=> ?_) (fun hc11=> ?_)
  ·refine rn ?_;refine rq 1 ?_
   exact ⟨rfl,by rw [q6,if_pos hm];simp_all;rfl⟩
  ·refine rn ?_;refine rq 1 ?_
   exact ⟨rfl,by rw [q6,if_pos hm];simp_all;rfl⟩
theorem zn0 (h:Hist) (kd:Int) (W:List Res):y8 Tryz.prog 218 [.agg (y9 h),iv kd] W (fun r h'=>∃b1 b2,h'= .box b1 28 (y9 h):: .box b2 3 [iv kd]::W∧r= .fn (.func 264) [] [pZ b1,pZ b2]):=by
 refine z6 Tryz.func218 rfl rfl rfl ?_
 refine rn ?_;refine z7 rfl (w7 rfl rfl rfl fun b2=> ?_)
 refine z7 rfl (w7 rfl rfl rfl fun b3=> ?_)
 refine rn ?_;exact zak rfl (.perm (pt1 _ _ _) _) ⟨_,_,rfl,rfl⟩
theorem zk9 {σ:Type} (h:Hist) (la:h.evs.length≤1000000) (kd:Int) (y:AV) (b1 b2:Nat) (p q:Nat→σ→Prop) (I F:Nat→σ→List Res) (x0:σ) (hp0:p 0 x0) (hy:∀k x,(hk:k < h.evs.length)→p k x→(h.evs[k].kind==kd)=true→y1 Tryz.prog y [iv k,.agg (evR h.evs[k])] (.box b1 28 (y9 h):: .box b2 3 [iv kd]::I k x) (fun r h'=>∃x',(r=bv true∧p (k+1) x'∧h'= .box b1 28 (y9 h):: .box b2 3 [iv kd]::I (k+1) x')∨(r=bv false∧q k x'∧h'= .box b1 28 (y9 h):: .box b2 3 [iv kd]::F k x'))) (hs:∀k x,(hk:k < h.evs.length)→p k x→(h.evs[k].kind==kd)=false→∃x',p (k+1) x'∧I (k+1) x'=I k x):y8 Tryz.prog 264 [y,pZ b1,pZ b2] (.box b1 28 (y9 h):: .box b2 3 [iv kd]::I 0 x0) (fun r h'=>(∃x,p h.evs.length x∧h'=I h.evs.length x)∨∃k x,q k x∧h'=F k x):=by
 refine z6 Tryz.func264 rfl rfl rfl ?_
 refine rn ?_;refine zfg h.evs.length p (fun k x=>⟨[(9,iv k),(0,y),(2,pZ b2),(7,zvg h.evs),(8,iv (h.evs.map evR).length)],.box b1 28 (y9 h):: .box b2 3 [iv kd]::I k x,[]⟩) x0 hp0 es ?_
 intro k x lk zk
 refine rn ?_;refine y0 rfl (fun hc10=> ?_) (fun hc10=> ?_)
 ·have hk:=zdb hc10
  have rk:=zbs (f:=evR) hk
  refine rn ?_;refine z7 rfl (y7 rfl fun b5=> ?_)
  refine rn ?_;refine v8 (fun hg3_4=> ?_) (fun hg3_4=> ?_)
  ·refine q1 ?_;refine q1 ?_;refine q1 ?_;refine z7 rfl (q7 rfl rfl (y1.fr1 (hy k x hk zk (by simpa using hg3_4))) rfl ?_)
   rintro _ _ ⟨_,rfl,x',⟨rfl,hp,rfl⟩|⟨rfl,hq,rfl⟩⟩
   ·refine rn ?_;refine y0 rfl (fun hc24=> ?_) (fun hc24=> ?_)
    ·first|cases hc24|exact absurd hc24 (by decide)|(exfalso;simp_all;done)
    ·refine rn ?_;exact ⟨hk,x',hp,eA⟩
   ·refine rn ?_;refine y0 rfl (fun hc24=> ?_) (fun hc24=> ?_)
    ·refine rn ?_;exact zdw .nil (.drop [_,_,_] _ _) (.inr ⟨k,x',hq,rfl⟩)
    ·first|cases hc24|exact absurd hc24 (by decide)|(exfalso;simp_all;done)
  ·refine rn ?_;refine zoe rfl ?_;refine rn ?_;obtain ⟨x',hp,e⟩:=hs k x hk zk (by simpa using hg3_4)
   exact ⟨hk,x',hp,by rw [e];exact eA⟩
 ·have qk:=zdd hc10 lk
  subst qk
  refine rn ?_;exact zc4 .nil (.drop [_,_] _ _) (.inl ⟨x,zk,rfl⟩)
def zix {α:Type} (kd:Int) (x:Nat→Ev→α) (p:Nat→Ev→Bool) (k:Nat) (e:Ev):Option α:=if (e.kind==kd && p k e)=true then some (x k e) else none
theorem ydw {α:Type} {kd:Int} {x:Nat→Ev→α} {p:Nat→Ev→Bool} {k:Nat} {e:Ev} (h:(e.kind==kd)=false):zix kd x p k e=none:=by rw [zix,h];simp
theorem ydv {α:Type} {kd:Int} {x:Nat→Ev→α} {p:Nat→Ev→Bool} {k:Nat} {e:Ev} (h:p k e=false):zix kd x p k e=none:=by rw [zix,h];simp
theorem ydu {α:Type} {kd:Int} {x:Nat→Ev→α} {p:Nat→Ev→Bool} {k:Nat} {e:Ev} (h1:(e.kind==kd)=true) (h:p k e=true):zix kd x p k e=some (x k e):=by rw [zix,h1,h];simp
theorem zte {α:Type} {f:Nat→Ev→Option α} {l:List Ev} {k:Nat} (h:k < l.length) (hf:f k l[k]=none):zec f l (k+1)=zec f l k:=by rw [zpk h,hf];simp
theorem ydt {α:Type} {f:Nat→Ev→Option α} {l:List Ev} {k:Nat} {a:α} (h:k < l.length) (hf:f k l[k]=some a):zec f l (k+1)=zec f l k++ [a]:=by rw [zpk h,hf];rfl
def ziz (f:Ver×Nat):List AV:= [iv f.1.t,iv f.1.k,iv f.2]
theorem yf0 (l:List (Ver×Nat)):∀r∈l.map ziz,r.all AV.one=true:=by
 intro r hr;obtain ⟨a,_,rfl⟩:=List.mem_map.1 hr;rfl
theorem ydo (h:Hist) (la:h.evs.length≤1000000) (kd:Int) (fv:AV) (hone:fv.cellsOf=some [fv]) (W:List Res) (x:Nat→Ev→Int) (p:Nat→Ev→Bool) (hp:∀k,(hk:k < h.evs.length)→(h.evs[k].kind==kd)=true→y1 Tryz.prog fv [iv k,.agg (evR h.evs[k])] W (fun r h'=>h'=W∧r= .tup [iv (x k h.evs[k]),bv (p k h.evs[k])])):y8 Tryz.prog 173 [.agg (y9 h),iv kd,fv] W (fun r h'=>∃s:SV,h'= .row s.v 1 3 ((zec (zix kd x p) h.evs h.evs.length).map za9)::W∧r= .v s.v):=by
 refine z6 Tryz.func173 rfl rfl rfl ?_
 refine rn ?_;refine z7 rfl (w7 rfl rfl rfl fun b3=> ?_)
 refine z7 rfl (w7 rfl hone rfl fun b5=> ?_)
 refine rn ?_;refine z7 rfl (y7 rfl fun b7=> ?_)
 refine rn ?_;refine z7 rfl (q7 rfl rfl (y1.of_fun (zn0 h kd _)) rfl ?_)
 rintro _ _ ⟨b1,b2,rfl,rfl⟩
 refine rn ?_;refine zfl (s':=⟨[(14,.fn (.func 264) [] [pZ b1,pZ b2]),(5,pZ b5),(7,pZ b7)],.box b1 28 (y9 h):: .box b2 3 [iv kd]:: .box b7 29 [.v (⟨none,0,0⟩:SV).v]:: .row (⟨none,0,0⟩:SV).v 1 3 ((zec (zix kd x p) h.evs 0).map za9):: .box b5 216 [fv]:: .box b3 28 (y9 h)::W,[]⟩) (v6 (v6 (zaz 1 3) (zau ((pt1 _ _ _).trans (.cons _ ((pt1 _ _ _).trans (.cons _ (pt1 _ _ _))))))) es) ?_
 refine zjt (fun pend h''=>pend=none∧∃s:SV,h''= .box b7 29 [.v s.v]:: .row s.v 1 3 ((zec (zix kd x p) h.evs h.evs.length).map za9):: .box b5 216 [fv]:: .box b3 28 (y9 h)::W) rfl (fun fn l q lp hlp=> ?_) (fun q h'' hK=> ?_) (fun q h'' c hK=> ?_)
 ·suffices hy:∀k (s:SV),(hk:k < h.evs.length)→True→(h.evs[k].kind==kd)=true→y1 Tryz.prog (yv l) [iv k,.agg (evR h.evs[k])] (.box b1 28 (y9 h):: .box b2 3 [iv kd]::lp .ready none:: .defs q:: .box b7 29 [.v s.v]:: .row s.v 1 3 ((zec (zix kd x p) h.evs k).map za9):: .box b5 216 [fv]:: .box b3 28 (y9 h)::W) (fun r h'=>∃s':SV,(r=bv true∧True∧h'= .box b1 28 (y9 h):: .box b2 3 [iv kd]::lp .ready none:: .defs q:: .box b7 29 [.v s'.v]:: .row s'.v 1 3 ((zec (zix kd x p) h.evs (k+1)).map za9):: .box b5 216 [fv]:: .box b3 28 (y9 h)::W)∨(r=bv false∧False∧h'= .box b1 28 (y9 h):: .box b2 3 [iv kd]:: [])) by
   refine y8.mono (y8.perm ((pt2 _ _ _ _).trans (.cons _ (pt2 _ _ _ _))) (zk9 h la kd (yv l) b1 b2 (fun _ _=>True) (fun _ _=>False) (fun k (s:SV)=>lp .ready none:: .defs q:: .box b7 29 [.v s.v]:: .row s.v 1 3 ((zec (zix kd x p) h.evs k).map za9):: .box b5 216 [fv]:: .box b3 28 (y9 h)::W) (fun _ _=> []) ⟨none,0,0⟩ trivial hy (fun k s hk _ hn=>⟨s,trivial,by rw [zte hk (ydw hn)]⟩))) ?_
   rintro _ _ (⟨s,_,rfl⟩|⟨_,_,hF,_⟩)
   ·exact ⟨none,.ready,_,.refl _,by simp,rfl,s,rfl⟩
   ·exact hF.elim
  intro k s hk _ hkd
  refine y1.perm (pt2 _ _ _ _) (y1.ventE ?_)
  refine zcl hlp rfl rfl ?_
  refine rn ?_;refine z7 rfl (y7 rfl fun b9=> ?_)
  refine rn ?_;refine ⟨[(8,iv k),(9,pZ b9),(5,pZ b5),(7,pZ b7)],.box b9 60 (evR h.evs[k]):: .box b1 28 (y9 h):: .box b2 3 [iv kd]:: .defs q:: .box b7 29 [.v s.v]:: .row s.v 1 3 ((zec (zix kd x p) h.evs k).map za9):: .box b5 216 [fv]:: .box b3 28 (y9 h)::W,v6 (zau (pt1 _ _ _)) es,?_⟩
  refine rn ?_;refine qv rfl rfl (y4 rfl rfl (y1.qt (h2:= [_,_,_,_,_,_,_,_,_]) (hp k hk hkd) (zdr [_,_,_,_,_,_,_,_,_] _))) ?_
  refine rn ?_;refine y0 rfl (fun hc24=> ?_) (fun hc24=> ?_)
  ·refine y6 ?_;refine q1 ?_;refine q1 ?_;refine q1 ?_;refine q1 ?_;refine q1 ?_;refine qq rfl rfl (zmr rfl (by rfl) (by rfl)) ?_
   refine rn ?_;refine qv rfl rfl (w8 rfl rfl) ?_
   refine zt0 s.v ?_
   refine z7 rfl (j6 rfl rfl (by simp only [oM,List.length_cons,List.length_nil];have:=zgl (zix kd x p) h.evs k;omega) rfl (fun s33=> ?_) (ziq [x k h.evs[k]]))
   refine zal s33 fun sv hsv=> ?_
   subst hsv
   refine rn ?_;exact zce (.refl _) ⟨_,_,.trans (.perm ((pt1 _ _ _).trans (.cons _ ((pt1 _ _ _).trans (.cons _ (pt1 _ _ _))))) _) (.drop [_] _ _),sv,.inl ⟨rfl,trivial,by rw [ydt hk (ydu hkd hc24),List.map_append];rfl⟩⟩
  ·refine rn ?_;exact zce (.refl _) ⟨_,_,.trans (.perm ((pt1 _ _ _).trans (.cons _ ((pt1 _ _ _).trans (.cons _ (pt1 _ _ _))))) _) (.drop [_] _ _),s,.inl ⟨rfl,trivial,by rw [zte hk (ydv hc24)]⟩⟩
 ·obtain ⟨_,s,rfl⟩:=hK
  refine rn ?_;exact zfy (.refl _) (.cons _ _ _ _ (.tmp _ _ rfl) .nil) (.trans (.drop1 _ _ _) (.trans (.perm (pt1 _ _ _) _) (.trans (.drop [_] _ _) (.trans (.perm (pt1 _ _ _) _) (.drop [_] _ _))))) ⟨s,rfl,rfl⟩
 ·obtain ⟨hc,_⟩:=hK
  exact absurd hc (by simp)
theorem yj1 (h:Hist) (la:h.evs.length≤1000000) (kd:Int) (fv:AV) (hone:fv.cellsOf=some [fv]) (W:List Res) (x:Nat→Ev→Ver×Nat) (p:Nat→Ev→Bool) (hp:∀k,(hk:k < h.evs.length)→(h.evs[k].kind==kd)=true→y1 Tryz.prog fv [iv k,.agg (evR h.evs[k])] W (fun r h'=>h'=W∧r= .tup [.agg (ziz (x k h.evs[k])),bv (p k h.evs[k])])):y8 Tryz.prog 210 [.agg (y9 h),iv kd,fv] W (fun r h'=>∃s:SV,h'= .row s.v 3 139 ((zec (zix kd x p) h.evs h.evs.length).map ziz)::W∧r= .v s.v):=by
 refine z6 Tryz.func210 rfl rfl rfl ?_
 refine rn ?_;refine z7 rfl (w7 rfl rfl rfl fun b3=> ?_)
 refine z7 rfl (w7 rfl hone rfl fun b5=> ?_)
 refine rn ?_;refine z7 rfl (y7 rfl fun b7=> ?_)
 refine rn ?_;refine z7 rfl (q7 rfl rfl (y1.of_fun (zn0 h kd _)) rfl ?_)
 rintro _ _ ⟨b1,b2,rfl,rfl⟩
 refine rn ?_;refine zfl (s':=⟨[(14,.fn (.func 264) [] [pZ b1,pZ b2]),(5,pZ b5),(7,pZ b7)],.box b1 28 (y9 h):: .box b2 3 [iv kd]:: .box b7 197 [.v (⟨none,0,0⟩:SV).v]:: .row (⟨none,0,0⟩:SV).v 3 139 ((zec (zix kd x p) h.evs 0).map ziz):: .box b5 257 [fv]:: .box b3 28 (y9 h)::W,[]⟩) (v6 (v6 (zaz 3 139) (zau ((pt1 _ _ _).trans (.cons _ ((pt1 _ _ _).trans (.cons _ (pt1 _ _ _))))))) es) ?_
 refine zjt (fun pend h''=>pend=none∧∃s:SV,h''= .box b7 197 [.v s.v]:: .row s.v 3 139 ((zec (zix kd x p) h.evs h.evs.length).map ziz):: .box b5 257 [fv]:: .box b3 28 (y9 h)::W) rfl (fun fn l q lp hlp=> ?_) (fun q h'' hK=> ?_) (fun q h'' c hK=> ?_)
 ·suffices hy:∀k (s:SV),(hk:k < h.evs.length)→True→(h.evs[k].kind==kd)=true→y1 Tryz.prog (yv l) [iv k,.agg (evR h.evs[k])] (.box b1 28 (y9 h):: .box b2 3 [iv kd]::lp .ready none:: .defs q:: .box b7 197 [.v s.v]:: .row s.v 3 139 ((zec (zix kd x p) h.evs k).map ziz):: .box b5 257 [fv]:: .box b3 28 (y9 h)::W) (fun r h'=>∃s':SV,(r=bv true∧True∧h'= .box b1 28 (y9 h):: .box b2 3 [iv kd]::lp .ready none:: .defs q:: .box b7 197 [.v s'.v]:: .row s'.v 3 139 ((zec (zix kd x p) h.evs (k+1)).map ziz):: .box b5 257 [fv]:: .box b3 28 (y9 h)::W)∨(r=bv false∧False∧h'= .box b1 28 (y9 h):: .box b2 3 [iv kd]:: [])) by
   refine y8.mono (y8.perm ((pt2 _ _ _ _).trans (.cons _ (pt2 _ _ _ _))) (zk9 h la kd (yv l) b1 b2 (fun _ _=>True) (fun _ _=>False) (fun k (s:SV)=>lp .ready none:: .defs q:: .box b7 197 [.v s.v]:: .row s.v 3 139 ((zec (zix kd x p) h.evs k).map ziz):: .box b5 257 [fv]:: .box b3 28 (y9 h)::W) (fun _ _=> []) ⟨none,0,0⟩ trivial hy (fun k s hk _ hn=>⟨s,trivial,by rw [zte hk (ydw hn)]⟩))) ?_
   rintro _ _ (⟨s,_,rfl⟩|⟨_,_,hF,_⟩)
   ·exact ⟨none,.ready,_,.refl _,by simp,rfl,s,rfl⟩
   ·exact hF.elim
  intro k s hk _ hkd
  refine y1.perm (pt2 _ _ _ _) (y1.ventE ?_)
  refine zcl hlp rfl rfl ?_
  refine rn ?_;refine z7 rfl (y7 rfl fun b9=> ?_)
  refine rn ?_;refine ⟨[(8,iv k),(9,pZ b9),(5,pZ b5),(7,pZ b7)],.box b9 60 (evR h.evs[k]):: .box b1 28 (y9 h):: .box b2 3 [iv kd]:: .defs q:: .box b7 197 [.v s.v]:: .row s.v 3 139 ((zec (zix kd x p) h.evs k).map ziz):: .box b5 257 [fv]:: .box b3 28 (y9 h)::W,v6 (zau (pt1 _ _ _)) es,?_⟩
  refine rn ?_;refine qv rfl rfl (y4 rfl rfl (y1.qt (h2:= [_,_,_,_,_,_,_,_,_]) (hp k hk hkd) (zdr [_,_,_,_,_,_,_,_,_] _))) ?_
  refine rn ?_;refine z7 rfl (y7 rfl fun b10=> ?_)
  refine rn ?_;refine y0 rfl (fun hc24=> ?_) (fun hc24=> ?_)
  ·refine j3 8 rfl ?_
   refine dq rfl rfl qrA ?_;refine dq rfl rfl qrA ?_;refine dq rfl rfl qrA ?_;refine dq rfl rfl qrA ?_;refine dq rfl rfl qrA ?_;refine dq rfl rfl (zmr rfl (by rfl) (by rfl)) ?_
   refine rn ?_;refine dv rfl rfl (w8 rfl rfl) ?_
   refine rn ?_;refine zt0 s.v ?_
   refine z7 rfl (j6 rfl rfl (by simp only [oM,List.length_cons,List.length_nil];have:=zgl (zix kd x p) h.evs k;omega) rfl (fun s33=> ?_) (yf0 [x k h.evs[k]]))
   refine zal s33 fun sv hsv=> ?_
   subst hsv
   refine rn ?_;exact zce (pt1 _ _ _) ⟨_,_,.trans (.perm ((pt1 _ _ _).trans (.cons _ ((pt1 _ _ _).trans (.cons _ ((pt1 _ _ _).trans (.cons _ (pt1 _ _ _))))))) _) (.drop [_,_] _ _),sv,.inl ⟨rfl,trivial,by rw [ydt hk (ydu hkd hc24),List.map_append];rfl⟩⟩
  ·refine rn ?_;exact zce (pt1 _ _ _) ⟨_,_,.trans (.perm ((pt1 _ _ _).trans (.cons _ ((pt1 _ _ _).trans (.cons _ ((pt1 _ _ _).trans (.cons _ (pt1 _ _ _))))))) _) (.drop [_,_] _ _),s,.inl ⟨rfl,trivial,by rw [zte hk (ydv hc24)]⟩⟩
 ·obtain ⟨_,s,rfl⟩:=hK
  refine rn ?_;exact zfy (.refl _) (.cons _ _ _ _ (.tmp _ _ rfl) .nil) (.trans (.drop1 _ _ _) (.trans (.perm (pt1 _ _ _) _) (.trans (.drop [_] _ _) (.trans (.perm (pt1 _ _ _) _) (.drop [_] _ _))))) ⟨s,rfl,rfl⟩
 ·obtain ⟨hc,_⟩:=hK
  exact absurd hc (by simp)
theorem ygm (k:Int) (e:Ev):y8 Tryz.prog 174 [iv k,.agg (evR e)] [] (fun r h'=>h'= []∧r= .tup [iv e.t,bv true]):=by
 refine z6 Tryz.func174 rfl rfl rfl ?_
 refine rn ?_;refine z7 rfl (w7 rfl rfl rfl fun b3=> ?_)
 refine rn ?_;refine rq 1 ?_
 exact ⟨rfl,rfl⟩
theorem ygl (k s:Int) (e:Ev) (b2 b3 rm:Nat) (M:List (Int×Bool)):y8 Tryz.prog 209 [iv k,.agg (evR e),pZ b2,pZ b3] [.box b2 3 [iv s],.box b3 115 [mpv rm],.map rm (j8 intK (zar bv M))] (fun r h'=>h'= [.box b2 3 [iv s],.box b3 115 [mpv rm],.map rm (j8 intK (zar bv M))]∧r= .tup [iv e.t,bv (e.o==s && (zap e.t M).getD false)]):=by
 refine z6 Tryz.func209 rfl rfl rfl ?_
 refine rn ?_;refine z7 rfl (w7 rfl rfl rfl fun b5=> ?_)
 refine rn ?_;refine j3 13 rfl ?_
 refine rn ?_;refine zcu (fun hg1_6=> ?_) (fun hg1_6=> ?_)
 ·refine dq rfl rfl qrA ?_;refine dq rfl rfl qrA ?_;refine dq rfl rfl qrA ?_;refine dq rfl rfl (zay (enc:=intK) (k:=e.t) false rfl rfl) ?_
  refine rn ?_;refine rq 1 ?_
  exact ⟨rfl,by rw [hg1_6];rfl⟩
 ·refine rn ?_;refine rq 1 ?_
  exact ⟨rfl,by rw [hg1_6];rfl⟩
theorem ygk (k a:Nat) (t x:Int) (e:Ev) (b2 b3 b4:Nat):y8 Tryz.prog 211 [iv k,.agg (evR e),pZ b2,pZ b3,pZ b4] [.box b2 3 [iv t],.box b3 3 [iv x],.box b4 3 [iv a]] (fun r h'=>h'= [.box b2 3 [iv t],.box b3 3 [iv x],.box b4 3 [iv a]]∧r= .tup [.agg (ziz (e.v,k)),bv (e.t==t && e.o==x && decide (k < a))]):=by
 refine z6 Tryz.func211 rfl rfl rfl ?_
 refine rn ?_;refine z7 rfl (w7 rfl rfl rfl fun b6=> ?_)
 refine z7 rfl (y7 rfl fun b7=> ?_)
 refine rn ?_;refine zdn 20 [(b7,139,_)] rfl (List.perm_append_comm (l₁:= [_])) ?_
 refine dq rfl rfl qrA ?_;refine dq rfl rfl qrA ?_;refine dq rfl rfl qrA ?_;refine dq rfl rfl (u9 (out:= [iv e.v.t,iv e.v.k,iv k]) rfl (by rfl)) ?_
 refine rn ?_;refine zcu (fun hg1_8=> ?_) (fun hg1_8=> ?_)
 ·refine rn ?_;refine zcu (fun hg1_14=> ?_) (fun hg1_14=> ?_)
  ·refine rn ?_;refine dw 0 rfl rfl rfl rfl rfl (Nat.le_of_ble_eq_true rfl) ?_
   refine rn2 ?_;show zb8 _ _ _ _ _ _ ⟨_,.box b7 139 (ziz (e.v,k)):: .box b6 60 (evR e):: [.box b2 3 [iv t],.box b3 3 [iv x],.box b4 3 [iv a]],_⟩
   refine rn ?_;exact zdw (.cons _ _ _ _ (.agg _ _ _ _ _ _ _ rfl inferInstance inferInstance inferInstance rfl) (.cons _ _ _ _ (.tmp _ _ rfl) .nil)) (.drop [_,_] _ _) ⟨rfl,by first|(rw [hg1_8,hg1_14];exact congrArg (fun b=>AV.tup [AV.agg (ziz (e.v,k)),bv b]) (by simp))|(rw [hg1_8];rfl)⟩
  ·refine rn ?_;refine dw 0 rfl rfl rfl rfl rfl (Nat.le_of_ble_eq_true rfl) ?_
   refine rn2 ?_;show zb8 _ _ _ _ _ _ ⟨_,.box b7 139 (ziz (e.v,k)):: .box b6 60 (evR e):: [.box b2 3 [iv t],.box b3 3 [iv x],.box b4 3 [iv a]],_⟩
   refine rn ?_;exact zdw (.cons _ _ _ _ (.agg _ _ _ _ _ _ _ rfl inferInstance inferInstance inferInstance rfl) (.cons _ _ _ _ (.tmp _ _ rfl) .nil)) (.drop [_,_] _ _) ⟨rfl,by first|(rw [hg1_8,hg1_14];exact congrArg (fun b=>AV.tup [AV.agg (ziz (e.v,k)),bv b]) (by simp))|(rw [hg1_8];rfl)⟩
 ·refine rn ?_;refine dw 0 rfl rfl rfl rfl rfl (Nat.le_of_ble_eq_true rfl) ?_
  refine rn2 ?_;show zb8 _ _ _ _ _ _ ⟨_,.box b7 139 (ziz (e.v,k)):: .box b6 60 (evR e):: [.box b2 3 [iv t],.box b3 3 [iv x],.box b4 3 [iv a]],_⟩
  refine rn ?_;exact zdw (.cons _ _ _ _ (.agg _ _ _ _ _ _ _ rfl inferInstance inferInstance inferInstance rfl) (.cons _ _ _ _ (.tmp _ _ rfl) .nil)) (.drop [_,_] _ _) ⟨rfl,by first|(rw [hg1_8,hg1_14];exact congrArg (fun b=>AV.tup [AV.agg (ziz (e.v,k)),bv b]) (by simp))|(rw [hg1_8];rfl)⟩
theorem ymt (x:Int) (s:Ord) (b1:Nat):y8 Tryz.prog 207 [.agg (zet s),pZ b1] [.box b1 3 [iv x]] (fun r h'=>h'= [.box b1 3 [iv x]]∧r=bv (s.o==x)):=by
 refine z6 Tryz.func207 rfl rfl rfl ?_
 refine rn ?_;refine z7 rfl (w7 rfl rfl rfl fun b2=> ?_)
 refine rn ?_;refine rq 1 ?_
 exact ⟨rfl,rfl⟩
theorem ygp (h:Hist) (la:h.evs.length≤1000000) (W:List Res):y8 Tryz.prog 208 [.agg (y9 h)] W (fun r h'=>∃rm,h'= .map rm (j8 intK (zar bv (zm3 h.evs)))::W∧r=mpv rm):=by
 refine z6 Tryz.func208 rfl rfl rfl ?_
 refine rn ?_;refine z7 rfl (w7 rfl rfl rfl fun b1=> ?_)
 refine rn ?_;refine z7 rfl (zab (enc:=intK) rfl fun b6=> ?_)
 refine z7 rfl (y7 rfl fun b3=> ?_)
 refine rn ?_;refine z7 rfl (q7 rfl rfl (y1.of_fun (zn0 h 5 _)) rfl ?_)
 rintro _ _ ⟨e1,e2,rfl,rfl⟩
 refine rn ?_;refine zfl (s':=⟨[(8,.fn (.func 264) [] [pZ e1,pZ e2]),(3,pZ b3)],.box e1 28 (y9 h):: .box e2 3 [iv 5]:: .box b3 115 [mpv b6]:: .map b6 (j8 intK (zar bv (zm3 (h.evs.take 0)))):: .box b1 28 (y9 h)::W,[]⟩) es ?_
 refine zjt (fun pend h''=>pend=none∧h''= .box b3 115 [mpv b6]:: .map b6 (j8 intK (zar bv (zm3 (h.evs.take h.evs.length)))):: .box b1 28 (y9 h)::W) rfl (fun fn l q lp hlp=> ?_) (fun q h'' hK=> ?_) (fun q h'' c hK=> ?_)
 ·suffices hy:∀k (x:Unit),(hk:k < h.evs.length)→True→(h.evs[k].kind==5)=true→y1 Tryz.prog (yv l) [iv k,.agg (evR h.evs[k])] (.box e1 28 (y9 h):: .box e2 3 [iv 5]::lp .ready none:: .defs q:: .box b3 115 [mpv b6]:: .map b6 (j8 intK (zar bv (zm3 (h.evs.take k)))):: .box b1 28 (y9 h)::W) (fun r h'=>∃x':Unit,(r=bv true∧True∧h'= .box e1 28 (y9 h):: .box e2 3 [iv 5]::lp .ready none:: .defs q:: .box b3 115 [mpv b6]:: .map b6 (j8 intK (zar bv (zm3 (h.evs.take (k+1))))):: .box b1 28 (y9 h)::W)∨(r=bv false∧False∧h'= .box e1 28 (y9 h):: .box e2 3 [iv 5]:: [])) by
   refine y8.mono (y8.perm ((pt2 _ _ _ _).trans (.cons _ (pt2 _ _ _ _))) (zk9 h la 5 (yv l) e1 e2 (fun _ _=>True) (fun _ _=>False) (fun k (_:Unit)=>lp .ready none:: .defs q:: .box b3 115 [mpv b6]:: .map b6 (j8 intK (zar bv (zm3 (h.evs.take k)))):: .box b1 28 (y9 h)::W) (fun _ _=> []) () trivial hy (fun k s hk _ hn=>⟨s,trivial,by rw [yks hk hn]⟩))) ?_
   rintro _ _ (⟨s,_,rfl⟩|⟨_,_,hF,_⟩)
   ·exact ⟨none,.ready,_,.refl _,by simp,rfl,rfl⟩
   ·exact hF.elim
  intro k s hk _ hkd
  refine y1.perm (pt2 _ _ _ _) (y1.ventE ?_)
  refine zcl hlp rfl rfl ?_
  refine rn ?_;refine z7 rfl (y7 rfl fun b5=> ?_)
  refine rn ?_;refine ⟨[(5,pZ b5),(3,pZ b3)],.box b5 60 (evR h.evs[k]):: .box e1 28 (y9 h):: .box e2 3 [iv 5]:: .defs q:: .box b3 115 [mpv b6]:: .map b6 (j8 intK (zar bv (zm3 (h.evs.take k)))):: .box b1 28 (y9 h)::W,v6 (zau (pt1 _ _ _)) es,?_⟩
  refine rn ?_;refine z7 rfl (j7 (g:=bv) (enc:=intK) (k:=h.evs[k].t) (v:=true) rfl rfl rfl ?_)
  refine rn ?_;exact zce (.refl _) ⟨_,_,.trans (.perm ((pt1 _ _ _).trans (.cons _ ((pt1 _ _ _).trans (.cons _ (pt1 _ _ _))))) _) (.drop [_] _ _),(),.inl ⟨rfl,trivial,by rw [ykr hk hkd]⟩⟩
 ·obtain ⟨_,rfl⟩:=hK
  refine rn ?_;exact zfy (.refl _) (.cons _ _ _ _ (.tmp _ _ rfl) .nil) (.trans (.drop1 _ _ _) (.trans (.perm (pt1 _ _ _) _) (.drop [_] _ _))) ⟨b6,by rw [List.take_length],rfl⟩
 ·obtain ⟨hc,_⟩:=hK
  exact absurd hc (by simp)
theorem zy7 {h:Hist} {n many:Int} (he:zfm h n many≠0) (X:List Int):(onE (zfm h n many) X).map za9= []:=by rw [onE,if_neg he];rfl
theorem zx7 {α:Type} (kd:Int) (g:Ev→α) (q:Ev→Bool) (l:List Ev):zec (zix kd (fun _ e=>g e) (fun _ e=>q e)) l l.length=(l.filter fun e=>e.kind==kd && q e).map g:=yb1 (fun _ _=>rfl) l
theorem ydp (h:Hist) (la:Lim 4611686018427387904 h) (n many:Int) (fv:AV) (hone:fv.cellsOf=some [fv]) (X:List Int) (W:List Res) (hp:zfm h n many=0→y1 Tryz.prog fv [] (.glob 2 156 y2:: .glob 4 305 y3:: .glob 5 308 z8:: .glob 3 246 w6::W) (fun r h'=>∃s:SV,h'= .row s.v 1 3 (X.map za9):: .glob 2 156 y2:: .glob 4 305 y3:: .glob 5 308 z8:: .glob 3 246 w6::W∧r= .v s.v)):y8 Tryz.prog 150 [.agg (y9 h),iv n,iv many,fv] (.glob 2 156 y2:: .glob 4 305 y3:: .glob 5 308 z8:: .glob 3 246 w6::W) (fun r h'=>∃s:SV,h'= .row s.v 1 3 ((onE (zfm h n many) X).map za9):: .glob 2 156 y2:: .glob 4 305 y3:: .glob 5 308 z8:: .glob 3 246 w6::W∧r= .tup [.v s.v,iv (zfm h n many)]):=by
 refine z6 Tryz.func150 rfl rfl rfl ?_
 refine rn ?_;refine z7 rfl (w7 rfl rfl rfl fun b4=> ?_)
 refine rn ?_;refine qv rfl rfl (y4 rfl rfl (y1.qt (y1.of_fun (zro h la)) ((pt1 _ _ _).trans (.cons _ ((pt1 _ _ _).trans (.cons _ ((pt1 _ _ _).trans (.cons _ (pt1 _ _ _))))))))) ?_
 refine rn ?_;refine y0 rfl (fun hc15=> ?_) (fun hc15=> ?_)
 ·have hc:q6 h≠0:=by simpa using hc15
  refine rn ?_;exact zbk rfl rfl (.trans (.drop [_] _ _) (zae 1 3 _)) ⟨⟨none,0,0⟩,by rw [zy7 (by rw [ask_c hc];exact hc)];rfl,by rw [ask_c hc];rfl⟩
 ·have hc:q6 h=0:=by simpa using hc15
  refine rn ?_;refine v8 (fun hg5_2=> ?_) (fun hg5_2=> ?_)
  ·refine rn ?_;refine zr8 rfl ?_;have hn:¬(0≤n∧n < many):=by first|(have q:=oT hg5_2;omega)|(have q:=oT hc24;omega)
   refine rn ?_;exact zbk rfl rfl (.trans (.drop [_] _ _) (zae 1 3 _)) ⟨⟨none,0,0⟩,by rw [zy7 (by rw [zva hc hn];decide)];rfl,by rw [zva hc hn];rfl⟩
  ·refine rn ?_;refine y0 rfl (fun hc24=> ?_) (fun hc24=> ?_)
   ·have hn:¬(0≤n∧n < many):=by first|(have q:=oT hg5_2;omega)|(have q:=oT hc24;omega)
    refine rn ?_;exact zbk rfl rfl (.trans (.drop [_] _ _) (zae 1 3 _)) ⟨⟨none,0,0⟩,by rw [zy7 (by rw [zva hc hn];decide)];rfl,by rw [zva hc hn];rfl⟩
   ·have hn:0≤n∧n < many:=by have q:=oF hg5_2;have q':=oF hc24;omega
    refine rn ?_;refine z7 rfl (q7 rfl rfl (y1.fr1 (hp (zsa hc hn))) rfl ?_)
    rintro _ _ ⟨_,rfl,s,rfl,rfl⟩
    refine rn ?_;exact zbk rfl rfl (.drop [_] _ _) ⟨s,by rw [zsa hc hn];rfl,by rw [zsa hc hn];rfl⟩
theorem znu {P:Program} {h:List Res} {f:Operand→Option AV} {dst:Option Tmp} {ty:TypeId} {pos:String} {after:Array Edge} {guard:Option (Nat×Bool)} {x y:Operand} {T E:TypeId} {s:Value} {sz i:Nat} {k:Int} {E':TypeId} {rows:List (List AV)} (hx:f x=some (.v s)) (hy:f y=some (.v (.int .i64 k))) [hr:HasRow h s i sz E' rows] [Und P T (.slice E)] [Siz P E sz] (h0:0≤k) (hk:k.toNat < rows.length):
 QR P h f ⟨dst,.indexAddr T x y,ty,pos,after,guard⟩ (.rp s sz k.toNat 0):=zja hx (by rw [Int.toNat_of_nonneg h0];exact hy) hk
theorem zy8 {h:Hist} {n many:Int} (he:zfm h n many=0):Lim 3000 h:=zrf (zeu (yhk he).1).1
theorem yhj {h:Hist} {n many:Int} (he:zfm h n many=0):h.evs.length≤1000000:=Nat.le_trans (zy8 he).evs (by decide)
theorem zdk {h:Hist} (he:q6 h=0):Lim 3000 h:=zrf (zeu (za0.1 he)).1
theorem yg9 {h:Hist} (he:q6 h=0):h.evs.length≤1000000:=Nat.le_trans (zdk he).evs (by decide)
theorem ycd (l:List Ev):srt (zec (zix 5 (fun _ e=>e.t) (fun _ _=>true)) l l.length)=zcm l:=by
 rw [zcm,zx7 5 Ev.t (fun _=>true)];simp only [Bool.and_true]
theorem ygs (l:List Ev) (x:Int):zec (zix 2 (fun _ e=>e.t) (fun _ e=>e.o==x && (zap e.t (zm3 l)).getD false)) l l.length=yhv l x:=by
 rw [zx7 2 Ev.t (fun e=>e.o==x && (zap e.t (zm3 l)).getD false),yhv];simp only [yb9]
theorem yjg {h:Hist} {x:Int} (hc:decide (zbi (fun o:Ord=>o.o==x) 0 h.ords ≥ 0)=true):∃k,∃hk:k < h.ords.length,zbi (fun o:Ord=>o.o==x) 0 h.ords=(k:Int)∧zaj h x=h.ords[k].ts:=by
 have:=zd9 (fun o:Ord=>o.o==x) h.ords 0
 cases hf:h.ords.find? (fun o=>o.o==x) with
 |none=>rw [hf] at this;simp only at this;rw [this] at hc;exact absurd hc (by decide)
 |some o=>
  rw [hf] at this
  obtain ⟨k,hk,e,eo,_⟩:=this
  exact ⟨k,hk,by rw [e,Nat.zero_add],by rw [zaj,hf,eo]⟩
theorem yjf {h:Hist} {x:Int} (hc:decide (zbi (fun o:Ord=>o.o==x) 0 h.ords ≥ 0)=false):zaj h x=zbj (yhv h.evs x):=by
 have:=zd9 (fun o:Ord=>o.o==x) h.ords 0
 cases hf:h.ords.find? (fun o=>o.o==x) with
 |none=>rw [zaj,hf]
 |some o=>
  rw [hf] at this
  obtain ⟨k,hk,e,eo,_⟩:=this
  rw [e] at hc
  have:=oF hc
  omega
theorem ygq (h:Hist) (la:h.evs.length≤1000000) (b1:Nat):y8 Tryz.prog 172 [pZ b1] (.glob 2 156 y2:: .glob 4 305 y3:: .glob 5 308 z8:: .glob 3 246 w6:: .box b1 28 (y9 h):: []) (fun r h'=>∃s:SV,h'= .row s.v 1 3 ((zcm h.evs).map za9):: .glob 2 156 y2:: .glob 4 305 y3:: .glob 5 308 z8:: .glob 3 246 w6:: .box b1 28 (y9 h):: []∧r= .v s.v):=by
 refine z6 Tryz.func172 rfl rfl rfl ?_
 refine rn ?_;refine z7 rfl (q7 rfl rfl (y1.of_fun (ydo h la 5 _ rfl _ (fun _ e=>e.t) (fun _ _=>true) (fun k hk _=>y1.pure (R:=fun r=>r=_) (y1.of_fun (ygm k h.evs[k]))))) rfl ?_)
 rintro _ _ ⟨s,rfl,rfl⟩
 refine rn ?_;refine z7 rfl (q7 rfl rfl (ze2 (y1.of_fun (zv6 s _ (by have:=(zgl (zix 5 (fun _ e=>e.t) (fun _ e=>true)) h.evs h.evs.length);omega)))) rfl ?_)
 rintro _ _ ⟨rfl,rfl⟩
 refine rn ?_;exact zak rfl (.refl _ _) ⟨s,by rw [ycd],rfl⟩
theorem ygr (h:Hist) (la:Lim 4611686018427387904 h):y8 Tryz.prog 133 [.agg (y9 h)] (.glob 2 156 y2:: .glob 4 305 y3:: .glob 5 308 z8:: .glob 3 246 w6:: []) (fun r h'=>∃s:SV,h'= .row s.v 1 3 ((onE (q6 h) (zcm h.evs)).map za9):: .glob 2 156 y2:: .glob 4 305 y3:: .glob 5 308 z8:: .glob 3 246 w6:: []∧r= .tup [.v s.v,iv (q6 h)]):=by
 refine z6 Tryz.func133 rfl rfl rfl ?_
 refine rn ?_;refine z7 rfl (w7 rfl rfl rfl fun b1=> ?_)
 refine rn ?_;refine z7 rfl (q7 rfl rfl (y1.perm ((pt1 _ _ _).trans (.cons _ ((pt1 _ _ _).trans (.cons _ ((pt1 _ _ _).trans (.cons _ (pt1 _ _ _))))))) (y1.of_fun (ydp h la 0 1 (.fn (.func 172) [] [pZ b1]) rfl (zcm h.evs) [.box b1 28 (y9 h)] (fun he=>y1.of_acall (fs:= []) (cs:= [pZ b1]) (ygq h (yhj he) b1))))) rfl ?_)
 rintro _ _ ⟨s,rfl,rfl⟩
 refine rn ?_;exact zbk rfl rfl (.trans (.perm (pt5 _ _ _ _ _ _ _) _) (.drop [_] _ _)) ⟨s,by rw [yd4],by rw [yd4];rfl⟩
theorem zx1 (h:Hist) (la:Lim 4611686018427387904 h):y8 Tryz.prog 133 [.agg (y9 h)] (.glob 2 156 y2:: .glob 4 305 y3:: .glob 5 308 z8:: .glob 3 246 w6:: []) (fun r h'=>h'= .glob 2 156 y2:: .glob 4 305 y3:: .glob 5 308 z8:: .glob 3 246 w6:: []∧r= .tup [za5 (onE (q6 h) (zcm h.evs)),iv (q6 h)]):=
 (ygr h la).ventR (by rintro _ _ ⟨s,rfl,rfl⟩;exact ⟨_,_,zav [] [_],rfl,rfl⟩)
theorem yj0 (h:Hist) (la:Lim 3000 h) (x:Int) (W:List Res):y8 Tryz.prog 152 [.agg (y9 h),iv x] W (fun r h'=>∃s:SV,h'= .row s.v 1 3 ((zaj h x).map za9)::W∧r= .v s.v):=by
 refine z6 Tryz.func152 rfl rfl rfl ?_
 have le:h.evs.length≤1000000:=Nat.le_trans la.evs (by decide)
 have lo:=la.ords
 refine rn ?_;refine z7 rfl (w7 rfl rfl rfl fun b2=> ?_)
 refine z7 rfl (w7 rfl rfl rfl fun b3=> ?_)
 refine rn ?_;refine qv rfl rfl (y4 rfl rfl (y1.of_fun (zji h.ords _ (fun o:Ord=>o.o==x) _ (fun a _=>y1.qt (y1.of_acall (fs:= []) (cs:= [pZ b3]) (ymt x a b3)) (.refl _)) (Nat.le_trans la.ords (by decide))))) ?_
 refine rn ?_;refine y0 rfl (fun hc13=> ?_) (fun hc13=> ?_)
 ·obtain ⟨k,hk,ek,hx⟩:=yjg hc13
  have rk:=zbs (f:=zet) hk
  rw [ek]
  refine rn ?_;refine z7 rfl (q7 rfl rfl (y1.fr (y1.rowS (y1.of_fun (zlm (h.ords[k].ts.map za9) (by rw [oM];exact Nat.le_trans (la.ordts h.ords[k] (List.getElem_mem hk)) (by decide)) (ziq _)))) (.refl _)) rfl ?_)
  rintro _ _ ⟨_,rfl,s,rfl,rfl⟩
  refine rn ?_;exact zak rfl (.trans (.perm ((pt1 _ _ _).trans (.cons _ (pt1 _ _ _))) _) (.drop [_,_] _ _)) ⟨s,by rw [hx],rfl⟩
 ·have hx:=yjf hc13
  refine rn ?_;refine z7 rfl (q7 rfl rfl (y1.of_fun (ygp h le _)) rfl ?_)
  rintro _ _ ⟨rm,rfl,rfl⟩
  refine z7 rfl (y7 rfl fun b6=> ?_)
  refine rn ?_;refine z7 rfl (q7 rfl rfl (y1.of_fun (ydo h le 2 _ rfl _ (fun _ e=>e.t) (fun _ e=>e.o==x && (zap e.t (zm3 h.evs)).getD false) (fun k hk _=>y1.qt (y1.of_acall (fs:= []) (cs:= [pZ b3,pZ b6]) (ygl k x h.evs[k] b3 b6 rm (zm3 h.evs))) (pt2 _ _ _ _)))) rfl ?_)
  rintro _ _ ⟨s,rfl,rfl⟩
  refine rn ?_;refine z7 rfl (q7 rfl rfl (zf9 (y1.of_fun (zyq s _ (by have:=(zgl (zix 2 (fun _ e=>e.t) (fun _ e=>e.o==x && (zap e.t (zm3 h.evs)).getD false)) h.evs h.evs.length);omega)))) rfl ?_)
  rintro _ _ ⟨s',rfl,rfl⟩
  refine rn ?_;exact zak rfl (.trans (.perm ((pt1 _ _ _).trans (.cons _ ((pt1 _ _ _).trans (.cons _ ((pt1 _ _ _).trans (.cons _ (pt1 _ _ _))))))) _) (.drop [_,_,_,_] _ _)) ⟨s',by rw [hx,ygs],rfl⟩
theorem yjz (h:Hist) (la:Lim 3000 h) (x:Int) (b2 b3:Nat):y8 Tryz.prog 151 [pZ b2,pZ b3] (.glob 2 156 y2:: .glob 4 305 y3:: .glob 5 308 z8:: .glob 3 246 w6:: .box b2 28 (y9 h):: .box b3 3 [iv x]:: []) (fun r h'=>∃s:SV,h'= .row s.v 1 3 ((zaj h x).map za9):: .glob 2 156 y2:: .glob 4 305 y3:: .glob 5 308 z8:: .glob 3 246 w6:: .box b2 28 (y9 h):: .box b3 3 [iv x]:: []∧r= .v s.v):=by
 refine z6 Tryz.func151 rfl rfl rfl ?_
 refine rn ?_;refine z7 rfl (q7 rfl rfl (y1.of_fun (yj0 h la x _)) rfl ?_)
 rintro _ _ ⟨s,rfl,rfl⟩
 refine rn ?_;exact zak rfl (.refl _ _) ⟨s,rfl,rfl⟩
theorem ygn (h:Hist) (la:Lim 4611686018427387904 h) (x:Int):y8 Tryz.prog 101 [.agg (y9 h),iv x] (.glob 2 156 y2:: .glob 4 305 y3:: .glob 5 308 z8:: .glob 3 246 w6:: []) (fun r h'=>∃s:SV,h'= .row s.v 1 3 ((onE (zfm h x h.os.length) (zaj h x)).map za9):: .glob 2 156 y2:: .glob 4 305 y3:: .glob 5 308 z8:: .glob 3 246 w6:: []∧r= .tup [.v s.v,iv (zfm h x h.os.length)]):=by
 refine z6 Tryz.func101 rfl rfl rfl ?_
 refine rn ?_;refine z7 rfl (w7 rfl rfl rfl fun b2=> ?_)
 refine z7 rfl (w7 rfl rfl rfl fun b3=> ?_)
 refine rn ?_;refine z7 rfl (q7 rfl rfl (y1.perm ((pt2 _ _ _ _).trans (.cons _ ((pt2 _ _ _ _).trans (.cons _ ((pt2 _ _ _ _).trans (.cons _ ((pt2 _ _ _ _).trans (.cons _ (pt1 _ _ _))))))))) (y1.of_fun (ydp h la x (h.os.map zfn).length (.fn (.func 151) [] [pZ b2,pZ b3]) rfl (zaj h x) [.box b2 28 (y9 h),.box b3 3 [iv x]] (fun he=>y1.of_acall (fs:= []) (cs:= [pZ b2,pZ b3]) (yjz h (zy8 he) x b2 b3))))) rfl ?_)
 rintro _ _ ⟨s,rfl,rfl⟩
 refine rn ?_;exact zbk rfl rfl (.trans (.perm ((pt5 _ _ _ _ _ _ _).trans (.cons _ (pt5 _ _ _ _ _ _ _))) _) (.drop [_,_] _ _)) ⟨s,by simp only [oM],by simp only [oM];rfl⟩
theorem ydm (h:Hist) (la:Lim 4611686018427387904 h) (x:Int):y8 Tryz.prog 101 [.agg (y9 h),iv x] (.glob 2 156 y2:: .glob 4 305 y3:: .glob 5 308 z8:: .glob 3 246 w6:: []) (fun r h'=>h'= .glob 2 156 y2:: .glob 4 305 y3:: .glob 5 308 z8:: .glob 3 246 w6:: []∧r= .tup [za5 (onE (zfm h x h.os.length) (zaj h x)),iv (zfm h x h.os.length)]):=
 (ygn h la x).ventR (by rintro _ _ ⟨s,rfl,rfl⟩;exact ⟨_,_,zav [] [_],rfl,rfl⟩)
theorem ym6 {l:List Ev} {t x:Int} {a:Nat} (ha:l.length≤a) (h0:(((zec (ze1 t x a) l l.length).map ziz).length:Int)=0):zlz l t x=none:=by
 have hl:=ziy l t x a l.length (Nat.le_refl _)
 rw [Nat.min_eq_left ha] at hl
 rw [zlz,←hl]
 generalize zec (ze1 t x a) l l.length=L at *
 rw [oM] at h0
 cases L with
 |nil=>rfl
 |cons b r=>rw [List.length_cons] at h0;omega
theorem ym5 {l:List Ev} {t x:Int} {a:Nat} (h0:(((zec (ze1 t x a) l l.length).map ziz).length:Int)≠0):∃p,zd4 l t x (min l.length a)=some p∧((zec (ze1 t x a) l l.length).map ziz)[((((zec (ze1 t x a) l l.length).map ziz).length:Int) - 1).toNat]? =some (ziz p)∧0≤(((zec (ze1 t x a) l l.length).map ziz).length:Int) - 1∧((((zec (ze1 t x a) l l.length).map ziz).length:Int) - 1).toNat < ((zec (ze1 t x a) l l.length).map ziz).length:=by
 have hl:=ziy l t x a l.length (Nat.le_refl _)
 generalize zec (ze1 t x a) l l.length=L at *
 rw [oM] at h0 ⊢
 have hn:0 < L.length:=by omega
 refine ⟨L[L.length - 1],?_,?_,by omega,by omega⟩
 ·rw [←hl,List.getLast?_eq_getElem?,List.getElem?_eq_getElem (by omega)]
 ·rw [show ((L.length:Int) - 1).toNat=L.length - 1 by omega,List.getElem?_map,List.getElem?_eq_getElem (by omega)];rfl
def yb6 (h:Hist) (t x:Int):Ver×Nat:=(zlz h.evs t x).getD (⟨0,0⟩,0)
theorem ykg (h:Hist) (t x:Int):(yb6 h t x).1=zzn (zlz h.evs t x):=by rw [yb6];cases zlz h.evs t x <;> rfl
theorem ykh (h:Hist) (t x:Int):(((yb6 h t x).2:Nat):Int)=atO (zlz h.evs t x):=by rw [yb6];cases zlz h.evs t x <;> rfl
def yhy (h:Hist) (t x:Int):Option (Ver×Nat):=if q6 h=0 then zlz h.evs t x else none
theorem ybv (h:Hist) (la:h.evs.length≤1000000) (t x:Int) (a:Nat) (W:List Res):y8 Tryz.prog 153 [.agg (y9 h),iv t,iv x,iv a] W (fun r h'=>∃s:SV,h'= .row s.v 3 139 ((zec (ze1 t x a) h.evs h.evs.length).map ziz)::W∧r= .v s.v):=by
 refine z6 Tryz.func153 rfl rfl rfl ?_
 refine rn ?_;refine z7 rfl (w7 rfl rfl rfl fun b4=> ?_)
 refine z7 rfl (w7 rfl rfl rfl fun b5=> ?_)
 refine z7 rfl (w7 rfl rfl rfl fun b6=> ?_)
 refine z7 rfl (w7 rfl rfl rfl fun b7=> ?_)
 refine rn ?_;refine z7 rfl (q7 rfl rfl (y1.of_fun (yj1 h la 2 _ rfl _ (fun k e=>(e.v,k)) (fun k e=>e.t==t && e.o==x && decide (k < a)) (fun k hk _=>y1.qt (y1.of_acall (fs:= []) (cs:= [pZ b5,pZ b6,pZ b7]) (ygk k a t x h.evs[k] b5 b6 b7)) ((pt2 _ _ _ _).trans (.cons _ (pt1 _ _ _)))))) rfl ?_)
 rintro _ _ ⟨s,rfl,rfl⟩
 refine rn ?_;exact zak rfl (.trans (.perm ((pt1 _ _ _).trans (.cons _ ((pt1 _ _ _).trans (.cons _ ((pt1 _ _ _).trans (.cons _ (pt1 _ _ _))))))) _) (.drop [_,_,_,_] _ _)) ⟨s,rfl,rfl⟩
theorem ymu (h:Hist) (la:h.evs.length≤1000000) (t x:Int) (W:List Res):y8 Tryz.prog 104 [.agg (y9 h),iv t,iv x] W (fun r h'=>h'=W∧r= .tup [.agg (ziz (yb6 h t x)),bv (zlz h.evs t x).isSome]):=by
 refine z6 Tryz.func104 rfl rfl rfl ?_
 refine rn ?_;refine z7 rfl (w7 rfl rfl rfl fun b3=> ?_)
 refine z7 rfl (y7 rfl fun b6=> ?_)
 refine q1 ?_;refine u4 (zai ?_)
 refine w9 (y6 ?_)
 refine q1 ?_;refine q1 ?_;refine q1 ?_;refine q1 ?_;refine q1 ?_;refine q1 ?_;rw [oM]
 refine z7 rfl (q7 rfl rfl (y1.of_fun (ybv h la t x h.evs.length _)) rfl ?_)
 rintro _ _ ⟨s,rfl,rfl⟩
 refine rn ?_;refine y0 rfl (fun hc18=> ?_) (fun hc18=> ?_)
 ·have hw:=ym6 (l:=h.evs) (t:=t) (x:=x) (a:=h.evs.length) (Nat.le_refl _) (by simpa using hc18)
  refine w9 (y6 ?_)
  refine qq rfl rfl (u9 (out:= [iv 0,iv 0,iv 0]) rfl (by rfl)) ?_
  refine rn ?_;exact zdw (.cons _ _ _ _ (.agg _ _ _ _ _ _ _ rfl inferInstance inferInstance inferInstance rfl) (.cons _ _ _ _ (.tmp _ _ rfl) .nil)) (.drop [_,_,_] _ _) ⟨rfl,by rw [yb6,hw];rfl⟩
 ·obtain ⟨p,hp,f1,f2,f3⟩:=ym5 (l:=h.evs) (t:=t) (x:=x) (a:=h.evs.length) (by simpa using hc18)
  rw [Nat.min_self] at hp
  have hL:=zgl (ze1 t x h.evs.length) h.evs h.evs.length
  refine zbz ?_;refine zai ?_;refine w9 (y6 ?_)
  refine q1 ?_;refine q1 ?_;refine q1 ?_;refine qq rfl rfl (zf0 rfl rfl rfl (by rw [oM];omega)) ?_
  refine qq rfl rfl (znu rfl rfl f2 f3) ?_
  refine qq rfl rfl (zgy rfl f1 rfl) ?_
  refine rn ?_;exact zdw (.cons _ _ _ _ (.agg _ _ _ _ _ _ _ rfl inferInstance inferInstance inferInstance rfl) (.cons _ _ _ _ (.tmp _ _ rfl) .nil)) (.drop [_,_,_] _ _) ⟨rfl,by rw [yb6,zlz,hp];rfl⟩
theorem ygo (h:Hist) (la:Lim 4611686018427387904 h) (t x:Int):y8 Tryz.prog 121 [.agg (y9 h),iv t,iv x] (.glob 2 156 y2:: .glob 4 305 y3:: .glob 5 308 z8:: .glob 3 246 w6:: []) (fun r h'=>h'= .glob 2 156 y2:: .glob 4 305 y3:: .glob 5 308 z8:: .glob 3 246 w6:: []∧r= .tup [.agg (yc5 (zzn (yhy h t x))),iv (atO (yhy h t x)),bv (yhy h t x).isSome]):=by
 refine z6 Tryz.func121 rfl rfl rfl ?_
 refine rn ?_;refine z7 rfl (w7 rfl rfl rfl fun b3=> ?_)
 refine z7 rfl (y7 rfl fun b6=> ?_)
 refine rn ?_;refine qv rfl rfl (y4 rfl rfl (y1.qt (y1.of_fun (zro h la)) ((pt2 _ _ _ _).trans (.cons _ ((pt2 _ _ _ _).trans (.cons _ ((pt2 _ _ _ _).trans (.cons _ (pt2 _ _ _ _))))))))) ?_
 refine rn ?_;refine y0 rfl (fun hc13=> ?_) (fun hc13=> ?_)
 ·have hc:q6 h≠0:=by simpa using hc13
  refine w9 (y6 ?_)
  refine qq rfl rfl (u9 (out:= [iv 0,iv 0]) rfl (by rfl)) ?_
  refine rn ?_;exact zdw (.cons _ _ _ _ (.agg _ _ _ _ _ _ _ rfl inferInstance inferInstance inferInstance rfl) (.cons _ _ _ _ (.tmp _ _ rfl) (.cons _ _ _ _ (.tmp _ _ rfl) .nil))) (.drop [_,_] _ _) ⟨rfl,by rw [yhy,if_neg hc];rfl⟩
 ·have hc:q6 h=0:=by simpa using hc13
  refine rn ?_;refine qv rfl rfl (y4 rfl rfl (y1.of_fun (ymu h (yg9 hc) t x _))) ?_
  refine rn ?_;refine z7 rfl (y7 rfl fun b9=> ?_)
  refine rn ?_;refine zdn 7 [(b6,57,_)] rfl ((pt1 _ _ _).trans (List.perm_append_comm (l₁:= [_]))) ?_
  refine rn ?_;refine dw 0 rfl rfl rfl rfl rfl (Nat.le_of_ble_eq_true rfl) ?_
  refine rn2 ?_;show zb8 _ _ _ _ _ _ ⟨_,.box b6 57 (yc5 (yb6 h t x).1):: .box b9 139 (ziz (yb6 h t x)):: .box b3 28 (y9 h):: .glob 2 156 y2:: .glob 4 305 y3:: .glob 5 308 z8:: .glob 3 246 w6:: [],_⟩
  refine rn ?_;exact zdw (.cons _ _ _ _ (.agg _ _ _ _ _ _ _ rfl inferInstance inferInstance inferInstance rfl) (.cons _ _ _ _ (.tmp _ _ rfl) (.cons _ _ _ _ (.tmp _ _ rfl) .nil))) (.drop [_,_,_] _ _) ⟨rfl,by rw [yhy,if_pos hc,←ykg,←ykh];rfl⟩
end Go.Proofs
namespace Go.Ab
open Go
section
variable {P:Program} {ro:Option Nat} {nt:Nat} {c:Code} {Q:Exit→St→Prop} {t:Fr} {h:List Res} {ds:List Nat}
end
end Go.Ab
set_option maxRecDepth 10000
namespace Go.Proofs
open Go Go.Ab
attribute [local irreducible] QR QV OE zb8 aw zch zcv za4 zbx thn zeg
open Go.H
attribute [local irreducible] zdc jch zef
end Go.Proofs
namespace Go.Ab
open Go
section
variable {P:Program} {dst:Option Tmp} {ty:TypeId} {pos:String} {after:Array Edge} {guard:Option (Nat×Bool)} {x:Operand} {h:List Res} {f:Operand→Option AV}
end
end Go.Ab
set_option maxRecDepth 10000
namespace Go.Proofs
open Go Go.Ab
attribute [local irreducible] QR QV OE zb8 aw zch zcv za4 zbx thn zeg
open Go.H
attribute [local irreducible] zdc jch zef
theorem yjt {l:List Ev} {t x:Int} {j:Nat} (h:j < l.length) (hw:zbo t x l[j]=true):zd4 l t x (j+1)=some (l[j].v,j):=by
 rw [zd4,List.getElem?_eq_getElem h];simp only [hw,if_true]
theorem zxo {l:List Ev} {t x:Int} {j:Nat} (h:j < l.length) (hw:zbo t x l[j]=false):zd4 l t x (j+1)=zd4 l t x j:=by
 rw [zd4,List.getElem?_eq_getElem h];simp [hw]
theorem ydq (a b:Int):(decide (a ≥ 0) && decide (a < b))=decide (0≤a∧a < b):=by
 rw [Bool.eq_iff_iff];simp only [Bool.and_eq_true,decide_eq_true_eq,ge_iff_le]
theorem zx5 {h:Hist} {N:Nat} (la:Lim N h) (x:Int):(zoj h x).length≤N:=by
 unfold zoj
 split
 ·rename_i o ho;exact la.ordts o (List.mem_of_find?_eq_some ho)
 ·exact Nat.le_trans (zqh _ _) la.ts
def wlM (l:List Ev):Nat→List ((Int×Int)×Int)
 |0=> []
 |k+1=>match l[k]? with
  |some e=>if (e.kind==2)=true then zcq (e.t,e.o) (k:Int) (wlM l k) else wlM l k
  |none=>wlM l k
theorem yej {l:List Ev} {k:Nat} (hk:k < l.length) (hw:(l[k].kind==2)=true):wlM l (k+1)=zcq (l[k].t,l[k].o) (k:Int) (wlM l k):=by
 rw [wlM,List.getElem?_eq_getElem hk];simp only [hw,if_true]
theorem yek {l:List Ev} {k:Nat} (hk:k < l.length) (hw:(l[k].kind==2)=false):wlM l (k+1)=wlM l k:=by
 rw [wlM,List.getElem?_eq_getElem hk];simp only [hw];rfl
theorem zvt (l:List Ev) (t x:Int):∀k,k≤l.length→(zap (t,x) (wlM l k)).getD 0=atO (zd4 l t x k)
 |0,_=>rfl
 |k+1,hk=>by
  have ih:=zvt l t x k (by omega)
  have hk':k < l.length:=hk
  cases hw:l[k].kind==2 with
  |false=>
   have:zbo t x l[k]=false:=by rw [zbo,hw];rfl
   rw [yek hk' hw,zxo hk' this,ih]
  |true=>
   rw [yej hk' hw,zbl]
   cases hq:zbo t x l[k] with
   |true=>
    rw [yjt hk' hq,if_pos]
    ·rfl
    ·simp only [zbo,Bool.and_eq_true,beq_iff_eq] at hq
     rw [hq.1.2,hq.2]
   |false=>
    rw [zxo hk' hq,if_neg,ih]
    intro e
    rw [Prod.mk.injEq] at e
    simp [zbo,hw,e.1,e.2] at hq
theorem zsk (h:Hist) (t x:Int):(zap (t,x) (wlM h.evs h.evs.length)).getD 0=zcd h t x:=zvt _ _ _ _ (Nat.le_refl _)
abbrev ydr (h:Hist):AV:= .list false 1 (((upR h.os.length).map (zaj h)).map yan)
abbrev zbr (h:Hist) (rm:Nat):Res:= .map rm (j8 zag (zar iv (wlM h.evs h.evs.length)))
theorem zh3 (h:Hist) {x:Int} (h0:0≤x) (h1:x < h.os.length):(((upR h.os.length).map (zaj h)).map yan)[x.toNat]? =some (yan (zaj h x)):=by
 have hx:(upR h.os.length)[x.toNat]? =some x:=by
  rw [upR,List.getElem?_map,List.getElem?_range (by omega)];simp [Int.toNat_of_nonneg h0]
 rw [List.getElem?_map,List.getElem?_map,hx];rfl
theorem ydn (h:Hist) (la:Lim 4611686018427387904 h) (hc:q6 h=0) (x:Int) (h0:0≤x) (h1:x < h.os.length):y8 Tryz.prog 101 [.agg (y9 h),iv x] (.glob 2 156 y2:: .glob 4 305 y3:: .glob 5 308 z8:: .glob 3 246 w6:: []) (fun r h'=>h'= .glob 2 156 y2:: .glob 4 305 y3:: .glob 5 308 z8:: .glob 3 246 w6:: []∧r= .tup [za5 (zaj h x),iv 0]):=(ydm h la x).mono fun _ _ q=>⟨q.1,by rw [q.2,zsa hc ⟨h0,h1⟩];rfl⟩
theorem zla {h:Hist} (hc:q6 h=0) {x:Int} (h0:0≤x) (h1:x < h.os.length):(zaj h x).length≤3000:=by
 rw [(zhe (za0.1 hc) h0 h1).2.1]
 exact Nat.le_trans (zih h.evs x) (zdk hc).evs
end Go.Proofs
namespace Go.H
open Go Go.Ab
def zxz (k:Int):Int:=if k=3 then 3 else if k=4 then 4 else 0
def KO (o:Obj):Prop:=∃(ents:Array MapEntry) (clock:Nat) (m:List (Int×Int)),o= .map ents clock∧ents.toList.map (·.key)=(m.map (·.1)).map intK∧(∀i (h1:i < m.length) (h2:i < ents.size),ents[i].val= .int .i64 m[i].2)∧m.length=ents.size∧∀k,(zap k m).getD 0=zxz k
section
variable {P:Program} {dst:Option Tmp} {ty:TypeId} {pos:String} {after:Array Edge} {guard:Option (Nat×Bool)} {x y:Operand} {h:List Res} {f:Operand→Option AV} {kt et T:TypeId} {r i:Nat} {k:Int}
theorem yax {kv:AV} {o:Obj} {z:Value} (ho:KO o) (hx:f x=some (.v (.map (some r)))) (hy:f y=some kv) [hkv:KeyV kv (intK k)] [hm:HasObj h r i o] [hu:Und P T (.map kt et)] [hkt:KeyT P kt intK] [hz:ZerV P et z] [hd:ZV z (iv 0)]:
 QR P h f ⟨dst,.lookup T x y false,ty,pos,after,guard⟩ (iv (zxz k)):=by
 obtain ⟨ents,clock,m,rfl,hks,hv,hl,hk⟩:=ho
 rw [←hk]
 refine zen (b:=iv ((zap k m).getD 0)) (a:=(zcw k (zar iv m)).getD (.v z)) (fun w O v hr=>zj7 hr) fun X ρ w hev=> ?_
 have hob:=(hev.heap.holds _ (List.mem_of_getElem? hm.h)).1
 have hl':(zar iv m).length=ents.toList.length:=by simpa [zar] using hl
 have hks':ents.toList.map (·.key)=((zar iv m).map (·.1)).map intK:=by rw [hks];simp [zar]
 have hfind:=hkt.find w k ents.toList ((zar iv m).map (·.1)) hks'
 have hkey:=hkv.h w _ _ (hev.rel y _ hy)
 rcases zi2 k (zar iv m) ents.toList 0 hl' with ⟨a,b,c⟩|⟨j,g1,g2,a,b,c,d⟩
 ·refine ⟨z,run_v _ ?_,by rw [b];exact .v _⟩
  rw [(hev.rel x _ hx).v_eq,hkey]
  simp only [Instr.lookup,Sem.run_bind,Go.Ab.run_underlying (h:=hu),Result.andThen_ok,MapKept.run_getObj_map hob,Sem.run_pure,hkt.chk,hfind]
  rw [a]
  simp [run_zeroValue hz.h]
 ·have g3:j < m.length:=by simpa [zar] using g1
  refine ⟨(ents[j]'(by simpa using g2)).val,run_v _ ?_,?_⟩
  ·rw [(hev.rel x _ hx).v_eq,hkey]
   simp only [Instr.lookup,Sem.run_bind,Go.Ab.run_underlying (h:=hu),Result.andThen_ok,MapKept.run_getObj_map hob,Sem.run_pure,hkt.chk,hfind]
   rw [a]
   simp
  ·rw [b,hv j g3 (by omega)]
   simp only [zar,List.getElem_map,Option.getD_some]
   exact .v _
end
end Go.H
set_option maxRecDepth 10000
namespace Go.Proofs
open Go Go.Ab
attribute [local irreducible] QR QV OE zb8 aw zch zcv za4 zbx thn zeg zdc jch zef
open Go.H
abbrev rcR (h:Hist) (rc:Nat):Res:= .map rc (j8 intK (zar bv (dnM (zcm h.evs))))
abbrev rkS (h:Hist) (rk:Nat):Res:= .map rk (j8 zcr (zar iv (rkM h h.os.length)))
abbrev rgR (rg:Nat) (M:List ((Int×Int)×List Int)):Res:= .map rg (j8 zag (zar za5 M))
abbrev rwP (h:Hist) (rc rl rk rg:Nat):List AV:=y9 h++ [mpv rc,ydr h,mpv rl,mpv rk,mpv rg]
instance:ZV (.slice none 0 0) (za5 []):=⟨fun w O u h=>by rw [h.v_eq];exact .lnil _ _ _ _ (fun q=>by cases q)⟩
theorem yiq (h:Hist) (n:Nat):rkM h (n+1)=zem h n 0 (zaj h n) (zcq (zop n ⟨0,0⟩) 0 (rkM h n)):=rfl
def zek (h:Hist) (M:List ((Int×Int)×List Int)):Prop:=∀p l,zap p M=some l→l=chL h p.1 p.2
theorem zkg (h:Hist):zek h []:=fun p l e=>by cases e
theorem zkf {h:Hist} {M:List ((Int×Int)×List Int)} (hM:zek h M) (p x:Int):zek h (zcq (p,x) (chL h p x) M):=fun q l e=>by
 rw [zbl] at e
 split at e
 ·rename_i z;injection e with e;rw [←e,←z]
 ·exact hM q l e
theorem zkh {h:Hist} {M:List ((Int×Int)×List Int)} (hM:zek h M) {p x:Int} (hs:(!(zap (p,x) M).isSome)=false):(zap (p,x) M).getD []=chL h p x:=by
 cases hq:zap (p,x) M with
 |none=>rw [hq] at hs;simp at hs
 |some v=>exact hM (p,x) v hq
theorem zts {h:Hist} {M:List ((Int×Int)×List Int)} (p x:Int):(zap (p,x) (zcq (p,x) (chL h p x) M)).getD []=chL h p x:=by rw [zbl,if_pos rfl];rfl
instance:Chk3 Tryz.prog 170:=⟨fun e w a b c=>by kernel_rfl⟩
theorem yof (h:Hist) (la:Lim 4611686018427387904 h):y8 Tryz.prog 87 [.agg (y9 h)] (.glob 2 156 y2:: .glob 4 305 y3:: .glob 5 308 z8:: .glob 3 246 w6:: []) (fun r h'=>(q6 h=0∧∃rc rl rk rg,h'=rgR rg []::rkS h rk::zbr h rl::rcR h rc:: .glob 2 156 y2:: .glob 4 305 y3:: .glob 5 308 z8:: .glob 3 246 w6:: []∧r= .tup [.agg (rwP h rc rl rk rg),iv 0])∨(q6 h≠0∧h'= .glob 2 156 y2:: .glob 4 305 y3:: .glob 5 308 z8:: .glob 3 246 w6:: []∧r= .tup [.agg (zl7++ [nmp,.v (.slice none 0 0),nmp,nmp,nmp]),iv (q6 h)])):=by
 refine z6 Tryz.func87 rfl rfl rfl ?_
 refine rn ?_;refine z7 rfl (w7 rfl rfl rfl fun b1=> ?_)
 refine z7 rfl (y7 rfl fun b2=> ?_)
 refine rn ?_;refine qv rfl rfl (y4 rfl rfl (y1.qt (y1.of_fun (zx1 h la)) ((pt2 _ _ _ _).trans (.cons _ ((pt2 _ _ _ _).trans (.cons _ ((pt2 _ _ _ _).trans (.cons _ (pt2 _ _ _ _))))))))) ?_
 refine rn ?_;refine y0 rfl (fun hc22=> ?_) (fun hc22=> ?_)
 ·have hc:=nzT hc22
  refine rn ?_;exact zdw (.cons _ _ _ _ (.agg _ _ _ _ _ _ _ rfl inferInstance inferInstance inferInstance rfl) (.cons _ _ _ _ (.tmp _ _ rfl) .nil)) (.drop [_,_] _ _) (.inr ⟨hc,rfl,rfl⟩)
 ·have hc:=nzF hc22
  have hts:onE (q6 h) (zcm h.evs)=(zcm h.evs):=by rw [hc,onE,if_pos rfl]
  rw [hts]
  have hs:=za0.1 hc
  have lA:=zdk hc
  have lO:=lA.os
  have lE:=lA.evs
  have bC:=Nat.le_trans (zyr h.evs) lA.evs
  refine rn ?_;refine z7 rfl (zab (enc:=intK) rfl fun b26=> ?_)
  refine z7 rfl (zab (enc:=zag) rfl fun b27=> ?_)
  refine z7 rfl (zab (enc:=zcr) rfl fun b28=> ?_)
  refine z7 rfl (zab (enc:=zag) rfl fun b29=> ?_)
  refine qq rfl rfl (u9 (out:=y9 h++ [mpv b26,.v (.slice none 0 0),mpv b27,mpv b28,mpv b29]) rfl (by rfl)) ?_
  refine z7 rfl (y7 rfl fun b6=> ?_)
  refine rn ?_;refine zbn (zcm h.evs).length (fun _=>True) (fun k=>⟨[(33,iv k),(1,pZ b1),(2,pZ b2),(6,pZ b6),(31,za5 (zcm h.evs)),(32,iv ((zcm h.evs).map za9).length)],.box b6 119 (y9 h++ [mpv b26,.v (.slice none 0 0),mpv b27,mpv b28,mpv b29]):: .map b29 (j8 zag (zar za5 [])):: .map b28 (j8 zcr (zar iv [])):: .map b27 (j8 zag (zar iv (wlM h.evs 0))):: .map b26 (j8 intK (zar bv (dnM ((zcm h.evs).take k)))):: .box b2 119 (zl7++ [nmp,.v (.slice none 0 0),nmp,nmp,nmp]):: .box b1 28 (y9 h):: .glob 2 156 y2:: .glob 4 305 y3:: .glob 5 308 z8:: .glob 3 246 w6:: [],[]⟩) trivial es ?_
  intro k lk _
  refine rn ?_;refine y0 rfl (fun hc34=> ?_) (fun hc34=> ?_)
  ·have hk:=zdb hc34
   have rk:=zbs (f:=za9) hk
   refine rn ?_;refine z7 rfl (j7 (g:=bv) (enc:=intK) (k:=(zcm h.evs)[k]) (v:=true) rfl rfl rfl ?_)
   refine rn ?_;exact ⟨hk,trivial,by rw [ykt hk];exact eA⟩
  ·have qk:=zdd hc34 lk
   rw [qk,List.take_length]
   refine rn ?_;refine zbn h.evs.length (fun _=>True) (fun j=>⟨[(44,iv j),(1,pZ b1),(2,pZ b2),(6,pZ b6),(42,zvg h.evs),(43,iv (h.evs.map evR).length)],.box b6 119 (y9 h++ [mpv b26,.v (.slice none 0 0),mpv b27,mpv b28,mpv b29]):: .map b29 (j8 zag (zar za5 [])):: .map b28 (j8 zcr (zar iv [])):: .map b27 (j8 zag (zar iv (wlM h.evs j))):: .map b26 (j8 intK (zar bv (dnM (zcm h.evs)))):: .box b2 119 (zl7++ [nmp,.v (.slice none 0 0),nmp,nmp,nmp]):: .box b1 28 (y9 h):: .glob 2 156 y2:: .glob 4 305 y3:: .glob 5 308 z8:: .glob 3 246 w6:: [],[]⟩) trivial es ?_
   intro j lj _
   refine rn ?_;refine y0 rfl (fun hc45=> ?_) (fun hc45=> ?_)
   ·have hj:=zdb hc45
    have rj:=zbs (f:=evR) hj
    refine rn ?_;refine z7 rfl (y7 rfl fun b10=> ?_)
    refine rn ?_;refine y0 rfl (fun hc51=> ?_) (fun hc51=> ?_)
    ·have hw:(h.evs[j].kind==2)=true:=by simpa using hc51
     refine y6 ?_;refine q1 ?_;refine q1 ?_;refine q1 ?_;refine q1 ?_;refine q1 ?_;refine q1 ?_;refine qq rfl rfl (za7 (out:= [iv h.evs[j].t,iv h.evs[j].o]) rfl (by rfl)) ?_
     refine rn ?_;refine z7 rfl (j7 (g:=iv) (enc:=zag) (k:=(h.evs[j].t,h.evs[j].o)) (v:=(j:Int)) rfl rfl rfl ?_)
     refine rn ?_;first|exact ⟨hj,trivial,by rw [yej hj hw];exact eA⟩|exact ⟨hj,trivial,by rw [yek hj hw];exact eA⟩
    ·have hw:(h.evs[j].kind==2)=false:=by simpa using hc51
     refine rn ?_;first|exact ⟨hj,trivial,by rw [yej hj hw];exact eA⟩|exact ⟨hj,trivial,by rw [yek hj hw];exact eA⟩
   ·have qj:=zdd hc45 lj
    subst qj
    refine rn ?_;refine zlv h.os.length (fun k s=>⟨[(64,iv k),(1,pZ b1),(2,pZ b2),(6,pZ b6),(63,iv (h.os.map zfn).length)],.row s.v 1 29 (((upR k).map (zaj h)).map yan):: .box b6 119 (y9 h++ [mpv b26,.v s.v,mpv b27,mpv b28,mpv b29]):: .map b29 (j8 zag (zar za5 [])):: .map b28 (j8 zcr (zar iv (rkM h k))):: .map b27 (j8 zag (zar iv (wlM h.evs h.evs.length))):: .map b26 (j8 intK (zar bv (dnM (zcm h.evs)))):: .box b2 119 (zl7++ [nmp,.v (.slice none 0 0),nmp,nmp,nmp]):: .box b1 28 (y9 h):: .glob 2 156 y2:: .glob 4 305 y3:: .glob 5 308 z8:: .glob 3 246 w6:: [],[]⟩) ⟨none,0,0⟩ (v6 (zaz 1 29) es) ?_
    intro k s lk
    refine rn ?_;refine y0 rfl (fun hc65=> ?_) (fun hc65=> ?_)
    ·have hk:k < h.os.length:=by have q:=oT hc65;rw [oM] at q;omega
     have k0:(0:Int)≤(k:Int):=by omega
     have k1:(k:Int) < h.os.length:=by omega
     have hb:=zla hc k0 k1
     refine rn ?_;refine qv rfl rfl (y4 rfl rfl (y1.qt (y1.of_fun (ydn h la hc k k0 k1)) ((pt8 _ _ _ _ _ _ _ _ _ _).trans (.cons _ ((pt8 _ _ _ _ _ _ _ _ _ _).trans (.cons _ ((pt8 _ _ _ _ _ _ _ _ _ _).trans (.cons _ (pt8 _ _ _ _ _ _ _ _ _ _))))))))) ?_
     refine rn ?_;refine qv rfl rfl (w8 rfl rfl) ?_
     refine z7 rfl (j6 rfl rfl (by simp only [oM,upR,List.length_range,List.length_cons,List.length_nil];omega) rfl (fun s77=> ?_) (fun r hr=>by rw [List.mem_singleton.1 hr];rfl))
     refine zal s77 fun sv hsv=> ?_
     subst hsv
     refine q1 ?_;first|refine z7 rfl (u7 rfl rfl rfl ?_)|refine z7 rfl (zad rfl rfl rfl rfl (Nat.le_of_ble_eq_true rfl) ?_)
     refine u4 (zai ?_)
     refine w9 (y6 ?_)
     refine q1 ?_;refine q1 ?_;refine q1 ?_;refine qq rfl rfl (u9 (out:= [iv k,iv 0,iv 0]) rfl (by rfl)) ?_
     refine z7 rfl (j7 (g:=iv) (enc:=zcr) (k:=((k:Int),(0:Int),(0:Int))) (v:=(0:Int)) rfl rfl rfl ?_)
     refine rn ?_;refine zbn (zaj h k).length (fun _=>True) (fun j=>⟨[(85,iv j),(1,pZ b1),(2,pZ b2),(6,pZ b6),(11,iv k),(63,iv (h.os.map zfn).length),(64,iv k),(83,za5 (zaj h k)),(84,iv ((zaj h k).map za9).length)],.row sv.v 1 29 (((upR k).map (zaj h)).map yan++ [yan (zaj h k)]):: .box b6 119 (y9 h++ [mpv b26,.v sv.v,mpv b27,mpv b28,mpv b29]):: .map b29 (j8 zag (zar za5 [])):: .map b28 (j8 zcr (zar iv (zem h k 0 ((zaj h k).take j) (zcq (zop k ⟨0,0⟩) 0 (rkM h k))))):: .map b27 (j8 zag (zar iv (wlM h.evs h.evs.length))):: .map b26 (j8 intK (zar bv (dnM (zcm h.evs)))):: .box b2 119 (zl7++ [nmp,.v (.slice none 0 0),nmp,nmp,nmp]):: .box b1 28 (y9 h):: .glob 2 156 y2:: .glob 4 305 y3:: .glob 5 308 z8:: .glob 3 246 w6:: [],[]⟩) trivial es ?_
     intro j lj _
     refine rn ?_;refine y0 rfl (fun hc86=> ?_) (fun hc86=> ?_)
     ·have hj:=zdb hc86
      have rj:=zbs (f:=za9) hj
      obtain ⟨i,hi,a1,a2, -⟩:=ztc hs k0 k1 hj
      have ri:=zbs (f:=evR) hi
      have hfv:zgn h k (zaj h k)[j]=h.evs[i].v:=by rw [zgn,a1];rfl
      refine rn ?_;refine j3 17 rfl ?_
      refine dq rfl rfl qrA ?_;refine dq rfl rfl qrA ?_;refine dq rfl rfl qrA ?_;refine dq rfl rfl qrA ?_;refine dq rfl rfl qrA ?_;refine dq rfl rfl qrA ?_;refine dq rfl rfl qrA ?_;refine dq rfl rfl qrA ?_;refine dq rfl rfl qrA ?_;refine dq rfl rfl (za7 (out:= [iv (zaj h k)[j],iv k]) rfl (by rfl)) ?_
      refine dq rfl rfl (zq6 (zay (enc:=zag) (k:=((zaj h k)[j],(k:Int))) 0 rfl rfl) (show iv _=iv (i:Nat) from congrArg iv (by rw [zsk,a2]))) ?_
      refine dq rfl rfl (zca rfl rfl ri) ?_
      refine dq rfl rfl qrA ?_;refine dq rfl rfl qrA ?_;refine dq rfl rfl (u9 (out:= [iv k,iv h.evs[i].v.t,iv h.evs[i].v.k]) rfl (by rfl)) ?_
      refine dq rfl rfl qrA ?_;refine dq rfl rfl (zf0 rfl rfl rfl (by omega)) ?_
      refine rn ?_;refine z7 rfl (j7 (g:=iv) (enc:=zcr) (k:=((k:Int),h.evs[i].v.t,h.evs[i].v.k)) (v:=(j:Int)+1) rfl rfl rfl ?_)
      refine rn ?_;exact ⟨hj,trivial,by rw [zws hj,hfv];exact eA⟩
     ·have qj:=zdd hc86 lj
      rw [qj,List.take_length]
      refine rn ?_;exact ⟨hk,sv,by rw [zz7,List.map_append,List.map_append,yiq];exact eA⟩
    ·have qk:k=h.os.length:=by have q:=oF hc65;rw [oM] at q;omega
     refine zhi ?_;refine zg9 ?_;refine zg9 ?_;refine zdt ?_;refine zai ?_;refine w9 (y6 ?_)
     refine zif (zg1 (y9 h++ [mpv b26]) [mpv b27,mpv b28,mpv b29]) ?_
     refine rn ?_;exact zdw (.cons _ _ _ _ (.agg _ _ _ _ _ _ _ rfl inferInstance inferInstance inferInstance rfl) (.cons _ _ _ _ (.tmp _ _ rfl) .nil)) (.trans (.perm (.cons _ ((pt4 _ _ _ _ _ _).trans (.cons _ (pt4 _ _ _ _ _ _)))) _) (.drop [_,_,_] _ _)) (.inl ⟨hc,b26,b27,b28,b29,by rw [qk],by rw [qk];rfl⟩)
theorem ylk {a:Int} (h:(a !=0)=true):a≠0:=by simpa using h
theorem ymn {a:Int} (h:(a !=0)=false):a=0:=by simpa using h
theorem ynv {p:Prop} [Decidable p] (h:(!decide p)=true):¬p:=by simpa using h
theorem ynw {p:Prop} [Decidable p] (h:(!decide p)=false):p:=by simpa using h
theorem ykc {l:List Mat} {q:Mat→Bool} (hc:decide (zbi q 0 l < 0)=false):∃k,∃hk:k < l.length,zbi q 0 l=(k:Int)∧l.find? q=some l[k]:=by
 have:=zd9 q l 0
 cases hf:l.find? q with
 |none=>rw [hf] at this;simp only at this;rw [this] at hc;exact absurd hc (by decide)
 |some o=>
  rw [hf] at this
  obtain ⟨k,hk,e,eo,_⟩:=this
  exact ⟨k,hk,by rw [e,Nat.zero_add],by rw [eo]⟩
theorem ym2 {l:List Mat} {q:Mat→Bool} (hc:decide (zbi q 0 l < 0)=true):l.find? q=none:=by
 have:=zd9 q l 0
 cases hf:l.find? q with
 |none=>rfl
 |some o=>
  rw [hf] at this
  obtain ⟨k,hk,e,eo,_⟩:=this
  rw [e] at hc
  have:=oT hc
  omega
theorem ybl {h:Hist} {N:Nat} (la:Lim N h) (p x:Int):(zxn h p x).ts.length≤N:=by
 rw [zxn,ygd]
 cases hf:h.mats.find? (yht p x) with
 |none=>exact Nat.zero_le _
 |some m=>exact la.matts m (List.mem_of_find?_eq_some hf)
def yev (h:Hist) (p o:Int):List Bool:=if zht h p o=0 then zos h p o else []
theorem yjs (a b:Int):y8 Tryz.prog 145 [iv a,iv b] [] (fun r h'=>h'= []∧r=bv (decide (0≤a∧a < b))):=by
 refine z6 Tryz.func145 rfl rfl rfl ?_
 refine rn ?_;refine v8 (fun hg1_2=> ?_) (fun hg1_2=> ?_)
 ·refine rn ?_;refine rq 0 ?_
  exact ⟨rfl,by rw [←ydq,hg1_2];rfl⟩
 ·refine rn ?_;refine rq 0 ?_
  exact ⟨rfl,by rw [←ydq,hg1_2];rfl⟩
theorem ymr (m:Mat) (p x:Int) (b2 b3:Nat) (G:List Res):y8 Tryz.prog 147 [.agg (zee m),pZ b2,pZ b3] (.box b2 3 [iv p]:: .box b3 3 [iv x]::G) (fun r h'=>h'=(.box b2 3 [iv p]:: .box b3 3 [iv x]::G)∧r=bv (yht p x m)):=by
 refine z6 Tryz.func147 rfl rfl rfl ?_
 refine rn ?_;refine z7 rfl (w7 rfl rfl rfl fun b3=> ?_)
 refine rn ?_;refine v8 (fun hg1_4=> ?_) (fun hg1_4=> ?_)
 ·refine rn ?_;refine rq 1 ?_
  exact ⟨rfl,congrArg bv (by unfold yht;first|rfl|(simp_all;done))⟩
 ·refine rn ?_;refine rq 1 ?_
  exact ⟨rfl,congrArg bv (by unfold yht;first|rfl|(simp_all;done))⟩
theorem ygc (l:List Mat) (fv:AV) (q:Mat→Bool) (G:List Res) (hp:∀a∈l,y1 Tryz.prog fv [.agg (zee a)] G (fun r h'=>h'=G∧r=bv (q a))) (hl:l.length≤4611686018427387904):y8 Tryz.prog 146 [ybh l,fv] G (fun r h'=>h'=G∧r= .tup [.agg (zee ((l.find? q).getD yhu)),bv (l.find? q).isSome]):=by
 refine z6 Tryz.func146 rfl rfl rfl ?_
 refine rn ?_;refine z7 rfl (y7 rfl fun b4=> ?_)
 refine rn ?_;refine qv rfl rfl (y4 rfl rfl (y1.qt (h2:= [_]) (y1.of_fun (zjj l _ q G hp hl)) (zdr [_] _))) ?_
 refine rn ?_;refine y0 rfl (fun hc11=> ?_) (fun hc11=> ?_)
 ·have hn:=ym2 hc11
  refine w9 (y6 ?_)
  refine qq rfl rfl (zen (fun w O v hr=>Sb.rel (Sb.aggs (bs:=zee yhu) (by exact ⟨.refl _,.refl _,.refl _,.nil _ _,trivial⟩)) hr) (zdi rfl rfl)) ?_
  refine rn ?_;exact zdw (.cons _ _ _ _ (.agg _ _ _ _ _ _ _ rfl inferInstance inferInstance inferInstance rfl) (.cons _ _ _ _ (.tmp _ _ rfl) .nil)) (.drop [_] _ _) ⟨rfl,by rw [hn];rfl⟩
 ·obtain ⟨k,hk,ek,hx⟩:=ykc hc11
  have rk:=zbs (f:=zee) hk
  rw [ek]
  refine rn ?_;exact zdw (.cons _ _ _ _ (.agg _ _ _ _ _ _ _ rfl inferInstance inferInstance inferInstance rfl) (.cons _ _ _ _ (.tmp _ _ rfl) .nil)) (.drop [_] _ _) ⟨rfl,by rw [hx];rfl⟩
theorem yn8 {h:Hist} {p x:Int} (he:zzs h x≠0):zht h p x=zzs h x∧zht h p x≠0:=by
 have:zht h p x=zzs h x:=by rw [zht,if_neg he]
 exact ⟨this,by rw [this];exact he⟩
theorem yn7 {h:Hist} {p x:Int} (hi:zzs h x=0) (hp:¬(0≤p∧p < ((h.ps.map zfn).length:Int))):zht h p x=2∧zht h p x≠0:=by
 rw [oM] at hp
 have:zht h p x=2:=by rw [zht,if_pos hi,if_neg hp]
 exact ⟨this,by rw [this];decide⟩
theorem yn6 {h:Hist} {p x:Int} (hi:zzs h x=0) (hp:0≤p∧p < ((h.ps.map zfn).length:Int)):zht h p x=0:=by
 rw [oM] at hp
 rw [zht,if_pos hi,if_pos hp]
theorem yaa {b:Bool} {l:List Int} {q:Int→Bool} {k:Nat} (hk:k < l.length):(b::(l.take (k+1)).map q).map zlr=(b::(l.take k).map q).map zlr++ [[bv (q l[k])]]:=by
 rw [List.take_succ_eq_append_getElem hk,List.map_append,←List.cons_append,List.map_append];rfl
theorem yga (h:Hist) (la:Lim 4611686018427387904 h) (p x:Int):y8 Tryz.prog 98 [.agg (y9 h),iv p,iv x] (.glob 2 156 y2:: .glob 4 305 y3:: .glob 5 308 z8:: .glob 3 246 w6:: []) (fun r h'=>∃s:SV,h'= .row s.v 1 4 ((yev h p x).map zlr):: .glob 2 156 y2:: .glob 4 305 y3:: .glob 5 308 z8:: .glob 3 246 w6:: []∧r= .tup [.v s.v,iv (zht h p x)]):=by
 refine z6 Tryz.func98 rfl rfl rfl ?_
 refine rn ?_;refine z7 rfl (w7 rfl rfl rfl fun b3=> ?_)
 refine z7 rfl (w7 rfl rfl rfl fun b4=> ?_)
 refine z7 rfl (w7 rfl rfl rfl fun b5=> ?_)
 refine rn ?_;refine qv rfl rfl (y4 rfl rfl (y1.qt (y1.of_fun (ydm h la x)) ((pt3 _ _ _ _ _).trans (.cons _ ((pt3 _ _ _ _ _).trans (.cons _ ((pt3 _ _ _ _ _).trans (.cons _ (pt3 _ _ _ _ _))))))))) ?_
 refine rn ?_;refine y0 rfl (fun hc21=> ?_) (fun hc21=> ?_)
 ·have he:=yn8 (p:=p) (ylk hc21)
  refine rn ?_;exact zbk rfl rfl (.trans (.drop [_,_,_] _ _) (zae 1 4 _)) ⟨⟨none,0,0⟩,by rw [yev,if_neg (he.2)];rfl,by rw [he.1];rfl⟩
 ·have hi:zzs h x=0:=ymn hc21
  refine rn ?_;refine qv rfl rfl (y4 rfl rfl (zat (yjs p (h.ps.map zfn).length) (Sbs.refl _))) ?_
  refine rn ?_;refine y0 rfl (fun hc25=> ?_) (fun hc25=> ?_)
  ·have he:=yn7 (p:=p) hi (ynv hc25)
   refine rn ?_;exact zbk rfl rfl (.trans (.drop [_,_,_] _ _) (zae 1 4 _)) ⟨⟨none,0,0⟩,by rw [yev,if_neg (he.2)];rfl,by rw [he.1];rfl⟩
  ·have he:zht h p x=0:=yn6 hi (ynw hc25)
   have lA:=zdk (zv1.1 he).1
   have lM:=ybl la p x
   have lI:(zaj h x).length≤3000:=by rw [zqt he];exact zx5 lA x
   refine rn ?_;refine qv rfl rfl (y4 rfl rfl (y1.of_fun (ygc h.mats _ (yht p x) _ (fun a _=>y1.qt (y1.of_acall (fs:= []) (cs:= [pZ b4,pZ b5]) (ymr a p x b4 b5 (.box b3 28 (y9 h):: .glob 2 156 y2:: .glob 4 305 y3:: .glob 5 308 z8:: .glob 3 246 w6:: []))) (pt1 _ _ _)) la.mats))) ?_
   refine rn ?_;refine z7 rfl (y7 rfl fun b10=> ?_)
   refine rn ?_;refine z7 rfl (zhc (rows:=(((zxn h p x).first::((zaj h x).take 0).map (fun t=>(zxn h p x).ts.contains t)).map zlr)) rfl rfl rfl fun s41=> ?_)
   refine zal s41 fun sv0 hsv0=> ?_
   subst hsv0
   refine rn ?_;have hii:onE (zfm h x h.os.length) (zaj h x)=zaj h x:=by rw [show zfm h x h.os.length=0 from hi];rfl
   rw [hii]
   refine rn ?_;refine zlv (zaj h x).length (fun k s=>⟨[(44,iv k),(12,.v s.v),(10,pZ b10),(42,za5 (zaj h x)),(43,iv ((zaj h x).map za9).length)],.row s.v 1 4 (((zxn h p x).first::((zaj h x).take k).map (fun t=>(zxn h p x).ts.contains t)).map zlr):: .box b10 109 (zee (zxn h p x)):: .box b5 3 [iv x]:: .box b4 3 [iv p]:: .box b3 28 (y9 h):: .glob 2 156 y2:: .glob 4 305 y3:: .glob 5 308 z8:: .glob 3 246 w6:: [],[]⟩) sv0 es ?_
   intro k s lk
   refine rn ?_;refine y0 rfl (fun hc45=> ?_) (fun hc45=> ?_)
   ·have hk:=zdb hc45
    have rk:=zbs (f:=za9) hk
    refine rn ?_;refine qv rfl rfl (y4 rfl rfl (zat (zp1 (zxn h p x).ts (zaj h x)[k] lM) (Sbs.refl _))) ?_
    refine qv rfl rfl (w8 rfl rfl) ?_
    refine z7 rfl (j6 rfl rfl (by simp only [oM,List.length_cons,List.length_nil];have:=List.length_take_le k (zaj h x);omega) rfl (fun s54=> ?_) (ya9 [(zxn h p x).ts.contains (zaj h x)[k]]))
    refine zal s54 fun sv hsv=> ?_
    subst hsv
    refine rn ?_;exact ⟨hk,sv,by rw [yaa hk];exact eA⟩
   ·have qk:=zdd hc45 lk
    refine rn ?_;exact zbk rfl rfl (.trans (.perm ((pt1 _ _ _).trans (.cons _ ((pt1 _ _ _).trans (.cons _ ((pt1 _ _ _).trans (.cons _ (pt1 _ _ _))))))) _) (.drop [_,_,_,_] _ _)) ⟨s,by rw [yev,if_pos he,zos,yac,qk,List.take_length],by rw [he];rfl⟩
theorem yjr (h:Hist) (la:Lim 4611686018427387904 h) (p x:Int):y8 Tryz.prog 98 [.agg (y9 h),iv p,iv x] (.glob 2 156 y2:: .glob 4 305 y3:: .glob 5 308 z8:: .glob 3 246 w6:: []) (fun r h'=>h'= .glob 2 156 y2:: .glob 4 305 y3:: .glob 5 308 z8:: .glob 3 246 w6:: []∧r= .tup [zlq (yev h p x),iv (zht h p x)]):=
 (yga h la p x).ventR (by rintro _ _ ⟨s,rfl,rfl⟩;exact ⟨_,_,zav [] [_],rfl,rfl⟩)
def zmy {α:Type} (d:Nat→Option α):Nat→List α
 |0=> []
 |k+1=>zmy d k++(d k).toList
theorem yj8 {α:Type} {d:Nat→Option α} {k:Nat} (h:d k=none):zmy d (k+1)=zmy d k:=by rw [zmy,h];simp
theorem yj7 {α:Type} {d:Nat→Option α} {k:Nat} {a:α} (h:d k=some a):zmy d (k+1)=zmy d k++ [a]:=by rw [zmy,h];rfl
theorem ztf {α:Type} (d:Nat→Option α):∀n,(zmy d n).length≤n
 |0=>by simp [zmy]
 |n+1=>by
  have:=ztf d n
  rw [zmy,List.length_append]
  cases d n <;> simp <;> omega
def chD (l:List Bool) (k:Nat):Option Int:=if 0 < k∧l[k]? ≠l[k - 1]? then some (k:Int) else none
theorem zyy (l:List Bool):∀n,zmy (chD l) n=zp6 l n
 |0=>rfl
 |n+1=>by
  rw [zmy,zp6,zyy l n,chD]
  split <;> rfl
theorem yhd {l:List Bool} {k:Nat} (h:decide ((k:Int) > 0)=false):chD l k=none:=by
 have:=oF h
 rw [chD,if_neg (by omega)]
theorem yng {l:List Bool} {k:Nat} (h:decide ((k:Int) > 0)=true) (hk:k < l.length) (hb:(l[k] !=l[k - 1]'(by omega))=true):chD l k=some (k:Int):=by
 have:=oT h
 rw [chD,if_pos ⟨by omega,by rw [List.getElem?_eq_getElem hk,List.getElem?_eq_getElem (by omega)];intro e;injection e with e;rw [e] at hb;simp at hb⟩]
theorem yhc {l:List Bool} {k:Nat} (hk:k < l.length) (hb:(l[k] !=l[k - 1]'(by omega))=false):chD l k=none:=by
 rw [chD,if_neg (by rintro ⟨_,q⟩;apply q;rw [List.getElem?_eq_getElem hk,List.getElem?_eq_getElem (by omega)];congr 1;simpa using hb)]
theorem yd1 {k:Nat} (h:decide ((k:Int) > 0)=true):((k:Int) - 1).toNat=k - 1∧0≤(k:Int) - 1:=by
 have:=oT h
 omega
theorem ye9 {l:List Bool} {k:Nat} (h:decide ((k:Int) > 0)=true) (hk:k < l.length):(l.map zlr)[((k:Int) - 1).toNat]? =some (zlr (l[k - 1]'(by omega))):=by
 rw [(yd1 h).1,List.getElem?_map,List.getElem?_eq_getElem (by omega)];rfl
theorem yjn (l:List Bool) (hl:l.length≤1000000) (b1:Nat) (y:AV) (I:Nat→SV→List Res) (x0:SV) (hy:∀k x a,k < l.length→chD l k=some a→y1 Tryz.prog y [iv a] (.box b1 130 [zlq l]::I k x) (fun r h'=>∃x',r=bv true∧h'= .box b1 130 [zlq l]::I (k+1) x')) (hs:∀k x,k < l.length→chD l k=none→I (k+1) x=I k x):y8 Tryz.prog 149 [y,pZ b1] (.box b1 130 [zlq l]::I 0 x0) (fun r h'=>∃x,h'=I l.length x):=by
 refine z6 Tryz.func149 rfl rfl rfl ?_
 refine rn ?_;refine zfg l.length (fun _ _=>True) (fun k (x:SV)=>⟨[(6,iv k),(0,y),(1,pZ b1),(5,iv (l.map zlr).length)],.box b1 130 [zlq l]::I k x,[]⟩) x0 trivial es ?_
 intro k x lk _
 refine rn ?_;refine y0 rfl (fun hc7=> ?_) (fun hc7=> ?_)
 ·have hk:=zdb hc7
  have rk:=zbs (f:=zlr) hk
  refine rn ?_;refine j3 17 rfl ?_
  refine rn ?_;refine zcu (fun hg3_2=> ?_) (fun hg3_2=> ?_)
  ·refine dq rfl rfl qrA ?_;refine dq rfl rfl qrA ?_;refine dq rfl rfl qrA ?_;refine dq rfl rfl qrA ?_;refine dq rfl rfl qrA ?_;refine dq rfl rfl qrA ?_;refine dq rfl rfl (zf0 rfl rfl rfl (by omega)) ?_
   refine dq rfl rfl (zaw rfl rfl (yd1 hg3_2).2 (ye9 hg3_2 hk)) ?_
   refine dq rfl rfl qrA ?_;refine dq rfl rfl (yja (c:=l[k] !=l[k - 1]'(by omega)) (zo1 rfl rfl) rfl) ?_
   refine rn ?_;refine zcu (fun hg3_14=> ?_) (fun hg3_14=> ?_)
   ·refine rn ?_;refine z7 rfl (q7 rfl rfl (hy k x _ hk (yng hg3_2 hk (by exact hg3_14))) rfl ?_)
    rintro _ _ ⟨x',rfl,rfl⟩
    refine rn ?_;refine y0 rfl (fun hc28=> ?_) (fun hc28=> ?_)
    ·refine rn ?_;exact absurd hc28 (by simp)
    ·refine rn ?_;first|exact ⟨hk,x',trivial,eA⟩|exact ⟨hk,x,trivial,by rw [hs k x hk (yhc hk (by exact hg3_14))];exact eA⟩|exact ⟨hk,x,trivial,by rw [hs k x hk (yhd hg3_2)];exact eA⟩
   ·refine rn ?_;refine zoe rfl ?_;refine rn ?_;first|exact ⟨hk,x',trivial,eA⟩|exact ⟨hk,x,trivial,by rw [hs k x hk (yhc hk (by exact hg3_14))];exact eA⟩|exact ⟨hk,x,trivial,by rw [hs k x hk (yhd hg3_2)];exact eA⟩
  ·refine rn ?_;refine zoe rfl ?_;refine rn ?_;first|exact ⟨hk,x',trivial,eA⟩|exact ⟨hk,x,trivial,by rw [hs k x hk (yhc hk (by exact hg3_14))];exact eA⟩|exact ⟨hk,x,trivial,by rw [hs k x hk (yhd hg3_2)];exact eA⟩
 ·have qk:=zdd hc7 lk
  subst qk
  refine rn ?_;exact zc4 .nil (.drop [_] _ _) ⟨x,rfl⟩
theorem ymp (l:List Bool) (W:List Res):y8 Tryz.prog 100 [zlq l] W (fun r h'=>∃b1,h'= .box b1 130 [zlq l]::W∧r= .fn (.func 149) [] [pZ b1]):=by
 refine z6 Tryz.func100 rfl rfl rfl ?_
 refine rn ?_;refine z7 rfl (w7 rfl rfl rfl fun b1=> ?_)
 refine rn ?_;exact zak rfl (.refl _ _) ⟨_,rfl,rfl⟩
theorem yhl (f:FuncId) [Go.Ab.Enters Tryz.prog f] (cs:List AV) (w1:Res) (n:Nat) (hn:n≤1000000) (d:Nat→Option (Int)) (W:List Res) (hseq:∀(y:AV) (I:Nat→SV→List Res) (x0:SV),(∀k x a,k < n→d k=some a→y1 Tryz.prog y [iv a] (w1::I k x) (fun r h'=>∃x',r=bv true∧h'=w1::I (k+1) x'))→(∀k x,k < n→d k=none→I (k+1) x=I k x)→y8 Tryz.prog f (y::cs) (w1::I 0 x0) (fun _ h'=>∃x,h'=I n x)):y8 Tryz.prog 148 [.v (.slice none 0 0),.fn (.func f) [] cs] (w1::W) (fun r h'=>∃s:SV,h'= .row s.v 1 3 ((zmy d n).map za9)::W∧r= .v s.v):=by
 refine z6 Tryz.func148 rfl rfl rfl ?_
 refine rn ?_;refine z7 rfl (w7 rfl rfl rfl fun b2=> ?_)
 refine rn ?_;refine zfl (s':=⟨[(6,.fn (.func f) [] cs),(2,pZ b2)],w1:: .box b2 29 [.v (⟨none,0,0⟩:SV).v]:: .row (⟨none,0,0⟩:SV).v 1 3 ((zmy d 0).map za9)::W,[]⟩) (v6 (v6 (zaz 1 3) (zau ((pt2 _ _ _ _).trans (.cons _ (pt1 _ _ _))))) es) ?_
 refine zjt (fun pend h''=>pend=none∧∃s:SV,h''= .box b2 29 [.v s.v]:: .row s.v 1 3 ((zmy d n).map za9)::W) rfl (fun fn l q lp hlp=> ?_) (fun q h'' hK=> ?_) (fun q h'' c hK=> ?_)
 ·suffices hy:∀k (s:SV) a,k < n→d k=some a→y1 Tryz.prog (yv l) [iv a] (w1::lp .ready none:: .defs q:: .box b2 29 [.v s.v]:: .row s.v 1 3 ((zmy d k).map za9)::W) (fun r h'=>∃s':SV,r=bv true∧h'=w1::lp .ready none:: .defs q:: .box b2 29 [.v s'.v]:: .row s'.v 1 3 ((zmy d (k+1)).map za9)::W) by
   refine y8.mono (y8.perm (pt2 _ _ _ _) (hseq (yv l) (fun k (s:SV)=>lp .ready none:: .defs q:: .box b2 29 [.v s.v]:: .row s.v 1 3 ((zmy d k).map za9)::W) ⟨none,0,0⟩ hy (fun k s hk hn=>by rw [yj8 hn]))) ?_
   rintro _ _ ⟨s,rfl⟩
   exact ⟨none,.ready,_,.refl _,by simp,rfl,s,rfl⟩
  intro k s a hk hd
  refine y1.perm (pt1 _ _ _) (y1.ventE ?_)
  refine zcl hlp rfl rfl ?_
  refine rn ?_;refine ⟨[(5,iv a),(2,pZ b2)],w1:: .defs q:: .box b2 29 [.v s.v]:: .row s.v 1 3 ((zmy d k).map za9)::W,es,?_⟩
  refine rn ?_;refine qv rfl rfl (w8 rfl rfl) ?_
  refine z7 rfl (j6 rfl rfl (by simp only [oM,List.length_cons,List.length_nil];have:=ztf d k;omega) rfl (fun s11=> ?_) (ziq [a]))
  refine zal s11 fun sv hsv=> ?_
  subst hsv
  refine rn ?_;exact zce (.refl _) ⟨_,_,.perm (pt1 _ _ _) _,sv,rfl,by rw [yj7 hd,List.map_append];rfl⟩
 ·obtain ⟨_,s,rfl⟩:=hK
  refine rn ?_;exact zfy (.refl _) (.cons _ _ _ _ (.tmp _ _ rfl) .nil) (.drop1 _ _ _) ⟨s,rfl,rfl⟩
 ·obtain ⟨hc,_⟩:=hK
  exact absurd hc (by simp)
theorem yce (f:FuncId) [Go.Ab.Enters Tryz.prog f] (cs:List AV) (w1:Res) (n:Nat) (hn:n≤1000000) (d:Nat→Option (Int)) (W:List Res) (hseq:∀(y:AV) (I:Nat→SV→List Res) (x0:SV),(∀k x a,k < n→d k=some a→y1 Tryz.prog y [iv a] (w1::I k x) (fun r h'=>∃x',r=bv true∧h'=w1::I (k+1) x'))→(∀k x,k < n→d k=none→I (k+1) x=I k x)→y8 Tryz.prog f (y::cs) (w1::I 0 x0) (fun _ h'=>∃x,h'=I n x)):y8 Tryz.prog 99 [.fn (.func f) [] cs] (w1::W) (fun r h'=>∃s:SV,h'= .row s.v 1 3 ((zmy d n).map za9)::W∧r= .v s.v):=by
 refine z6 Tryz.func99 rfl rfl rfl ?_
 refine rn ?_;refine z7 rfl (q7 rfl rfl (y1.of_fun (yhl f cs w1 n hn d W hseq)) rfl ?_)
 rintro _ _ ⟨s,rfl,rfl⟩
 refine rn ?_;exact zak rfl (.refl _ _) ⟨s,rfl,rfl⟩
theorem yeu {h:Hist} {N:Nat} (la:Lim N h) {p x:Int} (he:zht h p x=0):(zos h p x).length≤1000000:=by
 have lA:=zdk (zv1.1 he).1
 have:=zx5 lA x
 rw [zkq,zqt he];omega
theorem yge (h:Hist) (la:Lim 4611686018427387904 h) (p x:Int):y8 Tryz.prog 42 [.agg (y9 h),iv p,iv x] (.glob 2 156 y2:: .glob 4 305 y3:: .glob 5 308 z8:: .glob 3 246 w6:: []) (fun r h'=>∃s:SV,h'= .row s.v 1 3 ((chL h p x).map za9):: .glob 2 156 y2:: .glob 4 305 y3:: .glob 5 308 z8:: .glob 3 246 w6:: []∧r= .tup [.v s.v,iv (zht h p x)]):=by
 refine z6 Tryz.func42 rfl rfl rfl ?_
 refine rn ?_;refine z7 rfl (w7 rfl rfl rfl fun b3=> ?_)
 refine rn ?_;refine qv rfl rfl (y4 rfl rfl (y1.qt (y1.of_fun (yjr h la p x)) ((pt1 _ _ _).trans (.cons _ ((pt1 _ _ _).trans (.cons _ ((pt1 _ _ _).trans (.cons _ (pt1 _ _ _))))))))) ?_
 refine rn ?_;refine y0 rfl (fun hc18=> ?_) (fun hc18=> ?_)
 ·have he:=yor (h:=h) (p:=p) (x:=x) (r:=0) (ylk hc18)
  refine rn ?_;exact zbk rfl rfl (.trans (.drop [_] _ _) (zae 1 3 _)) ⟨⟨none,0,0⟩,by rw [he.2.2];rfl,rfl⟩
 ·have he:zht h p x=0:=ymn hc18
  have hl:yev h p x=zos h p x:=by rw [yev,if_pos he]
  have lt:=yeu la he
  rw [hl]
  refine rn ?_;refine z7 rfl (q7 rfl rfl (y1.of_fun (ymp (zos h p x) _)) rfl ?_)
  rintro _ _ ⟨b1,rfl,rfl⟩
  refine z7 rfl (q7 rfl rfl (y1.of_fun (yce 149 [pZ b1] _ (zos h p x).length lt (chD (zos h p x)) _ (fun y I x0 hy hs=>yjn (zos h p x) lt b1 y I x0 hy hs))) rfl ?_)
  rintro _ _ ⟨s,rfl,rfl⟩
  refine rn ?_;exact zbk rfl rfl (.trans (.perm (pt1 _ _ _) _) (.drop [_] _ _)) ⟨s,by rw [chL,if_pos he,yha,zyy],by rw [he];rfl⟩
theorem ydk (h:Hist) (la:Lim 4611686018427387904 h) (p x:Int):y8 Tryz.prog 42 [.agg (y9 h),iv p,iv x] (.glob 2 156 y2:: .glob 4 305 y3:: .glob 5 308 z8:: .glob 3 246 w6:: []) (fun r h'=>h'= .glob 2 156 y2:: .glob 4 305 y3:: .glob 5 308 z8:: .glob 3 246 w6:: []∧r= .tup [za5 (chL h p x),iv (zht h p x)]):=
 (yge h la p x).ventR (by rintro _ _ ⟨s,rfl,rfl⟩;exact ⟨_,_,zav [] [_],rfl,rfl⟩)
def ev0:Ev:=⟨0,0,0,0,0,⟨0,0⟩,0,[]⟩
def evA (h:Hist) (n:Int):Ev:=if zfm h n h.evs.length=0 then evD h.evs n else ev0
def yc9 (h:Hist) (n:Int):List Seen:=if zde h n=0 then k7 h (evD h.evs n) n.toNat else []
theorem yly {p:Prop} (c d:Prop) [Decidable c] [Decidable d] (x:c→d→p) (y:c→¬d→p) (z:¬c→p):p:=if h:c then (if k:d then x h k else y h k) else z h
theorem zu5 {h:Hist} {n:Int} (he:zfm h n h.evs.length=0):∃a:Nat,∃ha:a < h.evs.length,n=a∧evA h n=h.evs[a]∧q6 h=0:=by
 obtain ⟨hs,n0,n1⟩:=yhk he
 obtain ⟨a,rfl⟩:=Int.eq_ofNat_of_zero_le n0
 exact ⟨a,by omega,rfl,by rw [evA,if_pos he,zpr (by omega)],za0.2 hs⟩
theorem yko {h:Hist} {n:Int} (he:zfm h n h.evs.length≠0):evA h n=ev0:=by rw [evA,if_neg he]
theorem ylf {h:Hist} {a:Nat} (ha:a < h.evs.length) (hc:q6 h=0) (h4:h.evs[a].kind=4):zde h a=0∧yc9 h a=k7 h h.evs[a] a:=by
 have:=(yob hc ha h4).1
 exact ⟨this,by rw [yc9,this,if_pos rfl,zpr ha,Int.toNat_natCast]⟩
theorem yhr {h:Hist} {n:Int} (hc:q6 h=0) (hn:¬(0≤n∧n < h.evs.length∧(evD h.evs n).kind=4)):zde h n=2∧yc9 h n= []:=by
 have:=(yoc hc hn).1
 exact ⟨this,by rw [yc9,this];rfl⟩
theorem yle {h:Hist} {n:Int} (he:zfm h n h.evs.length≠0):zde h n=zfm h n h.evs.length∧yc9 h n= []:=by
 by_cases hc:q6 h=0
 ·have hn:¬(0≤n∧n < (h.evs.length:Int)):=fun q=>he (zsa hc q)
  obtain ⟨a,b⟩:=yhr (h:=h) (n:=n) hc (fun q=>hn ⟨q.1,q.2.1⟩)
  exact ⟨by rw [a,zva hc hn],b⟩
 ·have:=(yod (n:=n) hc).1
  exact ⟨by rw [this,ask_c hc],by rw [yc9,this,if_neg hc]⟩
theorem ylm {h:Hist} {n:Int} (he:zfm h n h.evs.length=0):evA h n=evD h.evs n:=by rw [evA,if_pos he]
theorem ybk (h:Hist) (la:Lim 4611686018427387904 h) (n:Int):y8 Tryz.prog 97 [.agg (y9 h),iv n] (.glob 2 156 y2:: .glob 4 305 y3:: .glob 5 308 z8:: .glob 3 246 w6:: []) (fun r h'=>h'= .glob 2 156 y2:: .glob 4 305 y3:: .glob 5 308 z8:: .glob 3 246 w6:: []∧r= .tup [.agg (evR (evA h n)),iv (zfm h n h.evs.length)]):=by
 refine z6 Tryz.func97 rfl rfl rfl ?_
 refine rn ?_;refine z7 rfl (w7 rfl rfl rfl fun b2=> ?_)
 refine z7 rfl (y7 rfl fun b4=> ?_)
 refine rn ?_;refine qv rfl rfl (y4 rfl rfl (y1.qt (y1.of_fun (zx1 h la)) ((pt2 _ _ _ _).trans (.cons _ ((pt2 _ _ _ _).trans (.cons _ ((pt2 _ _ _ _).trans (.cons _ (pt2 _ _ _ _))))))))) ?_
 refine rn ?_;refine y0 rfl (fun hc14=> ?_) (fun hc14=> ?_)
 ·have he:zfm h n h.evs.length=q6 h:=ask_c (ylk hc14)
  have hn:zfm h n h.evs.length≠0:=by rw [he];exact ylk hc14
  refine w9 (y6 ?_)
  refine qq rfl rfl (zen (fun w O v hr=>Sb.rel (Sb.aggs (bs:=evR ev0) (by exact ⟨.refl _,.refl _,.refl _,.refl _,.refl _,.refl _,.refl _,.refl _,.nil _ _,trivial⟩)) hr) (u9 (out:= [iv 0,iv 0,iv 0,iv 0,iv 0,iv 0,iv 0,iv 0,.v (.slice none 0 0)]) rfl (by rfl))) ?_
  refine rn ?_;exact zdw (.cons _ _ _ _ (.agg _ _ _ _ _ _ _ rfl inferInstance inferInstance inferInstance rfl) (.cons _ _ _ _ (.tmp _ _ rfl) .nil)) (.drop [_,_] _ _) ⟨rfl,by rw [yko hn,he];rfl⟩
 ·have hc:=ymn hc14
  refine rn ?_;refine qv rfl rfl (y4 rfl rfl (zat (yjs n (h.evs.map evR).length) (Sbs.refl _))) ?_
  refine rn ?_;refine y0 rfl (fun hc22=> ?_) (fun hc22=> ?_)
  ·have he:zfm h n h.evs.length=2:=zva hc (by have q:=ynv hc22;rw [oM] at q;exact q)
   have hn:zfm h n h.evs.length≠0:=by rw [he];decide
   refine w9 (y6 ?_)
   refine qq rfl rfl (zen (fun w O v hr=>Sb.rel (Sb.aggs (bs:=evR ev0) (by exact ⟨.refl _,.refl _,.refl _,.refl _,.refl _,.refl _,.refl _,.refl _,.nil _ _,trivial⟩)) hr) (u9 (out:= [iv 0,iv 0,iv 0,iv 0,iv 0,iv 0,iv 0,iv 0,.v (.slice none 0 0)]) rfl (by rfl))) ?_
   refine rn ?_;exact zdw (.cons _ _ _ _ (.agg _ _ _ _ _ _ _ rfl inferInstance inferInstance inferInstance rfl) (.cons _ _ _ _ (.tmp _ _ rfl) .nil)) (.drop [_,_] _ _) ⟨rfl,by rw [yko hn,he];rfl⟩
  ·have q:=ynw hc22
   rw [oM] at q
   have he:=zsa hc q
   obtain ⟨a,ha,rfl,ea,_⟩:=zu5 he
   have ra:=zbs (f:=evR) ha
   refine zbz ?_;refine zai ?_;refine w9 (y6 ?_)
   refine q1 ?_;refine q1 ?_;refine q1 ?_;refine qq rfl rfl (zaw rfl rfl q.1 ra) ?_
   refine rn ?_;exact zdw (.cons _ _ _ _ (.agg _ _ _ _ _ _ _ rfl inferInstance inferInstance inferInstance rfl) (.cons _ _ _ _ (.tmp _ _ rfl) .nil)) (.drop [_,_] _ _) ⟨rfl,by rw [ea,he];rfl⟩
theorem ygb (h:Hist) (la:Lim 4611686018427387904 h) (n:Int):y8 Tryz.prog 41 [.agg (y9 h),iv n] (.glob 2 156 y2:: .glob 4 305 y3:: .glob 5 308 z8:: .glob 3 246 w6:: []) (fun r h'=>∃s:SV,h'= .row s.v 3 70 ((yc9 h n).map zas):: .glob 2 156 y2:: .glob 4 305 y3:: .glob 5 308 z8:: .glob 3 246 w6:: []∧r= .tup [.v s.v,iv (zde h n)]):=by
 refine z6 Tryz.func41 rfl rfl rfl ?_
 refine rn ?_;refine z7 rfl (w7 rfl rfl rfl fun b2=> ?_)
 refine rn ?_;refine zie ?_;refine rn ?_;refine qv rfl rfl (y4 rfl rfl (y1.qt (y1.of_fun (ybk h la n)) ((pt1 _ _ _).trans (.cons _ ((pt1 _ _ _).trans (.cons _ ((pt1 _ _ _).trans (.cons _ (pt1 _ _ _))))))))) ?_
 refine rn ?_;refine z7 rfl (y7 rfl fun b6=> ?_)
 first|refine z7 rfl (u7 rfl rfl rfl ?_)|refine z7 rfl (zad rfl rfl rfl rfl (Nat.le_of_ble_eq_true rfl) ?_)
 refine q1 ?_;refine u4 (zai ?_)
 refine w9 ?_;refine w9 (y6 ?_)
 refine q1 ?_;refine yly (zfm h n h.evs.length=0) ((evA h n).kind=4) (fun hc h4=>qq rfl rfl (zcc (c:=true) rfl rfl (congrArg some (by rw [hc];rfl))) ?_) (fun hc h4=>qq rfl rfl (zcc (c:=true) rfl rfl (congrArg some (by rw [hc];rfl))) ?_) (fun hc=>qq rfl rfl (zcc (c:=false) rfl rfl (congrArg some (by simpa using hc))) ?_)
 ·refine q1 ?_;refine q1 ?_;refine q1 ?_;refine qq rfl rfl (by first|exact zcc (c:=false) rfl rfl (congrArg some (by rw [h4];rfl))|exact zcc (c:=true) rfl rfl (congrArg some (by simpa using h4))) ?_
  refine rn ?_;refine y0 rfl (fun hc29=> ?_) (fun hc29=> ?_)
  ·first|cases hc29|exact absurd hc29 (by decide)|(exfalso;simp_all;done)
  ·refine zbz ?_;refine zai ?_;refine w9 ?_;refine w9 (y6 ?_)
   refine q1 ?_;refine qq rfl rfl (by first|exact zcc (c:=false) rfl rfl (congrArg some (by rw [hc];rfl))|exact zcc (c:=true) rfl rfl rfl|exact zcc (c:=true) rfl rfl (congrArg some (by simpa using hc))) ?_
   refine rn ?_;refine y0 rfl (fun hc31=> ?_) (fun hc31=> ?_)
   ·first|cases hc31|exact absurd hc31 (by decide)|(exfalso;simp_all;done)
   ·refine zbz ?_;refine rn0 ?_;refine w9 ?_;obtain ⟨a,ha,rfl,ea,hk0⟩:=zu5 hc
    rw [ea] at h4
    rw [ea]
    obtain ⟨hse,hsl⟩:=ylf ha hk0 h4
    have lA:=zdk hk0
    have be:=lA.evs
    have bs:=lA.scans h.evs[a] (List.getElem_mem ha)
    refine rn ?_;refine z7 rfl (zab (enc:=intK) rfl fun rm=> ?_)
    refine rn ?_;refine zbn h.evs.length (fun k=>k≤a) (fun k=>⟨[(37,iv k),(1,iv (a:Int)),(2,pZ b2),(6,pZ b6),(8,mpv rm),(35,zvg h.evs),(36,iv (h.evs.map evR).length)],.map rm (j8 intK (zar zvw (zve (h.evs.take k) h.evs[a].t))):: .box b6 60 (evR h.evs[a]):: .box b2 28 (y9 h):: .glob 2 156 y2:: .glob 4 305 y3:: .glob 5 308 z8:: .glob 3 246 w6:: [],[]⟩) (Nat.zero_le _) es ?_
    intro k lk ka
    refine rn ?_;refine y0 rfl (fun hc38=> ?_) (fun hc38=> ?_)
    ·have hk:=zdb hc38
     have rk:=zbs (f:=evR) hk
     refine rn ?_;refine z7 rfl (y7 rfl fun b10=> ?_)
     refine rn ?_;refine y0 rfl (fun hc42=> ?_) (fun hc42=> ?_)
     ·obtain rfl:a=k:=by have:=eq_of_beq hc42;omega
      refine rn ?_;refine zbn h.evs[a].scan.length (fun _=>True) (fun j=>⟨[(66,iv j),(2,pZ b2),(8,mpv rm),(64,zgw h.evs[a].scan),(65,iv (h.evs[a].scan.map zas).length)],.map rm (j8 intK (zar zvw (ye4 (zve (h.evs.take a) h.evs[a].t) (h.evs[a].scan.take j)))):: .box b6 60 (evR h.evs[a]):: .box b2 28 (y9 h):: .glob 2 156 y2:: .glob 4 305 y3:: .glob 5 308 z8:: .glob 3 246 w6:: [],[]⟩) trivial eA ?_
      intro j lj _
      refine rn ?_;refine y0 rfl (fun hc67=> ?_) (fun hc67=> ?_)
      ·have hj:=zdb hc67
       have rj:=zbs (f:=zas) hj
       refine rn ?_;refine z7 rfl (y7 rfl fun b12=> ?_)
       refine rn ?_;refine z7 rfl (j7 (g:=zvw) (enc:=intK) (k:=h.evs[a].scan[j].o) (v:=h.evs[a].scan[j].v) rfl rfl rfl ?_)
       refine rn ?_;exact ⟨hj,trivial,by rw [yif hj];exact eA⟩
      ·have qj:=zdd hc67 lj
       subst qj
       rw [List.take_length]
       refine rn ?_;refine zlv h.os.length (fun k s=>⟨[(79,iv k),(13,.v s.v),(8,mpv rm),(78,iv (h.os.map zfn).length)],.row s.v 3 70 (((upR k).map fun x:Int=>(⟨x,yjc h.evs h.evs[a].t a h.evs[a].scan x⟩:Seen)).map zas):: .map rm (j8 intK (zar zvw (ye4 (zve (h.evs.take a) h.evs[a].t) h.evs[a].scan))):: .box b6 60 (evR h.evs[a]):: .box b2 28 (y9 h):: .glob 2 156 y2:: .glob 4 305 y3:: .glob 5 308 z8:: .glob 3 246 w6:: [],[]⟩) ⟨none,0,0⟩ (v6 (zaz 3 70) es) ?_
       intro k s lk
       refine rn ?_;refine y0 rfl (fun hc80=> ?_) (fun hc80=> ?_)
       ·have hk:k < h.os.length:=by have q:=oT hc80;rw [oM] at q;omega
        have bo:=lA.os
        have hv:=yfu (l:=h.evs) (t:=h.evs[a].t) (x:=(k:Int)) h.evs[a].scan (Nat.le_of_lt ha)
        refine zbz ?_;refine zai ?_;refine w9 ?_;refine zc9 ?_;refine w9 (y6 ?_)
        refine q1 ?_;refine q1 ?_;refine u4 (zai ?_)
        refine w9 (y6 ?_)
        refine q1 ?_;refine qq rfl rfl (u9 (out:= [iv (k:Int),iv 0,iv 0]) rfl (by rfl)) ?_
        refine z7 rfl (y7 rfl fun b15=> ?_)
        first|refine z7 rfl (u7 rfl rfl rfl ?_)|refine z7 rfl (zad rfl rfl rfl rfl (Nat.le_of_ble_eq_true rfl) ?_)
        refine u4 (zai ?_)
        refine w9 ?_;refine w9 (y6 ?_)
        refine q1 ?_;refine q1 ?_;refine qq rfl rfl (zay (g:=zvw) (enc:=intK) (k:=(k:Int)) (⟨0,0⟩:Ver) rfl rfl) ?_
        rw [hv]
        generalize hV:yjc h.evs h.evs[a].t a h.evs[a].scan (k:Int)=V
        refine z7 rfl (y7 rfl fun b16=> ?_)
        first|refine z7 rfl (u7 rfl rfl rfl ?_)|refine z7 rfl (zad rfl rfl rfl rfl (Nat.le_of_ble_eq_true rfl) ?_)
        refine u4 (zai ?_)
        refine w9 (y6 ?_)
        refine q1 ?_;refine qq rfl rfl (u9 (out:= [iv 0,iv 0]) rfl (by rfl)) ?_
        refine rn ?_;refine y0 rfl (fun hc89=> ?_) (fun hc89=> ?_)
        ·refine rn ?_;refine qv rfl rfl (w8 rfl rfl) ?_
         refine z7 rfl (j6 rfl rfl (by simp only [oM,upR,List.length_range,List.length_cons,List.length_nil];omega) rfl (fun s95=> ?_) (by first|exact zj2 [(⟨(k:Int),V⟩:Seen)]|exact zj2 [(⟨(k:Int),⟨0,0⟩⟩:Seen)]))
         refine zal s95 fun sv hsv=> ?_
         subst hsv
         refine rn ?_;exact ⟨hk,sv,by rw [zz7,List.map_append,List.map_append,List.map_singleton,List.map_singleton,hV];exact eA⟩
        ·have hv0:V=⟨0,0⟩:=eq_of_beq (by rw [←zz6];simpa using hc89)
         subst hv0
         refine rn ?_;refine qv rfl rfl (w8 rfl rfl) ?_
         refine z7 rfl (j6 rfl rfl (by simp only [oM,upR,List.length_range,List.length_cons,List.length_nil];omega) rfl (fun s95=> ?_) (by first|exact zj2 [(⟨(k:Int),V⟩:Seen)]|exact zj2 [(⟨(k:Int),⟨0,0⟩⟩:Seen)]))
         refine zal s95 fun sv hsv=> ?_
         subst hsv
         refine rn ?_;exact ⟨hk,sv,by rw [zz7,List.map_append,List.map_append,List.map_singleton,List.map_singleton,hV];exact eA⟩
       ·have qk:k=h.os.length:=by have q:=oF hc80;rw [oM] at q;omega
        subst qk
        refine rn ?_;refine ⟨fun l h=>(by cases h),?_⟩
        exact zbk rfl rfl (.trans (.perm ((pt1 _ _ _).trans (.cons _ ((pt1 _ _ _).trans (.cons _ (pt1 _ _ _))))) _) (.drop [_,_,_] _ _)) ⟨s,by rw [hsl];rfl,by rw [hse];rfl⟩
     ·have hka:k < a:=by have:=beq_eq_false_iff_ne.1 hc42;omega
      refine rn ?_;refine v8 (fun hg11_5=> ?_) (fun hg11_5=> ?_)
      ·refine rn ?_;refine y0 rfl (fun hc46=> ?_) (fun hc46=> ?_)
       ·have hw:(h.evs[k].t==h.evs[a].t && h.evs[k].kind==2)=true:=by first|(rw [hg11_5];exact hc46)|(rw [Bool.and_eq_true];exact ⟨hg11_5,hc46⟩)
        refine rn ?_;refine z7 rfl (j7 (g:=zvw) (enc:=intK) (k:=h.evs[k].o) (v:=h.evs[k].v) rfl rfl rfl ?_)
        refine rn ?_;first|exact ⟨hk,hka,by rw [zw7 hk hw];exact eA⟩|exact ⟨hk,hka,by rw [zw8 hk hw];exact eA⟩
       ·have hw:(h.evs[k].t==h.evs[a].t && h.evs[k].kind==2)=false:=by first|(rw [hg11_5,hc46];rfl)|(rw [hg11_5];rfl)
        refine rn ?_;first|exact ⟨hk,hka,by rw [zw7 hk hw];exact eA⟩|exact ⟨hk,hka,by rw [zw8 hk hw];exact eA⟩
      ·refine rn ?_;refine y0 rfl (fun hc46=> ?_) (fun hc46=> ?_)
       ·first|cases hc46|exact absurd hc46 (by decide)|(exfalso;simp_all;done)
       ·have hw:(h.evs[k].t==h.evs[a].t && h.evs[k].kind==2)=false:=by first|(rw [hg11_5,hc46];rfl)|(rw [hg11_5];rfl)
        refine rn ?_;first|exact ⟨hk,hka,by rw [zw7 hk hw];exact eA⟩|exact ⟨hk,hka,by rw [zw8 hk hw];exact eA⟩
    ·exfalso;have qk:=zdd hc38 lk;omega
 ·refine q1 ?_;refine q1 ?_;refine q1 ?_;refine qq rfl rfl (by first|exact zcc (c:=false) rfl rfl (congrArg some (by rw [h4];rfl))|exact zcc (c:=true) rfl rfl (congrArg some (by simpa using h4))) ?_
  refine rn ?_;refine y0 rfl (fun hc29=> ?_) (fun hc29=> ?_)
  ·refine y6 ?_;refine q1 ?_;refine u4 (zai ?_)
   refine w9 ?_;refine w9 (y6 ?_)
   refine q1 ?_;refine qq rfl rfl (by first|exact zcc (c:=false) rfl rfl (congrArg some (by rw [hc];rfl))|exact zcc (c:=true) rfl rfl rfl|exact zcc (c:=true) rfl rfl (congrArg some (by simpa using hc))) ?_
   refine rn ?_;refine y0 rfl (fun hc31=> ?_) (fun hc31=> ?_)
   ·refine rn ?_;refine ⟨fun l h=>(by cases h),?_⟩
    exact zbk rfl rfl (.trans (.drop [_,_] _ _) (zae 3 70 _)) ⟨⟨none,0,0⟩,by first|(rw [(yle hc).2];rfl)|(obtain ⟨a,ha,rfl,ea,hk0⟩:=zu5 hc;rw [(yhr hk0 (by rw [←ylm hc];exact fun q=>h4 q.2.2)).2];rfl),by first|(rw [(yle hc).1];rfl)|(obtain ⟨a,ha,rfl,ea,hk0⟩:=zu5 hc;rw [(yhr hk0 (by rw [←ylm hc];exact fun q=>h4 q.2.2)).1];rfl)⟩
   ·first|cases hc31|exact absurd hc31 (by decide)|(exfalso;simp_all;done)
  ·first|cases hc29|exact absurd hc29 (by decide)|(exfalso;simp_all;done)
 ·refine rn ?_;refine y0 rfl (fun hc29=> ?_) (fun hc29=> ?_)
  ·first|cases hc29|exact absurd hc29 (by decide)|(exfalso;simp_all;done)
  ·refine zbz ?_;refine zai ?_;refine w9 ?_;refine w9 (y6 ?_)
   refine q1 ?_;refine qq rfl rfl (by first|exact zcc (c:=false) rfl rfl (congrArg some (by rw [hc];rfl))|exact zcc (c:=true) rfl rfl rfl|exact zcc (c:=true) rfl rfl (congrArg some (by simpa using hc))) ?_
   refine rn ?_;refine y0 rfl (fun hc31=> ?_) (fun hc31=> ?_)
   ·refine rn ?_;refine ⟨fun l h=>(by cases h),?_⟩
    exact zbk rfl rfl (.trans (.drop [_,_] _ _) (zae 3 70 _)) ⟨⟨none,0,0⟩,by first|(rw [(yle hc).2];rfl)|(obtain ⟨a,ha,rfl,ea,hk0⟩:=zu5 hc;rw [(yhr hk0 (by rw [←ylm hc];exact fun q=>h4 q.2.2)).2];rfl),by first|(rw [(yle hc).1];rfl)|(obtain ⟨a,ha,rfl,ea,hk0⟩:=zu5 hc;rw [(yhr hk0 (by rw [←ylm hc];exact fun q=>h4 q.2.2)).1];rfl)⟩
   ·first|cases hc31|exact absurd hc31 (by decide)|(exfalso;simp_all;done)
theorem ydj (h:Hist) (la:Lim 4611686018427387904 h) (n:Int):y8 Tryz.prog 41 [.agg (y9 h),iv n] (.glob 2 156 y2:: .glob 4 305 y3:: .glob 5 308 z8:: .glob 3 246 w6:: []) (fun r h'=>h'= .glob 2 156 y2:: .glob 4 305 y3:: .glob 5 308 z8:: .glob 3 246 w6:: []∧r= .tup [zgw (yc9 h n),iv (zde h n)]):=
 (ygb h la n).ventR (by rintro _ _ ⟨s,rfl,rfl⟩;exact ⟨_,_,zav [] [_],rfl,rfl⟩)
def znp (p:Int×List Int):List AV:= [iv p.1,za5 p.2]
abbrev zha (l:List (Int×List Int)):AV:= .list false 2 (l.map znp)
theorem yjj (l:List (Int×List Int)):∀r∈l.map znp,r.all AV.one=true:=by
 intro r hr;obtain ⟨a,_,rfl⟩:=List.mem_map.1 hr;rfl
theorem ztt {h:Hist} (hc:q6 h=0) (p x:Int):(chL h p x).length≤4000:=by
 rw [chL];split
 ·rename_i he
  have h1:=(zv1.1 he).2.1
  rw [yha]
  refine Nat.le_trans (ztq _ _) ?_
  have:=zla hc h1.1 h1.2
  rw [zkq];omega
 ·exact Nat.zero_le _
theorem zn6 {α:Type} (p:α→Bool):∀(l:List α) (i:Nat), -1≤zbi p i l∧zbi p i l < (i+l.length:Nat)+1
 | [],i=>by simp only [zbi,List.length_nil];omega
 |a::r,i=>by
  have:=zn6 p r (i+1)
  simp only [zbi,List.length_cons]
  split <;> omega
theorem yio {h:Hist} (hc:q6 h=0) {x:Int} (h0:0≤x) (h1:x < h.os.length) {v:Ver} {r:Int} (hr:zfi h x v=some r):0≤r∧r≤4000:=by
 have hb:=zla hc h0 h1
 rw [zfi,zkx (za0.1 hc) v h0 h1 _ (Nat.le_refl _) h1] at hr
 split at hr
 ·injection hr with hr;omega
 ·split at hr
  ·injection hr with hr
   have:zjp h x v < ((0+(zaj h x).length:Nat):Int)+1:=by rw [zjp];exact (zn6 _ _ _).2
   omega
  ·cases hr
theorem zui {h:Hist} {e:Ev} (hn:(!(zfi h e.o e.v).isSome)=true):ze8 h e= []:=by
 rw [ze8];cases hq:zfi h e.o e.v with
 |none=>rfl
 |some r=>rw [hq] at hn;cases hn
theorem zuh {h:Hist} {e:Ev} {r:Int} (hr:zfi h e.o e.v=some r):ze8 h e= [(e.o,[r+1])]:=by rw [ze8,hr]
theorem ztl {α:Type} (p:α→Bool):∀(l:List α) (i:Nat),zbi p i l= -1∨(i:Int)≤zbi p i l
 | [],i=>by simp [zbi]
 |a::r,i=>by
  have:=ztl p r (i+1)
  simp only [zbi]
  split
  ·right;omega
  ·omega
theorem yca {l:List Int} {q:Int→Bool} {i n:Nat} (h:zbi q i l=((i+n:Nat):Int)):l.dropWhile (fun k=> !q k)=l.drop n:=by
 induction l generalizing i n with
 |nil=>simp [zbi] at h;omega
 |cons a r ih=>
  rw [zbi] at h
  by_cases hq:q a=true
  ·rw [if_pos hq] at h
   have:n=0:=by omega
   subst this
   simp [hq]
  ·rw [if_neg hq] at h
   have hf:q a=false:=by simpa using hq
   obtain ⟨m,rfl⟩:∃m,n=m+1:=⟨n - 1,by
    have:=ztl q r (i+1);omega⟩
   rw [List.dropWhile_cons,hf]
   simp only [Bool.not_false,if_true,List.drop_succ_cons]
   exact ih (i:=i+1) (n:=m) (by rw [h];congr 1;omega)
theorem yoa {h:Hist} {e:Ev} {s:Seen} {r:Int} {n:Nat} (hr:zfi h s.o s.v=some r) (hn:zbi (fun k=>decide (k > r)) 0 (chL h e.p s.o)=(n:Int)):zd6 h e s=some (s.o,rwOver h e.p s.o r)∧rwOver h e.p s.o r=(chL h e.p s.o).drop n:=by
 have ha:(chL h e.p s.o).any (fun k=>decide (k > r))=true:=by rw [←zdz _ _ 0,hn];exact decide_eq_true (by omega)
 exact ⟨by rw [zd6,hr];simp only;rw [if_pos ha],by rw [rwOver];exact yca (i:=0) (by rw [hn];congr 1;omega)⟩
theorem ynr {h:Hist} {e:Ev} {s:Seen} (hn:(zfi h s.o s.v).isSome=false∨decide (zbi (fun k=>decide (k > (zfi h s.o s.v).getD 0)) 0 (chL h e.p s.o) ≥ 0)=false):zd6 h e s=none:=by
 rw [zd6]
 cases hr:zfi h s.o s.v with
 |none=>rfl
 |some r=>
  rw [hr] at hn
  rcases hn with q|q
  ·cases q
  ·rw [Option.getD_some,zdz] at q
   simp only
   rw [if_neg (by rw [q];decide)]
theorem yke {α β:Type} (f:α→Option β) (l:List α) (k:Nat):((l.take k).filterMap f).length≤k:=Nat.le_trans (List.length_filterMap_le _ _) (List.length_take_le _ _)
theorem yhw {α β:Type} {f:α→Option β} {l:List α} {k:Nat} {b:β} (hk:k < l.length) (h:f l[k]=some b):(l.take (k+1)).filterMap f=(l.take k).filterMap f++ [b]:=by
 rw [List.take_succ_eq_append_getElem hk,List.filterMap_append];simp [h]
theorem yhx {α β:Type} {f:α→Option β} {l:List α} {k:Nat} (hk:k < l.length) (h:f l[k]=none):(l.take (k+1)).filterMap f=(l.take k).filterMap f:=by
 rw [List.take_succ_eq_append_getElem hk,List.filterMap_append];simp [h]
theorem yl4 (h:Hist) (la:Lim 4611686018427387904 h) (hc:q6 h=0) (p x:Int) (rc rl rk rg:Nat) (M:List ((Int×Int)×List Int)) (hM:zek h M) (W:List Res):y8 Tryz.prog 305 [.agg (rwP h rc rl rk rg),iv p,iv x] (rgR rg M::rkS h rk::zbr h rl::rcR h rc:: .glob 2 156 y2:: .glob 4 305 y3:: .glob 5 308 z8:: .glob 3 246 w6::W) (fun r h'=>∃M',zek h M'∧h'=rgR rg M'::rkS h rk::zbr h rl::rcR h rc:: .glob 2 156 y2:: .glob 4 305 y3:: .glob 5 308 z8:: .glob 3 246 w6::W∧r=za5 (chL h p x)):=by
 refine z6 Tryz.func305 rfl rfl rfl ?_
 refine rn ?_;refine z7 rfl (w7 rfl rfl rfl fun b3=> ?_)
 refine q1 ?_;refine u4 (zai ?_)
 refine w9 (y6 ?_)
 refine q1 ?_;refine q1 ?_;refine qq rfl rfl (za7 (out:= [iv p,iv x]) rfl (by rfl)) ?_
 refine z7 rfl (y7 rfl fun b7=> ?_)
 first|refine z7 rfl (u7 rfl rfl rfl ?_)|refine z7 rfl (zad rfl rfl rfl rfl (Nat.le_of_ble_eq_true rfl) ?_)
 refine u4 (zai ?_)
 refine w9 ?_;refine w9 (y6 ?_)
 refine q1 ?_;refine q1 ?_;refine q1 ?_;refine qq rfl rfl (zd8 (g:=za5) (enc:=zag) (k:=(p,x)) ([]:List Int) rfl rfl rfl) ?_
 refine rn ?_;refine y0 rfl (fun hc21=> ?_) (fun hc21=> ?_)
 ·refine zgq 12 [11] [] (fun he=>∃M,he= .box b7 45 [iv p,iv x]:: .box b3 119 (rwP h rc rl rk rg)::rgR rg M::rkS h rk::zbr h rl::rcR h rc:: .glob 2 156 y2:: .glob 4 305 y3:: .glob 5 308 z8:: .glob 3 246 w6::W) rfl rfl ⟨_,rfl⟩ ?_
  refine jq rfl (fun he hC=>by obtain ⟨M,rfl⟩:=hC <;> exact qrA) ?_
  refine jq rfl (fun he hC=>by obtain ⟨M,rfl⟩:=hC <;> exact qrA) ?_
  refine jq rfl (fun he hC=>by obtain ⟨M,rfl⟩:=hC <;> exact qrA) ?_
  refine jq rfl (fun he hC=>by obtain ⟨M,rfl⟩:=hC <;> exact qrA) ?_
  refine jq rfl (fun he hC=>by obtain ⟨M,rfl⟩:=hC <;> exact qrA) ?_
  refine jq rfl (fun he hC=>by obtain ⟨M,rfl⟩:=hC <;> exact qrA) ?_
  refine jq rfl (fun he hC=>by obtain ⟨M,rfl⟩:=hC <;> exact qrA) ?_
  refine jv rfl (fun he hC=>by obtain ⟨M,rfl⟩:=hC <;> exact (by exact y4 rfl rfl (y1.qt (y1.of_fun (ydk h la p x)) ((pt6 _ _ _ _ _ _ _ _).trans (.cons _ ((pt6 _ _ _ _ _ _ _ _).trans (.cons _ ((pt6 _ _ _ _ _ _ _ _).trans (.cons _ (pt6 _ _ _ _ _ _ _ _)))))))))) ?_
  refine jq rfl (fun he hC=>by obtain ⟨M,rfl⟩:=hC <;> exact qrA) ?_
  refine jq rfl (fun he hC=>by obtain ⟨M,rfl⟩:=hC <;> exact qrA) ?_
  refine jq rfl (fun he hC=>by obtain ⟨M,rfl⟩:=hC <;> exact qrA) ?_
  refine je rfl ?_;refine ygj ?_;refine jce rfl fun u=> ?_
  refine j7 (g:=za5) (enc:=zag) (k:=(p,x)) (v:=chL h p x) rfl rfl rfl ⟨.any,_,rfl,⟨_,rfl⟩,?_⟩
  refine jcn ?_;refine ln ?_;refine u4 (zai ?_)
  refine w9 (y6 ?_)
  refine q1 ?_;refine q1 ?_;refine q1 ?_;refine qq rfl rfl (zay (g:=za5) (enc:=zag) (k:=(p,x)) ([]:List Int) rfl rfl) ?_
  refine rn ?_;first|exact zak rfl (.drop [_,_] _ _) ⟨_,zkf hM p x,rfl,congrArg za5 (zts p x)⟩|exact zak rfl (.drop [_,_] _ _) ⟨_,hM,rfl,congrArg za5 (zkh hM hc21)⟩
 ·refine zbz ?_;refine zai ?_;refine w9 (y6 ?_)
  refine q1 ?_;refine q1 ?_;refine q1 ?_;refine qq rfl rfl (zay (g:=za5) (enc:=zag) (k:=(p,x)) ([]:List Int) rfl rfl) ?_
  refine rn ?_;first|exact zak rfl (.drop [_,_] _ _) ⟨_,zkf hM p x,rfl,congrArg za5 (zts p x)⟩|exact zak rfl (.drop [_,_] _ _) ⟨_,hM,rfl,congrArg za5 (zkh hM hc21)⟩
theorem zwl (h:Hist) (rc rl rk rg:Nat) (n:Int) (W:List Res):y8 Tryz.prog 302 [.agg (rwP h rc rl rk rg),iv n] W (fun r h'=>h'=W∧r=zha []):=by
 refine z6 Tryz.func302 rfl rfl rfl ?_
 refine rn ?_;refine z7 rfl (w7 rfl rfl rfl fun b2=> ?_)
 refine rn ?_;exact zak rfl (.trans (.drop [_] _ _) (.le (Sb.nil false 2).le)) ⟨rfl,rfl⟩
theorem yik (h:Hist) (la:Lim 4611686018427387904 h) (hc:q6 h=0) (a:Nat) (ha:a < h.evs.length) (h3:h.evs[a].kind=3) (rc rl rk rg:Nat) (M:List ((Int×Int)×List Int)) (W:List Res):y8 Tryz.prog 303 [.agg (rwP h rc rl rk rg),iv (a:Int)] (rgR rg M::rkS h rk::zbr h rl::rcR h rc:: .glob 2 156 y2:: .glob 4 305 y3:: .glob 5 308 z8:: .glob 3 246 w6::W) (fun r h'=>h'=rgR rg M::rkS h rk::zbr h rl::rcR h rc:: .glob 2 156 y2:: .glob 4 305 y3:: .glob 5 308 z8:: .glob 3 246 w6::W∧r=zha (ze8 h h.evs[a])):=by
 refine z6 Tryz.func303 rfl rfl rfl ?_
 have ra:=zbs (f:=evR) ha
 refine rn ?_;refine z7 rfl (w7 rfl rfl rfl fun b2=> ?_)
 refine q1 ?_;refine u4 (zai ?_)
 refine w9 (y6 ?_)
 refine q1 ?_;refine q1 ?_;refine q1 ?_;refine q1 ?_;refine qq rfl rfl (zca rfl rfl ra) ?_
 refine rn ?_;refine z7 rfl (y7 rfl fun b5=> ?_)
 first|refine z7 rfl (u7 rfl rfl rfl ?_)|refine z7 rfl (zad rfl rfl rfl rfl (Nat.le_of_ble_eq_true rfl) ?_)
 refine u4 (zai ?_)
 refine w9 (y6 ?_)
 refine q1 ?_;refine q1 ?_;refine q1 ?_;refine q1 ?_;refine q1 ?_;refine q1 ?_;refine qq rfl rfl (u9 (out:= [iv h.evs[a].o,iv h.evs[a].v.t,iv h.evs[a].v.k]) rfl (by rfl)) ?_
 refine qq rfl rfl (zd8 (g:=iv) (enc:=zcr) (k:=(h.evs[a].o,h.evs[a].v.t,h.evs[a].v.k)) (0:Int) rfl rfl rfl) ?_
 refine rn ?_;refine y0 rfl (fun hc26=> ?_) (fun hc26=> ?_)
 ·have hn:(!(zfi h h.evs[a].o h.evs[a].v).isSome)=true:=hc26
  refine rn ?_;exact zak rfl (.trans (.drop [_,_] _ _) (.le (Sb.nil false 2).le)) ⟨rfl,by rw [zui hn];rfl⟩
 ·obtain ⟨r0,hr⟩:∃r,(zap (h.evs[a].o,h.evs[a].v.t,h.evs[a].v.k) (rkM h h.os.length))=some r:=Option.isSome_iff_exists.1 (by simpa using hc26)
  have hr':zfi h h.evs[a].o h.evs[a].v=some r0:=hr
  have hb:=yio hc (zkz (zdl (za0.1 hc) _ (List.getElem_mem ha)) h3).1.1 (zkz (zdl (za0.1 hc) _ (List.getElem_mem ha)) h3).1.2 hr'
  rw [hr,Option.getD_some]
  refine rn ?_;refine qv rfl rfl (w8 rfl rfl) ?_
  refine qq rfl rfl (u9 (out:= [iv h.evs[a].o,.list true 1 [[iv (r0+1)]]]) rfl (by rfl)) ?_
  refine qv rfl rfl (w8 rfl rfl) ?_
  refine rn ?_;exact zak rfl (.trans (.drop [_,_] _ _) (.le (Sb.lists (rows:= [[iv h.evs[a].o,.list true 1 [[iv (r0+1)]]]]) (rows':= [[iv h.evs[a].o,.list false 1 [[iv (r0+1)]]]]) (by simp) ⟨⟨.refl _,.unfull,trivial⟩,trivial⟩).le)) ⟨rfl,by rw [zuh hr'];rfl⟩
theorem ye6 (k r0:Int) (b:Nat) (W:List Res):y8 Tryz.prog 306 [iv k,pZ b] (.box b 3 [iv r0]::W) (fun r h'=>h'= .box b 3 [iv r0]::W∧r=bv (decide (k > r0))):=by
 refine z6 Tryz.func306 rfl rfl rfl ?_
 refine rn ?_;refine rq 0 ?_
 exact ⟨rfl,rfl⟩
theorem yij (h:Hist) (la:Lim 4611686018427387904 h) (hc:q6 h=0) (a:Nat) (ha:a < h.evs.length) (h4:h.evs[a].kind=4) (rc rl rk rg:Nat) (M:List ((Int×Int)×List Int)) (hM:zek h M) (W:List Res):y8 Tryz.prog 304 [.agg (rwP h rc rl rk rg),iv (a:Int)] (rgR rg M::rkS h rk::zbr h rl::rcR h rc:: .glob 2 156 y2:: .glob 4 305 y3:: .glob 5 308 z8:: .glob 3 246 w6::W) (fun r h'=>∃M',zek h M'∧h'=rgR rg M'::rkS h rk::zbr h rl::rcR h rc:: .glob 2 156 y2:: .glob 4 305 y3:: .glob 5 308 z8:: .glob 3 246 w6::W∧r=zha (zno h h.evs[a] a)):=by
 refine z6 Tryz.func304 rfl rfl rfl ?_
 have ra:=zbs (f:=evR) ha
 have hse:=ylf ha hc h4
 have lA:=zdk hc
 have lO:=lA.os
 have lS:(k7 h h.evs[a] a).length=h.os.length:=zkv h h.evs[a] a
 refine rn ?_;refine z7 rfl (w7 rfl rfl rfl fun b2=> ?_)
 refine rn ?_;refine qv rfl rfl (y4 rfl rfl (y1.qt (y1.of_fun (ydj h la (a:Int))) ((pt5 _ _ _ _ _ _ _).trans (.cons _ ((pt5 _ _ _ _ _ _ _).trans (.cons _ ((pt5 _ _ _ _ _ _ _).trans (.cons _ (pt5 _ _ _ _ _ _ _))))))))) ?_
 rw [hse.1,hse.2]
 refine rn ?_;refine zfg (k7 h h.evs[a] a).length (fun j (z:SV×List ((Int×Int)×List Int))=>zek h z.2) (fun j z=>⟨[(23,iv j),(5,.v z.1.v),(1,iv (a:Int)),(2,pZ b2),(21,zgw (k7 h h.evs[a] a)),(22,iv ((k7 h h.evs[a] a).map zas).length)],.row z.1.v 2 177 ((((k7 h h.evs[a] a).take j).filterMap (zd6 h h.evs[a])).map znp):: .box b2 119 (rwP h rc rl rk rg)::rgR rg z.2::rkS h rk::zbr h rl::rcR h rc:: .glob 2 156 y2:: .glob 4 305 y3:: .glob 5 308 z8:: .glob 3 246 w6::W,[]⟩) (⟨none,0,0⟩,M) hM (v6 (zaz 2 177) es) ?_
 intro j z lj hz
 refine rn ?_;refine y0 rfl (fun hc24=> ?_) (fun hc24=> ?_)
 ·have hj:=zdb hc24
  have rj:=zbs (f:=zas) hj
  have bl:=yke (zd6 h h.evs[a]) (k7 h h.evs[a] a) j
  have bc:=ztt hc h.evs[a].p (k7 h h.evs[a] a)[j].o
  refine rn ?_;refine z7 rfl (y7 rfl fun b9=> ?_)
  first|refine z7 rfl (u7 rfl rfl rfl ?_)|refine z7 rfl (zad rfl rfl rfl rfl (Nat.le_of_ble_eq_true rfl) ?_)
  refine u4 (zai ?_)
  refine w9 (y6 ?_)
  refine q1 ?_;refine q1 ?_;refine q1 ?_;refine q1 ?_;refine q1 ?_;refine q1 ?_;refine qq rfl rfl (u9 (out:= [iv (k7 h h.evs[a] a)[j].o,iv (k7 h h.evs[a] a)[j].v.t,iv (k7 h h.evs[a] a)[j].v.k]) rfl (by rfl)) ?_
  refine qq rfl rfl (zd8 (g:=iv) (enc:=zcr) (k:=((k7 h h.evs[a] a)[j].o,(k7 h h.evs[a] a)[j].v.t,(k7 h h.evs[a] a)[j].v.k)) (0:Int) rfl rfl rfl) ?_
  refine rn ?_;refine z7 rfl (y7 rfl fun b10=> ?_)
  refine rn ?_;refine j3 10 rfl ?_
  refine dq rfl rfl qrA ?_;refine dq rfl rfl qrA ?_;refine dq rfl rfl qrA ?_;refine dq rfl rfl qrA ?_;refine dq rfl rfl qrA ?_;refine dq rfl rfl (zca rfl rfl ra) ?_
  refine rn ?_;refine z7 rfl (q7 rfl rfl (y1.fr4 (y1.of_fun (yl4 h la hc h.evs[a].p (k7 h h.evs[a] a)[j].o rc rl rk rg z.2 hz W))) rfl ?_)
  rintro _ _ ⟨_,rfl,M2,hM2,rfl,rfl⟩
  refine rn ?_;refine qv rfl rfl (y4 rfl rfl (y1.of_fun (zjk (chL h h.evs[a].p (k7 h h.evs[a] a)[j].o) _ (fun k=>decide (k > ((zap ((k7 h h.evs[a] a)[j].o,(k7 h h.evs[a] a)[j].v.t,(k7 h h.evs[a] a)[j].v.k) (rkM h h.os.length)).getD 0))) (.box b10 3 [iv ((zap ((k7 h h.evs[a] a)[j].o,(k7 h h.evs[a] a)[j].v.t,(k7 h h.evs[a] a)[j].v.k) (rkM h h.os.length)).getD 0)]:: .box b9 70 (zas (k7 h h.evs[a] a)[j]):: .row z.1.v 2 177 ((((k7 h h.evs[a] a).take j).filterMap (zd6 h h.evs[a])).map znp):: .box b2 119 (rwP h rc rl rk rg)::rgR rg M2::rkS h rk::zbr h rl::rcR h rc:: .glob 2 156 y2:: .glob 4 305 y3:: .glob 5 308 z8:: .glob 3 246 w6::W) (fun k _=>y1.of_acall (fs:= []) (cs:= [pZ b10]) (ye6 k ((zap ((k7 h h.evs[a] a)[j].o,(k7 h h.evs[a] a)[j].v.t,(k7 h h.evs[a] a)[j].v.k) (rkM h h.os.length)).getD 0) b10 _)) (by omega)))) ?_
  refine rn ?_;refine v8 (fun hg9_1=> ?_) (fun hg9_1=> ?_)
  ·refine rn ?_;refine y0 rfl (fun hc56=> ?_) (fun hc56=> ?_)
   ·have q9:decide ((zbi (fun k=>decide (k > ((zap ((k7 h h.evs[a] a)[j].o,(k7 h h.evs[a] a)[j].v.t,(k7 h h.evs[a] a)[j].v.k) (rkM h h.os.length)).getD 0))) 0 (chL h h.evs[a].p (k7 h h.evs[a] a)[j].o)) ≥ 0)=true:=by first|exact hc56|(have q:=hc56;rw [hg9_1] at q;simpa using q)
    have q8:=oT q9
    obtain ⟨n,hn⟩:∃n:Nat,(zbi (fun k=>decide (k > ((zap ((k7 h h.evs[a] a)[j].o,(k7 h h.evs[a] a)[j].v.t,(k7 h h.evs[a] a)[j].v.k) (rkM h h.os.length)).getD 0))) 0 (chL h h.evs[a].p (k7 h h.evs[a] a)[j].o))=n:=⟨(zbi (fun k=>decide (k > ((zap ((k7 h h.evs[a] a)[j].o,(k7 h h.evs[a] a)[j].v.t,(k7 h h.evs[a] a)[j].v.k) (rkM h h.os.length)).getD 0))) 0 (chL h h.evs[a].p (k7 h h.evs[a] a)[j].o)).toNat,by omega⟩
    obtain ⟨r0,hr⟩:∃r,zfi h (k7 h h.evs[a] a)[j].o (k7 h h.evs[a] a)[j].v=some r:=Option.isSome_iff_exists.1 hg9_1
    obtain ⟨hsr,hov⟩:=yoa (e:=h.evs[a]) (n:=n) hr (by rw [←hn];show _=zbi (fun k=>decide (k > (zfi h (k7 h h.evs[a] a)[j].o (k7 h h.evs[a] a)[j].v).getD 0)) 0 _;rw [hr];rfl)
    rw [hn]
    have hnl:n≤(chL h h.evs[a].p (k7 h h.evs[a] a)[j].o).length:=by have:=(zn6 (fun k=>decide (k > ((zap ((k7 h h.evs[a] a)[j].o,(k7 h h.evs[a] a)[j].v.t,(k7 h h.evs[a] a)[j].v.k) (rkM h h.os.length)).getD 0))) (chL h h.evs[a].p (k7 h h.evs[a] a)[j].o) 0).2;omega
    refine j3 8 rfl ?_
    refine dq rfl rfl qrA ?_;refine dq rfl rfl qrA ?_;refine dq rfl rfl qrA ?_;refine dq rfl rfl qrA ?_;refine dq rfl rfl qrA ?_;refine dq rfl rfl (zq6 (zmp (l:=n) rfl rfl (by rw [oM];exact hnl)) (show AV.list false 1 _=za5 (rwOver h h.evs[a].p (k7 h h.evs[a] a)[j].o r0) by rw [←List.map_drop,←hov];rfl)) ?_
    refine dq rfl rfl (u9 (out:=znp ((k7 h h.evs[a] a)[j].o,rwOver h h.evs[a].p (k7 h h.evs[a] a)[j].o r0)) rfl (by rfl)) ?_
    refine dv rfl rfl (w8 rfl rfl) ?_
    refine rn ?_;refine z7 rfl (j6 rfl rfl (by simp only [oM,List.length_cons,List.length_nil];omega) rfl (fun s65=> ?_) (yjj [((k7 h h.evs[a] a)[j].o,rwOver h h.evs[a].p (k7 h h.evs[a] a)[j].o r0)]))
    refine zal s65 fun sv hsv=> ?_
    subst hsv
    refine rn ?_;first|exact ⟨hj,(sv,M2),hM2,by rw [yhw hj hsr,List.map_append];exact eA⟩|exact ⟨hj,(z.1,M2),hM2,by rw [yhx hj hsr];exact eA⟩
   ·have hsr:zd6 h h.evs[a] (k7 h h.evs[a] a)[j]=none:=ynr (by first|exact .inr hc56|exact .inl hg9_1)
    refine rn ?_;first|exact ⟨hj,(sv,M2),hM2,by rw [yhw hj hsr,List.map_append];exact eA⟩|exact ⟨hj,(z.1,M2),hM2,by rw [yhx hj hsr];exact eA⟩
  ·refine rn ?_;refine zoe rfl ?_;have hsr:zd6 h h.evs[a] (k7 h h.evs[a] a)[j]=none:=ynr (by first|exact .inr hc56|exact .inl hg9_1)
   refine rn ?_;first|exact ⟨hj,(sv,M2),hM2,by rw [yhw hj hsr,List.map_append];exact eA⟩|exact ⟨hj,(z.1,M2),hM2,by rw [yhx hj hsr];exact eA⟩
 ·have qj:=zdd hc24 lj
  refine rn ?_;exact zak rfl (.trans zg8 (.drop [_] _ _)) ⟨_,hz,rfl,by rw [qj,List.take_length];rfl⟩
end Go.Proofs
