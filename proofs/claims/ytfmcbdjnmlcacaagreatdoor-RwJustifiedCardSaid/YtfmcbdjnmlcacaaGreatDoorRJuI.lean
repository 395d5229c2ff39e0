/- The walk of history.spoken, reading. Conditions: none. -/
import Derived.Test.YtfmcbdjnmlcacaaGreatDoorRJuH
set_option maxHeartbeats 4000000
set_option linter.unusedSectionVars false
set_option linter.unusedSimpArgs false
set_option linter.unusedVariables false
set_option maxRecDepth 10000
namespace Go.Proofs
open Go Go.Ab
attribute [local irreducible] QR QV OE zct aw zdf zch zbm za3 thn zfl
open Go.H
theorem zyu {σ:Type} (step:σ→Nat×Int→Option σ) (ok:Nat×Int→Prop) (IJ:Option σ→List Res→Prop) (y:AV) (hy:∀(s:σ) (L:List Res) (sort:Nat) (n:Int) (cells:List AV),ok (sort,n)→IJ (some s) L→y0 Tryz.prog y [iv sort,.pp (iv n::cells)] L (fun r h'=>r=bv (step s (sort,n)).isSome∧IJ (step s (sort,n)) h')) (sort:Nat) (n:Int) (hs:ok (sort,n)) (cells:List AV) (bm by_:Nat) (st:Option σ) (L:List Res) (hI:IJ st L):y8 Tryz.prog 202 [iv sort,.pp (iv n::cells),pZ bm,pZ by_] (.box bm 4 [bv (st).isSome]:: .box by_ 239 [y]::L) (fun r h'=>∃L',IJ (goes step st [(sort,n)]) L'∧h'= .box bm 4 [bv (goes step st [(sort,n)]).isSome]:: .box by_ 239 [y]::L'):=by
 refine z6 Tryz.func202 rfl rfl rfl ?_
 refine rn ?_;refine w7 (fun hg0_1=> ?_) (fun hg0_1=> ?_)
 ·refine rn ?_;obtain ⟨s,rfl⟩:=Option.isSome_iff_exists.1 hg0_1
  refine z8 rfl (v8 rfl rfl (y0.fr2 (hy s L sort n cells hs hI)) rfl ?_)
  rintro _ _ ⟨L2,rfl,rfl,hI2⟩
  refine rn ?_;first
   |exact zf3 .nil (.refl _ _) ⟨L2,hI2,rfl⟩
   |(obtain rfl:=Option.not_isSome_iff_eq_none.1 (show ¬st.isSome=true by simp [hg0_1])
     exact zf3 .nil (.refl _ _) ⟨L,hI,rfl⟩)
 ·refine rn ?_;first
   |exact zf3 .nil (.refl _ _) ⟨L2,hI2,rfl⟩
   |(obtain rfl:=Option.not_isSome_iff_eq_none.1 (show ¬st.isSome=true by simp [hg0_1])
     exact zf3 .nil (.refl _ _) ⟨L,hI,rfl⟩)
theorem ynw {σ:Type} (step:σ→Nat×Int→Option σ) (ok:Nat×Int→Prop) (IJ:Option σ→List Res→Prop) (y:AV) (hy:∀(s:σ) (L:List Res) (sort:Nat) (n:Int) (cells:List AV),ok (sort,n)→IJ (some s) L→y0 Tryz.prog y [iv sort,.pp (iv n::cells)] L (fun r h'=>r=bv (step s (sort,n)).isSome∧IJ (step s (sort,n)) h')) (v:Ver) (hv:∀x∈zg5 v,ok x) (cells:List AV) (bs bm by_:Nat) (st:Option σ) (L:List Res) (hI:IJ st L):y8 Tryz.prog 203 [.pp (iv v.t::iv v.k::cells),pZ bs] (.box bs 240 [.fn (.func 202) [] [pZ bm,pZ by_]]:: .box bm 4 [bv (st).isSome]:: .box by_ 239 [y]::L) (fun r h'=>∃L',IJ (goes step st (zg5 v)) L'∧h'= .box bs 240 [.fn (.func 202) [] [pZ bm,pZ by_]]:: .box bm 4 [bv (goes step st (zg5 v)).isSome]:: .box by_ 239 [y]::L'):=by
 refine z6 Tryz.func203 rfl rfl rfl ?_
 refine rn ?_;refine z7 rfl (fun hc7=> ?_) (fun hc7=> ?_)
 ·refine k9 4 rfl ?_
  refine rn ?_;refine z8 rfl (v8 rfl rfl (y0.fr1 (y0.of_acall (fs:= []) (cs:= [pZ bm,pZ by_]) (zyu step ok IJ y hy 0 v.t (hv _ (by rw [zg5,if_pos hc7];simp)) (iv v.k::cells) bm by_ _ _ hI))) rfl ?_)
  rintro _ _ ⟨_,rfl,L2,hI2,rfl⟩
  refine rn ?_;first
   |(have hm:zg5 v= [(0,v.t)]:=by rw [zg5,if_pos hc7]
     rw [hm];exact zf3 .nil (.refl _ _) ⟨L2,hI2,rfl⟩)
   |(have hm:zg5 v= []:=by rw [zg5,if_neg (by rw [hc7];decide)]
     rw [hm];exact zf3 .nil (.refl _ _) ⟨L,hI,rfl⟩)
 ·refine rn ?_;first
   |(have hm:zg5 v= [(0,v.t)]:=by rw [zg5,if_pos hc7]
     rw [hm];exact zf3 .nil (.refl _ _) ⟨L2,hI2,rfl⟩)
   |(have hm:zg5 v= []:=by rw [zg5,if_neg (by rw [hc7];decide)]
     rw [hm];exact zf3 .nil (.refl _ _) ⟨L,hI,rfl⟩)
theorem yln {σ:Type} (step:σ→Nat×Int→Option σ) (ok:Nat×Int→Prop) (IJ:Option σ→List Res→Prop) (y:AV) (hone:y.cellsOf=some [y]) (hy:∀(s:σ) (L:List Res) (sort:Nat) (n:Int) (cells:List AV),ok (sort,n)→IJ (some s) L→y0 Tryz.prog y [iv sort,.pp (iv n::cells)] L (fun r h'=>r=bv (step s (sort,n)).isSome∧IJ (step s (sort,n)) h')) (h:Hist) (la:Lim 4611686018427387904 h) (b1 bh:Nat) (hok:∀x∈zc8 h,ok x) (s0:σ) (L0:List Res) (h0:IJ (some s0) L0):y8 Tryz.prog 201 [y,pZ b1] (.box b1 184 [pZ bh]:: .box bh 28 (w6 h)::L0) (fun r h'=>∃L',IJ (goes step (some s0) (zc8 h)) L'∧h'= .box b1 184 [pZ bh]:: .box bh 28 (w6 h)::L'):=by
 refine z6 Tryz.func201 rfl rfl rfl ?_
 refine rn ?_;refine z8 rfl (w9 rfl hone rfl fun by_=> ?_)
 refine rn ?_;refine z8 rfl (y4 rfl fun bm=> ?_)
 refine rn ?_;refine z8 rfl (y4 rfl fun bs=> ?_)
 refine rn ?_;refine zai (fun x:Nat×Option σ×List Res=>x.1≤h.evs.length∧IJ x.2.1 x.2.2∧Rem step ok x.2.1 (((h.evs.drop x.1).flatMap evL)++(h.ords.flatMap ykb++(h.mats.flatMap yfm++h.wants.flatMap yam))) (goes step (some s0) (zc8 h))) (fun x=>⟨[(22,iv x.1),(21,iv (h.evs.map evR).length),(1,pZ b1),(4,pZ bs),(5,.fn (.func 203) [] [pZ bs])],.box b1 184 [pZ bh]:: .box bh 28 (w6 h):: .box bs 240 [.fn (.func 202) [] [pZ bm,pZ by_]]:: .box bm 4 [bv (x.2.1).isSome]:: .box by_ 239 [y]::x.2.2,[]⟩) (fun x=>h.evs.length - x.1) (0,some s0,L0) ⟨by omega,h0,rfl,hok⟩
  (v7 (zap ((pt3 _ _ _ _ _).trans (.cons _ (pt3 _ _ _ _ _)))) (u3 (.cons _ _ _ rfl (.cons _ _ _ rfl (.cons _ _ _ rfl (.cons _ _ _ rfl (.cons _ _ _ rfl (.nil)))))))) ?_
 rintro ⟨k,st,L⟩ ⟨hk,hI,hF⟩
 simp only at hk hI hF
 refine rn ?_;refine z7 rfl (fun hc23=> ?_) (fun hc23=> ?_)
 ·have k2:k < h.evs.length:=by simpa using hc23
  obtain ⟨e,he⟩:∃e,e=h.evs[k]:=⟨_,rfl⟩
  have hrowe:(h.evs.map evR)[k]? =some (evR e):=by rw [he];simp [k2]
  have hde:=List.drop_eq_getElem_cons k2
  rw [hde,←he] at hF
  simp only [List.flatMap_cons,evL,List.cons_append,List.append_assoc] at hF
  obtain ⟨hx,hF⟩:=hF.cons
  obtain ⟨hkx,hF⟩:=hF.app
  have hle:=la.evs
  have hls:=la.scans e (by rw [he];simp)
  refine rn ?_;refine k9 4 rfl ?_
  refine rn ?_;refine z8 rfl (v8 rfl rfl (y0.fr3 (y0.of_acall (fs:= []) (cs:= [pZ bm,pZ by_]) (zyu step ok IJ y hy 0 e.t hx _ bm by_ _ _ hI))) rfl ?_)
  rintro _ _ ⟨_,rfl,L,hI,rfl⟩
  refine rn0 ?_;refine zwd (fun L=>IJ (goes step (goes step st [(0,e.t)]) (zg7 e)) L) (fun L=>⟨[(7,.pp (evR e)),(22,iv k),(21,iv (h.evs.map evR).length),(1,pZ b1),(4,pZ bs),(5,.fn (.func 203) [] [pZ bs])],.box b1 184 [pZ bh]:: .box bh 28 (w6 h):: .box bs 240 [.fn (.func 202) [] [pZ bm,pZ by_]]:: .box bm 4 [bv (goes step (goes step st [(0,e.t)]) (zg7 e)).isSome]:: .box by_ 239 [y]::L,[]⟩) ?_ ?_
  ·refine rn ?_;refine z7 rfl (fun hc40=> ?_) (fun hc40=> ?_)
   ·have hkl:=ydg (e:=e) (by simpa using hc40)
    refine k9 4 rfl ?_
    refine rn ?_;refine z8 rfl (v8 rfl rfl (y0.fr3 (y0.of_acall (fs:= []) (cs:= [pZ bm,pZ by_]) (zyu step ok IJ y hy 1 e.s (hkx _ (by rw [hkl];simp)) _ bm by_ _ _ hI))) rfl ?_)
    rintro _ _ ⟨_,rfl,L,hI,rfl⟩
    refine rn ?_;refine ⟨L,?_,?_⟩
    ·show IJ (goes step _ (zg7 e)) L
     rw [hkl];exact hI
    ·rw [hkl];exact (u3 (.cons _ _ _ rfl (.cons _ _ _ rfl (.cons _ _ _ rfl (.cons _ _ _ rfl (.cons _ _ _ rfl (.cons _ _ _ rfl (.nil))))))))
   ·have hn1:e.kind≠1:=by simpa using hc40
    refine rn ?_;refine z7 rfl (fun hc47=> ?_) (fun hc47=> ?_)
    ·have hk23:e.kind=2∨e.kind=3:=by simp at hc47;omega
     have hkl:=znq hk23
     refine rn ?_;refine z7 rfl (fun hc47=> ?_) (fun hc47=> ?_)
     ·have hk23:e.kind=2∨e.kind=3:=by simp at hc47;omega
      have hkl:=znq hk23
      refine rn ?_;refine k9 4 rfl ?_
      refine rn ?_;refine z8 rfl (v8 rfl rfl (y0.fr3 (y0.of_acall (fs:= []) (cs:= [pZ bm,pZ by_]) (zyu step ok IJ y hy 2 e.o (hkx _ (by rw [hkl];simp)) _ bm by_ _ _ hI))) rfl ?_)
      rintro _ _ ⟨_,rfl,L,hI,rfl⟩
      refine rn ?_;refine z8 rfl (v8 rfl rfl (y0.fr2 (y0.of_acall (fs:= []) (cs:= [pZ bs]) (ynw step ok IJ y hy e.v (fun x hx=>hkx x (by rw [hkl];simp [hx])) _ bs bm by_ _ _ hI))) rfl ?_)
      rintro _ _ ⟨_,rfl,L,hI,rfl⟩
      refine rn ?_;refine ⟨L,?_,?_⟩
      ·show IJ (goes step _ (zg7 e)) L
       rw [hkl];exact hI
      ·rw [hkl];exact (u3 (.cons _ _ _ rfl (.cons _ _ _ rfl (.cons _ _ _ rfl (.cons _ _ _ rfl (.cons _ _ _ rfl (.cons _ _ _ rfl (.nil))))))))
     ·first|cases hc47|exact absurd hc47 (by decide)|(exfalso;simp_all;done)
    ·have hn23:=hc47
     simp at hn23
     refine rn ?_;refine z7 rfl (fun hc47=> ?_) (fun hc47=> ?_)
     ·have hk23:e.kind=2∨e.kind=3:=by simp at hc47;omega
      have hkl:=znq hk23
      refine rn ?_;refine k9 4 rfl ?_
      refine rn ?_;refine z8 rfl (v8 rfl rfl (y0.fr3 (y0.of_acall (fs:= []) (cs:= [pZ bm,pZ by_]) (zyu step ok IJ y hy 2 e.o (hkx _ (by rw [hkl];simp)) _ bm by_ _ _ hI))) rfl ?_)
      rintro _ _ ⟨_,rfl,L,hI,rfl⟩
      refine rn ?_;refine z8 rfl (v8 rfl rfl (y0.fr2 (y0.of_acall (fs:= []) (cs:= [pZ bs]) (ynw step ok IJ y hy e.v (fun x hx=>hkx x (by rw [hkl];simp [hx])) _ bs bm by_ _ _ hI))) rfl ?_)
      rintro _ _ ⟨_,rfl,L,hI,rfl⟩
      refine rn ?_;refine ⟨L,?_,?_⟩
      ·show IJ (goes step _ (zg7 e)) L
       rw [hkl];exact hI
      ·rw [hkl];exact (u3 (.cons _ _ _ rfl (.cons _ _ _ rfl (.cons _ _ _ rfl (.cons _ _ _ rfl (.cons _ _ _ rfl (.cons _ _ _ rfl (.nil))))))))
     ·have hn23:=hc47
      simp at hn23
      refine rn ?_;refine z7 rfl (fun hc60=> ?_) (fun hc60=> ?_)
      ·have hkl:=ydf (e:=e) (by simpa using hc60)
       refine k9 4 rfl ?_
       refine rn ?_;refine z8 rfl (v8 rfl rfl (y0.fr3 (y0.of_acall (fs:= []) (cs:= [pZ bm,pZ by_]) (zyu step ok IJ y hy 3 e.p (hkx _ (by rw [hkl];simp)) _ bm by_ _ _ hI))) rfl ?_)
       rintro _ _ ⟨_,rfl,L,hI,rfl⟩
       refine rn ?_;refine ⟨L,?_,?_⟩
       ·show IJ (goes step _ (zg7 e)) L
        rw [hkl];exact hI
       ·rw [hkl];exact (u3 (.cons _ _ _ rfl (.cons _ _ _ rfl (.cons _ _ _ rfl (.cons _ _ _ rfl (.cons _ _ _ rfl (.cons _ _ _ rfl (.nil))))))))
      ·have hn4:e.kind≠4:=by simpa using hc60
       have hkl:=ydh (e:=e) hn1 (by omega) (by omega) hn4
       refine rn ?_;refine ⟨L,?_,?_⟩
       ·show IJ (goes step _ (zg7 e)) L
        rw [hkl];exact hI
       ·rw [hkl];exact (u3 (.cons _ _ _ rfl (.cons _ _ _ rfl (.cons _ _ _ rfl (.cons _ _ _ rfl (.cons _ _ _ rfl (.cons _ _ _ rfl (.nil))))))))
  ·rintro L hI
   revert hI hF
   generalize goes step (goes step st [(0,e.t)]) (zg7 e)=st2
   intro hF hI
   refine rn ?_;refine zai (fun x:Nat×Option σ×List Res=>x.1≤e.scan.length∧IJ x.2.1 x.2.2∧Rem step ok x.2.1 (((e.scan.drop x.1).flatMap zuu)++(((h.evs.drop (k+1)).flatMap evL)++(h.ords.flatMap ykb++(h.mats.flatMap yfm++h.wants.flatMap yam)))) (goes step (some s0) (zc8 h))) (fun x=>⟨[(72,iv x.1),(71,iv (e.scan.map zaq).length),(7,.pp (evR e)),(22,iv k),(21,iv (h.evs.map evR).length),(1,pZ b1),(4,pZ bs),(5,.fn (.func 203) [] [pZ bs])],.box b1 184 [pZ bh]:: .box bh 28 (w6 h):: .box bs 240 [.fn (.func 202) [] [pZ bm,pZ by_]]:: .box bm 4 [bv (x.2.1).isSome]:: .box by_ 239 [y]::x.2.2,[]⟩) (fun x=>e.scan.length - x.1) (0,st2,L) ⟨by omega,hI,hF⟩
    (u3 (.cons _ _ _ rfl (.cons _ _ _ rfl (.cons _ _ _ rfl (.cons _ _ _ rfl (.cons _ _ _ rfl (.cons _ _ _ rfl (.cons _ _ _ rfl (.cons _ _ _ rfl (.nil)))))))))) ?_
   rintro ⟨j,st,L⟩ ⟨hj,hI,hF⟩
   simp only at hj hI hF
   refine rn ?_;refine z7 rfl (fun hc73=> ?_) (fun hc73=> ?_)
   ·have j2:j < e.scan.length:=by simpa using hc73
    obtain ⟨x,hx⟩:∃x,x=e.scan[j]:=⟨_,rfl⟩
    have hrowx:(e.scan.map zaq)[j]? =some (zaq x):=by rw [hx];simp [j2]
    have hdx:=List.drop_eq_getElem_cons j2
    rw [hdx,←hx] at hF
    simp only [List.flatMap_cons,zuu,List.cons_append,List.append_assoc] at hF
    obtain ⟨hx,hF⟩:=hF.cons
    obtain ⟨hkx,hF⟩:=hF.app
    refine rn ?_;refine k9 8 rfl ?_
    refine rn ?_;refine z8 rfl (v8 rfl rfl (y0.fr3 (y0.of_acall (fs:= []) (cs:= [pZ bm,pZ by_]) (zyu step ok IJ y hy 2 x.o hx _ bm by_ _ _ hI))) rfl ?_)
    rintro _ _ ⟨_,rfl,L,hI,rfl⟩
    refine rn ?_;refine z8 rfl (v8 rfl rfl (y0.fr2 (y0.of_acall (fs:= []) (cs:= [pZ bs]) (ynw step ok IJ y hy x.v hkx _ bs bm by_ _ _ hI))) rfl ?_)
    rintro _ _ ⟨_,rfl,L,hI,rfl⟩
    refine rn ?_;exact ⟨(j+1,_,L),⟨by omega,hI,hF⟩,(u3 (.cons _ _ _ rfl (.cons _ _ _ rfl (.cons _ _ _ rfl (.cons _ _ _ rfl (.cons _ _ _ rfl (.cons _ _ _ rfl (.cons _ _ _ rfl (.cons _ _ _ rfl (.nil)))))))))),by simp only;omega⟩
   ·obtain rfl:j=e.scan.length:=by
     have:e.scan.length≤j:=by simpa using hc73
     omega
    rw [List.drop_length,List.flatMap_nil,List.nil_append] at hF
    refine rn ?_;exact ⟨(k+1,_,L),⟨by omega,hI,hF⟩,(u3 (.cons _ _ _ rfl (.cons _ _ _ rfl (.cons _ _ _ rfl (.cons _ _ _ rfl (.cons _ _ _ rfl (.nil))))))),by simp only;omega⟩
 ·obtain rfl:k=h.evs.length:=by
   have:h.evs.length≤k:=by simpa using hc23
   omega
  rw [List.drop_length,List.flatMap_nil,List.nil_append] at hF
  refine rn ?_;refine zai (fun x:Nat×Option σ×List Res=>x.1≤h.ords.length∧IJ x.2.1 x.2.2∧Rem step ok x.2.1 (((h.ords.drop x.1).flatMap ykb)++(h.mats.flatMap yfm++h.wants.flatMap yam)) (goes step (some s0) (zc8 h))) (fun x=>⟨[(100,iv x.1),(99,iv (h.ords.map ze7).length),(1,pZ b1),(4,pZ bs),(5,.fn (.func 203) [] [pZ bs])],.box b1 184 [pZ bh]:: .box bh 28 (w6 h):: .box bs 240 [.fn (.func 202) [] [pZ bm,pZ by_]]:: .box bm 4 [bv (x.2.1).isSome]:: .box by_ 239 [y]::x.2.2,[]⟩) (fun x=>h.ords.length - x.1) (0,st,L) ⟨by omega,hI,hF⟩
   (u3 (.cons _ _ _ rfl (.cons _ _ _ rfl (.cons _ _ _ rfl (.cons _ _ _ rfl (.cons _ _ _ rfl (.nil))))))) ?_
  rintro ⟨k,st,L⟩ ⟨hk,hI,hF⟩
  simp only at hk hI hF
  refine rn ?_;refine z7 rfl (fun hc101=> ?_) (fun hc101=> ?_)
  ·have k2:k < h.ords.length:=by simpa using hc101
   obtain ⟨r,hr⟩:∃r,r=h.ords[k]:=⟨_,rfl⟩
   have hrowr:(h.ords.map ze7)[k]? =some (ze7 r):=by rw [hr];simp [k2]
   have hdr:=List.drop_eq_getElem_cons k2
   rw [hdr,←hr] at hF
   simp only [List.flatMap_cons,ykb,List.cons_append,List.append_assoc] at hF
   obtain ⟨hx,hF⟩:=hF.cons
   have hle:=la.ords
   have hls:=la.ordts r (by rw [hr];simp)
   refine rn ?_;refine k9 8 rfl ?_
   refine rn ?_;refine z8 rfl (v8 rfl rfl (y0.fr3 (y0.of_acall (fs:= []) (cs:= [pZ bm,pZ by_]) (zyu step ok IJ y hy 2 r.o hx _ bm by_ _ _ hI))) rfl ?_)
   rintro _ _ ⟨_,rfl,L,hI,rfl⟩
   refine rn ?_;refine zai (fun x:Nat×Option σ×List Res=>x.1≤r.ts.length∧IJ x.2.1 x.2.2∧Rem step ok x.2.1 (((r.ts.drop x.1).map fun t=>((0:Nat),t))++(((h.ords.drop (k+1)).flatMap ykb)++(h.mats.flatMap yfm++h.wants.flatMap yam))) (goes step (some s0) (zc8 h))) (fun x=>⟨[(121,iv x.1),(120,iv (r.ts.map zar).length),(9,iv k),(100,iv k),(99,iv (h.ords.map ze7).length),(1,pZ b1),(4,pZ bs),(5,.fn (.func 203) [] [pZ bs])],.box b1 184 [pZ bh]:: .box bh 28 (w6 h):: .box bs 240 [.fn (.func 202) [] [pZ bm,pZ by_]]:: .box bm 4 [bv (x.2.1).isSome]:: .box by_ 239 [y]::x.2.2,[]⟩) (fun x=>r.ts.length - x.1) (0,_,L) ⟨by omega,hI,hF⟩
    (u3 (.cons _ _ _ rfl (.cons _ _ _ rfl (.cons _ _ _ rfl (.cons _ _ _ rfl (.cons _ _ _ rfl (.cons _ _ _ rfl (.cons _ _ _ rfl (.cons _ _ _ rfl (.nil)))))))))) ?_
   rintro ⟨j,st,L⟩ ⟨hj,hI,hF⟩
   simp only at hj hI hF
   refine rn ?_;refine z7 rfl (fun hc122=> ?_) (fun hc122=> ?_)
   ·have j2:j < r.ts.length:=by simpa using hc122
    obtain ⟨t,ht⟩:∃t,t=r.ts[j]:=⟨_,rfl⟩
    have hrowt:(r.ts.map zar)[j]? =some (zar t):=by rw [ht];simp [j2]
    have hdt:=List.drop_eq_getElem_cons j2
    rw [hdt,←ht] at hF
    simp only [List.map_cons,List.cons_append] at hF
    obtain ⟨hx,hF⟩:=hF.cons
    refine rn ?_;refine k9 11 rfl ?_
    refine rn ?_;refine z8 rfl (v8 rfl rfl (y0.fr3 (y0.of_acall (fs:= []) (cs:= [pZ bm,pZ by_]) (zyu step ok IJ y hy 0 t hx _ bm by_ _ _ hI))) rfl ?_)
    rintro _ _ ⟨_,rfl,L,hI,rfl⟩
    refine rn ?_;exact ⟨(j+1,_,L),⟨by omega,hI,hF⟩,(u3 (.cons _ _ _ rfl (.cons _ _ _ rfl (.cons _ _ _ rfl (.cons _ _ _ rfl (.cons _ _ _ rfl (.cons _ _ _ rfl (.cons _ _ _ rfl (.cons _ _ _ rfl (.nil)))))))))),by simp only;omega⟩
   ·obtain rfl:j=r.ts.length:=by
     have:r.ts.length≤j:=by simpa using hc122
     omega
    rw [List.drop_length,List.map_nil,List.nil_append] at hF
    refine rn ?_;exact ⟨(k+1,_,L),⟨by omega,hI,hF⟩,(u3 (.cons _ _ _ rfl (.cons _ _ _ rfl (.cons _ _ _ rfl (.cons _ _ _ rfl (.cons _ _ _ rfl (.nil))))))),by simp only;omega⟩
  ·obtain rfl:k=h.ords.length:=by
    have:h.ords.length≤k:=by simpa using hc101
    omega
   rw [List.drop_length,List.flatMap_nil,List.nil_append] at hF
   refine rn ?_;refine zai (fun x:Nat×Option σ×List Res=>x.1≤h.mats.length∧IJ x.2.1 x.2.2∧Rem step ok x.2.1 (((h.mats.drop x.1).flatMap yfm)++h.wants.flatMap yam) (goes step (some s0) (zc8 h))) (fun x=>⟨[(143,iv x.1),(142,iv (h.mats.map zes).length),(1,pZ b1),(4,pZ bs),(5,.fn (.func 203) [] [pZ bs])],.box b1 184 [pZ bh]:: .box bh 28 (w6 h):: .box bs 240 [.fn (.func 202) [] [pZ bm,pZ by_]]:: .box bm 4 [bv (x.2.1).isSome]:: .box by_ 239 [y]::x.2.2,[]⟩) (fun x=>h.mats.length - x.1) (0,st,L) ⟨by omega,hI,hF⟩
    (u3 (.cons _ _ _ rfl (.cons _ _ _ rfl (.cons _ _ _ rfl (.cons _ _ _ rfl (.cons _ _ _ rfl (.nil))))))) ?_
   rintro ⟨k,st,L⟩ ⟨hk,hI,hF⟩
   simp only at hk hI hF
   refine rn ?_;refine z7 rfl (fun hc144=> ?_) (fun hc144=> ?_)
   ·have k2:k < h.mats.length:=by simpa using hc144
    obtain ⟨r,hr⟩:∃r,r=h.mats[k]:=⟨_,rfl⟩
    have hrowr:(h.mats.map zes)[k]? =some (zes r):=by rw [hr];simp [k2]
    have hdr:=List.drop_eq_getElem_cons k2
    rw [hdr,←hr] at hF
    simp only [List.flatMap_cons,yfm,List.cons_append,List.append_assoc] at hF
    obtain ⟨hx,hF⟩:=hF.cons
    obtain ⟨hx2,hF⟩:=hF.cons
    have hle:=la.mats
    have hls:=la.matts r (by rw [hr];simp)
    refine rn ?_;refine k9 4 rfl ?_
    refine rn ?_;refine z8 rfl (v8 rfl rfl (y0.fr3 (y0.of_acall (fs:= []) (cs:= [pZ bm,pZ by_]) (zyu step ok IJ y hy 3 r.p hx _ bm by_ _ _ hI))) rfl ?_)
    rintro _ _ ⟨_,rfl,L,hI,rfl⟩
    refine rn ?_;refine k9 4 rfl ?_
    refine rn ?_;refine z8 rfl (v8 rfl rfl (y0.fr3 (y0.of_acall (fs:= []) (cs:= [pZ bm,pZ by_]) (zyu step ok IJ y hy 2 r.o hx2 _ bm by_ _ _ hI))) rfl ?_)
    rintro _ _ ⟨_,rfl,L,hI,rfl⟩
    refine rn ?_;refine zai (fun x:Nat×Option σ×List Res=>x.1≤r.ts.length∧IJ x.2.1 x.2.2∧Rem step ok x.2.1 (((r.ts.drop x.1).map fun t=>((0:Nat),t))++(((h.mats.drop (k+1)).flatMap yfm)++h.wants.flatMap yam)) (goes step (some s0) (zc8 h))) (fun x=>⟨[(167,iv x.1),(166,iv (r.ts.map zar).length),(12,.pp (zes r)),(143,iv k),(142,iv (h.mats.map zes).length),(1,pZ b1),(4,pZ bs),(5,.fn (.func 203) [] [pZ bs])],.box b1 184 [pZ bh]:: .box bh 28 (w6 h):: .box bs 240 [.fn (.func 202) [] [pZ bm,pZ by_]]:: .box bm 4 [bv (x.2.1).isSome]:: .box by_ 239 [y]::x.2.2,[]⟩) (fun x=>r.ts.length - x.1) (0,_,L) ⟨by omega,hI,hF⟩
     (u3 (.cons _ _ _ rfl (.cons _ _ _ rfl (.cons _ _ _ rfl (.cons _ _ _ rfl (.cons _ _ _ rfl (.cons _ _ _ rfl (.cons _ _ _ rfl (.cons _ _ _ rfl (.nil)))))))))) ?_
    rintro ⟨j,st,L⟩ ⟨hj,hI,hF⟩
    simp only at hj hI hF
    refine rn ?_;refine z7 rfl (fun hc168=> ?_) (fun hc168=> ?_)
    ·have j2:j < r.ts.length:=by simpa using hc168
     obtain ⟨t,ht⟩:∃t,t=r.ts[j]:=⟨_,rfl⟩
     have hrowt:(r.ts.map zar)[j]? =some (zar t):=by rw [ht];simp [j2]
     have hdt:=List.drop_eq_getElem_cons j2
     rw [hdt,←ht] at hF
     simp only [List.map_cons,List.cons_append] at hF
     obtain ⟨hx,hF⟩:=hF.cons
     refine rn ?_;refine k9 7 rfl ?_
     refine rn ?_;refine z8 rfl (v8 rfl rfl (y0.fr3 (y0.of_acall (fs:= []) (cs:= [pZ bm,pZ by_]) (zyu step ok IJ y hy 0 t hx _ bm by_ _ _ hI))) rfl ?_)
     rintro _ _ ⟨_,rfl,L,hI,rfl⟩
     refine rn ?_;exact ⟨(j+1,_,L),⟨by omega,hI,hF⟩,(u3 (.cons _ _ _ rfl (.cons _ _ _ rfl (.cons _ _ _ rfl (.cons _ _ _ rfl (.cons _ _ _ rfl (.cons _ _ _ rfl (.cons _ _ _ rfl (.cons _ _ _ rfl (.nil)))))))))),by simp only;omega⟩
    ·obtain rfl:j=r.ts.length:=by
      have:r.ts.length≤j:=by simpa using hc168
      omega
     rw [List.drop_length,List.map_nil,List.nil_append] at hF
     refine rn ?_;exact ⟨(k+1,_,L),⟨by omega,hI,hF⟩,(u3 (.cons _ _ _ rfl (.cons _ _ _ rfl (.cons _ _ _ rfl (.cons _ _ _ rfl (.cons _ _ _ rfl (.nil))))))),by simp only;omega⟩
   ·obtain rfl:k=h.mats.length:=by
     have:h.mats.length≤k:=by simpa using hc144
     omega
    rw [List.drop_length,List.flatMap_nil,List.nil_append] at hF
    refine rn ?_;refine zai (fun x:Nat×Option σ×List Res=>x.1≤h.wants.length∧IJ x.2.1 x.2.2∧Rem step ok x.2.1 (((h.wants.drop x.1).flatMap yam)++ []) (goes step (some s0) (zc8 h))) (fun x=>⟨[(185,iv x.1),(184,iv (h.wants.map zgq).length),(1,pZ b1),(4,pZ bs),(5,.fn (.func 203) [] [pZ bs])],.box b1 184 [pZ bh]:: .box bh 28 (w6 h):: .box bs 240 [.fn (.func 202) [] [pZ bm,pZ by_]]:: .box bm 4 [bv (x.2.1).isSome]:: .box by_ 239 [y]::x.2.2,[]⟩) (fun x=>h.wants.length - x.1) (0,st,L) ⟨by omega,hI,by rw [List.append_nil];exact hF⟩
     (u3 (.cons _ _ _ rfl (.cons _ _ _ rfl (.cons _ _ _ rfl (.cons _ _ _ rfl (.cons _ _ _ rfl (.nil))))))) ?_
    rintro ⟨k,st,L⟩ ⟨hk,hI,hF⟩
    simp only at hk hI hF
    refine rn ?_;refine z7 rfl (fun hc186=> ?_) (fun hc186=> ?_)
    ·have k2:k < h.wants.length:=by simpa using hc186
     obtain ⟨r,hr⟩:∃r,r=h.wants[k]:=⟨_,rfl⟩
     have hrowr:(h.wants.map zgq)[k]? =some (zgq r):=by rw [hr];simp [k2]
     have hdr:=List.drop_eq_getElem_cons k2
     rw [hdr,←hr] at hF
     simp only [List.flatMap_cons,yam,List.cons_append,List.append_assoc,List.nil_append] at hF
     obtain ⟨hx,hF⟩:=hF.cons
     have hle:=la.wants
     refine rn ?_;refine k9 8 rfl ?_
     refine rn ?_;refine z8 rfl (v8 rfl rfl (y0.fr3 (y0.of_acall (fs:= []) (cs:= [pZ bm,pZ by_]) (zyu step ok IJ y hy 1 r.s hx _ bm by_ _ _ hI))) rfl ?_)
     rintro _ _ ⟨_,rfl,L,hI,rfl⟩
     refine rn ?_;exact ⟨(k+1,_,L),⟨by omega,hI,hF⟩,(u3 (.cons _ _ _ rfl (.cons _ _ _ rfl (.cons _ _ _ rfl (.cons _ _ _ rfl (.cons _ _ _ rfl (.nil))))))),by simp only;omega⟩
    ·obtain rfl:k=h.wants.length:=by
      have:h.wants.length≤k:=by simpa using hc186
      omega
     rw [List.drop_length,List.flatMap_nil,List.nil_append] at hF
     refine rn ?_;have hF':st=goes step (some s0) (zc8 h):=hF.fin
     exact zf3 .nil (.trans (.perm ((pt2 _ _ _ _).trans (.cons _ ((pt2 _ _ _ _).trans (.cons _ (pt2 _ _ _ _))))) _) (.drop [_,_,_] _ _)) ⟨L,hF' ▸ hI,rfl⟩
theorem spoken (bh:Nat) (h:List Res):y8 Tryz.prog 141 [pZ bh] h (fun r h'=>∃b1,h'= .box b1 184 [pZ bh]::h∧r= .fn (.func 201) [] [pZ b1]):=by
 refine z6 Tryz.func141 rfl rfl rfl ?_
 refine rn ?_;refine z8 rfl (w9 rfl rfl rfl fun b1=> ?_)
 refine rn ?_;exact k8 rfl (.refl _ _) ⟨_,rfl,rfl⟩
def IJC (lp:LP) (q b2 b3:Nat):Option (List Int)→List Res→Prop
 |some m,L=>L=lp .ready none:: .defs q:: .box b3 156 ((m).map iv):: .box b2 33 [iv 0]:: [.glob 2 156 y5,.glob 4 305 y7,.glob 5 308 y2]∧m.length=4
 |none,L=>∃m:List Int,L=lp .done (some .ret):: .defs q:: .box b3 156 ((m).map iv):: .box b2 33 [iv 210]:: [.glob 2 156 y5,.glob 4 305 y7,.glob 5 308 y2]
theorem yte (h:Hist) (la:Lim 4611686018427387904 h):y8 Tryz.prog 93 [.agg (w6 h)] [.glob 2 156 y5,.glob 4 305 y7,.glob 5 308 y2] (fun r h'=>h'= [.glob 2 156 y5,.glob 4 305 y7,.glob 5 308 y2]∧r=iv (zel h)):=by
 refine z6 Tryz.func93 rfl rfl rfl ?_
 refine rn ?_;refine z8 rfl (w9 rfl rfl rfl fun b1=> ?_)
 refine z8 rfl (y4 rfl fun b2=> ?_)
 refine rn ?_;refine qv rfl rfl (y1 rfl rfl (y0.qt (y0.of_fun (yp7 h la)) ((pt2 _ _ _ _).trans (.cons _ ((pt2 _ _ _ _).trans (.cons _ (pt2 _ _ _ _))))))) ?_
 refine rn ?_;refine z7 rfl (fun hc10=> ?_) (fun hc10=> ?_)
 ·have hs:zad h=false:=ycu hc10
  refine rn ?_;exact ze6 (.cons _ _ _ _ (.one _ _ _ _ _ _ _ rfl inferInstance inferInstance rfl) .nil) (.drop [_,_] _ _) ⟨rfl,congrArg iv (yi9 hs).symm⟩
 ·have hs:zad h=true:=ycv hc10
  refine rn ?_;refine z8 rfl (y4 rfl fun b3=> ?_)
  refine rn ?_;refine z8 rfl (v8 rfl rfl (y0.of_fun (spoken b1 _)) rfl ?_)
  rintro _ _ ⟨b1',rfl,rfl⟩
  refine rn ?_;refine zoy (fun pend h''=>(pend=none∧∃m:List Int,zow h=some m∧m.length=4∧h''= .box b1' 184 [pZ b1]:: .box b1 28 (w6 h):: .box b3 156 ((m).map iv):: .box b2 33 [iv 0]:: [.glob 2 156 y5,.glob 4 305 y7,.glob 5 308 y2])∨(pend=some .ret∧zow h=none∧∃m:List Int,h''= .box b1' 184 [pZ b1]:: .box b1 28 (w6 h):: .box b3 156 ((m).map iv):: .box b2 33 [iv 210]:: [.glob 2 156 y5,.glob 4 305 y7,.glob 5 308 y2])) rfl (fun fn l q lp hlp=> ?_) (fun q h'' hK=> ?_) (fun q h'' c hK=> ?_)
  ·suffices hy:∀(s:List Int) (L:List Res) (sort:Nat) (n:Int) (cells:List AV),OkN h (sort,n)→IJC lp q b2 b3 (some s) L→y0 Tryz.prog (yv l) [iv sort,.pp (iv n::cells)] L (fun r h'=>r=bv (zbg s (sort,n)).isSome∧IJC lp q b2 b3 (zbg s (sort,n)) h') by
    refine y8.mono (y8.perm ((pt2 _ _ _ _).trans (.cons _ (pt4 _ _ _ _ _ _))) (yln zbg (OkN h) (IJC lp q b2 b3) (yv l) rfl hy h la b1' b1 (zr8 hs) [0,0,0,0] _ ⟨rfl,rfl⟩)) ?_
    rintro _ _ ⟨L',hI,rfl⟩
    cases hm:goes zbg (some [0,0,0,0]) (zc8 h) with
    |some m=>
     rw [hm] at hI
     obtain ⟨rfl,hl⟩:=hI
     exact ⟨_,_,_,((pt2 _ _ _ _).trans (.cons _ (pt2 _ _ _ _))),by simp,.inl ⟨rfl,m,hm,hl,rfl⟩⟩
    |none=>
     rw [hm] at hI
     obtain ⟨m,rfl⟩:=hI
     exact ⟨_,_,_,((pt2 _ _ _ _).trans (.cons _ (pt2 _ _ _ _))),by simp,.inr ⟨rfl,hm,m,rfl⟩⟩
   rintro m _ sort n cells ⟨hs4,hn0,hn1⟩ ⟨rfl,hl⟩
   simp only at hs4 hn0 hn1
   have hnm:=la.nm sort
   refine zxx hlp rfl rfl ?_
   refine rn ?_;refine ⟨[(4,iv sort),(5,.pp (iv n::cells)),(3,pZ b3),(2,pZ b2)],(u3 (.cons _ _ _ rfl (.cons _ _ _ rfl (.cons _ _ _ rfl (.cons _ _ _ rfl (.nil)))))),?_⟩
   refine rn ?_;refine k9 6 rfl ?_
   refine dq rfl rfl qrA ?_;refine dq rfl rfl qrA ?_;refine dq rfl rfl qrA ?_;refine dq rfl rfl qrA ?_;refine dq rfl rfl (zak rfl rfl hs4) ?_
   refine dq rfl rfl (zac rfl (yu9 hl hs4)) ?_
   refine rn ?_;refine z7 rfl (fun hc20=> ?_) (fun hc20=> ?_)
   ·refine rn ?_;have hst:zbg m (sort,n)=none:=by rw [zbg];exact if_pos (by simpa using hc20)
    exact zu1 (.refl _) (by rw [hst];exact ⟨rfl,_,rfl⟩)
   ·refine rn ?_;refine k9 9 rfl ?_
    refine dq rfl rfl qrA ?_;refine dq rfl rfl qrA ?_;refine dq rfl rfl (zak rfl rfl hs4) ?_
    refine dq rfl rfl (zac rfl (yu9 hl hs4)) ?_
    refine rn2 ?_;refine qq rfl rfl (zak rfl rfl hs4) ?_
    refine z8 rfl (zao rfl rfl rfl rfl (by simp [hl];omega) ?_)
    refine rn ?_;have hst:zbg m (sort,n)=some (m.set sort (max (m.getD sort 0) (n+1))):=by rw [zbg];exact if_neg (by simpa using hc20)
    exact zeu (.refl _) (by rw [hst];exact ⟨rfl,by rw [←ywk hl hs4];rfl,by simpa using hl⟩)
  ·obtain ⟨_,m,hm,hl,rfl⟩|⟨hc,_⟩:=hK
   rotate_left
   ·cases hc
   refine rn ?_;refine qv rfl rfl (y1 rfl rfl (j4 (yng _) (Sbs.refl _))) ?_
   refine rn ?_;refine zai (fun k:Nat=>k≤4∧∀j,j < k→m.getD j 0=(nmK h j).length) (fun k=>⟨[(33,iv k),(32,.agg (zln h)),(3,pZ b3),(2,pZ b2)],.defs q:: .box b1' 184 [pZ b1]:: .box b1 28 (w6 h):: .box b3 156 ((m).map iv):: .box b2 33 [iv 0]:: [.glob 2 156 y5,.glob 4 305 y7,.glob 5 308 y2],[q]⟩) (fun k=>4 - k) 0 ⟨by omega,fun j hj=>absurd hj (Nat.not_lt_zero j)⟩
    (u3 (.cons _ _ _ rfl (.cons _ _ _ rfl (.cons _ _ _ rfl (.cons _ _ _ rfl (.nil)))))) ?_
   rintro k ⟨hk,hz⟩
   refine rn ?_;refine z7 rfl (fun hc34=> ?_) (fun hc34=> ?_)
   ·have hk4:k < 4:=by simp at hc34;omega
    refine zan ?_;refine zab ?_;refine w8 ?_;refine zb4 ?_;refine w8 (y3 ?_)
    refine q1 ?_;refine qq rfl rfl (zc2 rfl rfl (by omega) (by have:=ycw h hk4;simpa using this)) ?_
    refine q1 ?_;refine q1 ?_;refine u6 (zab ?_)
    refine w8 (y3 ?_)
    refine q1 ?_;refine qq rfl rfl (zak rfl rfl hk4) ?_
    refine qq rfl rfl (zac rfl (yu9 hl hk4)) ?_
    refine rn ?_;refine z7 rfl (fun hc42=> ?_) (fun hc42=> ?_)
    ·refine rn ?_;exact zi7 (.refl _) (.cons _ _ _ _ (.one _ _ _ _ _ _ _ rfl inferInstance inferInstance rfl) .nil) (.drop [_,_,_,_] _ _) ⟨rfl,congrArg iv (yja hm hk4 (by simpa using hc42)).symm⟩
    ·refine rn ?_;exact ⟨k+1,⟨by omega,fun j hj=>by
      by_cases hjk:j=k
      ·subst hjk;simpa using hc42
      ·exact hz j (by omega)⟩,(u3 (.cons _ _ _ rfl (.cons _ _ _ rfl (.cons _ _ _ rfl (.cons _ _ _ rfl (.nil)))))),by omega⟩
   ·have hk4:k=4:=by simp at hc34;omega
    subst hk4
    refine rn ?_;exact zi7 (.refl _) (.cons _ _ _ _ (.one _ _ _ _ _ _ _ rfl inferInstance inferInstance rfl) .nil) (.drop [_,_,_,_] _ _) ⟨rfl,congrArg iv (yjb hs hm hl hz).symm⟩
  ·obtain ⟨hc,_⟩|⟨hc,hm,m,rfl⟩:=hK
   ·cases hc
   obtain rfl:c= .ret:=by simpa using hc
   refine rn ?_;exact zi7 (.refl _) (.cons _ _ _ _ (.one _ _ _ _ _ _ _ rfl inferInstance inferInstance rfl) .nil) (.drop [_,_,_,_] _ _) ⟨rfl,congrArg iv (zz4 hm).symm⟩
attribute [local irreducible] zd0 jch zfc
def u5:List AV:= [.any,.fn (.func 300) [] [],.fn (.func 307) [] [],.fn (.func 308) [] [],.fn (.func 309) [] [],.fn (.func 310) [] [],.fn (.func 311) [] [],.fn (.func 312) [] [],.fn (.func 313) [] [],.fn (.func 314) [] [],.fn (.func 315) [] []]
def yt4 (k:Nat):AV:=u5.getD k .any
theorem yo4 {k:Nat} (h2:k≤10):u5[k]? =some (yt4 k):=by
 have:k < u5.length:=by show k < 11;omega
 rw [yt4,List.getD_eq_getElem?_getD,List.getElem?_eq_getElem this];rfl
theorem yjj (h:Hist) (la:Lim 3000 h) (b:Nat) (G:List Res) {k:Nat} (h1:1≤k) (h2:k≤10):y0 Tryz.prog (yt4 k) [pZ b] (.box b 252 (zcp h)::G) (fun r h'=>h'=G∧r=zbx (zda h k)):=by
 match k,h1,h2 with
 |1,_,_=>exact y0.of_acall (fs:= []) (cs:= []) (yq8 h la b G)
 |2,_,_=>exact y0.of_acall (fs:= []) (cs:= []) (ywy h la b G)
 |3,_,_=>exact y0.of_acall (fs:= []) (cs:= []) (yq6 h la b G)
 |4,_,_=>exact y0.of_acall (fs:= []) (cs:= []) (yg3 h la b G)
 |5,_,_=>exact y0.of_acall (fs:= []) (cs:= []) (ywu h la b G)
 |6,_,_=>exact y0.of_acall (fs:= []) (cs:= []) (yuj h la b G)
 |7,_,_=>exact y0.of_acall (fs:= []) (cs:= []) (yq0 h la b G)
 |8,_,_=>exact y0.of_acall (fs:= []) (cs:= []) (yg6 h la b G)
 |9,_,_=>exact y0.of_acall (fs:= []) (cs:= []) (yq3 h la b G)
 |10,_,_=>exact y0.of_acall (fs:= []) (cs:= []) (yuh h la b G)
 |k+11,_,h2=>omega
theorem ym7 {o:Option Nat} {i:Int} {b:Bool} (h:zbx o= .tup [iv i,bv b]):i=yw1 o∧b=o.isSome:=by
 cases o with
 |none=>simp only [zbx,AV.tup.injEq,List.cons.injEq,AV.v.injEq,Value.int.injEq,Value.bool.injEq,true_and,and_true] at h;exact ⟨h.1.symm,h.2.symm⟩
 |some n=>simp only [zbx,AV.tup.injEq,List.cons.injEq,AV.v.injEq,Value.int.injEq,Value.bool.injEq,true_and,and_true] at h;exact ⟨h.1.symm,h.2.symm⟩
theorem zqv {h:Hist} (hm:zf4 h=true):Lim 3000 h:=by
 unfold zf4 at hm;simp only [Bool.and_eq_true] at hm;exact zo6 hm.1
theorem yq5 (h:Hist) (la:Lim 4611686018427387904 h):y8 Tryz.prog 143 [.agg (w6 h)] [.glob 2 156 y5,.glob 4 305 y7,.glob 5 308 y2,.glob 3 246 u5] (fun r h'=>h'= [.glob 2 156 y5,.glob 4 305 y7,.glob 5 308 y2,.glob 3 246 u5]∧r=zij h):=by
 refine z6 Tryz.func143 rfl rfl rfl ?_
 refine rn ?_;refine z8 rfl (w9 rfl rfl rfl fun b1=> ?_)
 refine z8 rfl (y4 rfl fun b2=> ?_)
 refine rn ?_;refine qv rfl rfl (y1 rfl rfl (y0.qt (y0.of_fun (yte h la)) ((pt2 _ _ _ _).trans (.cons _ ((pt2 _ _ _ _).trans (.cons _ (pt2 _ _ _ _))))))) ?_
 refine rn ?_;refine z7 rfl (fun hc12=> ?_) (fun hc12=> ?_)
 ·have hm:¬zf4 h=true:=by intro q;rw [zel,if_pos q] at hc12;cases hc12
  have he:zel h=210:=by rw [zel,if_neg hm]
  refine rn ?_;exact ze6 (.cons _ _ _ _ (.agg _ _ _ _ _ _ _ rfl inferInstance inferInstance inferInstance rfl) (.cons _ _ _ _ (.tmp _ _ rfl) (.cons _ _ _ _ (.tmp _ _ rfl) .nil))) (.drop [_,_] _ _) ⟨rfl,by rw [zij,if_neg hm,he];rfl⟩
 ·have hm:zf4 h=true:=yeq.1 (by simpa using hc12)
  have la3:=zqv hm
  refine rn ?_;refine zhf (fun k:Nat=>(1≤k∧k≤11)∧za7 (zda h) rules10=za7 (zda h) (rules10.drop (k - 1))) (fun k=>⟨[(6,iv k),(1,pZ b1),(2,pZ b2)],(.box b2 158 [iv 0,iv 0]:: .box b1 28 (w6 h):: .glob 2 156 y5:: .glob 4 305 y7:: .glob 5 308 y2:: .glob 3 246 u5:: []),[]⟩) (fun k=>11 - k) 1 ⟨by omega,rfl⟩ es ?_
  rintro k ⟨⟨k1,k3⟩,zk⟩
  obtain ⟨pi,pb,hpv⟩:∃i b,zbx (zda h k)= .tup [iv i,bv b]:=zed _
  obtain ⟨ei,eb⟩:=ym7 hpv
  refine rn ?_;refine z7 rfl (fun hc16=> ?_) (fun hc16=> ?_)
  ·have k2:k≤10:=by have:=oT hc16;omega
   refine zan ?_;refine rn0 ?_;refine w8 ?_;refine zb4 ?_;refine w8 ?_;refine ze5 11 [5,6] [7,8,9,10] (fun he=>he=(.box b2 158 [iv 0,iv 0]:: .box b1 28 (w6 h):: .glob 2 156 y5:: .glob 4 305 y7:: .glob 5 308 y2:: .glob 3 246 u5:: [])∨∃b,he= .box b 252 (zcp h)::(.box b2 158 [iv 0,iv 0]:: .box b1 28 (w6 h):: .glob 2 156 y5:: .glob 4 305 y7:: .glob 5 308 y2:: .glob 3 246 u5:: [])) rfl rfl (.inl rfl) ?_
   refine jq rfl (fun he hC=>by rcases hC with rfl|⟨b,rfl⟩ <;> exact qrA) ?_
   refine jq rfl (fun he hC=>by rcases hC with rfl|⟨b,rfl⟩ <;> exact (by exact zak rfl rfl (by show k < 11;omega))) ?_
   refine jq rfl (fun he hC=>by rcases hC with rfl|⟨b,rfl⟩ <;> exact (by exact zac rfl (show u5[0+k * 1]? =some (yt4 k) by rw [Nat.zero_add,Nat.mul_one];exact yo4 k2))) ?_
   refine jq rfl (fun he hC=>by rcases hC with rfl|⟨b,rfl⟩ <;> exact qrA) ?_
   refine jq rfl (fun he hC=>by rcases hC with rfl|⟨b,rfl⟩ <;> exact (by exact zae (out:=zcp h) rfl (by rfl))) ?_
   refine je rfl ?_;refine je rfl ?_;refine je rfl ?_;refine je rfl ?_;refine je rfl ?_;refine je rfl ?_;refine zzs ?_;refine jce rfl fun u=> ?_
   refine w9 rfl rfl rfl fun b5=>⟨_,_,rfl,.inr ⟨_,rfl⟩,?_⟩
   refine jce rfl fun u=> ?_
   refine v8 rfl rfl (yjj h la3 b5 _ k1 k2) rfl ?_
   rintro _ _ ⟨rfl,rfl⟩
   rw [hpv]
   refine ⟨_,_,rfl,.inl rfl,?_⟩
   refine jcn ?_;refine lq rfl rfl (by exact qrA) ?_
   refine lq rfl rfl (by exact qrA) ?_
   refine lq rfl rfl (by exact qrA) ?_
   refine lq rfl rfl (by exact qrA) ?_
   refine ln ?_;refine rn ?_;refine z7 rfl (fun hc29=> ?_) (fun hc29=> ?_)
   ·refine rn ?_;exact ze6 (.cons _ _ _ _ (.agg _ _ _ _ _ _ _ rfl inferInstance inferInstance inferInstance rfl) (.cons _ _ _ _ (.tmp _ _ rfl) (.cons _ _ _ _ (.tmp _ _ rfl) .nil))) (.drop [_,_] _ _) ⟨rfl,by
     cases hp:zda h k with
     |none=>rw [hp] at eb;rw [eb] at hc29;cases hc29
     |some n=>rw [hp] at ei;subst ei;rw [zij,if_pos hm,zj7,ztn k1 k2 zk hp];rfl⟩
   ·refine rn ?_;exact ⟨k+1,⟨by omega,zpq k1 k2 zk (by cases hp:zda h k with|none=>rfl|some n=>rw [hp] at eb;rw [eb] at hc29;cases hc29)⟩,eA,by omega⟩
  ·have k2:11≤k:=by have:=oF hc16;omega
   refine rn ?_;exact ze6 (.cons _ _ _ _ (.agg _ _ _ _ _ _ _ rfl inferInstance inferInstance inferInstance rfl) (.cons _ _ _ _ (.tmp _ _ rfl) (.cons _ _ _ _ (.tmp _ _ rfl) .nil))) (.drop [_,_] _ _) ⟨rfl,by rw [zij,if_pos hm,zj7,zpr k2 k3 zk];rfl⟩
theorem yqv (h:Hist) (la:Lim 4611686018427387904 h):y8 Tryz.prog 94 [.agg (w6 h)] [.glob 2 156 y5,.glob 4 305 y7,.glob 5 308 y2,.glob 3 246 u5] (fun r h'=>h'= [.glob 2 156 y5,.glob 4 305 y7,.glob 5 308 y2,.glob 3 246 u5]∧r=bv (za2 h)):=by
 refine z6 Tryz.func94 rfl rfl rfl ?_
 refine rn ?_;refine z8 rfl (w9 rfl rfl rfl fun b1=> ?_)
 refine q1 ?_;refine u6 (zab ?_)
 refine w8 (y3 ?_)
 obtain ⟨fi,fj,fb,fe,hf,hfb⟩:=zto h
 refine rn ?_;refine qv rfl rfl (y1 rfl rfl (y0.qt (y0.of_fun (yq5 h la)) ((pt1 _ _ _).trans (.cons _ ((pt1 _ _ _).trans (.cons _ ((pt1 _ _ _).trans (.cons _ (pt1 _ _ _))))))))) ?_
 rw [hf]
 refine rn ?_;refine z8 rfl (y4 rfl fun b3=> ?_)
 refine rn ?_;refine w7 (fun hg2_2=> ?_) (fun hg2_2=> ?_)
 ·refine rn ?_;refine rq 2 ?_
  exact ⟨rfl,congrArg bv (by rw [hfb];simp_all)⟩
 ·refine rn ?_;refine rq 2 ?_
  exact ⟨rfl,congrArg bv (by rw [hfb];simp_all)⟩
end Go.Proofs
set_option maxRecDepth 100000
namespace Go.Proofs.YtfmcbdjnmlcacaaGreatDoor
open Go Go.Ab Go.H
def yo3:DataW Unit:=match (Rows.laid_yardarm_rules_asks:DataW Unit) with| .iface _ d=>d|d=>d
def ycy:List (List UInt8):=match yo3 with| .agg ds=>ds.map (fun d=>match d with| .iface _ (.lit (.string b))=>b|_=> [])|_=> []
def nm (k:Nat):List UInt8:=ycy.getD (k+1) []
theorem ye3:yo3.funcsOut= .agg (.nil::(ycy.drop 1).map .held):=by kernel_rfl
theorem zq6 {w:World} {c:Array Value} {T0:TypeId} {fr:Nat×Nat} {g:Nat} {T:TypeId} {vs:List AV} (hh:w.heap[g]? =some (.cells c T0 fr)) (hl:vs.length=c.size) (h:∀j (h1:j < vs.length) (h2:j < c.size),Rel w noX vs[j] c[j]):(Res.glob g T vs).holds w noX:=
 ⟨fun h=>h,(Array.getElem?_eq_some_iff.1 hh).1,c,T0,fr,hh,hl,fun j h1 h2=>h j h1 h2⟩
theorem ykr (w:World) (f:Nat):Rel w noX (.fn (.func f) [] []) (.func (.func f) #[] #[]):= .fn _ _ _ _ _ rfl rfl (fun j h=>absurd h (Nat.not_lt_zero _)) (fun j h=>absurd h (Nat.not_lt_zero _))
def fnA:List Nat:= [300,307,308,309,310,311,312,313,314,315]
theorem yji (k:Nat) (hk:k < 10):∃b r,ycy[k+1]? =some (b::r)∧((List.range Tryz.prog.funcs.size).filter fun f=>(Tryz.prog.funcs[f]?).any (·.name.toUTF8.data.toList==b::r))= [fnA.getD k 0]∧u5[k+1]? =some (.fn (.func (fnA.getD k 0)) [] []):=by
 match k,hk with
 |0,_=>exact ⟨(nm 0).headD 0,(nm 0).tail,by kernel_rfl,by kernel_rfl,by kernel_rfl⟩
 |1,_=>exact ⟨(nm 1).headD 0,(nm 1).tail,by kernel_rfl,by kernel_rfl,by kernel_rfl⟩
 |2,_=>exact ⟨(nm 2).headD 0,(nm 2).tail,by kernel_rfl,by kernel_rfl,by kernel_rfl⟩
 |3,_=>exact ⟨(nm 3).headD 0,(nm 3).tail,by kernel_rfl,by kernel_rfl,by kernel_rfl⟩
 |4,_=>exact ⟨(nm 4).headD 0,(nm 4).tail,by kernel_rfl,by kernel_rfl,by kernel_rfl⟩
 |5,_=>exact ⟨(nm 5).headD 0,(nm 5).tail,by kernel_rfl,by kernel_rfl,by kernel_rfl⟩
 |6,_=>exact ⟨(nm 6).headD 0,(nm 6).tail,by kernel_rfl,by kernel_rfl,by kernel_rfl⟩
 |7,_=>exact ⟨(nm 7).headD 0,(nm 7).tail,by kernel_rfl,by kernel_rfl,by kernel_rfl⟩
 |8,_=>exact ⟨(nm 8).headD 0,(nm 8).tail,by kernel_rfl,by kernel_rfl,by kernel_rfl⟩
 |9,_=>exact ⟨(nm 9).headD 0,(nm 9).tail,by kernel_rfl,by kernel_rfl,by kernel_rfl⟩
end Go.Proofs.YtfmcbdjnmlcacaaGreatDoor
namespace Go.Proofs
open Go Go.Ab
open Go.H
def ypg (l:List Int):List AV:= [zbe l]
theorem yrb {P:Program} {h:List Res} {f:Operand→Option AV} {o:Oper} {b c:Bool} (hq:QR P h f o (.v (.bool b))) (e:b=c):QR P h f o (.v (.bool c)):=by subst e;exact hq
theorem nzT {a:Int} (h:(a !=0)=true):a≠0:=by simpa using h
theorem nzF {a:Int} (h:(a !=0)=false):a=0:=by simpa using h
theorem yot (l:List Ev):(zfw l).length≤l.length:=by rw [zfw,(zdh _).length_eq,oM];exact List.length_filter_le _ _
def dnM (l:List Int):List (Int×Bool):=zsb (fun _:Int=>true) (fun t:Int=>t) [] l
theorem yvi {l:List Int} {k:Nat} (hk:k < l.length):dnM (l.take (k+1))=zew l[k] true (dnM (l.take k)):=by
 rw [dnM,dnM,zsb,zsb,List.take_succ_eq_append_getElem hk,List.foldl_append];rfl
theorem zh5 (l:List Ev) (t:Int):(zbs t (dnM (zfw l))).getD false=zga l t 5:=by
 rw [dnM,zgv]
 cases hq:zga l t 5 with
 |true=>rw [if_pos (by rw [List.any_eq_true];exact ⟨t,zri.2 hq,by simp⟩)];rfl
 |false=>
  rw [if_neg (fun q=>by
   obtain ⟨x,hx,e⟩:=List.any_eq_true.1 q
   have e:x=t:=by simpa using e
   rw [e,zri,hq] at hx;cases hx)]
  rfl
def evD (l:List Ev) (n:Int):Ev:=(l[n.toNat]?).getD ⟨0,0,0,0,0,⟨0,0⟩,0,[]⟩
theorem zxy {l:List Ev} {a:Nat} (ha:a < l.length):evD l (a:Int)=l[a]:=by rw [evD,Int.toNat_natCast,List.getElem?_eq_getElem ha];rfl
def zfg (h:Hist) (n:Int):Int:=if u9 h=0 then (if 0≤n∧n < h.evs.length∧(evD h.evs n).kind=4 then 0 else 2) else u9 h
def zo5 (h:Hist) (n:Int):List Seen:=if zfg h n=0 then ylt h (evD h.evs n) n.toNat else []
theorem ywj {h:Hist} {n:Int} (hc:u9 h≠0):zfg h n=u9 h∧zo5 h n= []:=by
 have e:zfg h n=u9 h:=by rw [zfg,if_neg hc]
 exact ⟨e,by rw [zo5,e,if_neg hc]⟩
theorem ywi {h:Hist} {n:Int} (hc:u9 h=0) (hn:¬(0≤n∧n < h.evs.length∧(evD h.evs n).kind=4)):zfg h n=2∧zo5 h n= []:=by
 have e:zfg h n=2:=by rw [zfg,if_pos hc,if_neg hn]
 exact ⟨e,by rw [zo5,e];rfl⟩
theorem ywh {h:Hist} {a:Nat} (hc:u9 h=0) (ha:a < h.evs.length) (h4:h.evs[a].kind=4):zfg h a=0∧zo5 h a=(upR h.os.length).map (yjv h.evs h.evs[a].t h.evs[a].scan a):=by
 have e:zfg h a=0:=by rw [zfg,if_pos hc,if_pos ⟨by omega,by omega,by rw [zxy ha];exact h4⟩]
 exact ⟨e,by rw [zo5,e,if_pos rfl,zxy ha,Int.toNat_natCast];rfl⟩
set_option maxRecDepth 10000
instance:EqInts Tryz.prog 41 7:=⟨by kernel_rfl,fun w xs ys h1 h2=>match xs,ys,h1,h2 with
 | [a0,a1,a2,a3,a4,a5,a6],[c0,c1,c2,c3,c4,c5,c6],_,_=>by
   rw [run_equalIn_struct w 9999 41 _ _ (by kernel_rfl) (by kernel_rfl)]
   simp only [Program.fieldsOf,Tryz.underlying41]
   simp [Op.eqFields,part,run_equalIn_int _ 9998 3 .i64 .i64 _ _ Tryz.underlying3]
   by_cases h0:a0=c0
   case neg=>simp [h0]
   subst h0
   by_cases h1:a1=c1
   case neg=>simp [h1]
   subst h1
   by_cases h2:a2=c2
   case neg=>simp [h2]
   subst h2
   by_cases h3:a3=c3
   case neg=>simp [h3]
   subst h3
   by_cases h4:a4=c4
   case neg=>simp [h4]
   subst h4
   by_cases h5:a5=c5
   case neg=>simp [h5]
   subst h5
   by_cases h6:a6=c6
   case neg=>simp [h6]
   subst h6
   simp⟩
end Go.Proofs
namespace Go.Ab
open Go
end Go.Ab
set_option maxRecDepth 10000
namespace Go.Proofs
open Go Go.Ab
attribute [local irreducible] QR QV OE zct aw zdf zch zbm za3 thn zfl zd0 jch zfc
open Go.H
theorem ysd (a:Int):y8 Tryz.prog 204 [iv a] [] (fun r h'=>h'= []∧r=bv false):=by
 refine z6 Tryz.func204 rfl rfl rfl ?_
 refine rn ?_;refine rq 0 ?_
 exact ⟨rfl,congrArg bv (bne_self_eq_false a)⟩
def zuh (a b:Int):Int:=if a < b then -1 else if b < a then 1 else 0
theorem zn6 (a b:Int) (l m:List Int):zhi (a::l) (b::m)=if zuh a b=0 then zhi l m else zuh a b:=by
 rw [zhi,zuh]
 by_cases h1:a < b
 ·rw [if_pos h1,if_pos h1];rfl
 ·rw [if_neg h1,if_neg h1]
  by_cases h2:b < a
  ·rw [if_pos h2,if_pos h2];rfl
  ·rw [if_neg h2,if_neg h2];rfl
theorem zz1:∀(l:List Int),l≠ []→zhi l []=1
 | [],h=>absurd rfl h
 |_::_,_=>rfl
theorem zz2:∀(l:List Int),l≠ []→zhi [] l= -1
 | [],h=>absurd rfl h
 |_::_,_=>rfl
theorem ytc (a b:Int):y8 Tryz.prog 144 [iv a,iv b] [] (fun r h'=>h'= []∧r=iv (zuh a b)):=by
 refine z6 Tryz.func144 rfl rfl rfl ?_
 refine rn ?_;refine qv rfl rfl (y1 rfl rfl (j4 (ysd _) (Sbs.refl _))) ?_
 refine rn ?_;refine qv rfl rfl (y1 rfl rfl (j4 (ysd _) (Sbs.refl _))) ?_
 refine rn ?_;refine z7 rfl (fun hc11=> ?_) (fun hc11=> ?_)
 ·exact absurd hc11 (by decide)
 ·refine rn ?_;refine z7 rfl (fun hc13=> ?_) (fun hc13=> ?_)
  ·exact absurd hc13 (by decide)
  ·refine rn ?_;refine z7 rfl (fun hc16=> ?_) (fun hc16=> ?_)
   ·refine rn ?_;refine rq 0 ?_
    exact ⟨rfl,congrArg iv (by rw [zuh,if_pos (oT hc16)])⟩
   ·refine rn ?_;refine z7 rfl (fun hc19=> ?_) (fun hc19=> ?_)
    ·refine rn ?_;refine rq 0 ?_
     exact ⟨rfl,congrArg iv (by rw [zuh,if_neg (oF hc16),if_pos (oT hc19)])⟩
    ·refine rn ?_;refine rq 0 ?_
     exact ⟨rfl,congrArg iv (by rw [zuh,if_neg (oF hc16),if_neg (oF hc19)])⟩
theorem ya0 {f g:Bool} (l m:List Int) (hl:l.length≤4611686018427387904) (hm:m.length≤4611686018427387904):y8 Tryz.prog 96 [.list f 1 (l.map zar),.list g 1 (m.map zar)] [] (fun r h'=>h'= []∧r=iv (zhi l m)):=by
 refine z6 Tryz.func96 rfl rfl rfl ?_
 refine rn ?_;refine zcu (l.length) (fun k:Nat=>k≤m.length∧zhi l m=zhi (l.drop k) (m.drop k)) (fun k=> [(11,iv k)]) [(0,_),(1,_),(9,_),(10,_)] ⟨Nat.zero_le _,rfl⟩ ?_
 rintro k lk ⟨km,zk⟩
 refine rn ?_;refine z7 rfl (fun hc12=> ?_) (fun hc12=> ?_)
 ·have hk:=za4 hc12
  have rk:=zaj (f:=zar) hk
  refine rn ?_;refine z7 rfl (fun hc19=> ?_) (fun hc19=> ?_)
  ·have q:=oT hc19
   rw [oM] at q
   have qm:k=m.length:=by omega
   refine rn ?_;refine rq 0 ?_
   exact ⟨rfl,congrArg iv (by rw [zk,qm,List.drop_length,zz1 _ (by rw [List.drop_eq_getElem_cons (by omega)];exact List.cons_ne_nil _ _)])⟩
  ·have q:=oF hc19
   rw [oM] at q
   have hkm:k < m.length:=by omega
   have rm:=zaj (f:=zar) hkm
   refine rn ?_;refine qv rfl rfl (y1 rfl rfl (j4 (ytc l[k] m[k]) (Sbs.refl _))) ?_
   refine rn ?_;refine z7 rfl (fun hc28=> ?_) (fun hc28=> ?_)
   ·have hn:¬zuh l[k] m[k]=0:=by simpa using hc28
    refine rn ?_;refine rq 0 ?_
    exact ⟨rfl,congrArg iv (by rw [zk,List.drop_eq_getElem_cons hk,List.drop_eq_getElem_cons hkm,zn6,if_neg hn])⟩
   ·refine rn ?_;exact ⟨hk,⟨hkm,by rw [zk,List.drop_eq_getElem_cons hk,List.drop_eq_getElem_cons hkm,zn6,if_pos (by simpa using hc28)]⟩,eA⟩
 ·have qk:=za5 hc12 lk
  refine rn ?_;refine z7 rfl (fun hc35=> ?_) (fun hc35=> ?_)
  ·have q:=oT hc35
   rw [oM,oM] at q
   refine rn ?_;refine rq 0 ?_
   exact ⟨rfl,congrArg iv (by rw [zk,qk,List.drop_length,zz2 _ (by rw [List.drop_eq_getElem_cons (by omega)];exact List.cons_ne_nil _ _)])⟩
  ·have q:=oF hc35
   rw [oM,oM] at q
   have qm:k=m.length:=by omega
   refine rn ?_;refine rq 0 ?_
   exact ⟨rfl,congrArg iv (by rw [zk,List.drop_eq_nil_of_le (by omega),List.drop_eq_nil_of_le (by omega)];rfl)⟩
def zek (a b:Conf):Bool:=([a.f,a.t,a.k,a.a,a.b,a.o,a.p]:List Int)== [b.f,b.t,b.k,b.a,b.b,b.o,b.p]
theorem zc4 (a b:Conf):zek a b=decide (a=b):=by
 rw [zek,Bool.eq_iff_iff,decide_eq_true_iff]
 obtain ⟨a1,a2,a3,a4,a5,a6,a7⟩:=a
 obtain ⟨b1,b2,b3,b4,b5,b6,b7⟩:=b
 simp
theorem yov {a b:Int} (h:decide (a < b)=true):zuh a b= -1:=by rw [zuh,if_pos (oT h)]
theorem yow {a b:Int} (h1:decide (a < b)=false) (h:decide (a > b)=true):zuh a b=1:=by rw [zuh,if_neg (oF h1),if_pos (oT h)]
theorem you {a b:Int} (h1:decide (a < b)=false) (h:decide (a > b)=false):zuh a b=0:=by rw [zuh,if_neg (oF h1),if_neg (oF h)]
theorem yvl (a b:Conf) {k:Nat} (hk:k < 7):zhi ((zjg a).drop k) ((zjg b).drop k)=if zuh ((zjg a)[k]'hk) ((zjg b)[k]'hk)=0 then zhi ((zjg a).drop (k+1)) ((zjg b).drop (k+1)) else zuh ((zjg a)[k]'hk) ((zjg b)[k]'hk):=by
 rw [List.drop_eq_getElem_cons (l:=zjg a) (show k < (zjg a).length from hk),List.drop_eq_getElem_cons (l:=zjg b) (show k < (zjg b).length from hk),zn6];rfl
theorem yks (c:Conf) {k:Nat} (hk:k < 7):(u0 c)[k]? =some (iv ((zjg c)[k]'hk)):=by
 have:u0 c=(zjg c).map iv:=rfl
 rw [this,List.getElem?_map,List.getElem?_eq_getElem (show k < (zjg c).length from hk)];rfl
theorem zwh (c:Conf):y8 Tryz.prog 95 [.agg (u0 c)] [] (fun r h'=>h'= []∧r= .agg (u0 c)):=by
 refine z6 Tryz.func95 rfl rfl rfl ?_
 refine rn ?_;refine z8 rfl (w9 rfl rfl rfl fun b1=> ?_)
 refine z8 rfl (y4 rfl fun b2=> ?_)
 refine u6 (zab ?_)
 refine w8 (y3 ?_)
 refine q1 ?_;refine q1 ?_;refine q1 ?_;refine q1 ?_;refine q1 ?_;refine q1 ?_;refine q1 ?_;refine q1 ?_;refine q1 ?_;refine q1 ?_;refine q1 ?_;refine q1 ?_;refine q1 ?_;refine q1 ?_;refine qq rfl rfl (zcy (out:=u0 c) rfl (by rfl)) ?_
 refine rn ?_;exact ze6 (.cons _ _ _ _ (.agg _ _ _ _ _ _ _ rfl inferInstance inferInstance inferInstance rfl) .nil) (.drop [_,_] _ _) ⟨rfl,rfl⟩
theorem zsn (c:Conf):y8 Tryz.prog 171 [.agg (u0 c)] [] (fun r h'=>h'= []∧r= .agg (u0 c)):=by
 refine z6 Tryz.func171 rfl rfl rfl ?_
 refine rn ?_;refine z8 rfl (w9 rfl rfl rfl fun b1=> ?_)
 refine z8 rfl (y4 rfl fun b2=> ?_)
 refine u6 (zab ?_)
 refine w8 (y3 ?_)
 refine q1 ?_;refine q1 ?_;refine q1 ?_;refine q1 ?_;refine q1 ?_;refine q1 ?_;refine q1 ?_;refine q1 ?_;refine q1 ?_;refine q1 ?_;refine q1 ?_;refine q1 ?_;refine q1 ?_;refine q1 ?_;refine qq rfl rfl (zcy (out:=u0 c) rfl (by rfl)) ?_
 refine rn ?_;exact ze6 (.cons _ _ _ _ (.agg _ _ _ _ _ _ _ rfl inferInstance inferInstance inferInstance rfl) .nil) (.drop [_,_] _ _) ⟨rfl,rfl⟩
theorem zrv (a b:Conf):y8 Tryz.prog 39 [.agg (u0 a),.agg (u0 b)] [] (fun r h'=>h'= []∧r=iv (zd8 a b)):=by
 refine z6 Tryz.func39 rfl rfl rfl ?_
 refine rn ?_;refine z8 rfl (w9 rfl rfl rfl fun b2=> ?_)
 refine z8 rfl (w9 rfl rfl rfl fun b3=> ?_)
 refine rn ?_;refine z7 rfl (fun hc9=> ?_) (fun hc9=> ?_)
 ·have he:a=b:=oT (by rw [←zc4];exact hc9)
  refine rn ?_;refine rq 2 ?_
  exact ⟨rfl,congrArg iv (by rw [he,zkd])⟩
 ·refine rn ?_;refine k9 6 rfl ?_
  refine rn ?_;refine dv rfl rfl (by exact y1 rfl rfl (j4 (zwh a) (Sbs.refl _))) ?_
  refine rn ?_;refine dv rfl rfl (by exact y1 rfl rfl (j4 (zwh b) (Sbs.refl _))) ?_
  refine rn ?_;refine zx2 rfl fun b5=> ?_
  refine zx2 rfl fun b6=> ?_
  refine rn ?_;refine k9 2 rfl ?_
  refine dq rfl rfl (zlj rfl) ?_
  refine dq rfl rfl (zlj rfl) ?_
  refine rn2 ?_;refine zyj b5 ?_
  refine zyj b6 ?_
  show zct _ _ _ _ _ _ ⟨_,.row (ypr b6 7) 1 124 ((zjg b).map zar):: .row (ypr b5 7) 1 124 ((zjg a).map zar):: .box b3 41 (u0 b):: .box b2 41 (u0 a):: [],_⟩
  refine qv rfl rfl (y1 rfl rfl (y0.lend (R:=fun x=>x=iv (zd8 a b)) (y0.of_fun (ya0 (zjg a) (zjg b) (by show 7≤4611686018427387904;decide) (by show 7≤4611686018427387904;decide))) (fun r hr=>by rw [hr];rfl) (.refl _ _) (by exact ⟨zld,zld,trivial⟩))) ?_
  refine rn ?_;refine rq 4 ?_
  exact ⟨rfl,rfl⟩
theorem zsp (a b:Conf):y8 Tryz.prog 131 [.agg (u0 a),.agg (u0 b)] [] (fun r h'=>h'= []∧r=iv (zd8 a b)):=by
 refine z6 Tryz.func131 rfl rfl rfl ?_
 refine rn ?_;refine z8 rfl (w9 rfl rfl rfl fun b2=> ?_)
 refine z8 rfl (w9 rfl rfl rfl fun b3=> ?_)
 refine rn ?_;refine qv rfl rfl (y1 rfl rfl (j4 (zsn b) (Sbs.refl _))) ?_
 refine z8 rfl (y4 rfl fun b5=> ?_)
 refine rn ?_;refine qv rfl rfl (y1 rfl rfl (j4 (zsn a) (Sbs.refl _))) ?_
 refine rn ?_;refine zcl 7 (fun k=>zd8 a b=zhi ((zjg a).drop k) ((zjg b).drop k)) (fun k=>⟨[(12,iv k),(5,pZ b5),(11,.agg (u0 a))],.box b5 124 (u0 b):: .box b3 41 (u0 b):: .box b2 41 (u0 a):: [],[]⟩) rfl es ?_
 intro k lk zk
 refine rn ?_;refine z7 rfl (fun hc13=> ?_) (fun hc13=> ?_)
 ·have hk:k < 7:=by have q:=oT hc13;omega
  have ra:=yks a hk
  have rb:=yks b hk
  have da:=List.drop_eq_getElem_cons (l:=zjg a) (show k < (zjg a).length from hk)
  have db:=List.drop_eq_getElem_cons (l:=zjg b) (show k < (zjg b).length from hk)
  refine zan ?_;refine zab ?_;refine w8 ?_;refine zb4 ?_;refine w8 (y3 ?_)
  refine q1 ?_;refine qq rfl rfl (zc2 rfl rfl hk (by rw [Nat.mul_one];exact ra)) ?_
  refine q1 ?_;refine q1 ?_;refine u6 (zab ?_)
  refine w8 ?_;refine w8 (y3 ?_)
  refine q1 ?_;refine q1 ?_;refine qq rfl rfl (zak rfl rfl hk) ?_
  refine qq rfl rfl (zac rfl (by rw [Nat.zero_add,Nat.mul_one];exact rb)) ?_
  refine rn ?_;refine z7 rfl (fun hc20=> ?_) (fun hc20=> ?_)
  ·refine rn ?_;refine rq 3 ?_
   exact ⟨rfl,congrArg iv (by rw [zk,yvl a b hk,yov hc20];rfl)⟩
  ·refine zan ?_;refine zab ?_;refine w8 (y3 ?_)
   refine q1 ?_;refine q1 ?_;refine qq rfl rfl (zak rfl rfl hk) ?_
   refine qq rfl rfl (zac rfl (by rw [Nat.zero_add,Nat.mul_one];exact rb)) ?_
   refine rn ?_;refine z7 rfl (fun hc25=> ?_) (fun hc25=> ?_)
   ·refine rn ?_;refine rq 3 ?_
    exact ⟨rfl,congrArg iv (by rw [zk,yvl a b hk,yow hc20 hc25];rfl)⟩
   ·refine rn ?_;exact ⟨hk,by rw [zk,yvl a b hk,if_pos (you hc20 hc25)],eA⟩
 ·have qk:k=7:=by have q:=oF hc13;omega
  refine rn ?_;refine rq 3 ?_
  exact ⟨rfl,congrArg iv (by rw [zk,qk];rfl)⟩
def zeo (sz:Nat) (T:TypeId) {α:Type} (R:α→List AV) (x:List (SV×List α)):List Res:=x.map fun p=> .row p.1.v sz T (p.2.map R)
abbrev zcr {α:Type} (x:List (SV×List α)):List (List AV):=x.map fun p=> [.v p.1.v]
theorem zkp {sz:Nat} {T:TypeId} {α:Type} {R:α→List AV} (x:List (SV×List α)) (p:SV×List α):zeo sz T R (x++ [p])=zeo sz T R x++ [.row p.1.v sz T (p.2.map R)]:=by simp [zeo]
theorem zji {α:Type} (x:List (SV×List α)) (p:SV×List α):zcr (x++ [p])=zcr x++ [[.v p.1.v]]:=by simp [zcr]
theorem zgo {α:Type} (x:List (SV×List α)):(zcr x).length=x.length:=oM
theorem zm9 (sz:Nat) (T:TypeId) {α:Type} (R:α→List AV):zeo sz T R []= []:=rfl
theorem zkq {sz:Nat} {T:TypeId} {α:Type} {R:α→List AV} {x:List (SV×List α)} {k:Nat} (hk:k < x.length):zeo sz T R (x.drop k)= .row (x[k]).1.v sz T ((x[k]).2.map R)::zeo sz T R (x.drop (k+1)):=by
 rw [List.drop_eq_getElem_cons hk];rfl
theorem zoa {α:Type} {x:List (SV×List α)} {k:Nat} (hk:k < x.length):(zcr x)[k]? =some [.v (x[k]).1.v]:=by simp [zcr,hk]
theorem ych {β:Type} (m:β) (A B:List β):(m::(A++B)).Perm (A++(B++ [m])):=by
 rw [←List.append_assoc];exact List.perm_append_comm (l₁:= [m])
theorem zyp {sz:Nat} {T:TypeId} {α:Type} {R:α→List AV} (x:List (SV×List α)):zeo sz T R x=zeo sz T R (x.drop (2 * 0))++zeo sz T R []:=by rw [Nat.mul_zero,List.drop_zero,zm9,List.append_nil]
theorem yf4 {sz:Nat} {T:TypeId} {α:Type} {R:α→List AV} {x y:List (SV×List α)} {n:Nat} (h:x.length≤2 * n):zeo sz T R (x.drop (2 * n))++zeo sz T R y=zeo sz T R y:=by rw [List.drop_eq_nil_of_le h,zm9,List.nil_append]
theorem yf3 {sz:Nat} {T:TypeId} {α:Type} {R:α→List AV} {x y:List (SV×List α)} {i:Nat} (h:2 * i+1=x.length):(zeo sz T R (x.drop (2 * i))++zeo sz T R y).Perm (zeo sz T R (x.drop (2 * (i+1)))++zeo sz T R (y++ [x[2 * i]'(by omega)])):=by
 rw [List.drop_eq_nil_of_le (show x.length≤2 * (i+1) by omega),zkq (by omega),List.drop_eq_nil_of_le (by omega),zm9,List.nil_append,zkp]
 exact List.perm_append_comm
theorem yf2 {sz:Nat} {T:TypeId} {α:Type} {R:α→List AV} {x y:List (SV×List α)} {i:Nat} {m:SV} {l:List α}:(.row m.v sz T (l.map R)::(zeo sz T R (x.drop (2 * i+1+1))++zeo sz T R y)).Perm (zeo sz T R (x.drop (2 * (i+1)))++zeo sz T R (y++ [(m,l)])):=by
 rw [zkp,show 2 * (i+1)=2 * i+1+1 by omega]
 exact ych _ _ _
theorem znl (s:SV):∀r∈([[.v s.v]]:List (List AV)),r.all AV.one=true:=by
 intro r hr;rw [List.mem_singleton.1 hr];rfl
theorem yf1 {β:Type} {l:List β} {k:Nat} (hk:k < l.length):(l.take (k+1)).drop k= [l[k]]:=by
 rw [List.take_succ_eq_append_getElem hk,List.drop_left' (by simp;omega)]
theorem yc2 (a b:List Conf) (fv:AV) (cmp:Conf→Conf→Int) (hp:∀x y,y0 Tryz.prog fv [.agg (u0 x),.agg (u0 y)] [] (fun r h'=>h'= []∧r=iv (cmp x y))) (ha:a.length≤1000000000) (hb:b.length≤1000000000):y8 Tryz.prog 170 [.list false 7 (a.map u0),.list false 7 (b.map u0),fv] [] (fun r h'=>∃s:SV,h'= [.row s.v 7 41 ((mrg cmp a b).map u0)]∧r= .v s.v):=by
 refine z6 Tryz.func170 rfl rfl rfl ?_
 refine rn ?_;refine zke ?_;refine w8 (y3 ?_)
 refine q1 ?_;refine q1 ?_;refine q1 ?_;refine q1 ?_;refine qq rfl rfl (zcb rfl rfl rfl (by simp only [oM];omega)) ?_
 refine z8 rfl (zxd (n:=0) (c:=((a.map u0).length+(b.map u0).length)) rfl rfl rfl (Nat.zero_le _) (by simp only [oM];omega) (hk:=fun b7=> ?_))
 refine j3 (.slice (some ⟨b7,0,none⟩) 0 ((a.map u0).length+(b.map u0).length)) fun s0 hs0=> ?_
 rw [hs0]
 clear hs0
 refine rn ?_;refine zhf (fun x:Nat×Nat×List Conf×SV=>x.1≤a.length∧x.2.1≤b.length∧x.2.2.1.length=x.1+x.2.1∧x.2.2.1++mrg cmp (a.drop x.1) (b.drop x.2.1)=mrg cmp a b) (fun x=>⟨[(0,.list false 7 ((a.drop x.1).map u0)),(1,.list false 7 ((b.drop x.2.1).map u0)),(2,fv),(7,.v x.2.2.2.v)],.row x.2.2.2.v 7 41 (x.2.2.1.map u0):: [],[]⟩) (fun x=>(a.length - x.1)+(b.length - x.2.1)) (0,0,[],s0) ⟨Nat.zero_le _,Nat.zero_le _,rfl,rfl⟩ es ?_
 rintro ⟨i,j,p,s⟩ ⟨hi0,hj0,hpl,hm⟩
 simp only at hi0 hj0 hpl hm
 show aw _ _ _ _ _ ⟨[(0,.list false 7 ((a.drop i).map u0)),(1,.list false 7 ((b.drop j).map u0)),(2,fv),(7,.v s.v)],.row s.v 7 41 (p.map u0):: [],[]⟩
 refine rn ?_;refine w7 (fun hg3_3=> ?_) (fun hg3_3=> ?_)
 ·refine rn ?_;refine zfe rfl ?_;have hov:a.drop i= []∨b.drop j= []:=by first|(have q:=hg3_3;simp at q;exact .inl (List.drop_eq_nil_of_le (by omega)))|(have q:=hc22;simp at q;exact .inr (List.drop_eq_nil_of_le (by omega)))
  refine rn ?_;refine z8 rfl (q7 rfl rfl (by simp only [oM,List.length_drop];omega) rfl (fun s51=> ?_) (za8 _))
  refine j3 s51 fun sv1 hsv1=> ?_
  subst hsv1
  refine rn ?_;refine z8 rfl (q7 rfl rfl (by simp only [oM,List.length_append,List.length_drop];omega) rfl (fun s53=> ?_) (za8 _))
  refine j3 s53 fun sv2 hsv2=> ?_
  subst hsv2
  refine rn ?_;refine ⟨fun l h=>(by cases h),?_⟩
  exact k8 rfl (.refl _ _) ⟨sv2,by rw [←hm,zxg cmp hov,List.map_append,List.map_append,List.append_assoc],rfl⟩
 ·refine rn ?_;refine z7 rfl (fun hc22=> ?_) (fun hc22=> ?_)
  ·have hov:a.drop i= []∨b.drop j= []:=by first|(have q:=hg3_3;simp at q;exact .inl (List.drop_eq_nil_of_le (by omega)))|(have q:=hc22;simp at q;exact .inr (List.drop_eq_nil_of_le (by omega)))
   refine rn ?_;refine z8 rfl (q7 rfl rfl (by simp only [oM,List.length_drop];omega) rfl (fun s51=> ?_) (za8 _))
   refine j3 s51 fun sv1 hsv1=> ?_
   subst hsv1
   refine rn ?_;refine z8 rfl (q7 rfl rfl (by simp only [oM,List.length_append,List.length_drop];omega) rfl (fun s53=> ?_) (za8 _))
   refine j3 s53 fun sv2 hsv2=> ?_
   subst hsv2
   refine rn ?_;refine ⟨fun l h=>(by cases h),?_⟩
   exact k8 rfl (.refl _ _) ⟨sv2,by rw [←hm,zxg cmp hov,List.map_append,List.map_append,List.append_assoc],rfl⟩
  ·have hi:i < a.length:=by have q:=hg3_3;simp at q;omega
   have hj:j < b.length:=by have q:=hc22;simp at q;omega
   have ia:((a.drop i).map u0)[0]? =some (u0 a[i]):=by rw [List.getElem?_map,List.getElem?_drop,Nat.add_zero,List.getElem?_eq_getElem hi];rfl
   have ib:((b.drop j).map u0)[0]? =some (u0 b[j]):=by rw [List.getElem?_map,List.getElem?_drop,Nat.add_zero,List.getElem?_eq_getElem hj];rfl
   refine rn ?_;refine k9 7 rfl ?_
   refine dq rfl rfl qrA ?_;refine dq rfl rfl qrA ?_;refine dq rfl rfl (zax rfl rfl (by decide) ib) ?_
   refine dq rfl rfl qrA ?_;refine dq rfl rfl qrA ?_;refine dq rfl rfl (zax rfl rfl (by decide) ia) ?_
   refine rn ?_;refine qv rfl rfl (y1 rfl rfl (y0.pure (R:=fun r=>r=iv (cmp b[j] a[i])) (hp b[j] a[i]))) ?_
   refine rn ?_;refine z7 rfl (fun hc31=> ?_) (fun hc31=> ?_)
   ·have hlt:cmp b[j] a[i] < 0:=oT hc31
    refine zyg 9 [5] [8] (fun he=>∃s' rows,he= [.row s' 7 41 rows]) rfl rfl ⟨_,_,rfl⟩ ?_
    refine jq rfl (fun he hC=>by obtain ⟨s2,rows,rfl⟩:=hC <;> exact qrA) ?_
    refine jq rfl (fun he hC=>by obtain ⟨s2,rows,rfl⟩:=hC <;> exact qrA) ?_
    refine jq rfl (fun he hC=>by obtain ⟨s2,rows,rfl⟩:=hC <;> exact (by exact zax rfl rfl (by decide) ib)) ?_
    refine jq rfl (fun he hC=>by obtain ⟨s2,rows,rfl⟩:=hC <;> exact qrA) ?_
    refine jv rfl (fun he hC=>by obtain ⟨s2,rows,rfl⟩:=hC <;> exact (by exact q6 rfl rfl)) ?_
    refine je rfl ?_;refine jq rfl (fun he hC=>by obtain ⟨s2,rows,rfl⟩:=hC <;> exact qrA) ?_
    refine jq rfl (fun he hC=>by obtain ⟨s2,rows,rfl⟩:=hC <;> exact (by exact zhx (zd5 (l:=1) rfl rfl (by simp;omega)) (show AV.list false 7 _= .list false 7 ((b.drop (j+1)).map u0) by rw [←List.map_drop,List.drop_drop]))) ?_
    refine je rfl ?_;refine zzs ?_;refine jce rfl fun u=> ?_
    refine q7 rfl rfl (by simp only [oM,List.length_cons,List.length_nil];omega) rfl (fun s46=>⟨_,_,rfl,⟨_,_,rfl⟩,?_⟩) (za8 [b[j]])
    refine jcn ?_;refine lq rfl rfl (by exact qrA) ?_
    refine ln ?_;refine j3 s46 fun sv hsv=> ?_
    subst hsv
    refine rn ?_;exact ⟨(i,j+1,p++ [b[j]],sv),⟨hi0,hj,by simp;omega,by rw [←hm,yuy cmp hi hj hlt,List.append_assoc];rfl⟩,by rw [List.map_append];exact eA,by simp only;omega⟩
   ·have hlt:¬cmp b[j] a[i] < 0:=oF hc31
    refine zyg 9 [5] [8] (fun he=>∃s' rows,he= [.row s' 7 41 rows]) rfl rfl ⟨_,_,rfl⟩ ?_
    refine jq rfl (fun he hC=>by obtain ⟨s2,rows,rfl⟩:=hC <;> exact qrA) ?_
    refine jq rfl (fun he hC=>by obtain ⟨s2,rows,rfl⟩:=hC <;> exact qrA) ?_
    refine jq rfl (fun he hC=>by obtain ⟨s2,rows,rfl⟩:=hC <;> exact (by exact zax rfl rfl (by decide) ia)) ?_
    refine jq rfl (fun he hC=>by obtain ⟨s2,rows,rfl⟩:=hC <;> exact qrA) ?_
    refine jv rfl (fun he hC=>by obtain ⟨s2,rows,rfl⟩:=hC <;> exact (by exact q6 rfl rfl)) ?_
    refine je rfl ?_;refine jq rfl (fun he hC=>by obtain ⟨s2,rows,rfl⟩:=hC <;> exact qrA) ?_
    refine jq rfl (fun he hC=>by obtain ⟨s2,rows,rfl⟩:=hC <;> exact (by exact zhx (zd5 (l:=1) rfl rfl (by simp;omega)) (show AV.list false 7 _= .list false 7 ((a.drop (i+1)).map u0) by rw [←List.map_drop,List.drop_drop]))) ?_
    refine je rfl ?_;refine zzs ?_;refine jce rfl fun u=> ?_
    refine q7 rfl rfl (by simp only [oM,List.length_cons,List.length_nil];omega) rfl (fun s46=>⟨_,_,rfl,⟨_,_,rfl⟩,?_⟩) (za8 [a[i]])
    refine jcn ?_;refine lq rfl rfl (by exact qrA) ?_
    refine ln ?_;refine j3 s46 fun sv hsv=> ?_
    subst hsv
    refine rn ?_;exact ⟨(i+1,j,p++ [a[i]],sv),⟨hi,hj0,by simp;omega,by rw [←hm,yuz cmp hi hj hlt,List.append_assoc];rfl⟩,by rw [List.map_append];exact eA,by simp only;omega⟩
end Go.Proofs
namespace Go.Ab
open Go
section
variable {P:Program} {ro:Option Nat} {nt:Nat} {c:Code} {Q:Exit→St→Prop} {t:Fr} {h:List Res} {ds:List Nat}
theorem zia {σ:Type} (n:Nat) (p:Nat→σ→Prop) (inv:Nat→σ→St) (x0:σ) (hp:p 0 x0) (h0:Ent nt ⟨t,h,ds⟩ (inv 0 x0))
 (round:∀k x,k≤n→p k x→aw P ro nt c (thn (fun s'=>k < n∧∃x',p (k+1) x'∧Ent nt s' (inv (k+1) x')) Q) (inv k x)):aw P ro nt (.loop c) Q ⟨t,h,ds⟩:=
 zai (fun x:Nat×σ=>x.1≤n∧p x.1 x.2) (fun x=>inv x.1 x.2) (fun x=>n - x.1) (0,x0) ⟨Nat.zero_le _,hp⟩ h0 fun x hk=>zf9 (fun e s' hq=>by
  cases e with
  |normal=>
   obtain ⟨h1,x',h2,h3⟩:=hq
   exact ⟨(x.1+1,x'),⟨h1,h2⟩,h3,by simp only;omega⟩
  |_=>exact hq) (round x.1 x.2 hk.1 hk.2)
end
end Go.Ab
set_option maxRecDepth 10000
namespace Go.Proofs
open Go Go.Ab
attribute [local irreducible] QR QV OE zct aw zdf zch zbm za3 thn zfl zd0 jch zfc
open Go.H
theorem yex (x:List (SV×List Conf)) (sr:SV) (b5 b3 k:Nat) (hk:k+1=x.length) (hx:x.length≤1000000000):y8 Tryz.prog 169 [iv k,pZ b5,pZ b3] (.row sr.v 1 35 (zcr x):: .box b5 96 [.v sr.v]:: []) (fun r h'=>h'= .row sr.v 1 35 (zcr x):: .box b5 96 [.v sr.v]:: []∧r= .v (x[k]'(by omega)).1.v):=by
 refine z6 Tryz.func169 rfl rfl rfl ?_
 refine w8 (y3 ?_)
 refine q1 ?_;refine u6 (zab ?_)
 refine w8 ?_;refine w8 (y3 ?_)
 refine q1 ?_;refine qq rfl rfl (zcb rfl rfl rfl (by omega)) ?_
 refine q1 ?_;refine q1 ?_;refine qq rfl rfl (zc9 (c:=true) rfl rfl (congrArg some (by rw [oM];simp;omega))) ?_
 refine rn ?_;refine z7 rfl (fun hc9=> ?_) (fun hc9=> ?_)
 ·refine w8 (y3 ?_)
  refine q1 ?_;refine q1 ?_;refine qq rfl rfl (zbr (k:=k) rfl rfl (by rw [oM];omega)) ?_
  refine qq rfl rfl (zc5 rfl (zoa (by omega)) rfl) ?_
  refine rn ?_;refine rq 0 ?_
  exact ⟨rfl,rfl⟩
 ·first|cases hc9|exact absurd hc9 (by decide)|(exfalso;simp_all;done)
theorem zw0 (l:List Conf):∀r∈l.map u0,∀a∈r,Scal a:=by
 intro r hr a ha
 obtain ⟨c,_,rfl⟩:=List.mem_map.1 hr
 simp only [u0,List.mem_cons,List.not_mem_nil,or_false] at ha
 rcases ha with rfl|rfl|rfl|rfl|rfl|rfl|rfl <;> exact .v _
theorem yew (x:List (SV×List Conf)) (sr:SV) (b5 b3 k:Nat) (hk:k+1 < x.length) (hx:x.length≤1000000000) (ha:∀p∈x,p.2.length≤1000000000) (fv:AV) (cmp:Conf→Conf→Int) (hp:∀x y,y0 Tryz.prog fv [.agg (u0 x),.agg (u0 y)] [] (fun r h'=>h'= []∧r=iv (cmp x y))):y8 Tryz.prog 169 [iv k,pZ b5,pZ b3] (.row sr.v 1 35 (zcr x):: .box b5 96 [.v sr.v]:: .box b3 64 [fv]:: .row (x[k]'(by omega)).1.v 7 41 ((x[k]'(by omega)).2.map u0):: .row (x[k+1]).1.v 7 41 ((x[k+1]).2.map u0):: []) (fun r h'=>∃s:SV,h'= .row s.v 7 41 ((mrg cmp (x[k]'(by omega)).2 (x[k+1]).2).map u0):: .row sr.v 1 35 (zcr x):: .box b5 96 [.v sr.v]:: .box b3 64 [fv]:: .row (x[k]'(by omega)).1.v 7 41 ((x[k]'(by omega)).2.map u0):: .row (x[k+1]).1.v 7 41 ((x[k+1]).2.map u0):: []∧r= .v s.v):=by
 refine z6 Tryz.func169 rfl rfl rfl ?_
 refine w8 (y3 ?_)
 refine q1 ?_;refine u6 (zab ?_)
 refine w8 ?_;refine w8 (y3 ?_)
 refine q1 ?_;refine qq rfl rfl (zcb rfl rfl rfl (by omega)) ?_
 refine q1 ?_;refine q1 ?_;refine qq rfl rfl (zc9 (c:=false) rfl rfl (congrArg some (by rw [oM];simp;omega))) ?_
 refine rn ?_;refine z7 rfl (fun hc9=> ?_) (fun hc9=> ?_)
 ·first|cases hc9|exact absurd hc9 (by decide)|(exfalso;simp_all;done)
 ·refine rn ?_;refine k9 10 rfl ?_
  refine dq rfl rfl qrA ?_;refine dq rfl rfl qrA ?_;refine dq rfl rfl (zbr (k:=k) rfl rfl (by rw [oM];omega)) ?_
  refine dq rfl rfl (zc5 rfl (zoa (by omega)) rfl) ?_
  refine dq rfl rfl qrA ?_;refine dq rfl rfl qrA ?_;refine dq rfl rfl (zcb rfl rfl rfl (by omega)) ?_
  refine dq rfl rfl (zbr (k:=k+1) rfl rfl (by rw [oM];omega)) ?_
  refine dq rfl rfl (zc5 rfl (zoa hk) rfl) ?_
  refine rn ?_;refine z8 rfl (v8 rfl rfl (y0.lendG (y0.of_fun (yc2 (x[k]'(by omega)).2 (x[k+1]).2 fv cmp hp (ha _ (List.getElem_mem _)) (ha _ (List.getElem_mem _)))) (by rintro _ _ ⟨s,rfl,rfl⟩;exact ⟨.v _,fun x hx=>by rw [List.mem_singleton.1 hx];exact zwz (zw0 _)⟩) (BLe.refl _ _) (by exact ⟨zld,zld,BLe.refl _ _,trivial⟩)) rfl ?_)
  rintro _ _ ⟨_,rfl,s,rfl,rfl⟩
  refine rn ?_;exact k8 rfl (.refl _ _) ⟨s,rfl,rfl⟩
theorem yge (l:List Conf) (fv:AV) (hone:fv.cellsOf=some [fv]) (cmp:Conf→Conf→Int) (hp:∀x y,y0 Tryz.prog fv [.agg (u0 x),.agg (u0 y)] [] (fun r h'=>h'= []∧r=iv (cmp x y))) (hl:l.length≤1000000000):y8 Tryz.prog 128 [.list false 7 (l.map u0),fv] [] (fun r h'=>∃s:SV,h'= [.row s.v 7 41 ((zkl cmp l).map u0)]∧r= .v s.v):=by
 refine z6 Tryz.func128 rfl rfl rfl ?_
 refine rn ?_;refine z8 rfl (w9 rfl hone rfl fun b3=> ?_)
 refine rn ?_;refine z8 rfl (y4 rfl fun b5=> ?_)
 refine rn ?_;refine zia l.length (fun k (z:SV×List (SV×List Conf))=>z.2.map (·.2)=(l.take k).map fun a=> [a]) (fun k z=>⟨[(13,iv k),(0,.list false 7 (l.map u0)),(3,pZ b3),(5,pZ b5),(12,iv (l.map u0).length)],.row z.1.v 1 35 (zcr z.2):: .box b5 96 [.v z.1.v]:: .box b3 64 [fv]::zeo 7 41 u0 z.2,[]⟩) (⟨none,0,0⟩,[]) rfl (v7 (zam 1 35) es) ?_
 rintro k ⟨s,x⟩ lk zk
 simp only at zk
 have hxl:x.length=k:=by have q:=congrArg List.length zk;rw [oM,oM,List.length_take] at q;omega
 show aw _ _ _ _ _ ⟨[(13,iv k),(0,.list false 7 (l.map u0)),(3,pZ b3),(5,pZ b5),(12,iv (l.map u0).length)],.row s.v 1 35 (zcr x):: .box b5 96 [.v s.v]:: .box b3 64 [fv]::zeo 7 41 u0 x,[]⟩
 refine rn ?_;refine z7 rfl (fun hc14=> ?_) (fun hc14=> ?_)
 ·have hk:k < l.length:=by have q:=oT hc14;rw [oM] at q;omega
  refine rn ?_;refine z8 rfl (zxd (n:=1) (c:=1) rfl rfl rfl (Nat.le_refl _) (by decide) (hk:=fun b16=> ?_))
  refine j3 (.slice (some ⟨b16,0,none⟩) 1 1) fun s1 hs1=> ?_
  rw [hs1]
  clear hs1
  refine q1 ?_;refine u6 (zab ?_)
  refine w8 (y3 ?_)
  refine q1 ?_;refine q1 ?_;refine q1 ?_;refine q1 ?_;refine qq rfl rfl (zcb rfl rfl rfl (by omega)) ?_
  refine q1 ?_;refine qq rfl rfl (zcb rfl rfl rfl (by omega)) ?_
  refine qq rfl rfl (zhx (zsv (l:=k) (k:=k+1) rfl rfl rfl rfl (by omega) (by rw [oM];exact hk)) (show AV.list true 7 _= .list true 7 [u0 l[k]] by rw [yf1 (by rw [oM];exact hk),List.getElem_map])) ?_
  refine z8 rfl (zzn 1 rfl rfl rfl rfl (hk:= ?_) (za8 [l[k]]))
  refine rn ?_;refine qv rfl rfl (q6 rfl rfl) ?_
  refine z8 rfl (q7 rfl rfl (by simp only [oM,List.length_cons,List.length_nil];omega) rfl (fun s29=> ?_) (znl s1))
  refine j3 s29 fun sv hsv=> ?_
  subst hsv
  refine rn ?_;exact ⟨hk,(sv,x++ [(s1,[l[k]])]),by simp only;rw [List.map_append,zk,List.take_succ_eq_append_getElem hk,List.map_append];rfl,v7 (zap (zbb [_] _)) (by simp only;rw [zji,zkp];exact es)⟩
 ·have qk:k=l.length:=by have q:=oF hc14;rw [oM] at q;omega
  refine rn ?_;refine zhf (fun z:SV×List (SV×List Conf)=>zr2 cmp (z.2.map (·.2))=zr2 cmp (l.map fun a=> [a])∧(z.2.map (·.2)).flatten.length=l.length∧z.2.length≤l.length) (fun z=>⟨[(5,pZ b5),(8,.fn (.func 169) [] [pZ b5,pZ b3])],.row z.1.v 1 35 (zcr z.2):: .box b5 96 [.v z.1.v]:: .box b3 64 [fv]::zeo 7 41 u0 z.2,[]⟩) (fun z=>z.2.length) (s,x) ⟨by simp only;rw [zk,qk,List.take_length],by simp only;rw [zk,qk,List.take_length,yhu],by simp only;omega⟩ es ?_
  rintro ⟨sr,x⟩ ⟨zk,hfl,hxl⟩
  simp only at zk hfl hxl
  show aw _ _ _ _ _ ⟨[(5,pZ b5),(8,.fn (.func 169) [] [pZ b5,pZ b3])],.row sr.v 1 35 (zcr x):: .box b5 96 [.v sr.v]:: .box b3 64 [fv]::zeo 7 41 u0 x,[]⟩
  refine rn ?_;refine z7 rfl (fun hc34=> ?_) (fun hc34=> ?_)
  ·have h1:1 < x.length:=by have q:=oT hc34;rw [zgo] at q;omega
   have hcl:=zgo x
   have hxa:∀p∈x,p.2.length≤1000000000:=fun p hm=>Nat.le_trans (yiv (show p.2∈x.map (·.2) from List.mem_map_of_mem hm)) (by rw [hfl];exact hl)
   refine zan ?_;refine zab ?_;refine zb4 ?_;refine w8 (y3 ?_)
   refine q1 ?_;refine u6 (zab ?_)
   refine w8 ?_;refine w8 (y3 ?_)
   refine q1 ?_;refine q1 ?_;refine qq rfl rfl (zcb rfl rfl rfl (by omega)) ?_
   refine qq rfl rfl (yq9 (c:=(((((zcr x).length+1) / 2):Nat):Int)) rfl rfl (by decide) rfl (by omega)) ?_
   refine rn ?_;rw [zyp x]
   refine zia (((zcr x).length+1) / 2) (fun i (z:SV×List (SV×List Conf))=>z.2.map (·.2)=(zby cmp (x.map (·.2))).take i) (fun i z=>⟨[(39,iv i),(9,.v z.1.v),(5,pZ b5),(8,.fn (.func 169) [] [pZ b5,pZ b3]),(38,iv ((((zcr x).length+1) / 2):Nat))],.row z.1.v 1 35 (zcr z.2):: .row sr.v 1 35 (zcr x):: .box b5 96 [.v sr.v]:: .box b3 64 [fv]::(zeo 7 41 u0 (x.drop (2 * i))++zeo 7 41 u0 z.2),[]⟩) (⟨none,0,0⟩,[]) rfl (v7 (zam 1 35) es) ?_
   rintro i ⟨sn,y⟩ li zi
   simp only at zi
   show aw _ _ _ _ _ ⟨[(39,iv i),(9,.v sn.v),(5,pZ b5),(8,.fn (.func 169) [] [pZ b5,pZ b3]),(38,iv ((((zcr x).length+1) / 2):Nat))],.row sn.v 1 35 (zcr y):: .row sr.v 1 35 (zcr x):: .box b5 96 [.v sr.v]:: .box b3 64 [fv]::(zeo 7 41 u0 (x.drop (2 * i))++zeo 7 41 u0 y),[]⟩
   refine rn ?_;refine z7 rfl (fun hc40=> ?_) (fun hc40=> ?_)
   ·have hi:i < (((zcr x).length+1) / 2):=by have q:=oT hc40;omega
    have hyl:y.length=i:=by have q:=congrArg List.length zi;rw [oM,List.length_take,zc6,oM] at q;omega
    refine zan ?_;refine zab ?_;refine w8 ?_;refine zb4 ?_;refine w8 (y3 ?_)
    refine q1 ?_;refine q1 ?_;refine u6 (zab ?_)
    refine y3 ?_;refine q1 ?_;refine q1 ?_;refine q1 ?_;refine qq rfl rfl (zcb rfl rfl rfl (by omega)) ?_
    by_cases ho:2 * i+1=x.length
    refine z8 rfl (v8 rfl rfl (y0.qt (y0.of_acall (fs:= []) (cs:= [pZ b5,pZ b3]) (yex x sr b5 b3 (2 * i) ho (by omega))) ((pt1 _ _ _).trans (.cons _ (pt1 _ _ _)))) rfl ?_)
    rintro _ _ ⟨rfl,rfl⟩
    rotate_left
    rw [zkq (x:=x) (k:=2 * i) (by omega),zkq (x:=x) (k:=2 * i+1) (by omega),List.cons_append,List.cons_append]
    refine z8 rfl (v8 rfl rfl (y0.fr (y0.of_acall (fs:= []) (cs:= [pZ b5,pZ b3]) (yew x sr b5 b3 (2 * i) (by omega) (by omega) hxa fv cmp hp)) ((pt1 _ _ _).trans (.cons _ ((pt1 _ _ _).trans (.cons _ ((pt1 _ _ _).trans (.cons _ ((pt1 _ _ _).trans (.cons _ (pt1 _ _ _)))))))))) rfl ?_)
    rintro _ _ ⟨_,rfl,m,rfl,rfl⟩
    refine zhg (zap (pt6 _ _ _ _ _ _ _ _)) ?_
    rotate_right
    ·refine qv rfl rfl (q6 rfl rfl) ?_
     refine z8 rfl (q7 rfl rfl (by simp only [oM,List.length_cons,List.length_nil];omega) rfl (fun s48=> ?_) (znl _))
     refine j3 s48 fun sv hsv=> ?_
     subst hsv
     refine rn ?_;exact ⟨hi,(sv,y++ [x[2 * i]'(by omega)]),by simp only;rw [List.map_append,zi,zs1 cmp (by rw [oM];omega),yhl cmp (by rw [oM];exact ho),List.getElem_map];rfl,v7 (zap (.cons _ (.cons _ (.cons _ (.cons _ (yf3 ho)))))) (by simp only;rw [zji];exact es)⟩
    ·refine qv rfl rfl (q6 rfl rfl) ?_
     refine z8 rfl (q7 rfl rfl (by simp only [oM,List.length_cons,List.length_nil];omega) rfl (fun s48=> ?_) (znl _))
     refine j3 s48 fun sv hsv=> ?_
     subst hsv
     refine rn ?_;exact ⟨hi,(sv,y++ [(m,mrg cmp (x[2 * i]'(by omega)).2 (x[2 * i+1]'(by omega)).2)]),by simp only;rw [List.map_append,zi,zs1 cmp (by rw [oM];omega),yhk cmp (by rw [oM];omega),List.getElem_map,List.getElem_map];rfl,v7 (zap ((pt5 _ _ _ _ _ _ _).trans (.cons _ ((pt5 _ _ _ _ _ _ _).trans (.cons _ (.cons _ ((pt1 _ _ _).trans (.cons _ ((pt1 _ _ _).trans (.cons _ (pt1 _ _ _))))))))))) (v7 (zdw (h1:= [_,_])) (v7 (zap (.cons _ (.cons _ (.cons _ (.cons _ yf2))))) (by simp only;rw [zji];exact es)))⟩
   ·have qi:i=(((zcr x).length+1) / 2):=by have q:=oF hc40;omega
    refine rn ?_;exact ⟨(sn,y),⟨by simp only;rw [zi,zme cmp (by rw [oM];omega),←zqg cmp (by rw [oM];exact h1)];exact zk,by simp only;rw [zi,zme cmp (by rw [oM];omega),(zi9 cmp _).length_eq];exact hfl,by simp only;have q:=congrArg List.length zi;rw [oM,zme cmp (by rw [oM];omega),zc6,oM] at q;omega⟩,v7 (zap (pt1 _ _ _)) (v7 (zdw (h1:= [_])) (by rw [yf4 (by omega)];exact es)),by simp only;have q:=congrArg List.length zi;rw [oM,zme cmp (by rw [oM];omega),zc6,oM] at q;omega⟩
  ·have h1:¬1 < x.length:=by have q:=oF hc34;rw [zgo] at q;omega
   refine rn ?_;refine z7 rfl (fun hc53=> ?_) (fun hc53=> ?_)
   ·have h0:x.length=0:=by have q:=oT (show decide (((zcr x).length:Int)=0)=true from hc53);rw [zgo] at q;omega
    obtain rfl:=List.length_eq_zero_iff.1 h0
    refine rn ?_;exact k8 rfl (.trans (.drop [_,_,_] _ _) (zal 7 41 _)) ⟨⟨none,0,0⟩,by rw [ygc cmp zk rfl];rfl,rfl⟩
   ·have h0:¬x.length=0:=by intro q;have e:(((zcr x).length:Int)==0)=false:=hc53;rw [zgo,q] at e;cases e
    obtain ⟨p,rfl⟩:=List.length_eq_one_iff.1 (show x.length=1 by omega)
    refine zan ?_;refine zab ?_;refine w8 (y3 ?_)
    refine q1 ?_;refine qq rfl rfl (zbr (k:=0) rfl rfl (show 0 < (zcr [p]).length from Nat.zero_lt_one)) ?_
    refine qq rfl rfl (zc5 rfl rfl rfl) ?_
    refine rn ?_;exact k8 rfl (.drop [_,_,_] _ _) ⟨p.1,by rw [ygb cmp zk];rfl,rfl⟩
theorem yur {l:List Conf} {c:Conf} {k:Nat} (hk:k < l.length) (hlt:zd8 l[k] c < 0) (z:ziy zd8 l c=l.take k++ziy zd8 (l.drop k) c):ziy zd8 l c=l.take (k+1)++ziy zd8 (l.drop (k+1)) c:=by
 rw [z,List.drop_eq_getElem_cons hk,ziy,if_pos hlt,List.take_succ_eq_append_getElem hk,List.append_assoc];rfl
theorem yj3 {l:List Conf} {c:Conf} {k:Nat} (hk:k < l.length) (hn:¬zd8 l[k] c < 0) (he:l[k]=c) (z:ziy zd8 l c=l.take k++ziy zd8 (l.drop k) c):ziy zd8 l c=l:=by
 rw [z,List.drop_eq_getElem_cons hk,ziy,if_neg hn,if_pos he,←List.drop_eq_getElem_cons hk,List.take_append_drop]
theorem zqp {l:List Conf} {c:Conf} {k:Nat} (hn:∀hk:k < l.length,¬zd8 l[k] c < 0) (he:∀hk:k < l.length,l[k]≠c) (z:ziy zd8 l c=l.take k++ziy zd8 (l.drop k) c):ziy zd8 l c=l.take k++ [c]++l.drop k:=by
 by_cases h:k < l.length
 ·rw [z,List.drop_eq_getElem_cons h,ziy,if_neg (hn h),if_neg (he h),List.append_assoc];rfl
 ·rw [z,List.drop_eq_nil_of_le (by omega)];simp [ziy]
theorem yhh (l:List Conf) (c:Conf):(ziy zd8 l c).length≤l.length+1:=by
 induction l with
 |nil=>simp [ziy]
 |cons x r ih=>
  rw [ziy]
  split
  ·simp only [List.length_cons];omega
  ·split <;> simp
theorem yqq (l:List Conf) (sv:SV) (c:Conf) (hl:l.length≤1000000000):y8 Tryz.prog 81 [.v sv.v,.agg (u0 c)] (.row sv.v 7 41 (l.map u0):: []) (fun r h'=>∃s:SV,h'= [.row s.v 7 41 ((ziy zd8 l c).map u0)]∧r= .v s.v):=by
 refine z6 Tryz.func81 rfl rfl rfl ?_
 refine rn ?_;refine z8 rfl (w9 rfl rfl rfl fun b3=> ?_)
 refine rn ?_;refine zhf (fun k:Nat=>k≤l.length∧ziy zd8 l c=l.take k++ziy zd8 (l.drop k) c) (fun k=>⟨[(5,iv k),(0,.v sv.v),(3,pZ b3)],.box b3 41 (u0 c):: .row sv.v 7 41 (l.map u0):: [],[]⟩) (fun k=>l.length - k) 0 ⟨Nat.zero_le _,rfl⟩ es ?_
 rintro k ⟨hk0,zk⟩
 refine rn ?_;refine k9 10 rfl ?_
 refine rn ?_;refine zde (fun hg2_4=> ?_) (fun hg2_4=> ?_)
 ·first|(have hk:k < l.length:=by have q:=hg2_4;simp at q;omega);have rk:(l.map u0)[k]? =some (u0 l[k]):=zaj hk|skip
  refine dq rfl rfl qrA ?_;refine dq rfl rfl qrA ?_;refine dq rfl rfl (zbr (k:=k) rfl rfl (by rw [oM];exact hk)) ?_
  refine dq rfl rfl (ze3 (row:=u0 l[k]) rfl rk rfl) ?_
  refine rn ?_;refine qv rfl rfl (y1 rfl rfl (y0.pure (R:=fun r=>r=iv (zd8 l[k] c)) (y0.of_fun (zsp l[k] c)))) ?_
  refine rn ?_;refine z7 rfl (fun hc18=> ?_) (fun hc18=> ?_)
  ·have hlt:zd8 l[k] c < 0:=oT hc18
   refine rn ?_;exact ⟨k+1,⟨hk,yur hk hlt zk⟩,eA,by omega⟩
  ·have hx:∀hk:k < l.length,¬zd8 l[k] c < 0:=by first|(have q:=hg2_4;simp at q;exact fun hk=>by omega)|(intro hk;have q:=oF hc18;exact q)
   refine rn ?_;refine k9 10 rfl ?_
   refine rn ?_;refine zde (fun hg4_4=> ?_) (fun hg4_4=> ?_)
   ·first|(have hk:k < l.length:=by have q:=hg4_4;simp at q;omega);have rk:(l.map u0)[k]? =some (u0 l[k]):=zaj hk|skip
    refine dq rfl rfl qrA ?_;refine dq rfl rfl qrA ?_;refine dq rfl rfl (zbr (k:=k) rfl rfl (by rw [oM];exact hk)) ?_
    refine dq rfl rfl (ze3 (row:=u0 l[k]) rfl rk rfl) ?_
    refine rn ?_;refine z7 rfl (fun hc32=> ?_) (fun hc32=> ?_)
    ·have he:l[k]=c:=oT (by rw [←zc4];exact hc32)
     refine rn ?_;exact k8 rfl (.drop [_] _ _) ⟨sv,by rw [yj3 hk (hx hk) he zk],rfl⟩
    ·have hy:∀hk:k < l.length,l[k]≠c:=by first|(have q:=hg4_4;simp at q;exact fun hk=>by omega)|(intro hk;have q:zek l[k] c=false:=hc32;rw [zc4] at q;exact oF q)
     refine zan ?_;refine rn0 ?_;refine w8 ?_;refine zfb (s':=⟨[(0,.list false 7 (l.map u0)),(3,pZ b3),(5,iv k)],[.box b3 41 (u0 c)],[]⟩) (v7 (zap (zbb [_] [_])) (zik (by repeat (first|exact .nil|refine .row _ _ rfl ?_|refine .cons _ _ _ rfl ?_)))) ?_
     refine ze5 11 [0,4,7] [] (fun he=>he= [.box b3 41 (u0 c)]∨∃s' rows,he= [.row s' 7 41 rows,.box b3 41 (u0 c)]) rfl rfl (.inl rfl) ?_
     refine je rfl ?_;refine jq rfl (fun he hC=>by rcases hC with rfl|⟨s2,rows,rfl⟩ <;> exact qrA) ?_
     refine jq rfl (fun he hC=>by rcases hC with rfl|⟨s2,rows,rfl⟩ <;> exact qrA) ?_
     refine jq rfl (fun he hC=>by rcases hC with rfl|⟨s2,rows,rfl⟩ <;> exact (by exact zbc (k:=k) rfl rfl (by rw [oM];omega))) ?_
     refine je rfl ?_;refine jq rfl (fun he hC=>by rcases hC with rfl|⟨s2,rows,rfl⟩ <;> exact qrA) ?_
     refine jv rfl (fun he hC=>by rcases hC with rfl|⟨s2,rows,rfl⟩ <;> exact (by exact q6 rfl rfl)) ?_
     refine je rfl ?_;refine jq rfl (fun he hC=>by rcases hC with rfl|⟨s2,rows,rfl⟩ <;> exact qrA) ?_
     refine jq rfl (fun he hC=>by rcases hC with rfl|⟨s2,rows,rfl⟩ <;> exact qrA) ?_
     refine jq rfl (fun he hC=>by rcases hC with rfl|⟨s2,rows,rfl⟩ <;> exact (by exact zd5 (l:=k) rfl rfl (by rw [oM];omega))) ?_
     refine zzs ?_;refine jce rfl fun u=> ?_
     refine zbz rfl rfl rfl fun s34=>⟨_,_,rfl,.inr ⟨_,_,rfl⟩,?_⟩
     refine jce rfl fun u=> ?_
     refine q7 rfl rfl (by simp;omega) rfl (fun s38=>⟨_,_,rfl,.inr ⟨_,_,rfl⟩,?_⟩) (by rw [←List.map_take];exact za8 _)
     refine jce rfl fun u=> ?_
     refine q7 rfl rfl (by simp;omega) rfl (fun s41=>⟨_,_,rfl,.inr ⟨_,_,rfl⟩,?_⟩) (za8 [c])
     refine jcn ?_;refine ln ?_;refine z8 rfl (q7 rfl rfl (by simp;omega) rfl (fun s45=> ?_) (by rw [←List.map_drop];exact za8 _))
     refine j3 s45 fun sw hsw=> ?_
     subst hsw
     refine rn ?_;exact k8 rfl (.trans (.perm (zbb [_] [_]) _) (.drop [_] _ _)) ⟨sw,by rw [zqp hx hy zk,List.map_append,List.map_append,List.map_take,List.map_drop];rfl,rfl⟩
   ·first|(have hk:k < l.length:=by have q:=hg4_4;simp at q;omega);have rk:(l.map u0)[k]? =some (u0 l[k]):=zaj hk|skip
    refine rn ?_;refine zff rfl ?_;have hy:∀hk:k < l.length,l[k]≠c:=by first|(have q:=hg4_4;simp at q;exact fun hk=>by omega)|(intro hk;have q:zek l[k] c=false:=hc32;rw [zc4] at q;exact oF q)
    refine zan ?_;refine rn0 ?_;refine w8 ?_;refine zfb (s':=⟨[(0,.list false 7 (l.map u0)),(3,pZ b3),(5,iv k)],[.box b3 41 (u0 c)],[]⟩) (v7 (zap (zbb [_] [_])) (zik (by repeat (first|exact .nil|refine .row _ _ rfl ?_|refine .cons _ _ _ rfl ?_)))) ?_
    refine ze5 11 [0,4,7] [] (fun he=>he= [.box b3 41 (u0 c)]∨∃s' rows,he= [.row s' 7 41 rows,.box b3 41 (u0 c)]) rfl rfl (.inl rfl) ?_
    refine je rfl ?_;refine jq rfl (fun he hC=>by rcases hC with rfl|⟨s2,rows,rfl⟩ <;> exact qrA) ?_
    refine jq rfl (fun he hC=>by rcases hC with rfl|⟨s2,rows,rfl⟩ <;> exact qrA) ?_
    refine jq rfl (fun he hC=>by rcases hC with rfl|⟨s2,rows,rfl⟩ <;> exact (by exact zbc (k:=k) rfl rfl (by rw [oM];omega))) ?_
    refine je rfl ?_;refine jq rfl (fun he hC=>by rcases hC with rfl|⟨s2,rows,rfl⟩ <;> exact qrA) ?_
    refine jv rfl (fun he hC=>by rcases hC with rfl|⟨s2,rows,rfl⟩ <;> exact (by exact q6 rfl rfl)) ?_
    refine je rfl ?_;refine jq rfl (fun he hC=>by rcases hC with rfl|⟨s2,rows,rfl⟩ <;> exact qrA) ?_
    refine jq rfl (fun he hC=>by rcases hC with rfl|⟨s2,rows,rfl⟩ <;> exact qrA) ?_
    refine jq rfl (fun he hC=>by rcases hC with rfl|⟨s2,rows,rfl⟩ <;> exact (by exact zd5 (l:=k) rfl rfl (by rw [oM];omega))) ?_
    refine zzs ?_;refine jce rfl fun u=> ?_
    refine zbz rfl rfl rfl fun s34=>⟨_,_,rfl,.inr ⟨_,_,rfl⟩,?_⟩
    refine jce rfl fun u=> ?_
    refine q7 rfl rfl (by simp;omega) rfl (fun s38=>⟨_,_,rfl,.inr ⟨_,_,rfl⟩,?_⟩) (by rw [←List.map_take];exact za8 _)
    refine jce rfl fun u=> ?_
    refine q7 rfl rfl (by simp;omega) rfl (fun s41=>⟨_,_,rfl,.inr ⟨_,_,rfl⟩,?_⟩) (za8 [c])
    refine jcn ?_;refine ln ?_;refine z8 rfl (q7 rfl rfl (by simp;omega) rfl (fun s45=> ?_) (by rw [←List.map_drop];exact za8 _))
    refine j3 s45 fun sw hsw=> ?_
    subst hsw
    refine rn ?_;exact k8 rfl (.trans (.perm (zbb [_] [_]) _) (.drop [_] _ _)) ⟨sw,by rw [zqp hx hy zk,List.map_append,List.map_append,List.map_take,List.map_drop];rfl,rfl⟩
 ·first|(have hk:k < l.length:=by have q:=hg2_4;simp at q;omega);have rk:(l.map u0)[k]? =some (u0 l[k]):=zaj hk|skip
  refine rn ?_;refine zff rfl ?_;have hx:∀hk:k < l.length,¬zd8 l[k] c < 0:=by first|(have q:=hg2_4;simp at q;exact fun hk=>by omega)|(intro hk;have q:=oF hc18;exact q)
  refine rn ?_;refine k9 10 rfl ?_
  refine rn ?_;refine zde (fun hg4_4=> ?_) (fun hg4_4=> ?_)
  ·first|(have hk:k < l.length:=by have q:=hg4_4;simp at q;omega);have rk:(l.map u0)[k]? =some (u0 l[k]):=zaj hk|skip
   refine dq rfl rfl qrA ?_;refine dq rfl rfl qrA ?_;refine dq rfl rfl (zbr (k:=k) rfl rfl (by rw [oM];exact hk)) ?_
   refine dq rfl rfl (ze3 (row:=u0 l[k]) rfl rk rfl) ?_
   refine rn ?_;refine z7 rfl (fun hc32=> ?_) (fun hc32=> ?_)
   ·have he:l[k]=c:=oT (by rw [←zc4];exact hc32)
    refine rn ?_;exact k8 rfl (.drop [_] _ _) ⟨sv,by rw [yj3 hk (hx hk) he zk],rfl⟩
   ·have hy:∀hk:k < l.length,l[k]≠c:=by first|(have q:=hg4_4;simp at q;exact fun hk=>by omega)|(intro hk;have q:zek l[k] c=false:=hc32;rw [zc4] at q;exact oF q)
    refine zan ?_;refine rn0 ?_;refine w8 ?_;refine zfb (s':=⟨[(0,.list false 7 (l.map u0)),(3,pZ b3),(5,iv k)],[.box b3 41 (u0 c)],[]⟩) (v7 (zap (zbb [_] [_])) (zik (by repeat (first|exact .nil|refine .row _ _ rfl ?_|refine .cons _ _ _ rfl ?_)))) ?_
    refine ze5 11 [0,4,7] [] (fun he=>he= [.box b3 41 (u0 c)]∨∃s' rows,he= [.row s' 7 41 rows,.box b3 41 (u0 c)]) rfl rfl (.inl rfl) ?_
    refine je rfl ?_;refine jq rfl (fun he hC=>by rcases hC with rfl|⟨s2,rows,rfl⟩ <;> exact qrA) ?_
    refine jq rfl (fun he hC=>by rcases hC with rfl|⟨s2,rows,rfl⟩ <;> exact qrA) ?_
    refine jq rfl (fun he hC=>by rcases hC with rfl|⟨s2,rows,rfl⟩ <;> exact (by exact zbc (k:=k) rfl rfl (by rw [oM];omega))) ?_
    refine je rfl ?_;refine jq rfl (fun he hC=>by rcases hC with rfl|⟨s2,rows,rfl⟩ <;> exact qrA) ?_
    refine jv rfl (fun he hC=>by rcases hC with rfl|⟨s2,rows,rfl⟩ <;> exact (by exact q6 rfl rfl)) ?_
    refine je rfl ?_;refine jq rfl (fun he hC=>by rcases hC with rfl|⟨s2,rows,rfl⟩ <;> exact qrA) ?_
    refine jq rfl (fun he hC=>by rcases hC with rfl|⟨s2,rows,rfl⟩ <;> exact qrA) ?_
    refine jq rfl (fun he hC=>by rcases hC with rfl|⟨s2,rows,rfl⟩ <;> exact (by exact zd5 (l:=k) rfl rfl (by rw [oM];omega))) ?_
    refine zzs ?_;refine jce rfl fun u=> ?_
    refine zbz rfl rfl rfl fun s34=>⟨_,_,rfl,.inr ⟨_,_,rfl⟩,?_⟩
    refine jce rfl fun u=> ?_
    refine q7 rfl rfl (by simp;omega) rfl (fun s38=>⟨_,_,rfl,.inr ⟨_,_,rfl⟩,?_⟩) (by rw [←List.map_take];exact za8 _)
    refine jce rfl fun u=> ?_
    refine q7 rfl rfl (by simp;omega) rfl (fun s41=>⟨_,_,rfl,.inr ⟨_,_,rfl⟩,?_⟩) (za8 [c])
    refine jcn ?_;refine ln ?_;refine z8 rfl (q7 rfl rfl (by simp;omega) rfl (fun s45=> ?_) (by rw [←List.map_drop];exact za8 _))
    refine j3 s45 fun sw hsw=> ?_
    subst hsw
    refine rn ?_;exact k8 rfl (.trans (.perm (zbb [_] [_]) _) (.drop [_] _ _)) ⟨sw,by rw [zqp hx hy zk,List.map_append,List.map_append,List.map_take,List.map_drop];rfl,rfl⟩
  ·first|(have hk:k < l.length:=by have q:=hg4_4;simp at q;omega);have rk:(l.map u0)[k]? =some (u0 l[k]):=zaj hk|skip
   refine rn ?_;refine zff rfl ?_;have hy:∀hk:k < l.length,l[k]≠c:=by first|(have q:=hg4_4;simp at q;exact fun hk=>by omega)|(intro hk;have q:zek l[k] c=false:=hc32;rw [zc4] at q;exact oF q)
   refine zan ?_;refine rn0 ?_;refine w8 ?_;refine zfb (s':=⟨[(0,.list false 7 (l.map u0)),(3,pZ b3),(5,iv k)],[.box b3 41 (u0 c)],[]⟩) (v7 (zap (zbb [_] [_])) (zik (by repeat (first|exact .nil|refine .row _ _ rfl ?_|refine .cons _ _ _ rfl ?_)))) ?_
   refine ze5 11 [0,4,7] [] (fun he=>he= [.box b3 41 (u0 c)]∨∃s' rows,he= [.row s' 7 41 rows,.box b3 41 (u0 c)]) rfl rfl (.inl rfl) ?_
   refine je rfl ?_;refine jq rfl (fun he hC=>by rcases hC with rfl|⟨s2,rows,rfl⟩ <;> exact qrA) ?_
   refine jq rfl (fun he hC=>by rcases hC with rfl|⟨s2,rows,rfl⟩ <;> exact qrA) ?_
   refine jq rfl (fun he hC=>by rcases hC with rfl|⟨s2,rows,rfl⟩ <;> exact (by exact zbc (k:=k) rfl rfl (by rw [oM];omega))) ?_
   refine je rfl ?_;refine jq rfl (fun he hC=>by rcases hC with rfl|⟨s2,rows,rfl⟩ <;> exact qrA) ?_
   refine jv rfl (fun he hC=>by rcases hC with rfl|⟨s2,rows,rfl⟩ <;> exact (by exact q6 rfl rfl)) ?_
   refine je rfl ?_;refine jq rfl (fun he hC=>by rcases hC with rfl|⟨s2,rows,rfl⟩ <;> exact qrA) ?_
   refine jq rfl (fun he hC=>by rcases hC with rfl|⟨s2,rows,rfl⟩ <;> exact qrA) ?_
   refine jq rfl (fun he hC=>by rcases hC with rfl|⟨s2,rows,rfl⟩ <;> exact (by exact zd5 (l:=k) rfl rfl (by rw [oM];omega))) ?_
   refine zzs ?_;refine jce rfl fun u=> ?_
   refine zbz rfl rfl rfl fun s34=>⟨_,_,rfl,.inr ⟨_,_,rfl⟩,?_⟩
   refine jce rfl fun u=> ?_
   refine q7 rfl rfl (by simp;omega) rfl (fun s38=>⟨_,_,rfl,.inr ⟨_,_,rfl⟩,?_⟩) (by rw [←List.map_take];exact za8 _)
   refine jce rfl fun u=> ?_
   refine q7 rfl rfl (by simp;omega) rfl (fun s41=>⟨_,_,rfl,.inr ⟨_,_,rfl⟩,?_⟩) (za8 [c])
   refine jcn ?_;refine ln ?_;refine z8 rfl (q7 rfl rfl (by simp;omega) rfl (fun s45=> ?_) (by rw [←List.map_drop];exact za8 _))
   refine j3 s45 fun sw hsw=> ?_
   subst hsw
   refine rn ?_;exact k8 rfl (.trans (.perm (zbb [_] [_]) _) (.drop [_] _ _)) ⟨sw,by rw [zqp hx hy zk,List.map_append,List.map_append,List.map_take,List.map_drop];rfl,rfl⟩
abbrev zkb (ll:List (List Conf)):List (List AV):=ll.map fun l=> [.list false 7 (l.map u0)]
theorem zra {α:Type} (ll:List (List α)) (k:Nat):(ll.take k).flatten.length≤ll.flatten.length:=by
 conv=>rhs;rw [←List.take_append_drop k ll,List.flatten_append,List.length_append]
 omega
theorem yv7 {α:Type} {ll:List (List α)} {k:Nat} (hk:k < ll.length):(ll.take (k+1)).flatten=(ll.take k).flatten++ll[k]:=by
 rw [List.take_succ_eq_append_getElem hk,List.flatten_append];simp
theorem ysy {α:Type} {ll:List (List α)} {k:Nat} (hk:k < ll.length):(ll.take k).flatten.length+ll[k].length=(ll.take (k+1)).flatten.length:=by rw [yv7 hk,List.length_append]
theorem yn4 (h:Hist) (la:Lim 4611686018427387904 h):y8 Tryz.prog 38 [.agg (w6 h)] [.glob 2 156 y5,.glob 4 305 y7,.glob 5 308 y2,.glob 3 246 u5] (fun r h'=>h'= [.glob 2 156 y5,.glob 4 305 y7,.glob 5 308 y2,.glob 3 246 u5]∧r=iv (u9 h)):=by
 refine z6 Tryz.func38 rfl rfl rfl ?_
 refine rn ?_;refine z8 rfl (w9 rfl rfl rfl fun b1=> ?_)
 refine rn ?_;refine qv rfl rfl (y1 rfl rfl (y0.qt (y0.of_fun (yte h la)) ((pt1 _ _ _).trans (.cons _ ((pt1 _ _ _).trans (.cons _ (pt1 _ _ _))))))) ?_
 refine rn ?_;refine z7 rfl (fun hc7=> ?_) (fun hc7=> ?_)
 ·have hm:¬zf4 h=true:=by intro q;rw [zel,if_pos q] at hc7;cases hc7
  have he:zel h=210:=by rw [zel,if_neg hm]
  refine rn ?_;refine rq 1 ?_
  exact ⟨rfl,by rw [u9,if_neg hm,he];rfl⟩
 ·have hm:zf4 h=true:=yeq.1 (by simpa using hc7)
  refine rn ?_;refine qv rfl rfl (y1 rfl rfl (y0.qt (y0.of_fun (yqv h la)) ((pt1 _ _ _).trans (.cons _ ((pt1 _ _ _).trans (.cons _ ((pt1 _ _ _).trans (.cons _ (pt1 _ _ _))))))))) ?_
  refine rn ?_;refine z7 rfl (fun hc11=> ?_) (fun hc11=> ?_)
  ·refine rn ?_;refine rq 1 ?_
   exact ⟨rfl,by rw [u9,if_pos hm];simp_all;rfl⟩
  ·refine rn ?_;refine rq 1 ?_
   exact ⟨rfl,by rw [u9,if_pos hm];simp_all;rfl⟩
theorem zxn (h:Hist) (kd:Int) (W:List Res):y8 Tryz.prog 218 [.agg (w6 h),iv kd] W (fun r h'=>∃b1 b2,h'= .box b1 28 (w6 h):: .box b2 3 [iv kd]::W∧r= .fn (.func 264) [] [pZ b1,pZ b2]):=by
 refine z6 Tryz.func218 rfl rfl rfl ?_
 refine rn ?_;refine z8 rfl (w9 rfl rfl rfl fun b2=> ?_)
 refine z8 rfl (w9 rfl rfl rfl fun b3=> ?_)
 refine rn ?_;exact k8 rfl (.perm (pt1 _ _ _) _) ⟨_,_,rfl,rfl⟩
theorem ztd {σ:Type} (h:Hist) (la:h.evs.length≤1000000) (kd:Int) (y:AV) (b1 b2:Nat) (p q:Nat→σ→Prop) (I F:Nat→σ→List Res) (x0:σ) (hp0:p 0 x0) (hy:∀k x,(hk:k < h.evs.length)→p k x→(h.evs[k].kind==kd)=true→y0 Tryz.prog y [iv k,.agg (evR h.evs[k])] (.box b1 28 (w6 h):: .box b2 3 [iv kd]::I k x) (fun r h'=>∃x',(r=bv true∧p (k+1) x'∧h'= .box b1 28 (w6 h):: .box b2 3 [iv kd]::I (k+1) x')∨(r=bv false∧q k x'∧h'= .box b1 28 (w6 h):: .box b2 3 [iv kd]::F k x'))) (hs:∀k x,(hk:k < h.evs.length)→p k x→(h.evs[k].kind==kd)=false→∃x',p (k+1) x'∧I (k+1) x'=I k x):y8 Tryz.prog 264 [y,pZ b1,pZ b2] (.box b1 28 (w6 h):: .box b2 3 [iv kd]::I 0 x0) (fun r h'=>(∃x,p h.evs.length x∧h'=I h.evs.length x)∨∃k x,q k x∧h'=F k x):=by
 refine z6 Tryz.func264 rfl rfl rfl ?_
 refine rn ?_;refine zia h.evs.length p (fun k x=>⟨[(9,iv k),(0,y),(2,pZ b2),(7,zre h.evs),(8,iv (h.evs.map evR).length)],.box b1 28 (w6 h):: .box b2 3 [iv kd]::I k x,[]⟩) x0 hp0 es ?_
 intro k x lk zk
 refine rn ?_;refine z7 rfl (fun hc10=> ?_) (fun hc10=> ?_)
 ·have hk:=za4 hc10
  have rk:=zaj (f:=evR) hk
  refine rn ?_;refine z8 rfl (y4 rfl fun b5=> ?_)
  refine rn ?_;refine w7 (fun hg3_4=> ?_) (fun hg3_4=> ?_)
  ·refine q1 ?_;refine q1 ?_;refine q1 ?_;refine z8 rfl (v8 rfl rfl (y0.fr1 (hy k x hk zk (by simpa using hg3_4))) rfl ?_)
   rintro _ _ ⟨_,rfl,x',⟨rfl,hp,rfl⟩|⟨rfl,hq,rfl⟩⟩
   ·refine rn ?_;refine z7 rfl (fun hc24=> ?_) (fun hc24=> ?_)
    ·first|cases hc24|exact absurd hc24 (by decide)|(exfalso;simp_all;done)
    ·refine rn ?_;exact ⟨hk,x',hp,eA⟩
   ·refine rn ?_;refine z7 rfl (fun hc24=> ?_) (fun hc24=> ?_)
    ·refine rn ?_;exact ze6 .nil (.drop [_,_,_] _ _) (.inr ⟨k,x',hq,rfl⟩)
    ·first|cases hc24|exact absurd hc24 (by decide)|(exfalso;simp_all;done)
  ·refine rn ?_;refine zff rfl ?_;refine rn ?_;obtain ⟨x',hp,e⟩:=hs k x hk zk (by simpa using hg3_4)
   exact ⟨hk,x',hp,by rw [e];exact eA⟩
 ·have qk:=za5 hc10 lk
  subst qk
  refine rn ?_;exact zf3 .nil (.drop [_,_] _ _) (.inl ⟨x,zk,rfl⟩)
def zq8 {α:Type} (kd:Int) (x:Nat→Ev→α) (p:Nat→Ev→Bool) (k:Nat) (e:Ev):Option α:=if (e.kind==kd && p k e)=true then some (x k e) else none
theorem ysn {α:Type} {kd:Int} {x:Nat→Ev→α} {p:Nat→Ev→Bool} {k:Nat} {e:Ev} (h:(e.kind==kd)=false):zq8 kd x p k e=none:=by rw [zq8,h];simp
theorem ysm {α:Type} {kd:Int} {x:Nat→Ev→α} {p:Nat→Ev→Bool} {k:Nat} {e:Ev} (h:p k e=false):zq8 kd x p k e=none:=by rw [zq8,h];simp
theorem ysl {α:Type} {kd:Int} {x:Nat→Ev→α} {p:Nat→Ev→Bool} {k:Nat} {e:Ev} (h1:(e.kind==kd)=true) (h:p k e=true):zq8 kd x p k e=some (x k e):=by rw [zq8,h1,h];simp
theorem ykq {α:Type} {f:Nat→Ev→Option α} {l:List Ev} {k:Nat} (h:k < l.length) (hf:f k l[k]=none):zmq f l (k+1)=zmq f l k:=by rw [ydo h,hf];simp
theorem ysk {α:Type} {f:Nat→Ev→Option α} {l:List Ev} {k:Nat} {a:α} (h:k < l.length) (hf:f k l[k]=some a):zmq f l (k+1)=zmq f l k++ [a]:=by rw [ydo h,hf];rfl
theorem ykk (h:Hist) (la:h.evs.length≤1000000) (kd:Int) (fv:AV) (hone:fv.cellsOf=some [fv]) (W:List Res) (x:Nat→Ev→Int) (p:Nat→Ev→Bool) (hp:∀k,(hk:k < h.evs.length)→(h.evs[k].kind==kd)=true→y0 Tryz.prog fv [iv k,.agg (evR h.evs[k])] W (fun r h'=>h'=W∧r= .tup [iv (x k h.evs[k]),bv (p k h.evs[k])])):y8 Tryz.prog 173 [.agg (w6 h),iv kd,fv] W (fun r h'=>∃s:SV,h'= .row s.v 1 3 ((zmq (zq8 kd x p) h.evs h.evs.length).map zar)::W∧r= .v s.v):=by
 refine z6 Tryz.func173 rfl rfl rfl ?_
 refine rn ?_;refine z8 rfl (w9 rfl rfl rfl fun b3=> ?_)
 refine z8 rfl (w9 rfl hone rfl fun b5=> ?_)
 refine rn ?_;refine z8 rfl (y4 rfl fun b7=> ?_)
 refine rn ?_;refine z8 rfl (v8 rfl rfl (y0.of_fun (zxn h kd _)) rfl ?_)
 rintro _ _ ⟨b1,b2,rfl,rfl⟩
 refine rn ?_;refine zfb (s':=⟨[(14,.fn (.func 264) [] [pZ b1,pZ b2]),(5,pZ b5),(7,pZ b7)],.box b1 28 (w6 h):: .box b2 3 [iv kd]:: .box b7 29 [.v (⟨none,0,0⟩:SV).v]:: .row (⟨none,0,0⟩:SV).v 1 3 ((zmq (zq8 kd x p) h.evs 0).map zar):: .box b5 216 [fv]:: .box b3 28 (w6 h)::W,[]⟩) (v7 (v7 (zam 1 3) (zap ((pt1 _ _ _).trans (.cons _ ((pt1 _ _ _).trans (.cons _ (pt1 _ _ _))))))) es) ?_
 refine zoy (fun pend h''=>pend=none∧∃s:SV,h''= .box b7 29 [.v s.v]:: .row s.v 1 3 ((zmq (zq8 kd x p) h.evs h.evs.length).map zar):: .box b5 216 [fv]:: .box b3 28 (w6 h)::W) rfl (fun fn l q lp hlp=> ?_) (fun q h'' hK=> ?_) (fun q h'' c hK=> ?_)
 ·suffices hy:∀k (s:SV),(hk:k < h.evs.length)→True→(h.evs[k].kind==kd)=true→y0 Tryz.prog (yv l) [iv k,.agg (evR h.evs[k])] (.box b1 28 (w6 h):: .box b2 3 [iv kd]::lp .ready none:: .defs q:: .box b7 29 [.v s.v]:: .row s.v 1 3 ((zmq (zq8 kd x p) h.evs k).map zar):: .box b5 216 [fv]:: .box b3 28 (w6 h)::W) (fun r h'=>∃s':SV,(r=bv true∧True∧h'= .box b1 28 (w6 h):: .box b2 3 [iv kd]::lp .ready none:: .defs q:: .box b7 29 [.v s'.v]:: .row s'.v 1 3 ((zmq (zq8 kd x p) h.evs (k+1)).map zar):: .box b5 216 [fv]:: .box b3 28 (w6 h)::W)∨(r=bv false∧False∧h'= .box b1 28 (w6 h):: .box b2 3 [iv kd]:: [])) by
   refine y8.mono (y8.perm ((pt2 _ _ _ _).trans (.cons _ (pt2 _ _ _ _))) (ztd h la kd (yv l) b1 b2 (fun _ _=>True) (fun _ _=>False) (fun k (s:SV)=>lp .ready none:: .defs q:: .box b7 29 [.v s.v]:: .row s.v 1 3 ((zmq (zq8 kd x p) h.evs k).map zar):: .box b5 216 [fv]:: .box b3 28 (w6 h)::W) (fun _ _=> []) ⟨none,0,0⟩ trivial hy (fun k s hk _ hn=>⟨s,trivial,by rw [ykq hk (ysn hn)]⟩))) ?_
   rintro _ _ (⟨s,_,rfl⟩|⟨_,_,hF,_⟩)
   ·exact ⟨none,.ready,_,.refl _,by simp,rfl,s,rfl⟩
   ·exact hF.elim
  intro k s hk _ hkd
  refine y0.perm (pt2 _ _ _ _) (y0.ventE ?_)
  refine ze9 hlp rfl rfl ?_
  refine rn ?_;refine z8 rfl (y4 rfl fun b9=> ?_)
  refine rn ?_;refine ⟨[(8,iv k),(9,pZ b9),(5,pZ b5),(7,pZ b7)],.box b9 60 (evR h.evs[k]):: .box b1 28 (w6 h):: .box b2 3 [iv kd]:: .defs q:: .box b7 29 [.v s.v]:: .row s.v 1 3 ((zmq (zq8 kd x p) h.evs k).map zar):: .box b5 216 [fv]:: .box b3 28 (w6 h)::W,v7 (zap (pt1 _ _ _)) es,?_⟩
  refine rn ?_;refine qv rfl rfl (y1 rfl rfl (y0.qt (h2:= [_,_,_,_,_,_,_,_,_]) (hp k hk hkd) (zbb [_,_,_,_,_,_,_,_,_] _))) ?_
  refine rn ?_;refine z7 rfl (fun hc24=> ?_) (fun hc24=> ?_)
  ·refine y3 ?_;refine q1 ?_;refine q1 ?_;refine q1 ?_;refine q1 ?_;refine q1 ?_;refine qq rfl rfl (zzh rfl (by rfl) (by rfl)) ?_
   refine rn ?_;refine qv rfl rfl (q6 rfl rfl) ?_
   refine yjk s.v ?_
   refine z8 rfl (q7 rfl rfl (by simp only [oM,List.length_cons,List.length_nil];have:=zmp (zq8 kd x p) h.evs k;omega) rfl (fun s33=> ?_) (zh1 [x k h.evs[k]]))
   refine j3 s33 fun sv hsv=> ?_
   subst hsv
   refine rn ?_;exact zeu (.refl _) ⟨_,_,.trans (.perm ((pt1 _ _ _).trans (.cons _ ((pt1 _ _ _).trans (.cons _ (pt1 _ _ _))))) _) (.drop [_] _ _),sv,.inl ⟨rfl,trivial,by rw [ysk hk (ysl hkd hc24),List.map_append];rfl⟩⟩
  ·refine rn ?_;exact zeu (.refl _) ⟨_,_,.trans (.perm ((pt1 _ _ _).trans (.cons _ ((pt1 _ _ _).trans (.cons _ (pt1 _ _ _))))) _) (.drop [_] _ _),s,.inl ⟨rfl,trivial,by rw [ykq hk (ysm hc24)]⟩⟩
 ·obtain ⟨_,s,rfl⟩:=hK
  refine rn ?_;exact zi7 (.refl _) (.cons _ _ _ _ (.tmp _ _ rfl) .nil) (.trans (.drop1 _ _ _) (.trans (.perm (pt1 _ _ _) _) (.trans (.drop [_] _ _) (.trans (.perm (pt1 _ _ _) _) (.drop [_] _ _))))) ⟨s,rfl,rfl⟩
 ·obtain ⟨hc,_⟩:=hK
  exact absurd hc (by simp)
theorem ynz (k:Int) (e:Ev):y8 Tryz.prog 174 [iv k,.agg (evR e)] [] (fun r h'=>h'= []∧r= .tup [iv e.t,bv true]):=by
 refine z6 Tryz.func174 rfl rfl rfl ?_
 refine rn ?_;refine z8 rfl (w9 rfl rfl rfl fun b3=> ?_)
 refine rn ?_;refine rq 1 ?_
 exact ⟨rfl,rfl⟩
theorem yny (k s:Int) (e:Ev) (b2 b3 rm:Nat) (M:List (Int×Bool)):y8 Tryz.prog 209 [iv k,.agg (evR e),pZ b2,pZ b3] [.box b2 3 [iv s],.box b3 115 [mpv rm],.map rm (zas intK (zbv bv M))] (fun r h'=>h'= [.box b2 3 [iv s],.box b3 115 [mpv rm],.map rm (zas intK (zbv bv M))]∧r= .tup [iv e.t,bv (e.o==s && (zbs e.t M).getD false)]):=by
 refine z6 Tryz.func209 rfl rfl rfl ?_
 refine rn ?_;refine z8 rfl (w9 rfl rfl rfl fun b5=> ?_)
 refine rn ?_;refine k9 13 rfl ?_
 refine rn ?_;refine zde (fun hg1_6=> ?_) (fun hg1_6=> ?_)
 ·refine dq rfl rfl qrA ?_;refine dq rfl rfl qrA ?_;refine dq rfl rfl qrA ?_;refine dq rfl rfl (zcj (enc:=intK) (k:=e.t) false rfl rfl) ?_
  refine rn ?_;refine rq 1 ?_
  exact ⟨rfl,by rw [hg1_6];rfl⟩
 ·refine rn ?_;refine rq 1 ?_
  exact ⟨rfl,by rw [hg1_6];rfl⟩
theorem yu4 (x:Int) (s:Ord) (b1:Nat):y8 Tryz.prog 207 [.agg (ze7 s),pZ b1] [.box b1 3 [iv x]] (fun r h'=>h'= [.box b1 3 [iv x]]∧r=bv (s.o==x)):=by
 refine z6 Tryz.func207 rfl rfl rfl ?_
 refine rn ?_;refine z8 rfl (w9 rfl rfl rfl fun b2=> ?_)
 refine rn ?_;refine rq 1 ?_
 exact ⟨rfl,rfl⟩
theorem yn1 (h:Hist) (la:h.evs.length≤1000000) (W:List Res):y8 Tryz.prog 208 [.agg (w6 h)] W (fun r h'=>∃rm,h'= .map rm (zas intK (zbv bv (zpu h.evs)))::W∧r=mpv rm):=by
 refine z6 Tryz.func208 rfl rfl rfl ?_
 refine rn ?_;refine z8 rfl (w9 rfl rfl rfl fun b1=> ?_)
 refine rn ?_;refine z8 rfl (zbd (enc:=intK) rfl fun b6=> ?_)
 refine z8 rfl (y4 rfl fun b3=> ?_)
 refine rn ?_;refine z8 rfl (v8 rfl rfl (y0.of_fun (zxn h 5 _)) rfl ?_)
 rintro _ _ ⟨e1,e2,rfl,rfl⟩
 refine rn ?_;refine zfb (s':=⟨[(8,.fn (.func 264) [] [pZ e1,pZ e2]),(3,pZ b3)],.box e1 28 (w6 h):: .box e2 3 [iv 5]:: .box b3 115 [mpv b6]:: .map b6 (zas intK (zbv bv (zpu (h.evs.take 0)))):: .box b1 28 (w6 h)::W,[]⟩) es ?_
 refine zoy (fun pend h''=>pend=none∧h''= .box b3 115 [mpv b6]:: .map b6 (zas intK (zbv bv (zpu (h.evs.take h.evs.length)))):: .box b1 28 (w6 h)::W) rfl (fun fn l q lp hlp=> ?_) (fun q h'' hK=> ?_) (fun q h'' c hK=> ?_)
 ·suffices hy:∀k (x:Unit),(hk:k < h.evs.length)→True→(h.evs[k].kind==5)=true→y0 Tryz.prog (yv l) [iv k,.agg (evR h.evs[k])] (.box e1 28 (w6 h):: .box e2 3 [iv 5]::lp .ready none:: .defs q:: .box b3 115 [mpv b6]:: .map b6 (zas intK (zbv bv (zpu (h.evs.take k)))):: .box b1 28 (w6 h)::W) (fun r h'=>∃x':Unit,(r=bv true∧True∧h'= .box e1 28 (w6 h):: .box e2 3 [iv 5]::lp .ready none:: .defs q:: .box b3 115 [mpv b6]:: .map b6 (zas intK (zbv bv (zpu (h.evs.take (k+1))))):: .box b1 28 (w6 h)::W)∨(r=bv false∧False∧h'= .box e1 28 (w6 h):: .box e2 3 [iv 5]:: [])) by
   refine y8.mono (y8.perm ((pt2 _ _ _ _).trans (.cons _ (pt2 _ _ _ _))) (ztd h la 5 (yv l) e1 e2 (fun _ _=>True) (fun _ _=>False) (fun k (_:Unit)=>lp .ready none:: .defs q:: .box b3 115 [mpv b6]:: .map b6 (zas intK (zbv bv (zpu (h.evs.take k)))):: .box b1 28 (w6 h)::W) (fun _ _=> []) () trivial hy (fun k s hk _ hn=>⟨s,trivial,by rw [ys9 hk hn]⟩))) ?_
   rintro _ _ (⟨s,_,rfl⟩|⟨_,_,hF,_⟩)
   ·exact ⟨none,.ready,_,.refl _,by simp,rfl,rfl⟩
   ·exact hF.elim
  intro k s hk _ hkd
  refine y0.perm (pt2 _ _ _ _) (y0.ventE ?_)
  refine ze9 hlp rfl rfl ?_
  refine rn ?_;refine z8 rfl (y4 rfl fun b5=> ?_)
  refine rn ?_;refine ⟨[(5,pZ b5),(3,pZ b3)],.box b5 60 (evR h.evs[k]):: .box e1 28 (w6 h):: .box e2 3 [iv 5]:: .defs q:: .box b3 115 [mpv b6]:: .map b6 (zas intK (zbv bv (zpu (h.evs.take k)))):: .box b1 28 (w6 h)::W,v7 (zap (pt1 _ _ _)) es,?_⟩
  refine rn ?_;refine z8 rfl (za6 (g:=bv) (enc:=intK) (k:=h.evs[k].t) (v:=true) rfl rfl rfl ?_)
  refine rn ?_;exact zeu (.refl _) ⟨_,_,.trans (.perm ((pt1 _ _ _).trans (.cons _ ((pt1 _ _ _).trans (.cons _ (pt1 _ _ _))))) _) (.drop [_] _ _),(),.inl ⟨rfl,trivial,by rw [ys8 hk hkd]⟩⟩
 ·obtain ⟨_,rfl⟩:=hK
  refine rn ?_;exact zi7 (.refl _) (.cons _ _ _ _ (.tmp _ _ rfl) .nil) (.trans (.drop1 _ _ _) (.trans (.perm (pt1 _ _ _) _) (.drop [_] _ _))) ⟨b6,by rw [List.take_length],rfl⟩
 ·obtain ⟨hc,_⟩:=hK
  exact absurd hc (by simp)
theorem ye4 {h:Hist} {n many:Int} (he:zhk h n many≠0) (X:List Int):(onE (zhk h n many) X).map zar= []:=by rw [onE,if_neg he];rfl
theorem ydn {α:Type} (kd:Int) (g:Ev→α) (q:Ev→Bool) (l:List Ev):zmq (zq8 kd (fun _ e=>g e) (fun _ e=>q e)) l l.length=(l.filter fun e=>e.kind==kd && q e).map g:=yip (fun _ _=>rfl) l
theorem ykm (h:Hist) (la:Lim 4611686018427387904 h) (n many:Int) (fv:AV) (hone:fv.cellsOf=some [fv]) (X:List Int) (W:List Res) (hp:zhk h n many=0→y0 Tryz.prog fv [] (.glob 2 156 y5:: .glob 4 305 y7:: .glob 5 308 y2:: .glob 3 246 u5::W) (fun r h'=>∃s:SV,h'= .row s.v 1 3 (X.map zar):: .glob 2 156 y5:: .glob 4 305 y7:: .glob 5 308 y2:: .glob 3 246 u5::W∧r= .v s.v)):y8 Tryz.prog 150 [.agg (w6 h),iv n,iv many,fv] (.glob 2 156 y5:: .glob 4 305 y7:: .glob 5 308 y2:: .glob 3 246 u5::W) (fun r h'=>∃s:SV,h'= .row s.v 1 3 ((onE (zhk h n many) X).map zar):: .glob 2 156 y5:: .glob 4 305 y7:: .glob 5 308 y2:: .glob 3 246 u5::W∧r= .tup [.v s.v,iv (zhk h n many)]):=by
 refine z6 Tryz.func150 rfl rfl rfl ?_
 refine rn ?_;refine z8 rfl (w9 rfl rfl rfl fun b4=> ?_)
 refine rn ?_;refine qv rfl rfl (y1 rfl rfl (y0.qt (y0.of_fun (yn4 h la)) ((pt1 _ _ _).trans (.cons _ ((pt1 _ _ _).trans (.cons _ ((pt1 _ _ _).trans (.cons _ (pt1 _ _ _))))))))) ?_
 refine rn ?_;refine z7 rfl (fun hc15=> ?_) (fun hc15=> ?_)
 ·have hc:u9 h≠0:=by simpa using hc15
  refine rn ?_;exact zb9 rfl rfl (.trans (.drop [_] _ _) (zal 1 3 _)) ⟨⟨none,0,0⟩,by rw [ye4 (by rw [ask_c hc];exact hc)];rfl,by rw [ask_c hc];rfl⟩
 ·have hc:u9 h=0:=by simpa using hc15
  refine rn ?_;refine w7 (fun hg5_2=> ?_) (fun hg5_2=> ?_)
  ·refine rn ?_;refine zfe rfl ?_;have hn:¬(0≤n∧n < many):=by first|(have q:=oT hg5_2;omega)|(have q:=oT hc24;omega)
   refine rn ?_;exact zb9 rfl rfl (.trans (.drop [_] _ _) (zal 1 3 _)) ⟨⟨none,0,0⟩,by rw [ye4 (by rw [zz6 hc hn];decide)];rfl,by rw [zz6 hc hn];rfl⟩
  ·refine rn ?_;refine z7 rfl (fun hc24=> ?_) (fun hc24=> ?_)
   ·have hn:¬(0≤n∧n < many):=by first|(have q:=oT hg5_2;omega)|(have q:=oT hc24;omega)
    refine rn ?_;exact zb9 rfl rfl (.trans (.drop [_] _ _) (zal 1 3 _)) ⟨⟨none,0,0⟩,by rw [ye4 (by rw [zz6 hc hn];decide)];rfl,by rw [zz6 hc hn];rfl⟩
   ·have hn:0≤n∧n < many:=by have q:=oF hg5_2;have q':=oF hc24;omega
    refine rn ?_;refine z8 rfl (v8 rfl rfl (y0.fr1 (hp (zwf hc hn))) rfl ?_)
    rintro _ _ ⟨_,rfl,s,rfl,rfl⟩
    refine rn ?_;exact zb9 rfl rfl (.drop [_] _ _) ⟨s,by rw [zwf hc hn];rfl,by rw [zwf hc hn];rfl⟩
theorem ye5 {h:Hist} {n many:Int} (he:zhk h n many=0):Lim 3000 h:=zqv (zfp (yo6 he).1).1
theorem yo5 {h:Hist} {n many:Int} (he:zhk h n many=0):h.evs.length≤1000000:=Nat.le_trans (ye5 he).evs (by decide)
theorem zez {h:Hist} (he:u9 h=0):Lim 3000 h:=zqv (zfp (zbj.1 he)).1
theorem yi7 (l:List Ev):srt (zmq (zq8 5 (fun _ e=>e.t) (fun _ _=>true)) l l.length)=zfw l:=by
 rw [zfw,ydn 5 Ev.t (fun _=>true)];simp only [Bool.and_true]
theorem yn7 (l:List Ev) (x:Int):zmq (zq8 2 (fun _ e=>e.t) (fun _ e=>e.o==x && (zbs e.t (zpu l)).getD false)) l l.length=ypl l x:=by
 rw [ydn 2 Ev.t (fun e=>e.o==x && (zbs e.t (zpu l)).getD false),ypl];simp only [yi2]
theorem yri {h:Hist} {x:Int} (hc:decide (zbw (fun o:Ord=>o.o==x) 0 h.ords ≥ 0)=true):∃k,∃hk:k < h.ords.length,zbw (fun o:Ord=>o.o==x) 0 h.ords=(k:Int)∧zb6 h x=h.ords[k].ts:=by
 have:=zgl (fun o:Ord=>o.o==x) h.ords 0
 cases hf:h.ords.find? (fun o=>o.o==x) with
 |none=>rw [hf] at this;simp only at this;rw [this] at hc;exact absurd hc (by decide)
 |some o=>
  rw [hf] at this
  obtain ⟨k,hk,e,eo,_⟩:=this
  exact ⟨k,hk,by rw [e,Nat.zero_add],by rw [zb6,hf,eo]⟩
theorem yrh {h:Hist} {x:Int} (hc:decide (zbw (fun o:Ord=>o.o==x) 0 h.ords ≥ 0)=false):zb6 h x=zcd (ypl h.evs x):=by
 have:=zgl (fun o:Ord=>o.o==x) h.ords 0
 cases hf:h.ords.find? (fun o=>o.o==x) with
 |none=>rw [zb6,hf]
 |some o=>
  rw [hf] at this
  obtain ⟨k,hk,e,eo,_⟩:=this
  rw [e] at hc
  have:=oF hc
  omega
theorem yn2 (h:Hist) (la:h.evs.length≤1000000) (b1:Nat):y8 Tryz.prog 172 [pZ b1] (.glob 2 156 y5:: .glob 4 305 y7:: .glob 5 308 y2:: .glob 3 246 u5:: .box b1 28 (w6 h):: []) (fun r h'=>∃s:SV,h'= .row s.v 1 3 ((zfw h.evs).map zar):: .glob 2 156 y5:: .glob 4 305 y7:: .glob 5 308 y2:: .glob 3 246 u5:: .box b1 28 (w6 h):: []∧r= .v s.v):=by
 refine z6 Tryz.func172 rfl rfl rfl ?_
 refine rn ?_;refine z8 rfl (v8 rfl rfl (y0.of_fun (ykk h la 5 _ rfl _ (fun _ e=>e.t) (fun _ _=>true) (fun k hk _=>y0.pure (R:=fun r=>r=_) (y0.of_fun (ynz k h.evs[k]))))) rfl ?_)
 rintro _ _ ⟨s,rfl,rfl⟩
 refine rn ?_;refine z8 rfl (v8 rfl rfl (zgm (y0.of_fun (yax s _ (by have:=(zmp (zq8 5 (fun _ e=>e.t) (fun _ e=>true)) h.evs h.evs.length);omega)))) rfl ?_)
 rintro _ _ ⟨rfl,rfl⟩
 refine rn ?_;exact k8 rfl (.refl _ _) ⟨s,by rw [yi7],rfl⟩
theorem yn3 (h:Hist) (la:Lim 4611686018427387904 h):y8 Tryz.prog 133 [.agg (w6 h)] (.glob 2 156 y5:: .glob 4 305 y7:: .glob 5 308 y2:: .glob 3 246 u5:: []) (fun r h'=>∃s:SV,h'= .row s.v 1 3 ((onE (u9 h) (zfw h.evs)).map zar):: .glob 2 156 y5:: .glob 4 305 y7:: .glob 5 308 y2:: .glob 3 246 u5:: []∧r= .tup [.v s.v,iv (u9 h)]):=by
 refine z6 Tryz.func133 rfl rfl rfl ?_
 refine rn ?_;refine z8 rfl (w9 rfl rfl rfl fun b1=> ?_)
 refine rn ?_;refine z8 rfl (v8 rfl rfl (y0.perm ((pt1 _ _ _).trans (.cons _ ((pt1 _ _ _).trans (.cons _ ((pt1 _ _ _).trans (.cons _ (pt1 _ _ _))))))) (y0.of_fun (ykm h la 0 1 (.fn (.func 172) [] [pZ b1]) rfl (zfw h.evs) [.box b1 28 (w6 h)] (fun he=>y0.of_acall (fs:= []) (cs:= [pZ b1]) (yn2 h (yo5 he) b1))))) rfl ?_)
 rintro _ _ ⟨s,rfl,rfl⟩
 refine rn ?_;exact zb9 rfl rfl (.trans (.perm (pt5 _ _ _ _ _ _ _) _) (.drop [_] _ _)) ⟨s,by rw [yk1],by rw [yk1];rfl⟩
theorem ykl (h:Hist) (la:Lim 4611686018427387904 h):y8 Tryz.prog 133 [.agg (w6 h)] (.glob 2 156 y5:: .glob 4 305 y7:: .glob 5 308 y2:: .glob 3 246 u5:: []) (fun r h'=>h'= .glob 2 156 y5:: .glob 4 305 y7:: .glob 5 308 y2:: .glob 3 246 u5:: []∧r= .tup [zbe (onE (u9 h) (zfw h.evs)),iv (u9 h)]):=
 (yn3 h la).ventR (by rintro _ _ ⟨s,rfl,rfl⟩;exact ⟨_,_,zbk [] [_],rfl,rfl⟩)
theorem ysc (h:Hist) (la:Lim 3000 h) (x:Int) (W:List Res):y8 Tryz.prog 152 [.agg (w6 h),iv x] W (fun r h'=>∃s:SV,h'= .row s.v 1 3 ((zb6 h x).map zar)::W∧r= .v s.v):=by
 refine z6 Tryz.func152 rfl rfl rfl ?_
 have le:h.evs.length≤1000000:=Nat.le_trans la.evs (by decide)
 have lo:=la.ords
 refine rn ?_;refine z8 rfl (w9 rfl rfl rfl fun b2=> ?_)
 refine z8 rfl (w9 rfl rfl rfl fun b3=> ?_)
 refine rn ?_;refine qv rfl rfl (y1 rfl rfl (y0.of_fun (zls h.ords _ (fun o:Ord=>o.o==x) _ (fun a _=>y0.qt (y0.of_acall (fs:= []) (cs:= [pZ b3]) (yu4 x a b3)) (.refl _)) (Nat.le_trans la.ords (by decide))))) ?_
 refine rn ?_;refine z7 rfl (fun hc13=> ?_) (fun hc13=> ?_)
 ·obtain ⟨k,hk,ek,hx⟩:=yri hc13
  have rk:=zaj (f:=ze7) hk
  rw [ek]
  refine rn ?_;refine z8 rfl (v8 rfl rfl (y0.fr (y0.rowS (y0.of_fun (zn9 (h.ords[k].ts.map zar) (by rw [oM];exact Nat.le_trans (la.ordts h.ords[k] (List.getElem_mem hk)) (by decide)) (zh1 _)))) (.refl _)) rfl ?_)
  rintro _ _ ⟨_,rfl,s,rfl,rfl⟩
  refine rn ?_;exact k8 rfl (.trans (.perm ((pt1 _ _ _).trans (.cons _ (pt1 _ _ _))) _) (.drop [_,_] _ _)) ⟨s,by rw [hx],rfl⟩
 ·have hx:=yrh hc13
  refine rn ?_;refine z8 rfl (v8 rfl rfl (y0.of_fun (yn1 h le _)) rfl ?_)
  rintro _ _ ⟨rm,rfl,rfl⟩
  refine z8 rfl (y4 rfl fun b6=> ?_)
  refine rn ?_;refine z8 rfl (v8 rfl rfl (y0.of_fun (ykk h le 2 _ rfl _ (fun _ e=>e.t) (fun _ e=>e.o==x && (zbs e.t (zpu h.evs)).getD false) (fun k hk _=>y0.qt (y0.of_acall (fs:= []) (cs:= [pZ b3,pZ b6]) (yny k x h.evs[k] b3 b6 rm (zpu h.evs))) (pt2 _ _ _ _)))) rfl ?_)
  rintro _ _ ⟨s,rfl,rfl⟩
  refine rn ?_;refine z8 rfl (v8 rfl rfl (zaz (y0.of_fun (yek s _ (by have:=(zmp (zq8 2 (fun _ e=>e.t) (fun _ e=>e.o==x && (zbs e.t (zpu h.evs)).getD false)) h.evs h.evs.length);omega)))) rfl ?_)
  rintro _ _ ⟨s',rfl,rfl⟩
  refine rn ?_;exact k8 rfl (.trans (.perm ((pt1 _ _ _).trans (.cons _ ((pt1 _ _ _).trans (.cons _ ((pt1 _ _ _).trans (.cons _ (pt1 _ _ _))))))) _) (.drop [_,_,_,_] _ _)) ⟨s',by rw [hx,yn7],rfl⟩
theorem ysb (h:Hist) (la:Lim 3000 h) (x:Int) (b2 b3:Nat):y8 Tryz.prog 151 [pZ b2,pZ b3] (.glob 2 156 y5:: .glob 4 305 y7:: .glob 5 308 y2:: .glob 3 246 u5:: .box b2 28 (w6 h):: .box b3 3 [iv x]:: []) (fun r h'=>∃s:SV,h'= .row s.v 1 3 ((zb6 h x).map zar):: .glob 2 156 y5:: .glob 4 305 y7:: .glob 5 308 y2:: .glob 3 246 u5:: .box b2 28 (w6 h):: .box b3 3 [iv x]:: []∧r= .v s.v):=by
 refine z6 Tryz.func151 rfl rfl rfl ?_
 refine rn ?_;refine z8 rfl (v8 rfl rfl (y0.of_fun (ysc h la x _)) rfl ?_)
 rintro _ _ ⟨s,rfl,rfl⟩
 refine rn ?_;exact k8 rfl (.refl _ _) ⟨s,rfl,rfl⟩
theorem yn0 (h:Hist) (la:Lim 4611686018427387904 h) (x:Int):y8 Tryz.prog 101 [.agg (w6 h),iv x] (.glob 2 156 y5:: .glob 4 305 y7:: .glob 5 308 y2:: .glob 3 246 u5:: []) (fun r h'=>∃s:SV,h'= .row s.v 1 3 ((onE (zhk h x h.os.length) (zb6 h x)).map zar):: .glob 2 156 y5:: .glob 4 305 y7:: .glob 5 308 y2:: .glob 3 246 u5:: []∧r= .tup [.v s.v,iv (zhk h x h.os.length)]):=by
 refine z6 Tryz.func101 rfl rfl rfl ?_
 refine rn ?_;refine z8 rfl (w9 rfl rfl rfl fun b2=> ?_)
 refine z8 rfl (w9 rfl rfl rfl fun b3=> ?_)
 refine rn ?_;refine z8 rfl (v8 rfl rfl (y0.perm ((pt2 _ _ _ _).trans (.cons _ ((pt2 _ _ _ _).trans (.cons _ ((pt2 _ _ _ _).trans (.cons _ ((pt2 _ _ _ _).trans (.cons _ (pt1 _ _ _))))))))) (y0.of_fun (ykm h la x (h.os.map zid).length (.fn (.func 151) [] [pZ b2,pZ b3]) rfl (zb6 h x) [.box b2 28 (w6 h),.box b3 3 [iv x]] (fun he=>y0.of_acall (fs:= []) (cs:= [pZ b2,pZ b3]) (ysb h (ye5 he) x b2 b3))))) rfl ?_)
 rintro _ _ ⟨s,rfl,rfl⟩
 refine rn ?_;exact zb9 rfl rfl (.trans (.perm ((pt5 _ _ _ _ _ _ _).trans (.cons _ (pt5 _ _ _ _ _ _ _))) _) (.drop [_,_] _ _)) ⟨s,by simp only [oM],by simp only [oM];rfl⟩
theorem ykj (h:Hist) (la:Lim 4611686018427387904 h) (x:Int):y8 Tryz.prog 101 [.agg (w6 h),iv x] (.glob 2 156 y5:: .glob 4 305 y7:: .glob 5 308 y2:: .glob 3 246 u5:: []) (fun r h'=>h'= .glob 2 156 y5:: .glob 4 305 y7:: .glob 5 308 y2:: .glob 3 246 u5:: []∧r= .tup [zbe (onE (zhk h x h.os.length) (zb6 h x)),iv (zhk h x h.os.length)]):=
 (yn0 h la x).ventR (by rintro _ _ ⟨s,rfl,rfl⟩;exact ⟨_,_,zbk [] [_],rfl,rfl⟩)
end Go.Proofs
namespace Go.Ab
open Go
section
variable {P:Program} {ro:Option Nat} {nt:Nat} {c:Code} {Q:Exit→St→Prop} {t:Fr} {h:List Res} {ds:List Nat}
theorem zwc {σ:Type} (n:Nat) (p:Nat→σ→Prop) (v:Nat→σ→Fr) (cs:Fr) (x0:σ) (hp:p 0 x0)
 (round:∀k x,k≤n→p k x→aw P ro nt c (thn (fun s'=>k < n∧∃x',p (k+1) x'∧Ent nt s' ⟨v (k+1) x'++cs,h,ds⟩) Q) ⟨v k x++cs,h,ds⟩)
 (hs:SubF t (v 0 x0++cs):=by repeat (first|exact .nil|refine .cons _ _ _ rfl ?_)):aw P ro nt (.loop c) Q ⟨t,h,ds⟩:=
 zai (fun x:Nat×σ=>x.1≤n∧p x.1 x.2) (fun x=>⟨v x.1 x.2++cs,h,ds⟩) (fun x=>n - x.1) (0,x0) ⟨Nat.zero_le _,hp⟩ (u3 hs) fun x hk=>zf9 (fun e s' hq=>by
  cases e with
  |normal=>
   obtain ⟨h1,x',h2,h3⟩:=hq
   exact ⟨(x.1+1,x'),⟨h1,h2⟩,h3,by simp only;omega⟩
  |_=>exact hq) (round x.1 x.2 hk.1 hk.2)
end
end Go.Ab
set_option maxRecDepth 10000
namespace Go.Proofs
open Go Go.Ab
attribute [local irreducible] QR QV OE zct aw zdf zch zbm za3 thn zfl
open Go.H
theorem ymm {f g:Bool} (l m:List Seen) (hl:l.length≤4611686018427387904) (hm:m.length≤4611686018427387904):y8 Tryz.prog 130 [.list f 3 (l.map zaq),.list g 3 (m.map zaq)] [] (fun r h'=>h'= []∧r=bv (eqF zgc l m)):=by
 refine z6 Tryz.func130 rfl rfl rfl ?_
 refine rn ?_;refine z7 rfl (fun hc10=> ?_) (fun hc10=> ?_)
 ·refine rn ?_;have hne:(l.length==m.length)=false:=beq_eq_false_iff_ne.2 fun q=>by simp [q] at hc10
  exact k8 rfl (.refl _ _) ⟨rfl,by rw [eqF,hne,Bool.false_and];rfl⟩
 ·have hlm:l.length=m.length:=by simp at hc10;omega
  refine rn ?_;refine zai (fun k:Nat=>k≤l.length∧zru zgc l m=zru zgc (l.drop k) (m.drop k)) (fun k=>⟨[(13,iv k),(12,iv (l.map zaq).length),(0,.list f 3 (l.map zaq)),(1,.list g 3 (m.map zaq))],[],[]⟩) (fun k=>l.length - k) 0 ⟨Nat.zero_le _,by simp⟩
   (u3 (.cons _ _ _ rfl (.cons _ _ _ rfl (.cons _ _ _ rfl (.cons _ _ _ rfl (.nil)))))) ?_
  rintro k ⟨hk,hz⟩
  refine rn ?_;refine z7 rfl (fun hc14=> ?_) (fun hc14=> ?_)
  ·have hk2:k < l.length:=by simpa using hc14
   have hk3:k < m.length:=by omega
   have hrow1:(l.map zaq)[k]? =some (zaq l[k]):=by simp [hk2]
   have hrow2:(m.map zaq)[k]? =some (zaq m[k]):=by simp [hk3]
   have hd1:=List.drop_eq_getElem_cons hk2
   have hd2:=List.drop_eq_getElem_cons hk3
   refine rn ?_;refine k9 8 rfl ?_
   refine rn ?_;refine z7 rfl (fun hc24=> ?_) (fun hc24=> ?_)
   ·refine rn ?_;exact k8 rfl (.refl _ _) ⟨rfl,by rw [eqF,hz,hd1,hd2,zru,show zgc l[k] m[k]=false from ycu hc24,Bool.false_and,Bool.and_false];rfl⟩
   ·refine rn ?_;exact ⟨k+1,⟨by omega,by rw [hz,hd1,hd2,zru,show zgc l[k] m[k]=true from ycv hc24,Bool.true_and]⟩,(u3 (.cons _ _ _ rfl (.cons _ _ _ rfl (.cons _ _ _ rfl (.cons _ _ _ rfl (.nil)))))),by omega⟩
  ·have hk3:k=l.length:=by
    have:l.length≤k:=by simpa using hc14
    omega
   refine rn ?_;exact k8 rfl (.refl _ _) ⟨rfl,by rw [eqF,hz,hk3,List.drop_length,zp7,hlm,beq_self_eq_true];rfl⟩
theorem zio (n m:Int):y8 Tryz.prog 21 [iv n,iv m] [] (fun r h'=>h'= []∧r=bv (isB n m)):=by
 refine z6 Tryz.func21 rfl rfl rfl ?_
 refine rn ?_;refine w7 (fun hg1_2=> ?_) (fun hg1_2=> ?_)
 ·refine rn ?_;exact k8 rfl (.refl _ _) ⟨rfl,congrArg bv (by first|(simp only [isB, *,Bool.true_and,Bool.false_and,Bool.and_false,Bool.and_true,Bool.true_or,Bool.or_false,Bool.false_or,Bool.or_true,if_true,if_false,Bool.false_eq_true,Bool.not_true,Bool.not_false];done)|(simp_all [isB];done)|(simp_all [isB] <;> omega))⟩
 ·refine rn ?_;exact k8 rfl (.refl _ _) ⟨rfl,congrArg bv (by first|(simp only [isB, *,Bool.true_and,Bool.false_and,Bool.and_false,Bool.and_true,Bool.true_or,Bool.or_false,Bool.false_or,Bool.or_true,if_true,if_false,Bool.false_eq_true,Bool.not_true,Bool.not_false];done)|(simp_all [isB];done)|(simp_all [isB] <;> omega))⟩
theorem bvz0_4954 {a b:Bool} (h:a=b:=by first|(simp only [zf2, *,Bool.true_and,Bool.false_and,Bool.and_false,Bool.and_true,Bool.true_or,Bool.or_false,Bool.false_or,Bool.or_true,if_true,if_false,Bool.false_eq_true,Bool.not_true,Bool.not_false];done)|(simp_all [zf2];done)|(simp_all [zf2] <;> omega)):bv a=bv b:=congrArg bv h
theorem zgi (v:Ver) (m:Int):y8 Tryz.prog 216 [.agg (yfx v),iv m] [] (fun r h'=>h'= []∧r=bv (zf2 v m)):=by
 refine z6 Tryz.func216 rfl rfl rfl ?_
 refine rn ?_;refine z8 rfl (w9 rfl rfl rfl fun b2=> ?_)
 refine rn ?_;refine w7 (fun hg1_3=> ?_) (fun hg1_3=> ?_)
 ·refine rn ?_;exact k8 rfl (.drop [_] _ _) ⟨rfl,bvz0_4954⟩
 ·refine rn ?_;refine qv rfl rfl (y1 rfl rfl (j4 (zio _ _) (Sbs.refl _))) ?_
  refine rn ?_;refine w7 (fun hg1_8=> ?_) (fun hg1_8=> ?_)
  ·refine rn ?_;refine w7 (fun hg1_13=> ?_) (fun hg1_13=> ?_)
   ·refine rn ?_;exact k8 rfl (.drop [_] _ _) ⟨rfl,bvz0_4954⟩
   ·refine rn ?_;exact k8 rfl (.drop [_] _ _) ⟨rfl,bvz0_4954⟩
  ·refine rn ?_;exact k8 rfl (.drop [_] _ _) ⟨rfl,bvz0_4954⟩
theorem bvz1_2830 {a b:Bool} (h:a=b:=by first|(simp only [zkg, *,Bool.true_and,Bool.false_and,Bool.and_false,Bool.and_true,Bool.true_or,Bool.or_false,Bool.false_or,Bool.or_true,if_true,if_false,Bool.false_eq_true,Bool.not_true,Bool.not_false];done)|(simp_all [zkg];done)|(simp_all [zkg] <;> omega)):bv a=bv b:=congrArg bv h
theorem zgz (a b:Ev) (ha:a.scan.length≤4611686018427387904) (hb:b.scan.length≤4611686018427387904):y8 Tryz.prog 79 [.agg (evR a),.agg (evR b)] [] (fun r h'=>h'= []∧r=bv (zkg a b)):=by
 refine z6 Tryz.func79 rfl rfl rfl ?_
 refine rn ?_;refine z8 rfl (w9 rfl rfl rfl fun b2=> ?_)
 refine z8 rfl (w9 rfl rfl rfl fun b3=> ?_)
 refine rn ?_;refine w7 (fun hg1_5=> ?_) (fun hg1_5=> ?_)
 ·refine rn ?_;refine w7 (fun hg1_12=> ?_) (fun hg1_12=> ?_)
  ·refine rn ?_;refine w7 (fun hg1_19=> ?_) (fun hg1_19=> ?_)
   ·refine rn ?_;refine w7 (fun hg1_26=> ?_) (fun hg1_26=> ?_)
    ·refine rn ?_;refine w7 (fun hg1_33=> ?_) (fun hg1_33=> ?_)
     ·refine rn ?_;refine w7 (fun hg1_40=> ?_) (fun hg1_40=> ?_)
      ·refine rn ?_;refine w7 (fun hg1_47=> ?_) (fun hg1_47=> ?_)
       ·refine rn ?_;refine qv rfl rfl (y1 rfl rfl (j4 (ymm _ _ ha hb) (Sbs.refl _))) ?_
        refine rn ?_;exact k8 rfl (.drop [_,_] _ _) ⟨rfl,bvz1_2830⟩
       ·refine rn ?_;exact k8 rfl (.drop [_,_] _ _) ⟨rfl,bvz1_2830⟩
      ·refine rn ?_;exact k8 rfl (.drop [_,_] _ _) ⟨rfl,bvz1_2830⟩
     ·refine rn ?_;exact k8 rfl (.drop [_,_] _ _) ⟨rfl,bvz1_2830⟩
    ·refine rn ?_;exact k8 rfl (.drop [_,_] _ _) ⟨rfl,bvz1_2830⟩
   ·refine rn ?_;exact k8 rfl (.drop [_,_] _ _) ⟨rfl,bvz1_2830⟩
  ·refine rn ?_;exact k8 rfl (.drop [_,_] _ _) ⟨rfl,bvz1_2830⟩
 ·refine rn ?_;exact k8 rfl (.drop [_,_] _ _) ⟨rfl,bvz1_2830⟩
theorem yg1 {f:Bool} (l:List Int) (n:Int) (hl:l.length≤4611686018427387904):y8 Tryz.prog 77 [.list f 1 (l.map zar),iv n] [] (fun r h'=>h'= []∧r=iv (atI n 0 l)):=by
 refine z6 Tryz.func77 rfl rfl rfl ?_
 refine rn ?_;refine zai (fun k:Nat=>k≤l.length∧atI n 0 l=atI n k (l.drop k)) (fun k=>⟨[(9,iv k),(8,iv (l.map zar).length),(7,.list f 1 (l.map zar)),(1,iv n)],[],[]⟩) (fun k=>l.length - k) 0 ⟨Nat.zero_le _,by simp⟩
  (u3 (.cons _ _ _ rfl (.cons _ _ _ rfl (.cons _ _ _ rfl (.cons _ _ _ rfl (.nil)))))) ?_
 rintro k ⟨hk,hz⟩
 refine rn ?_;refine z7 rfl (fun hc10=> ?_) (fun hc10=> ?_)
 ·have hk2:k < l.length:=by simpa using hc10
  have hrow:(l.map zar)[k]? =some (zar l[k]):=by simp [hk2]
  have hd:=List.drop_eq_getElem_cons hk2
  refine rn ?_;refine z7 rfl (fun hc16=> ?_) (fun hc16=> ?_)
  ·have hx:l[k]=n:=by simpa using hc16
   refine rn ?_;exact k8 rfl (.refl _ _) ⟨rfl,congrArg iv (by rw [hz,hd,atI,if_pos hx])⟩
  ·have hx:¬l[k]=n:=by simpa using hc16
   refine rn ?_;exact ⟨k+1,⟨by omega,by rw [hz,hd,atI,if_neg hx]⟩,(u3 (.cons _ _ _ rfl (.cons _ _ _ rfl (.cons _ _ _ rfl (.cons _ _ _ rfl (.nil)))))),by omega⟩
 ·have hk3:k=l.length:=by
   have:l.length≤k:=by simpa using hc10
   omega
  refine rn ?_;exact k8 rfl (.refl _ _) ⟨rfl,congrArg iv (by rw [hz,hk3,List.drop_length];rfl)⟩
attribute [local irreducible] zd0 jch zfc
theorem yqr (h:Hist) (t c:Int) (la:Lim 4611686018427387904 h):y8 Tryz.prog 91 [.agg (w6 h),iv t,iv c] [] (fun r h'=>h'= []∧r=bv (zga h.evs t c)):=by
 refine z6 Tryz.func91 rfl rfl rfl ?_
 refine rn ?_;refine z8 rfl (w9 rfl rfl rfl fun b3=> ?_)
 refine rn ?_;refine zcu (h.evs.length) (fun k:Nat=>h.evs.all (fun e:Ev=> !(e.t==t && e.kind==c))=(h.evs.drop k).all (fun e:Ev=> !(e.t==t && e.kind==c))) (fun k=> [(12,iv k)]) [(1,_),(2,_),(10,_),(11,_)] rfl ?_
 intro k lk zk
 refine rn ?_;refine z7 rfl (fun hc13=> ?_) (fun hc13=> ?_)
 ·have hk:=za4 hc13
  have rk:=zaj (f:=evR) hk
  have bk:=la.evs
  refine rn ?_;refine z8 rfl (y4 rfl fun b8=> ?_)
  refine rn ?_;refine w7 (fun hg4_4=> ?_) (fun hg4_4=> ?_)
  ·refine rn ?_;refine z7 rfl (fun hc25=> ?_) (fun hc25=> ?_)
   ·refine rn ?_;refine rq 2 ?_
    exact ⟨rfl,congrArg bv (by rw [zga,zuj hk (by simp_all)];rfl)⟩
   ·refine rn ?_;exact ⟨hk,zui hk zk (by simp_all),eA⟩
  ·refine rn ?_;refine zff rfl ?_;refine rn ?_;exact ⟨hk,zui hk zk (by simp_all),eA⟩
 ·have qk:=za5 hc13 lk
  have ak:=zz9 qk zk
  refine rn ?_;refine rq 1 ?_
  exact ⟨rfl,congrArg bv (by rw [zga,ak];rfl)⟩
theorem ybz (h:Hist) (t:Int) (la:Lim 4611686018427387904 h):y8 Tryz.prog 36 [.agg (w6 h),iv t] [] (fun r h'=>h'= []∧r=bv (zga h.evs t 5)):=by
 refine z6 Tryz.func36 rfl rfl rfl ?_
 refine rn ?_;refine z8 rfl (w9 rfl rfl rfl fun b2=> ?_)
 refine rn ?_;refine qv rfl rfl (y1 rfl rfl (j4 (yqr h t 5 la) (Sbs.refl _))) ?_
 refine rn ?_;refine rq 1 ?_
 exact ⟨rfl,rfl⟩
theorem zu3 (ts f:List Int) (hl:ts.length≤4611686018427387904) (hm:f.length≤4611686018427387904):y8 Tryz.prog 276 [zbe ts,zbe f] [] (fun r h'=>h'= []∧r=bv (zgu ts f)):=by
 refine z6 Tryz.func276 rfl rfl rfl ?_
 refine rn ?_;refine zcu (ts.length) (fun k:Nat=>yjn ts f k) (fun k=> [(9,iv k)]) [(0,_),(1,_),(7,_),(8,_)] (fun j _ h=>absurd h (Nat.not_lt_zero _)) ?_
 intro k lk zk
 refine rn ?_;refine z7 rfl (fun hc10=> ?_) (fun hc10=> ?_)
 ·have hk:=za4 hc10
  have rk:=zaj (f:=zar) hk
  refine rn ?_;refine qv rfl rfl (y1 rfl rfl (j4 (yg1 f ts[k] hm) (Sbs.refl _))) ?_
  refine rn ?_;refine w7 (fun hg4_4=> ?_) (fun hg4_4=> ?_)
  ·refine rn ?_;refine zfe rfl ?_;refine rn ?_;refine rq 0 ?_
   exact ⟨rfl,congrArg bv (by rw [yju hk (by first|exact .inl hg4_4|exact .inr (by simpa using hc24))])⟩
  ·refine rn ?_;refine qv rfl rfl (y1 rfl rfl (j4 (yg1 ts ts[k] hl) (Sbs.refl _))) ?_
   refine rn ?_;refine z7 rfl (fun hc24=> ?_) (fun hc24=> ?_)
   ·refine rn ?_;refine rq 0 ?_
    exact ⟨rfl,congrArg bv (by rw [yju hk (by first|exact .inl hg4_4|exact .inr (by simpa using hc24))])⟩
   ·refine rn ?_;exact ⟨hk,ylp hk zk (by simp_all) (by simp_all),eA⟩
 ·have qk:=za5 hc10 lk
  refine rn ?_;refine rq 0 ?_
  exact ⟨rfl,congrArg bv (by rw [yp5 (qk ▸ zk)])⟩
theorem zif (h:Hist) (x:Int) (la:Lim 1000000 h):y8 Tryz.prog 129 [.agg (w6 h),iv x] [] (fun r h'=>h'= []∧r=zbe (zbo h x)):=by
 refine z6 Tryz.func129 rfl rfl rfl ?_
 have be:=la.evs
 have bt:=la.ts
 refine rn ?_;refine z8 rfl (w9 rfl rfl rfl fun b2=> ?_)
 refine rn0 ?_;refine w8 (y3 ?_)
 refine rn0 ?_;refine w8 ?_;refine w8 ?_;refine zfb (zam 1 3) ?_
 refine rn ?_;refine zem h.ts.length (fun k s=>⟨[(13,iv k),(5,.v s.v),(1,iv x),(2,pZ b2),(12,iv (h.ts.map zid).length)],.row s.v 1 3 ((zdu h x k).map zar):: .box b2 28 (w6 h):: [],[]⟩) ⟨none,0,0⟩ es ?_
 intro k s lk
 refine rn ?_;refine z7 rfl (fun hc14=> ?_) (fun hc14=> ?_)
 ·have hk:=za4 hc14
  have rk:=zaj (f:=zid) hk
  refine rn ?_;refine zwc h.evs.length (fun j wb=>wb=(h.evs.take j).any (zat k x)) (fun j wb=> [(19,iv j),(7,bv wb)]) [(1,_),(2,_),(5,_),(6,_),(12,_),(13,_),(17,_),(18,_)] false rfl ?_
  intro j wb lj zj
  refine rn ?_;refine z7 rfl (fun hc20=> ?_) (fun hc20=> ?_)
  ·have hj:=za4 hc20
   have rj:=zaj (f:=evR) hj
   refine rn ?_;refine z8 rfl (y4 rfl fun b9=> ?_)
   refine rn ?_;refine w7 (fun hg9_1=> ?_) (fun hg9_1=> ?_)
   ·refine rn ?_;refine ⟨hj,_,?_,eA⟩
    rw [za9 hj,←zj]
    simp_all [zat]
   ·refine rn ?_;refine w7 (fun hg9_5=> ?_) (fun hg9_5=> ?_)
    ·refine rn ?_;refine w7 (fun hg9_11=> ?_) (fun hg9_11=> ?_)
     ·refine rn ?_;refine ⟨hj,_,?_,eA⟩
      rw [za9 hj,←zj]
      simp_all [zat]
     ·refine rn ?_;refine ⟨hj,_,?_,eA⟩
      rw [za9 hj,←zj]
      simp_all [zat]
    ·refine rn ?_;refine ⟨hj,_,?_,eA⟩
     rw [za9 hj,←zj]
     simp_all [zat]
  ·have qj:=za5 hc20 lj
   have wq:wb=h.evs.any (zat k x):=by rw [zj,qj,List.take_length]
   refine rn ?_;refine w7 (fun hg11_1=> ?_) (fun hg11_1=> ?_)
   ·refine rn ?_;refine qv rfl rfl (y1 rfl rfl (j4 (ybz h k (la.mono (by decide))) (Sbs.refl _))) ?_
    refine rn ?_;refine z7 rfl (fun hc47=> ?_) (fun hc47=> ?_)
    ·refine rn ?_;refine qv rfl rfl (q6 rfl rfl) ?_
     refine z8 rfl (q7 rfl rfl (by simp only [oM];have:=zle h x k;simp;omega) rfl (fun s51=> ?_) (zh1 [(k:Int)]))
     refine j3 s51 fun sv hsv=> ?_
     subst hsv
     refine rn ?_;first|exact ⟨hk,sv,by rw [zki (by simp_all) (by simp_all),List.map_append];exact eA⟩|exact ⟨hk,s,by rw [zkj (by simp_all)];exact eA⟩
    ·refine rn ?_;first|exact ⟨hk,sv,by rw [zki (by simp_all) (by simp_all),List.map_append];exact eA⟩|exact ⟨hk,s,by rw [zkj (by simp_all)];exact eA⟩
   ·refine rn ?_;refine zff rfl ?_;refine rn ?_;first|exact ⟨hk,sv,by rw [zki (by simp_all) (by simp_all),List.map_append];exact eA⟩|exact ⟨hk,s,by rw [zkj (by simp_all)];exact eA⟩
 ·have qk:=za5 hc14 lk
  refine rn ?_;exact k8 rfl (.trans zcw (.drop1 _ _ _)) ⟨rfl,by rw [qk,zrw];rfl⟩
theorem ygz (h:Hist) (i:Nat) (hi:i < h.ords.length) (la:Lim 1000000 h):y8 Tryz.prog 259 [.agg (w6 h),iv i] [] (fun r h'=>h'= []∧r=bv (zjz h i h.ords[i])):=by
 refine z6 Tryz.func259 rfl rfl rfl ?_
 have ri:=zaj (f:=ze7) hi
 have bo:=la.ords
 have si:=la.ordts h.ords[i] (List.getElem_mem hi)
 refine rn ?_;refine z8 rfl (w9 rfl rfl rfl fun b2=> ?_)
 refine rn ?_;refine z8 rfl (y4 rfl fun b5=> ?_)
 first|refine z8 rfl (j9 rfl rfl rfl ?_)|refine z8 rfl (zao rfl rfl rfl rfl (Nat.le_of_ble_eq_true rfl) ?_)
 refine u6 (zab ?_)
 refine w8 ?_;refine w8 (y3 ?_)
 refine q1 ?_;refine q1 ?_;refine q1 ?_;refine qq rfl rfl (zbc (k:=i) rfl rfl (by simp;omega)) ?_
 rw [←List.map_take]
 refine rn ?_;refine zcu ((h.ords.take i).length) (fun j:Nat=>(h.ords.take i).all (fun p:Ord=> !(p.o==h.ords[i].o))=((h.ords.take i).drop j).all (fun p:Ord=> !(p.o==h.ords[i].o))) (fun j=> [(19,iv j)]) [(2,_),(5,_),(17,_),(18,_)] rfl ?_
 intro j lj zj
 refine rn ?_;refine z7 rfl (fun hc20=> ?_) (fun hc20=> ?_)
 ·have hj:=za4 hc20
  have rj:=zaj (f:=ze7) hj
  have bj:(h.ords.take i).length≤4611686018427387904:=by simp;omega
  refine rn ?_;refine z8 rfl (y4 rfl fun b7=> ?_)
  refine rn ?_;refine z7 rfl (fun hc27=> ?_) (fun hc27=> ?_)
  ·refine rn ?_;refine rq 3 ?_
   exact ⟨rfl,congrArg bv (by rw [yht (zuj hj (by simpa using hc27))])⟩
  ·refine rn ?_;exact ⟨hj,zui hj zj (by simpa using hc27),eA⟩
 ·have qj:=za5 hc20 lj
  have aj:=zz9 qj zj
  refine rn ?_;refine qv rfl rfl (y1 rfl rfl (j4 (zif h h.ords[i].o la) (Sbs.refl _))) ?_
  refine rn ?_;refine qv rfl rfl (y1 rfl rfl (j4 (zu3 h.ords[i].ts (zbo h h.ords[i].o) (Nat.le_trans si (by decide)) (Nat.le_trans (zgs _ _) (Nat.le_trans la.ts (by decide)))) (Sbs.refl _))) ?_
  refine rn ?_;refine w7 (fun hg9_5=> ?_) (fun hg9_5=> ?_)
  ·refine rn ?_;refine rq 2 ?_
   exact ⟨rfl,congrArg bv (by rw [zxc aj];simp_all)⟩
  ·refine rn ?_;refine qv rfl rfl (y1 rfl rfl (j4 (zu3 (zbo h h.ords[i].o) h.ords[i].ts (Nat.le_trans (zgs _ _) (Nat.le_trans la.ts (by decide))) (Nat.le_trans si (by decide))) (Sbs.refl _))) ?_
   refine rn ?_;refine rq 2 ?_
   exact ⟨rfl,congrArg bv (by rw [zxc aj];simp_all)⟩
theorem zy1 (h:Hist) (x:Int) (la:Lim 1000000 h):y8 Tryz.prog 260 [.agg (w6 h),iv x] [] (fun r h'=>h'= []∧r=bv (zov h x)):=by
 refine z6 Tryz.func260 rfl rfl rfl ?_
 refine rn ?_;refine z8 rfl (w9 rfl rfl rfl fun b2=> ?_)
 refine rn ?_;refine zcu (h.ords.length) (fun j:Nat=>h.ords.all (fun p:Ord=> !(p.o==x))=(h.ords.drop j).all (fun p:Ord=> !(p.o==x))) (fun j=> [(10,iv j)]) [(1,_),(2,_),(8,_),(9,_)] rfl ?_
 intro j lj zj
 refine rn ?_;refine z7 rfl (fun hc11=> ?_) (fun hc11=> ?_)
 ·have hj:=za4 hc11
  have rj:=zaj (f:=ze7) hj
  have bo:=la.ords
  refine rn ?_;refine z8 rfl (y4 rfl fun b6=> ?_)
  refine rn ?_;refine z7 rfl (fun hc17=> ?_) (fun hc17=> ?_)
  ·refine rn ?_;refine rq 2 ?_
   exact ⟨rfl,congrArg bv (by rw [ynk (zuj hj (by simpa using hc17))])⟩
  ·refine rn ?_;exact ⟨hj,zui hj zj (by simpa using hc17),eA⟩
 ·have qj:=za5 hc11 lj
  have aj:=zz9 qj zj
  refine rn ?_;refine qv rfl rfl (y1 rfl rfl (j4 (zif h x la) (Sbs.refl _))) ?_
  refine rn ?_;refine rq 1 ?_
  exact ⟨rfl,congrArg bv (by rw [ynl aj];simp;omega)⟩
theorem yg0 (h:Hist) (i:Nat) (hi:i < h.mats.length) (la:Lim 1000000 h):y8 Tryz.prog 261 [.agg (w6 h),iv i] [] (fun r h'=>h'= []∧r=bv (zj3 h i h.mats[i])):=by
 refine z6 Tryz.func261 rfl rfl rfl ?_
 have ri:=zaj (f:=zes) hi
 have bo:=la.mats
 have si:=la.matts h.mats[i] (List.getElem_mem hi)
 refine rn ?_;refine z8 rfl (w9 rfl rfl rfl fun b2=> ?_)
 refine rn ?_;refine z8 rfl (y4 rfl fun b5=> ?_)
 first|refine z8 rfl (j9 rfl rfl rfl ?_)|refine z8 rfl (zao rfl rfl rfl rfl (Nat.le_of_ble_eq_true rfl) ?_)
 refine u6 (zab ?_)
 refine w8 ?_;refine w8 (y3 ?_)
 refine q1 ?_;refine q1 ?_;refine q1 ?_;refine qq rfl rfl (zbc (k:=i) rfl rfl (by simp;omega)) ?_
 rw [←List.map_take]
 refine rn ?_;refine zcu ((h.mats.take i).length) (fun j:Nat=>(h.mats.take i).all (fun p:Mat=> !(p.p==h.mats[i].p && p.o==h.mats[i].o))=((h.mats.take i).drop j).all (fun p:Mat=> !(p.p==h.mats[i].p && p.o==h.mats[i].o))) (fun j=> [(18,iv j)]) [(2,_),(5,_),(16,_),(17,_)] rfl ?_
 intro j lj zj
 refine rn ?_;refine z7 rfl (fun hc19=> ?_) (fun hc19=> ?_)
 ·have hj:=za4 hc19
  have rj:=zaj (f:=zes) hj
  have bj:(h.mats.take i).length≤4611686018427387904:=by simp;omega
  refine rn ?_;refine z8 rfl (y4 rfl fun b7=> ?_)
  refine rn ?_;refine w7 (fun hg5_5=> ?_) (fun hg5_5=> ?_)
  ·refine rn ?_;refine z7 rfl (fun hc33=> ?_) (fun hc33=> ?_)
   ·refine rn ?_;refine rq 3 ?_
    exact ⟨rfl,congrArg bv (by rw [yh4 (zuj hj (by simp_all))])⟩
   ·refine rn ?_;exact ⟨hj,zui hj zj (by simp_all),eA⟩
  ·refine rn ?_;refine zff rfl ?_;refine rn ?_;exact ⟨hj,zui hj zj (by simp_all),eA⟩
 ·have qj:=za5 hc19 lj
  have aj:=zz9 qj zj
  refine rn ?_;refine k9 6 rfl ?_
  refine rn ?_;refine dv rfl rfl (by exact y1 rfl rfl (j4 (zif h h.mats[i].o la) (Sbs.refl _))) ?_
  refine rn ?_;refine qv rfl rfl (y1 rfl rfl (j4 (zu3 h.mats[i].ts (zbo h h.mats[i].o) (Nat.le_trans si (by decide)) (Nat.le_trans (zgs _ _) (Nat.le_trans la.ts (by decide)))) (Sbs.refl _))) ?_
  refine rn ?_;refine rq 2 ?_
  exact ⟨rfl,congrArg bv (by rw [yh5 aj])⟩
theorem yml (h:Hist) (i:Nat) (hi:i < h.wants.length) (la:Lim 1000000 h):y8 Tryz.prog 262 [.agg (w6 h),iv i] [] (fun r h'=>h'= []∧r=bv (zkk h i h.wants[i])):=by
 refine z6 Tryz.func262 rfl rfl rfl ?_
 have ri:=zaj (f:=zgq) hi
 have bo:=la.wants
 refine rn ?_;refine z8 rfl (w9 rfl rfl rfl fun b2=> ?_)
 refine q1 ?_;refine u6 (zab ?_)
 refine w8 ?_;refine w8 (y3 ?_)
 refine q1 ?_;refine q1 ?_;refine q1 ?_;refine qq rfl rfl (zbc (k:=i) rfl rfl (by simp;omega)) ?_
 rw [←List.map_take]
 refine rn ?_;refine zcu ((h.wants.take i).length) (fun j:Nat=>(h.wants.take i).all (fun p:Wan=> !(p.s==h.wants[i].s))=((h.wants.take i).drop j).all (fun p:Wan=> !(p.s==h.wants[i].s))) (fun j=> [(14,iv j)]) [(1,_),(2,_),(12,_),(13,_)] rfl ?_
 intro j lj zj
 refine rn ?_;refine z7 rfl (fun hc15=> ?_) (fun hc15=> ?_)
 ·have hj:=za4 hc15
  have rj:=zaj (f:=zgq) hj
  have bj:(h.wants.take i).length≤4611686018427387904:=by simp;omega
  refine rn ?_;refine z8 rfl (y4 rfl fun b6=> ?_)
  refine rn ?_;refine k9 8 rfl ?_
  refine rn ?_;refine z7 rfl (fun hc26=> ?_) (fun hc26=> ?_)
  ·refine rn ?_;refine rq 2 ?_
   exact ⟨rfl,congrArg bv (by rw [ylc (zuj hj (by simpa using hc26))])⟩
  ·refine rn ?_;exact ⟨hj,zui hj zj (by simpa using hc26),eA⟩
 ·have qj:=za5 hc15 lj
  have aj:=zz9 qj zj
  refine rn ?_;refine zcu (h.evs.length) (fun k:Nat=>h.evs.all (fun e:Ev=> !(e.kind==1 && e.s==h.wants[i].s))=(h.evs.drop k).all (fun e:Ev=> !(e.kind==1 && e.s==h.wants[i].s))) (fun k=> [(31,iv k)]) [(1,_),(2,_),(29,_),(30,_)] rfl ?_
  intro k lk zk
  refine rn ?_;refine z7 rfl (fun hc32=> ?_) (fun hc32=> ?_)
  ·have hk:=za4 hc32
   have rk:=zaj (f:=evR) hk
   have bk:=la.evs
   refine rn ?_;refine z8 rfl (y4 rfl fun b8=> ?_)
   refine rn ?_;refine k9 12 rfl ?_
   refine rn ?_;refine zde (fun hg10_3=> ?_) (fun hg10_3=> ?_)
   ·refine rn ?_;refine z7 rfl (fun hc48=> ?_) (fun hc48=> ?_)
    ·refine rn ?_;refine rq 2 ?_
     exact ⟨rfl,congrArg bv (by rw [yal aj (zuj hk (by simp_all))])⟩
    ·refine rn ?_;exact ⟨hk,zui hk zk (by simp_all),eA⟩
   ·refine rn ?_;refine zff rfl ?_;refine rn ?_;exact ⟨hk,zui hk zk (by simp_all),eA⟩
  ·have qk:=za5 hc32 lk
   have ak:=zz9 qk zk
   refine rn ?_;refine rq 1 ?_
   exact ⟨rfl,congrArg bv (by rw [yal aj ak])⟩
theorem ybu (e:Ev):y8 Tryz.prog 278 [.agg (evR e)] [] (fun r h'=>h'= []∧r=zfq (j5 e)):=by
 refine z6 Tryz.func278 rfl rfl rfl ?_
 refine rn ?_;refine z8 rfl (w9 rfl rfl rfl fun b1=> ?_)
 refine rn ?_;refine z7 rfl (fun hc5=> ?_) (fun hc5=> ?_)
 ·refine rn ?_;refine qv rfl rfl (q6 rfl rfl) ?_
  refine rn ?_;exact k8 rfl (.trans (.drop [_] _ _) (.le Sb.unfull.le)) ⟨rfl,by rw [j5,if_pos (by simpa using hc5)];rfl⟩
 ·refine rn ?_;refine rq 1 ?_
  exact ⟨rfl,by rw [j5,if_neg (by simpa using hc5)];rfl⟩
theorem zw6 (l:List Ev) (t x:Int) (la:l.length≤1000000):y8 Tryz.prog 277 [zre l,iv t,iv x] [] (fun r h'=>h'= []∧r=zre (zc0 l t x)):=by
 refine z6 Tryz.func277 rfl rfl rfl ?_
 refine w8 (y3 ?_)
 refine rn0 ?_;refine w8 (y3 ?_)
 refine rn0 ?_;refine w8 ?_;refine w8 ?_;refine zfb (zam 9 60) ?_
 refine rn ?_;refine zem l.length (fun k s=>⟨[(12,iv k),(7,.v s.v),(1,iv t),(2,iv x),(10,zre l),(11,iv (l.map evR).length)],.row s.v 9 60 ((zc0 (l.take k) t x).map evR):: [],[]⟩) ⟨none,0,0⟩ es ?_
 intro k s lk
 refine rn ?_;refine z7 rfl (fun hc13=> ?_) (fun hc13=> ?_)
 ·have hk:=za4 hc13
  have rk:=zaj (f:=evR) hk
  refine rn ?_;refine z8 rfl (y4 rfl fun b9=> ?_)
  refine rn ?_;refine w7 (fun hg5_3=> ?_) (fun hg5_3=> ?_)
  ·refine rn ?_;refine w7 (fun hg5_9=> ?_) (fun hg5_9=> ?_)
   ·refine rn ?_;refine z7 rfl (fun hc30=> ?_) (fun hc30=> ?_)
    ·refine rn ?_;refine qv rfl rfl (q6 rfl rfl) ?_
     refine z8 rfl (q7 rfl rfl (by simp only [oM];have:=yfs l t x k;simp;omega) rfl (fun s34=> ?_) (ykc [l[k]]))
     refine j3 s34 fun sv hsv=> ?_
     subst hsv
     refine rn ?_;first|exact ⟨hk,sv,by rw [zp8 hk (by simp_all),List.map_append];exact eA⟩|exact ⟨hk,s,by rw [zp9 hk (by simp_all)];exact eA⟩
    ·refine rn ?_;first|exact ⟨hk,sv,by rw [zp8 hk (by simp_all),List.map_append];exact eA⟩|exact ⟨hk,s,by rw [zp9 hk (by simp_all)];exact eA⟩
   ·refine rn ?_;refine zff rfl ?_;refine rn ?_;first|exact ⟨hk,sv,by rw [zp8 hk (by simp_all),List.map_append];exact eA⟩|exact ⟨hk,s,by rw [zp9 hk (by simp_all)];exact eA⟩
  ·refine rn ?_;refine zff rfl ?_;refine rn ?_;first|exact ⟨hk,sv,by rw [zp8 hk (by simp_all),List.map_append];exact eA⟩|exact ⟨hk,s,by rw [zp9 hk (by simp_all)];exact eA⟩
 ·have qk:=za5 hc13 lk
  refine rn ?_;exact k8 rfl zcw ⟨rfl,by rw [qk,List.take_length];rfl⟩
theorem bvz2_4546 {a b:Bool} (h:a=b:=by subst e1;show _=(zhj l e.t && e.kind==1|| !zhj l e.t && e.kind !=1);rw [←zB];clear zb zo zB zO;simp_all):bv a=bv b:=congrArg bv h
theorem zy3 (rl:Nat) (e:Ev) (l:List Ev) (h1:1≤rl) (h6:rl≤6) (la:l.length≤1000000) (hl:e.scan.length≤1000000):y8 Tryz.prog 263 [iv rl,.agg (evR e),zre l] [] (fun r h'=>h'= []∧r=bv (zdo rl e l)):=by
 refine z6 Tryz.func263 rfl rfl rfl ?_
 refine rn ?_;refine z8 rfl (w9 rfl rfl rfl fun b4=> ?_)
 refine rn ?_;refine zwc l.length (fun j x=>x.1=(l.take j).any (fun y:Ev=>y.t==e.t && y.kind==1)∧x.2=(l.take j).any (fun y:Ev=>y.t==e.t && (y.kind==5||y.kind==6))) (fun j x=> [(21,iv j),(7,bv x.1),(8,bv x.2)]) [(0,_),(2,_),(4,_),(19,_),(20,_)] (false,false) ⟨rfl,rfl⟩ ?_
 rintro j ⟨bg,ov⟩ lj ⟨zb,zo⟩
 refine rn ?_;refine z7 rfl (fun hc22=> ?_) (fun hc22=> ?_)
 ·have hj:=za4 hc22
  have rj:=zaj (f:=evR) hj
  refine rn ?_;refine z8 rfl (y4 rfl fun b10=> ?_)
  refine rn ?_;refine z7 rfl (fun hc29=> ?_) (fun hc29=> ?_)
  ·refine rn ?_;refine w7 (fun hg6_1=> ?_) (fun hg6_1=> ?_)
   ·refine rn ?_;refine w7 (fun hg7_1=> ?_) (fun hg7_1=> ?_)
    ·refine rn ?_;refine ⟨hj,(_,_),?_,eA⟩
     rw [za9 hj,za9 hj]
     generalize (l.take j).any (fun y:Ev=>y.t==e.t && y.kind==1)=A at *
     generalize (l.take j).any (fun y:Ev=>y.t==e.t && (y.kind==5||y.kind==6))=B at *
     simp_all
    ·refine rn ?_;refine w7 (fun hg7_6=> ?_) (fun hg7_6=> ?_)
     ·refine rn ?_;refine ⟨hj,(_,_),?_,eA⟩
      rw [za9 hj,za9 hj]
      generalize (l.take j).any (fun y:Ev=>y.t==e.t && y.kind==1)=A at *
      generalize (l.take j).any (fun y:Ev=>y.t==e.t && (y.kind==5||y.kind==6))=B at *
      simp_all
     ·refine rn ?_;refine ⟨hj,(_,_),?_,eA⟩
      rw [za9 hj,za9 hj]
      generalize (l.take j).any (fun y:Ev=>y.t==e.t && y.kind==1)=A at *
      generalize (l.take j).any (fun y:Ev=>y.t==e.t && (y.kind==5||y.kind==6))=B at *
      simp_all
   ·refine rn ?_;refine w7 (fun hg7_1=> ?_) (fun hg7_1=> ?_)
    ·refine rn ?_;refine ⟨hj,(_,_),?_,eA⟩
     rw [za9 hj,za9 hj]
     generalize (l.take j).any (fun y:Ev=>y.t==e.t && y.kind==1)=A at *
     generalize (l.take j).any (fun y:Ev=>y.t==e.t && (y.kind==5||y.kind==6))=B at *
     simp_all
    ·refine rn ?_;refine w7 (fun hg7_6=> ?_) (fun hg7_6=> ?_)
     ·refine rn ?_;refine ⟨hj,(_,_),?_,eA⟩
      rw [za9 hj,za9 hj]
      generalize (l.take j).any (fun y:Ev=>y.t==e.t && y.kind==1)=A at *
      generalize (l.take j).any (fun y:Ev=>y.t==e.t && (y.kind==5||y.kind==6))=B at *
      simp_all
     ·refine rn ?_;refine ⟨hj,(_,_),?_,eA⟩
      rw [za9 hj,za9 hj]
      generalize (l.take j).any (fun y:Ev=>y.t==e.t && y.kind==1)=A at *
      generalize (l.take j).any (fun y:Ev=>y.t==e.t && (y.kind==5||y.kind==6))=B at *
      simp_all
  ·refine rn ?_;refine ⟨hj,(_,_),?_,eA⟩
   rw [za9 hj,za9 hj]
   generalize (l.take j).any (fun y:Ev=>y.t==e.t && y.kind==1)=A at *
   generalize (l.take j).any (fun y:Ev=>y.t==e.t && (y.kind==5||y.kind==6))=B at *
   simp_all
 ·have qj:=za5 hc22 lj
  have zB:bg=zhj l e.t:=by rw [ye0,zyd];simpa [qj] using zb
  have zO:ov=zs2 l e.t:=by rw [zs2];simpa [qj] using zo
  refine rn ?_;refine z7 rfl (fun hc49=> ?_) (fun hc49=> ?_)
  ·have e1:rl=1:=by have h:=hc49;simp at h;omega
   refine rn ?_;refine w7 (fun hg11_1=> ?_) (fun hg11_1=> ?_)
   ·refine rn ?_;refine w7 (fun hg11_6=> ?_) (fun hg11_6=> ?_)
    ·refine rn ?_;refine rq 1 ?_
     exact ⟨rfl,bvz2_4546⟩
    ·refine rn ?_;refine w7 (fun hg11_9=> ?_) (fun hg11_9=> ?_)
     ·refine rn ?_;refine rq 1 ?_
      exact ⟨rfl,bvz2_4546⟩
     ·refine rn ?_;refine rq 1 ?_
      exact ⟨rfl,bvz2_4546⟩
   ·refine rn ?_;refine w7 (fun hg11_9=> ?_) (fun hg11_9=> ?_)
    ·refine rn ?_;refine rq 1 ?_
     exact ⟨rfl,bvz2_4546⟩
    ·refine rn ?_;refine rq 1 ?_
     exact ⟨rfl,bvz2_4546⟩
  ·have n1:rl≠1:=by intro h;subst h;exact absurd hc49 (by decide)
   refine rn ?_;refine z7 rfl (fun hc66=> ?_) (fun hc66=> ?_)
   ·have e2:rl=2:=by have h:=hc66;simp at h;omega
    refine rn ?_;refine rq 1 ?_
    exact ⟨rfl,congrArg bv (by subst e2;show _=zs2 l e.t;rw [←zO])⟩
   ·have n2:rl≠2:=by intro h;subst h;exact absurd hc66 (by decide)
    refine rn ?_;refine z7 rfl (fun hc69=> ?_) (fun hc69=> ?_)
    ·have e3:rl=3:=by have h:=hc69;simp at h;omega
     refine rn ?_;refine k9 15 rfl ?_
     refine rn ?_;refine zde (fun hg15_3=> ?_) (fun hg15_3=> ?_)
     ·refine rn ?_;refine dv rfl rfl (by exact y1 rfl rfl (j4 (zw6 l e.t e.o la) (Sbs.refl _))) ?_
      refine dq rfl rfl qrA ?_;first|refine ds rfl rfl ?_|refine dq rfl rfl (zcb rfl rfl rfl (by rw [oM];have:=zhn l e.t e.o;omega)) ?_
      refine rn ?_;refine rq 1 ?_
      exact ⟨rfl,congrArg bv (by subst e3;simp_all [zdo])⟩
     ·refine rn ?_;refine rq 1 ?_
      exact ⟨rfl,congrArg bv (by subst e3;simp_all [zdo])⟩
    ·have n3:rl≠3:=by intro h;subst h;exact absurd hc69 (by decide)
     refine rn ?_;refine qv rfl rfl (y1 rfl rfl (j4 (ybu e) (Sbs.refl _))) ?_
     refine rn ?_;refine zcu ((j5 e).length) (fun k:Nat=>OkS rl e l k) (fun k=> [(91,iv k)]) [(0,_),(2,_),(4,_),(89,_),(90,_)] (fun i _ h=>absurd h (Nat.not_lt_zero _)) ?_
     intro k lk zk
     refine rn ?_;refine z7 rfl (fun hc92=> ?_) (fun hc92=> ?_)
     ·have hk:=za4 hc92
      have rk:=zaj (f:=zaq) hk
      have sl:=zkn (e:=e) (Nat.le_trans hl (by decide))
      refine rn ?_;refine z8 rfl (y4 rfl fun b12=> ?_)
      refine rn ?_;refine qv rfl rfl (y1 rfl rfl (j4 (zw6 l e.t (j5 e)[k].o la) (Sbs.refl _))) ?_
      refine rn ?_;refine zwc l.length (fun m x=>x=((j5 e)[k].v.k==0||(l.take m).any (fun y:Ev=>y.kind==2 && y.o==(j5 e)[k].o && y.v==(j5 e)[k].v))) (fun m x=> [(108,iv m),(14,bv x)]) [(0,_),(2,_),(4,_),(11,_),(12,_),(13,_),(89,_),(90,_),(91,_),(106,_),(107,_)] ((j5 e)[k].v.k==0) (by simp) ?_
      intro m th lm zm
      refine rn ?_;refine z7 rfl (fun hc109=> ?_) (fun hc109=> ?_)
      ·have hm:=za4 hc109
       have rm:=zaj (f:=evR) hm
       refine rn ?_;refine z8 rfl (y4 rfl fun b16=> ?_)
       refine rn ?_;refine w7 (fun hg24_1=> ?_) (fun hg24_1=> ?_)
       ·refine rn ?_;refine ⟨hm,_,?_,eA⟩
        try rw [zcv]
        rw [za9 hm]
        generalize (l.take m).any (fun y:Ev=>y.kind==2 && y.o==(j5 e)[k].o && y.v==(j5 e)[k].v)=A at *
        generalize ((j5 e)[k].v.k==0)=B at *
        generalize (l[m].v==(j5 e)[k].v)=D at *
        cases A <;> cases B <;> simp_all
       ·refine rn ?_;refine w7 (fun hg24_5=> ?_) (fun hg24_5=> ?_)
        ·refine rn ?_;refine w7 (fun hg24_12=> ?_) (fun hg24_12=> ?_)
         ·refine rn ?_;refine ⟨hm,_,?_,eA⟩
          try rw [zcv]
          rw [za9 hm]
          generalize (l.take m).any (fun y:Ev=>y.kind==2 && y.o==(j5 e)[k].o && y.v==(j5 e)[k].v)=A at *
          generalize ((j5 e)[k].v.k==0)=B at *
          generalize (l[m].v==(j5 e)[k].v)=D at *
          cases A <;> cases B <;> simp_all
         ·refine rn ?_;refine ⟨hm,_,?_,eA⟩
          try rw [zcv]
          rw [za9 hm]
          generalize (l.take m).any (fun y:Ev=>y.kind==2 && y.o==(j5 e)[k].o && y.v==(j5 e)[k].v)=A at *
          generalize ((j5 e)[k].v.k==0)=B at *
          generalize (l[m].v==(j5 e)[k].v)=D at *
          cases A <;> cases B <;> simp_all
        ·refine rn ?_;refine ⟨hm,_,?_,eA⟩
         try rw [zcv]
         rw [za9 hm]
         generalize (l.take m).any (fun y:Ev=>y.kind==2 && y.o==(j5 e)[k].o && y.v==(j5 e)[k].v)=A at *
         generalize ((j5 e)[k].v.k==0)=B at *
         generalize (l[m].v==(j5 e)[k].v)=D at *
         cases A <;> cases B <;> simp_all
      ·have qm:=za5 hc109 lm
       have zT:th=((j5 e)[k].v.k==0||zfo l (j5 e)[k].o (j5 e)[k].v):=by rw [zm,qm,List.take_length];rfl
       refine rn ?_;refine z7 rfl (fun hc134=> ?_) (fun hc134=> ?_)
       ·have e4:rl=4:=by have h:=hc134;simp at h;omega
        refine rn ?_;refine z7 rfl (fun hc137=> ?_) (fun hc137=> ?_)
        ·refine rn ?_;refine rq 2 ?_
         exact ⟨rfl,congrArg bv (by subst e4;rw [zqa (by omega) hk (by show (!((j5 e)[k].v.k==0||zfo l (j5 e)[k].o (j5 e)[k].v))=true;rw [←zT];exact hc137)])⟩
        ·refine rn ?_;exact ⟨hk,ycs hk zk (by first|(subst e4;show (!((j5 e)[k].v.k==0||zfo l (j5 e)[k].o (j5 e)[k].v))=false;rw [←zT];exact hc137)|(subst e5;rw [zko hw1,bne,←zcv];exact hc154)|(subst e5;exact zm7 hg31_3)|(subst e6;show ((j5 e).take k).any _=false;rw [zfi,au];rfl)|(exfalso;omega)),eA⟩
       ·have n4:rl≠4:=by intro h;subst h;exact absurd hc134 (by decide)
        refine rn ?_;refine z7 rfl (fun hc138=> ?_) (fun hc138=> ?_)
        ·have e5:rl=5:=by have h:=hc138;simp at h;omega
         refine rn ?_;refine k9 13 rfl ?_
         refine rn ?_;refine zde (fun hg31_3=> ?_) (fun hg31_3=> ?_)
         ·try obtain ⟨w,hw1,hw2,hw3⟩:=zxl hg31_3
          refine dq rfl rfl qrA ?_;refine dq rfl rfl qrA ?_;refine dq rfl rfl qrA ?_;first|refine ds rfl rfl ?_|refine dq rfl rfl (zcb rfl rfl rfl (by rw [oM];have:=zhn l e.t (j5 e)[k].o;omega)) ?_
          first|refine ds rfl rfl ?_|refine dq rfl rfl (zax rfl rfl hw3 hw2) ?_
          refine rn ?_;refine z7 rfl (fun hc154=> ?_) (fun hc154=> ?_)
          ·refine rn ?_;refine rq 2 ?_
           exact ⟨rfl,congrArg bv (by subst e5;rw [zqa (by omega) hk (by rw [zko hw1,bne,←zcv];exact hc154)])⟩
          ·refine rn ?_;exact ⟨hk,ycs hk zk (by first|(subst e4;show (!((j5 e)[k].v.k==0||zfo l (j5 e)[k].o (j5 e)[k].v))=false;rw [←zT];exact hc137)|(subst e5;rw [zko hw1,bne,←zcv];exact hc154)|(subst e5;exact zm7 hg31_3)|(subst e6;show ((j5 e).take k).any _=false;rw [zfi,au];rfl)|(exfalso;omega)),eA⟩
         ·try obtain ⟨w,hw1,hw2,hw3⟩:=zxl hg31_3
          refine rn ?_;refine zff rfl ?_;refine rn ?_;exact ⟨hk,ycs hk zk (by first|(subst e4;show (!((j5 e)[k].v.k==0||zfo l (j5 e)[k].o (j5 e)[k].v))=false;rw [←zT];exact hc137)|(subst e5;rw [zko hw1,bne,←zcv];exact hc154)|(subst e5;exact zm7 hg31_3)|(subst e6;show ((j5 e).take k).any _=false;rw [zfi,au];rfl)|(exfalso;omega)),eA⟩
        ·have n5:rl≠5:=by intro h;subst h;exact absurd hc138 (by decide)
         refine rn ?_;refine z7 rfl (fun hc155=> ?_) (fun hc155=> ?_)
         ·have e6:rl=6:=by have h:=hc155;simp at h;omega
          refine rn ?_;refine qv rfl rfl (y1 rfl rfl (j4 (ybu e) (Sbs.refl _))) ?_
          refine q1 ?_;refine qq rfl rfl (zbc (k:=k) rfl rfl (by simp;omega)) ?_
          rw [←List.map_take]
          refine rn ?_;refine zcu (((j5 e).take k).length) (fun u:Nat=>((j5 e).take k).all (fun p:Seen=> !(p.o==(j5 e)[k].o))=(((j5 e).take k).drop u).all (fun p:Seen=> !(p.o==(j5 e)[k].o))) (fun u=> [(162,iv u)]) [(0,_),(2,_),(4,_),(12,_),(89,_),(90,_),(91,_),(160,_),(161,_)] rfl ?_
          intro u lu zu
          refine rn ?_;refine z7 rfl (fun hc163=> ?_) (fun hc163=> ?_)
          ·have hu:=za4 hc163
           have ru:=zaj (f:=zaq) hu
           have bu:((j5 e).take k).length≤4611686018427387904:=by simp;omega
           refine rn ?_;refine z8 rfl (y4 rfl fun b18=> ?_)
           refine rn ?_;refine z7 rfl (fun hc170=> ?_) (fun hc170=> ?_)
           ·refine rn ?_;refine rq 3 ?_
            exact ⟨rfl,congrArg bv (by subst e6;rw [zqa (by omega) hk (by show ((j5 e).take k).any _=true;rw [zfi,zuj hu (by simpa using hc170)];rfl)])⟩
           ·refine rn ?_;exact ⟨hu,zui hu zu (by simpa using hc170),eA⟩
          ·have qu:=za5 hc163 lu
           have au:=zz9 qu zu
           refine rn ?_;exact ⟨hk,ycs hk zk (by first|(subst e4;show (!((j5 e)[k].v.k==0||zfo l (j5 e)[k].o (j5 e)[k].v))=false;rw [←zT];exact hc137)|(subst e5;rw [zko hw1,bne,←zcv];exact hc154)|(subst e5;exact zm7 hg31_3)|(subst e6;show ((j5 e).take k).any _=false;rw [zfi,au];rfl)|(exfalso;omega)),eA⟩
         ·have n6:rl≠6:=by intro h;subst h;exact absurd hc155 (by decide)
          refine rn ?_;exact ⟨hk,ycs hk zk (by first|(subst e4;show (!((j5 e)[k].v.k==0||zfo l (j5 e)[k].o (j5 e)[k].v))=false;rw [←zT];exact hc137)|(subst e5;rw [zko hw1,bne,←zcv];exact hc154)|(subst e5;exact zm7 hg31_3)|(subst e6;show ((j5 e).take k).any _=false;rw [zfi,au];rfl)|(exfalso;omega)),eA⟩
     ·have qk:=za5 hc92 lk
      refine rn ?_;refine rq 1 ?_
      exact ⟨rfl,congrArg bv (by rw [yfu (by omega) (qk ▸ zk)])⟩
theorem yb0 (h:Hist) (rl i:Nat) (h1:1≤rl) (h10:rl≤10) (hi:i < zg4 h rl) (la:Lim 1000000 h):y8 Tryz.prog 217 [.agg (w6 h),iv rl,iv i] [] (fun r h'=>h'= []∧r=bv (zhe h rl i)):=by
 refine z6 Tryz.func217 rfl rfl rfl ?_
 refine rn ?_;refine z8 rfl (w9 rfl rfl rfl fun b3=> ?_)
 refine rn ?_;refine z7 rfl (fun hc8=> ?_) (fun hc8=> ?_)
 ·obtain rfl:rl=7:=by have q:=hc8;simp at q;omega
  have hi2:i < h.ords.length:=hi
  refine rn ?_;refine qv rfl rfl (y1 rfl rfl (j4 (ygz h i hi2 la) (Sbs.refl _))) ?_
  refine rn ?_;refine rq 1 ?_
  exact ⟨rfl,congrArg bv (by exact (zl1 hi2).symm)⟩
 ·have n7:rl≠7:=by intro q;subst q;exact absurd hc8 (by decide)
  refine rn ?_;refine z7 rfl (fun hc13=> ?_) (fun hc13=> ?_)
  ·obtain rfl:rl=8:=by have q:=hc13;simp at q;omega
   have hi2:i < h.os.length:=hi
   refine rn ?_;refine qv rfl rfl (y1 rfl rfl (j4 (zy1 h i la) (Sbs.refl _))) ?_
   refine rn ?_;refine rq 1 ?_
   exact ⟨rfl,congrArg bv (by exact (zl1 (w:=fun x _=>zov h (x:Int)) hi2).symm)⟩
  ·have n8:rl≠8:=by intro q;subst q;exact absurd hc13 (by decide)
   refine rn ?_;refine z7 rfl (fun hc18=> ?_) (fun hc18=> ?_)
   ·obtain rfl:rl=9:=by have q:=hc18;simp at q;omega
    have hi2:i < h.mats.length:=hi
    refine rn ?_;refine qv rfl rfl (y1 rfl rfl (j4 (yg0 h i hi2 la) (Sbs.refl _))) ?_
    refine rn ?_;refine rq 1 ?_
    exact ⟨rfl,congrArg bv (by exact (zl1 hi2).symm)⟩
   ·have n9:rl≠9:=by intro q;subst q;exact absurd hc18 (by decide)
    refine rn ?_;refine z7 rfl (fun hc23=> ?_) (fun hc23=> ?_)
    ·obtain rfl:rl=10:=by have q:=hc23;simp at q;omega
     have hi2:i < h.wants.length:=hi
     refine rn ?_;refine qv rfl rfl (y1 rfl rfl (j4 (yml h i hi2 la) (Sbs.refl _))) ?_
     refine rn ?_;refine rq 1 ?_
     exact ⟨rfl,congrArg bv (by exact (zl1 hi2).symm)⟩
    ·have n10:rl≠10:=by intro q;subst q;exact absurd hc23 (by decide)
     have hi2:i < h.evs.length:=by rw [←yc4 n7 n8 n9 n10];exact hi
     have ri:=zaj (f:=evR) hi2
     have be:=la.evs
     have sc:=la.scans h.evs[i] (List.getElem_mem hi2)
     refine rn ?_;refine k9 10 rfl ?_
     refine dq rfl rfl qrA ?_;refine dq rfl rfl qrA ?_;refine dq rfl rfl qrA ?_;refine dq rfl rfl qrA ?_;refine dq rfl rfl qrA ?_;refine dq rfl rfl qrA ?_;refine dq rfl rfl qrA ?_;refine dq rfl rfl qrA ?_;refine dq rfl rfl qrA ?_;refine dq rfl rfl (zbc (k:=i) rfl rfl (by simp;omega)) ?_
     rw [←List.map_take]
     refine rn ?_;refine qv rfl rfl (y1 rfl rfl (j4 (zy3 rl h.evs[i] (h.evs.take i) h1 (by omega) (by simp;omega) sc) (Sbs.refl _))) ?_
     refine rn ?_;refine rq 1 ?_
     exact ⟨rfl,congrArg bv (by rw [yeu n7 n8 n9 n10,zl1 hi2])⟩
end Go.Proofs
