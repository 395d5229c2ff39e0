/- The walks of session's asked, between. Conditions: none. -/
import Derived.Test.YtcaijocpofcbdaaGreatDoorGBaI
set_option maxHeartbeats 4000000
set_option linter.unusedSectionVars false
set_option linter.unusedSimpArgs false
set_option linter.unusedVariables false
set_option maxRecDepth 10000
namespace Go.Proofs
open Go Go.Ab
attribute [local irreducible] QR QV OE zca aw zcu zbh za3 zam thn ze6 zdj jch zeh
open Go.H
abbrev yba:AV:= .fn (.func 244) [] []
abbrev ya9:AV:= .fn (.func 248) [] []
def x6:List AV:= [iv 1,yba,ya9,iv 2,ya9,ya9,iv 4,yba,yba,iv 8,ya9,yba]
def zdu (k:Nat):Int:=if k=0 then 1 else if k=1 then 2 else if k=2 then 4 else 8
def gFn (k:Nat):Nat:=if k=0∨k=2 then 244 else 248
def gSn (k:Nat):Nat:=if k=0∨k=1 then 248 else 244
abbrev ylg (k:Nat):AV:= .fn (.func (gFn k)) [] []
abbrev ylf (k:Nat):AV:= .fn (.func (gSn k)) [] []
abbrev zs8 (k:Nat):List AV:= [iv (zdu k),ylg k,ylf k]
theorem yft {k:Nat} (hk:k < 4):(x6.drop (k * 3)).take 3=zs8 k:=by
 rcases (by omega:k=0∨k=1∨k=2∨k=3) with rfl|rfl|rfl|rfl <;> rfl
def zc5 (k:Nat) (d:Dos):List Acc:=if k=0∨k=2 then d.B else d.A
def zf5 (k:Nat) (d:Dos):List Acc:=if k=0∨k=1 then d.A else d.B
def giK (g:Int):Nat→Int
 |0=> -1
 |k+1=>if zdu k=g then (k:Int) else giK g k
def znm (g:Int):Int:=if g=1 then 0 else if g=2 then 1 else if g=4 then 2 else if g=8 then 3 else -1
theorem yoi (g:Int):giK g 4=znm g:=by
 simp only [giK,zdu,znm]
 by_cases h1:g=1
 ·subst h1;decide
 by_cases h2:g=2
 ·subst h2;decide
 by_cases h3:g=4
 ·subst h3;decide
 by_cases h4:g=8
 ·subst h4;decide
 simp [h1,h2,h3,h4,Ne.symm h1,Ne.symm h2,Ne.symm h3,Ne.symm h4]
theorem yjw {g:Int} (h:¬znm g < 0):∃k,k < 4∧znm g=(k:Nat)∧zdu k=g:=by
 rw [znm] at h ⊢
 split
 ·exact ⟨0,by decide,rfl,by rename_i e;rw [e];rfl⟩
 ·split
  ·exact ⟨1,by decide,rfl,by rename_i e;rw [e];rfl⟩
  ·split
   ·exact ⟨2,by decide,rfl,by rename_i e;rw [e];rfl⟩
   ·split
    ·exact ⟨3,by decide,rfl,by rename_i e;rw [e];rfl⟩
    ·exfalso;simp_all
def zlp (h:Hist) (s g:Int):Int:=if zds h s≠0 then zds h s else if znm g < 0 then 2 else 0
def ycy (h:Hist) (s g:Int):List Dos:=if zlp h s g=0 then zaa h s else []
def ycz (h:Hist) (s g:Int):Int:=if zlp h s g=0 then znm g else 0
theorem zn1 {h:Hist} {s g:Int} (he:zds h s≠0):zlp h s g=zds h s∧ycy h s g= []∧ycz h s g=0:=by
 have:zlp h s g=zds h s:=if_pos he
 exact ⟨this,by rw [ycy,this,if_neg he],by rw [ycz,this,if_neg he]⟩
theorem zn0 {h:Hist} {s g:Int} (he:zds h s=0) (hg:znm g < 0):zlp h s g=2∧ycy h s g= []∧ycz h s g=0:=by
 have:zlp h s g=2:=by rw [zlp,if_neg (by simpa using he),if_pos hg]
 exact ⟨this,by rw [ycy,this,if_neg (by decide)],by rw [ycz,this,if_neg (by decide)]⟩
theorem zij {h:Hist} {s g:Int} (he:zds h s=0) (hg:¬znm g < 0):zlp h s g=0∧ycy h s g=zaa h s∧ycz h s g=znm g:=by
 have:zlp h s g=0:=by rw [zlp,if_neg (by simpa using he),if_neg hg]
 exact ⟨this,by rw [ycy,this,if_pos rfl],by rw [ycz,this,if_pos rfl]⟩
def zig (k:Nat) (e l:Dos):List Brch:=(zc5 k e).flatMap fun a=>(zf5 k l).filterMap (brk (zdu k) e.t l.t a)
theorem ym9 {g t1 t2:Int} {a b:Acc} (h1:(a.o==b.o)=true) (h2:decide (b.r < a.r)=true):brk g t1 t2 a b=some ⟨g,t1,t2,a.o,a.a,b.a⟩:=by rw [brk,h1,h2];rfl
theorem zx6 {g t1 t2:Int} {a b:Acc} (h1:(a.o==b.o)=false):brk g t1 t2 a b=none:=by rw [brk,h1];rfl
theorem zx5 {g t1 t2:Int} {a b:Acc} (h2:decide (b.r < a.r)=false):brk g t1 t2 a b=none:=by rw [brk,h2,Bool.and_false];rfl
theorem yfx {α β:Type} {f:α→Option β} {l:List α} {k:Nat} {b:β} (hk:k < l.length) (h:f l[k]=some b):(l.take (k+1)).filterMap f=(l.take k).filterMap f++ [b]:=by
 rw [List.take_succ_eq_append_getElem hk,List.filterMap_append];simp [h]
theorem zxl {α β:Type} {f:α→Option β} {l:List α} {k:Nat} (hk:k < l.length) (h:f l[k]=none):(l.take (k+1)).filterMap f=(l.take k).filterMap f:=by
 rw [List.take_succ_eq_append_getElem hk,List.filterMap_append];simp [h]
def zrw (k:Nat) (e l:Dos) (i:Nat):List Brch:=((zc5 k e).take i).flatMap fun a=>(zf5 k l).filterMap (brk (zdu k) e.t l.t a)
theorem ykm {k i:Nat} {e l:Dos} (hi:i < (zc5 k e).length):zrw k e l (i+1)=zrw k e l i++(zf5 k l).filterMap (brk (zdu k) e.t l.t (zc5 k e)[i]):=by
 rw [zrw,List.take_succ_eq_append_getElem hi,List.flatMap_append];simp [zrw]
theorem ygb {k i j:Nat} {e l:Dos} {d:Brch} (hi:i < (zc5 k e).length) (hj:j < (zf5 k l).length) (hd:brk (zdu k) e.t l.t (zc5 k e)[i] (zf5 k l)[j]=some d):
 ∃rest,zig k e l=(zrw k e l i++((zf5 k l).take j).filterMap (brk (zdu k) e.t l.t (zc5 k e)[i]))++d::rest:=by
 have e1:(zf5 k l).filterMap (brk (zdu k) e.t l.t (zc5 k e)[i])=((zf5 k l).take j).filterMap (brk (zdu k) e.t l.t (zc5 k e)[i])++d::((zf5 k l).drop (j+1)).filterMap (brk (zdu k) e.t l.t (zc5 k e)[i]):=by
  conv=>lhs;rw [←List.take_append_drop j (zf5 k l),List.drop_eq_getElem_cons hj]
  rw [List.filterMap_append,List.filterMap_cons,hd]
 refine ⟨((zf5 k l).drop (j+1)).filterMap (brk (zdu k) e.t l.t (zc5 k e)[i])++((zc5 k e).drop (i+1)).flatMap (fun a=>(zf5 k l).filterMap (brk (zdu k) e.t l.t a)),?_⟩
 rw [zig]
 conv=>lhs;rw [←List.take_append_drop i (zc5 k e),List.drop_eq_getElem_cons hi]
 rw [List.flatMap_append,List.flatMap_cons,e1,zrw]
 simp [List.append_assoc]
theorem zvy (d:Dos):y9 Tryz.prog 244 [.agg (zb1 d)] [] (fun r h'=>h'= []∧r=zf3 d.B):=by
 refine z6 Tryz.func244 rfl rfl rfl ?_
 refine rn ?_;refine z7 rfl (x9 rfl rfl rfl fun b1=> ?_)
 refine rn ?_;refine rq 1 ?_
 exact ⟨rfl,rfl⟩
theorem zvw (d:Dos):y9 Tryz.prog 248 [.agg (zb1 d)] [] (fun r h'=>h'= []∧r=zf3 d.A):=by
 refine z6 Tryz.func248 rfl rfl rfl ?_
 refine rn ?_;refine z7 rfl (x9 rfl rfl rfl fun b1=> ?_)
 refine rn ?_;refine rq 1 ?_
 exact ⟨rfl,rfl⟩
theorem zs9 (k:Nat) (d:Dos):y3 Tryz.prog (ylg k) [.agg (zb1 d)] [] (fun r h'=>h'= []∧r=zf3 (zc5 k d)):=by
 rw [ylg,gFn,zc5];split
 ·exact y3.of_fun (zvy d)
 ·exact y3.of_fun (zvw d)
theorem zsk (k:Nat) (d:Dos):y3 Tryz.prog (ylf k) [.agg (zb1 d)] [] (fun r h'=>h'= []∧r=zf3 (zf5 k d)):=by
 rw [ylf,gSn,zf5];split
 ·exact y3.of_fun (zvw d)
 ·exact y3.of_fun (zvy d)
theorem zzo (h:Hist) (la:Lim 4611686018427387904 h) (s g:Int):y9 Tryz.prog 58 [.agg (x4 h),iv s,iv g] (.glob 0 117 x6:: .glob 3 148 y8:: .glob 5 276 x3:: .glob 6 279 y5:: .glob 2 197 u0:: []) (fun r h'=>h'= .glob 0 117 x6:: .glob 3 148 y8:: .glob 5 276 x3:: .glob 6 279 y5:: .glob 2 197 u0:: []∧r= .tup [zd3 (ycy h s g),iv (ycz h s g),iv (zlp h s g)]):=by
 refine z6 Tryz.func58 rfl rfl rfl ?_
 refine rn ?_;refine z7 rfl (x9 rfl rfl rfl fun b3=> ?_)
 refine rn ?_;refine zbc 4 (fun _=>True) (fun k=>⟨[(15,iv (k:Nat)),(9,iv (giK g k)),(1,iv s),(2,iv g),(3,pZ b3),(14,.agg x6)],.box b3 28 (x4 h):: .glob 0 117 x6:: .glob 3 148 y8:: .glob 5 276 x3:: .glob 6 279 y5:: .glob 2 197 u0:: [],[]⟩) trivial es ?_
 intro k lk _
 refine rn ?_;refine z8 rfl (fun hc16=> ?_) (fun hc16=> ?_)
 ·have hk:k < 4:=by have q:=oT hc16;omega
  refine zad ?_;refine k6 ?_;refine w6 ?_;refine zae ?_;refine w6 (y6 ?_)
  refine q1 ?_;refine qq rfl rfl (zff (i:=k) (out:=zs8 k) rfl rfl hk (by show k * 3+3≤12;omega) (yft hk)) ?_
  refine z7 rfl (x5 rfl fun b11=> ?_)
  refine rn ?_;refine z8 rfl (fun hc22=> ?_) (fun hc22=> ?_)
  ·have hg:zdu k=g:=by simpa using hc22
   refine rn ?_;exact ⟨hk,trivial,by rw [giK,if_pos hg];exact eA⟩
  ·have hg:¬zdu k=g:=by simpa using hc22
   refine rn ?_;exact ⟨hk,trivial,by rw [giK,if_neg hg];exact eA⟩
 ·have qk:k=4:=by have q:=oF hc16;omega
  subst qk
  rw [yoi]
  refine rn ?_;refine qv rfl rfl (y4 rfl rfl (y3.qt (y3.of_fun (zvx h la s)) ((pt2 _ _ _ _).trans (.cons _ ((pt2 _ _ _ _).trans (.cons _ ((pt2 _ _ _ _).trans (.cons _ (pt2 _ _ _ _))))))))) ?_
  refine rn ?_;refine z8 rfl (fun hc31=> ?_) (fun hc31=> ?_)
  ·have he:zds h s≠0:=nzT hc31
   refine rn ?_;exact zd7 (.cons _ _ _ _ (.tmp _ _ rfl) (.cons _ _ _ _ (.tmp _ _ rfl) (.cons _ _ _ _ (.tmp _ _ rfl) .nil))) (.trans (.drop [_] _ _) (.trans (k9 3 121 _) (zai [] [_,_]))) ⟨rfl,by rw [(zn1 (g:=g) he).1,(zn1 (g:=g) he).2.1,(zn1 (g:=g) he).2.2];rfl⟩
  ·have he:zds h s=0:=nzF hc31
   refine rn ?_;refine z8 rfl (fun hc35=> ?_) (fun hc35=> ?_)
   ·have hg:znm g < 0:=oT hc35
    refine rn ?_;exact zd7 (.cons _ _ _ _ (.tmp _ _ rfl) (.cons _ _ _ _ (.tmp _ _ rfl) (.cons _ _ _ _ (.tmp _ _ rfl) .nil))) (.trans (.drop [_] _ _) (.trans (k9 3 121 _) (zai [] [_,_]))) ⟨rfl,by rw [(zn0 he hg).1,(zn0 he hg).2.1,(zn0 he hg).2.2];rfl⟩
   ·have hg:¬znm g < 0:=oF hc35
    refine rn ?_;exact zd7 (.cons _ _ _ _ (.tmp _ _ rfl) (.cons _ _ _ _ (.tmp _ _ rfl) (.cons _ _ _ _ (.tmp _ _ rfl) .nil))) (.drop [_] _ _) ⟨rfl,by rw [(zij he hg).1,(zij he hg).2.1,(zij he hg).2.2,zrc he];rfl⟩
theorem yd0 (k:Nat) (e l:Dos) (W:List Res):y9 Tryz.prog 69 [iv (k:Int),.agg (zb1 e),.agg (zb1 l)] W (fun r h'=>∃bi be bl,h'= .box bl 121 (zb1 l):: .box be 121 (zb1 e):: .box bi 3 [iv (k:Int)]::W∧r= .fn (.func 119) [] [pZ bi,pZ bl,pZ be]):=by
 refine z6 Tryz.func69 rfl rfl rfl ?_
 refine rn ?_;refine z7 rfl (x9 rfl rfl rfl fun b3=> ?_)
 refine z7 rfl (x9 rfl rfl rfl fun b4=> ?_)
 refine z7 rfl (x9 rfl rfl rfl fun b5=> ?_)
 refine rn ?_;exact j6 rfl (.refl _ _) ⟨_,_,_,rfl,rfl⟩
theorem ydz (k:Nat) (hk:k < 4) (e l:Dos) (h1:(zc5 k e).length≤1000000) (h2:(zf5 k l).length≤1000000) (y:AV) (bi be bl:Nat) {σ:Type} (p:List Brch→σ→Prop) (q:σ→Prop) (I:List Brch→σ→List Res) (X:σ→List Res) (x0:σ) (hp0:p [] x0) (hy:∀pre d rest x,(zig k e l)=pre++d::rest→p pre x→y3 Tryz.prog y [.agg (zc8 d)] (.box bl 121 (zb1 l):: .box be 121 (zb1 e):: .box bi 3 [iv ((k:Nat):Int)]:: .glob 0 117 x6::I pre x) (fun r h'=>∃x',(r=bv true∧p (pre++ [d]) x'∧h'= .box bl 121 (zb1 l):: .box be 121 (zb1 e):: .box bi 3 [iv ((k:Nat):Int)]:: .glob 0 117 x6::I (pre++ [d]) x')∨(r=bv false∧q x'∧h'= .box bl 121 (zb1 l):: .box be 121 (zb1 e):: .box bi 3 [iv ((k:Nat):Int)]:: .glob 0 117 x6::X x'))):y9 Tryz.prog 119 [y,pZ bi,pZ bl,pZ be] (.box bl 121 (zb1 l):: .box be 121 (zb1 e):: .box bi 3 [iv ((k:Nat):Int)]:: .glob 0 117 x6::I [] x0) (fun r h'=>∃x,(p (zig k e l) x∧h'= .box bl 121 (zb1 l):: .box be 121 (zb1 e):: .box bi 3 [iv ((k:Nat):Int)]:: .glob 0 117 x6::I (zig k e l) x)∨(q x∧h'= .box bl 121 (zb1 l):: .box be 121 (zb1 e):: .box bi 3 [iv ((k:Nat):Int)]:: .glob 0 117 x6::X x)):=by
 refine z6 Tryz.func119 rfl rfl rfl ?_
 refine w6 (y6 ?_)
 refine q1 ?_;refine qq rfl rfl (u9 (i:=k) rfl rfl (by omega)) ?_
 refine qq rfl rfl (za7 (zgx rfl (by show 0+k * 3+3≤12;omega)) (show AV.agg _=AV.agg (zs8 k) from congrArg AV.agg (by rw [Nat.zero_add];exact yft hk))) ?_
 refine z7 rfl (x5 rfl fun b5=> ?_)
 refine rn ?_;refine qv rfl rfl (y4 rfl rfl (y3.pure (R:=fun r=>r=zf3 (zf5 k l)) (zsk k l))) ?_
 refine rn ?_;refine qv rfl rfl (y4 rfl rfl (y3.pure (R:=fun r=>r=zf3 (zc5 k e)) (zs9 k e))) ?_
 refine rn ?_;refine zem (zc5 k e).length (fun i (x:σ)=>p (zrw k e l i) x) (fun i x=>⟨[(23,iv i),(0,y),(2,pZ bl),(3,pZ be),(5,pZ b5),(6,zf3 (zf5 k l)),(21,zf3 (zc5 k e)),(22,iv ((zc5 k e).map accR).length)],.box b5 116 (zs8 k):: .box bl 121 (zb1 l):: .box be 121 (zb1 e):: .box bi 3 [iv ((k:Nat):Int)]:: .glob 0 117 x6::I (zrw k e l i) x,[]⟩) x0 hp0 es ?_
 intro i x li zi
 refine rn ?_;refine z8 rfl (fun hc24=> ?_) (fun hc24=> ?_)
 ·have hi:=zd0 hc24
  have ri:=zdp (f:=accR) hi
  refine rn ?_;refine z7 rfl (x5 rfl fun b8=> ?_)
  refine rn ?_;refine zem (zf5 k l).length (fun j (x:σ)=>p ((zrw k e l i)++((zf5 k l).take j).filterMap (brk (zdu k) e.t l.t (zc5 k e)[i])) x) (fun j x=>⟨[(29,iv j),(0,y),(2,pZ bl),(3,pZ be),(5,pZ b5),(6,zf3 (zf5 k l)),(8,pZ b8),(21,zf3 (zc5 k e)),(22,iv ((zc5 k e).map accR).length),(23,iv i),(27,zf3 (zf5 k l)),(28,iv ((zf5 k l).map accR).length)],.box b8 178 (accR (zc5 k e)[i]):: .box b5 116 (zs8 k):: .box bl 121 (zb1 l):: .box be 121 (zb1 e):: .box bi 3 [iv ((k:Nat):Int)]:: .glob 0 117 x6::I ((zrw k e l i)++((zf5 k l).take j).filterMap (brk (zdu k) e.t l.t (zc5 k e)[i])) x,[]⟩) x (by simpa using zi) (by simpa using eA) ?_
  intro j x lj zj
  refine rn ?_;refine z8 rfl (fun hc30=> ?_) (fun hc30=> ?_)
  ·have hj:=zd0 hc30
   have rj:=zdp (f:=accR) hj
   refine rn ?_;refine z7 rfl (x5 rfl fun b10=> ?_)
   refine rn ?_;refine q8 (fun hg8_5=> ?_) (fun hg8_5=> ?_)
   ·refine rn ?_;refine q8 (fun hg8_12=> ?_) (fun hg8_12=> ?_)
    ·refine q1 ?_;refine q1 ?_;refine q1 ?_;refine q1 ?_;refine q1 ?_;refine q1 ?_;refine q1 ?_;refine q1 ?_;refine q1 ?_;refine q1 ?_;refine q1 ?_;refine q1 ?_;refine q1 ?_;refine qq rfl rfl (zab (out:= [iv (zdu k),iv e.t,iv l.t,iv (zc5 k e)[i].o,iv (zc5 k e)[i].a,iv (zf5 k l)[j].a]) rfl (by rfl)) ?_
     have hbk:=ym9 (g:=zdu k) (t1:=e.t) (t2:=l.t) hg8_5 hg8_12
     obtain ⟨rest,hL⟩:=ygb hi hj hbk
     refine z7 rfl (w8 rfl rfl (y3.fr3 (hy ((zrw k e l i)++((zf5 k l).take j).filterMap (brk (zdu k) e.t l.t (zc5 k e)[i])) _ rest x hL zj)) rfl ?_)
     rintro _ _ ⟨_,rfl,x',⟨rfl,hp',rfl⟩|⟨rfl,hq',rfl⟩⟩
     ·refine rn ?_;refine z8 rfl (fun hc62=> ?_) (fun hc62=> ?_)
      ·first|cases hc62|exact absurd hc62 (by decide)|(exfalso;simp_all;done)
      ·refine rn ?_;exact ⟨hj,x',by rw [yfx hj hbk,←List.append_assoc];exact hp',by rw [yfx hj hbk,←List.append_assoc];exact eA⟩
     ·refine rn ?_;refine z8 rfl (fun hc62=> ?_) (fun hc62=> ?_)
      ·refine rn ?_;exact zd7 .nil (.drop [_,_,_] _ _) ⟨x',.inr ⟨hq',rfl⟩⟩
      ·first|cases hc62|exact absurd hc62 (by decide)|(exfalso;simp_all;done)
    ·refine rn ?_;refine zp3 rfl ?_;refine rn ?_;exact ⟨hj,x,by rw [zxl hj (zx5 hg8_12)];exact zj,by rw [zxl hj (zx5 hg8_12)];exact eA⟩
   ·refine rn ?_;refine zp3 rfl ?_;refine rn ?_;exact ⟨hj,x,by rw [zxl hj (zx6 hg8_5)];exact zj,by rw [zxl hj (zx6 hg8_5)];exact eA⟩
  ·have qj:=zd1 hc30 lj
   refine rn ?_;have e1:((zrw k e l i)++((zf5 k l).take j).filterMap (brk (zdu k) e.t l.t (zc5 k e)[i]))=(zrw k e l (i+1)):=by rw [ykm hi,qj,List.take_length]
   exact ⟨hi,x,by rw [←e1];exact zj,by rw [←e1];exact eA⟩
 ·have qi:=zd1 hc24 li
  refine rn ?_;have e1:(zrw k e l i)=(zig k e l):=by rw [qi,zrw,List.take_length];rfl
  exact zdw .nil (.drop [_] _ _) ⟨x,.inl ⟨by rw [←e1];exact zi,by rw [←e1]⟩⟩
theorem ymv {k:Nat} (hk:k < 4):x6[0+k * 3+2]? =some (ylf k):=by
 rcases (by omega:k=0∨k=1∨k=2∨k=3) with rfl|rfl|rfl|rfl <;> rfl
theorem ymw {k:Nat} (hk:k < 4):x6[0+k * 3+1]? =some (ylg k):=by
 rcases (by omega:k=0∨k=1∨k=2∨k=3) with rfl|rfl|rfl|rfl <;> rfl
def yk8 (M:List (Int×Int)) (b:Acc):Bool:=decide (b.r < (zbn b.o M).getD 0)
def yhi (k:Nat) (d:Dos) (M:List (Int×Int)):Bool:=(zf5 k d).any (yk8 M)
def zjc (M:List (Int×Int)) (l:List Acc):List (Int×Int):=l.foldl (fun m a=>zd8 a.o (max ((zbn a.o m).getD 0) a.r) m) M
theorem yiv {M:List (Int×Int)} {l:List Acc} {i:Nat} (hi:i < l.length):zjc M (l.take (i+1))=zd8 l[i].o (max ((zbn l[i].o (zjc M (l.take i))).getD 0) l[i].r) (zjc M (l.take i)):=by
 rw [zjc,List.take_succ_eq_append_getElem hi,List.foldl_append];rfl
theorem zwl (o:Int):∀(l:List Acc) (M:List (Int×Int)),(zbn o M).getD 0≤(zbn o (zjc M l)).getD 0∧∀a∈l,a.o=o→a.r≤(zbn o (zjc M l)).getD 0
 | [],M=>⟨Int.le_refl _,by simp⟩
 |a::l,M=>by
  obtain ⟨h1,h2⟩:=zwl o l (zd8 a.o (max ((zbn a.o M).getD 0) a.r) M)
  have e:zjc M (a::l)=zjc (zd8 a.o (max ((zbn a.o M).getD 0) a.r) M) l:=rfl
  rw [zc4] at h1
  by_cases q:a.o=o
  ·subst q
   rw [if_pos rfl,Option.getD_some] at h1
   refine ⟨by rw [e];omega,fun b hb ho=> ?_⟩
   rcases List.mem_cons.1 hb with rfl|hb
   ·rw [e];omega
   ·rw [e];exact h2 b hb ho
  ·rw [if_neg q] at h1
   refine ⟨by rw [e];exact h1,fun b hb ho=> ?_⟩
   rcases List.mem_cons.1 hb with rfl|hb
   ·exact absurd ho q
   ·rw [e];exact h2 b hb ho
def zmp (k:Nat) (L:List Dos) (j:Nat) (M:List (Int×Int)):Prop:=∀e∈L.take j,∀a∈zc5 k e,a.r≤(zbn a.o M).getD 0
theorem yiw (k:Nat) (L:List Dos):zmp k L 0 []:=fun e he=>by simp at he
theorem ycb {k j:Nat} {L:List Dos} {M:List (Int×Int)} (hM:zmp k L j M) (hj:j < L.length):zmp k L (j+1) (zjc M (zc5 k L[j])):=by
 intro e he a ha
 rw [List.take_succ_eq_append_getElem hj,List.mem_append,List.mem_singleton] at he
 rcases he with he|rfl
 ·have h1:=hM e he a ha
  have h2:=(zwl a.o (zc5 k L[j]) M).1
  omega
 ·exact (zwl a.o _ M).2 a ha rfl
def hdW (k:Nat) (d e:Dos):Option Brch:=(zig k e d).head?
def brW (k:Nat) (L:List Dos):Nat→List Brch
 |0=> []
 |j+1=>brW k L j++(match L[j]? with|some d=>(L.take j).filterMap (hdW k d)|none=> [])
theorem yf9 {k j:Nat} {L:List Dos} (hj:j < L.length):brW k L (j+1)=brW k L j++(L.take j).filterMap (hdW k L[j]):=by rw [brW,List.getElem?_eq_getElem hj]
theorem yhh {k j:Nat} {L:List Dos} {M:List (Int×Int)} (hM:zmp k L j M) (hj:j < L.length) (hs:yhi k L[j] M=false):brW k L (j+1)=brW k L j:=by
 rw [yf9 hj]
 have:(L.take j).filterMap (hdW k L[j])= []:=by
  rw [List.filterMap_eq_nil_iff]
  intro e he
  have:zig k e L[j]= []:=by
   rw [zig,List.flatMap_eq_nil_iff]
   intro a ha
   rw [List.filterMap_eq_nil_iff]
   intro b hb
   by_cases q:(a.o==b.o)=true
   ·refine zx5 (decide_eq_false fun hlt=> ?_)
    have h1:=hM e he a ha
    have h2:=List.any_eq_false.1 hs b hb
    rw [yk8,←eq_of_beq q] at h2
    simp only [decide_eq_true_eq] at h2
    omega
   ·exact zx6 (by simpa using q)
  rw [hdW,this];rfl
 rw [this,List.append_nil]
theorem ycu {k m:Nat} {L:List Dos}:∀{n},m≤n→∃R,brW k L n=brW k L m++R
 |0,hm=>⟨[],by rw [Nat.le_zero.1 hm,List.append_nil]⟩
 |n+1,hm=>by
  by_cases e:m=n+1
  ·exact ⟨[],by rw [e,List.append_nil]⟩
  ·obtain ⟨R,hR⟩:=ycu (k:=k) (m:=m) (L:=L) (n:=n) (by omega)
   exact ⟨_,by rw [brW,hR,List.append_assoc]⟩
def brP (k:Nat) (L:List Dos) (j:Nat) (d:Dos) (i:Nat):List Brch:=brW k L j++((L.take j).take i).filterMap (hdW k d)
theorem ynb (k:Nat) (L:List Dos) (j:Nat) (d:Dos):brP k L j d 0=brW k L j:=by simp [brP]
theorem yki {k j i:Nat} {L:List Dos} {d:Dos} {b:Brch} {rest:List Brch} (hi:i < (L.take j).length) (h:zig k (L.take j)[i] d=b::rest):brP k L j d (i+1)=brP k L j d i++ [b]:=by
 rw [brP,yfx hi (show hdW k d (L.take j)[i]=some b by rw [hdW,h];rfl),brP,List.append_assoc]
theorem ykj {k j i:Nat} {L:List Dos} {d:Dos} (hi:i < (L.take j).length) (h:zig k (L.take j)[i] d= []):brP k L j d (i+1)=brP k L j d i:=by
 rw [brP,zxl hi (show hdW k d (L.take j)[i]=none by rw [hdW,h];rfl),brP]
theorem yna {k j i:Nat} {L:List Dos} (hj:j < L.length) (hi:i=(L.take j).length):brP k L j L[j] i=brW k L (j+1):=by
 rw [yf9 hj,brP,hi,List.take_length]
theorem ykh {k j i:Nat} {L:List Dos} {b:Brch} {rest:List Brch} (hj:j < L.length) (hi:i < (L.take j).length) (h:zig k (L.take j)[i] L[j]=b::rest):∃R,brW k L L.length=brP k L j L[j] i++b::R:=by
 obtain ⟨R,hR⟩:=ycu (k:=k) (L:=L) (m:=j+1) (n:=L.length) hj
 have e:(L.take j).filterMap (hdW k L[j])=((L.take j).take i).filterMap (hdW k L[j])++b::((L.take j).drop (i+1)).filterMap (hdW k L[j]):=by
  conv=>lhs;rw [←List.take_append_drop i (L.take j),List.drop_eq_getElem_cons hi]
  rw [List.filterMap_append,List.filterMap_cons,hdW,h];rfl
 exact ⟨_,by rw [hR,yf9 hj,e,brP];simp only [List.append_assoc,List.cons_append];rfl⟩
def hdB (l:List Brch):Brch:=l.headD ⟨0,0,0,0,0,0⟩
theorem y3.fr11 {P:Program} {fv:AV} {args:List AV} {G:List Res} {R:AV→List Res→Prop} {a0 a1 a2 a3 a4 a5 a6 a7 a8 a9 a10:Res} (hc:y3 P fv args G R):y3 P fv args (a0::a1::a2::a3::a4::a5::a6::a7::a8::a9::a10::G) (fun r h'=>∃h'',h'=a0::a1::a2::a3::a4::a5::a6::a7::a8::a9::a10::h''∧R r h''):=hc.frL [a0,a1,a2,a3,a4,a5,a6,a7,a8,a9,a10]
theorem zhh (q:Nat) (A B:List Res) (dfs:List Nat):(Res.defs q::(A++(B++dfs.map Res.defs))).Perm (A++(B++(q::dfs).map Res.defs)):=by
 rw [←List.append_assoc,←List.append_assoc];exact List.perm_middle.symm
theorem zst (A B:List Res) (dfs:List Nat):(A++(B++dfs.map Res.defs)).Perm (dfs.map Res.defs++(A++B)):=by
 rw [←List.append_assoc];exact List.perm_append_comm
theorem zpa {full:Bool} (l:List Acc) (fv:AV) (p:Acc→Bool) (G:List Res) (hp:∀a∈l,y3 Tryz.prog fv [.agg (accR a)] G (fun r h'=>h'=G∧r=bv (p a))) (hlen:l.length≤4611686018427387904):y9 Tryz.prog 153 [.list full 3 (l.map accR),fv] G (fun r h'=>h'=G∧r=iv (za5 p 0 l)):=by
 refine z6 Tryz.func153 rfl rfl rfl ?_
 refine rn ?_;refine u5 (fun k:Nat=>k≤l.length∧za5 p 0 l=za5 p k (l.drop k)) (fun k=>⟨[(8,iv k),(7,iv (l.map accR).length),(0,.list full 3 (l.map accR)),(1,fv)],G,[]⟩) (fun k=>l.length - k) 0 ⟨Nat.zero_le _,by simp⟩
  (x7 (.cons _ _ _ rfl (.cons _ _ _ rfl (.cons _ _ _ rfl (.cons _ _ _ rfl (.nil)))))) ?_
 rintro k ⟨hk,hnot⟩
 refine rn ?_;refine z8 rfl (fun hc9=> ?_) (fun hc9=> ?_)
 ·have hk2:k < l.length:=by simpa using hc9
  have hrow:(l.map accR)[k]? =some (accR l[k]):=by simp [hk2]
  have hd:=List.drop_eq_getElem_cons hk2
  refine rn ?_;refine qv rfl rfl (y4 rfl rfl (hp l[k] (by simp))) ?_
  refine rn ?_;refine z8 rfl (fun hc16=> ?_) (fun hc16=> ?_)
  ·refine rn ?_;exact j6 rfl (.refl _ _) ⟨rfl,by rw [hnot,hd,za5,if_pos hc16];rfl⟩
  ·refine rn ?_;exact ⟨k+1,⟨by omega,by rw [hnot,hd,za5,if_neg (by simp [hc16])]⟩,(x7 (.cons _ _ _ rfl (.cons _ _ _ rfl (.cons _ _ _ rfl (.cons _ _ _ rfl (.nil)))))),by omega⟩
 ·have hk3:k=l.length:=by
   have:l.length≤k:=by simpa using hc9
   omega
  refine rn ?_;exact j6 rfl (.refl _ _) ⟨rfl,by rw [hnot,hk3,List.drop_length,za5];rfl⟩
theorem zk2 {full:Bool} (l:List Acc) (fv:AV) (p:Acc→Bool) (G:List Res) (hp:∀a∈l,y3 Tryz.prog fv [.agg (accR a)] G (fun r h'=>h'=G∧r=bv (p a))) (hlen:l.length≤4611686018427387904):y9 Tryz.prog 111 [.list full 3 (l.map accR),fv] G (fun r h'=>h'=G∧r=bv (l.any p)):=by
 refine z6 Tryz.func111 rfl rfl rfl ?_
 refine rn ?_;refine qv rfl rfl (y4 rfl rfl (y3.of_fun (zpa l _ p G hp hlen))) ?_
 refine rn ?_;exact j6 rfl (.refl _ _) ⟨rfl,by simp only [←zd2 p l 0];rfl⟩
theorem yht (b:Acc) (b4 bm:Nat) (M:List (Int×Int)):y9 Tryz.prog 112 [.agg (accR b),pZ b4] (.box b4 141 [mpv bm]:: .map bm (j9 zbm (zbe iv M)):: []) (fun r h'=>h'= .box b4 141 [mpv bm]:: .map bm (j9 zbm (zbe iv M)):: []∧r=bv (yk8 M b)):=by
 refine z6 Tryz.func112 rfl rfl rfl ?_
 refine rn ?_;refine z7 rfl (x9 rfl rfl rfl fun b2=> ?_)
 refine q1 ?_;refine u3 (k6 ?_)
 refine w6 (y6 ?_)
 refine q1 ?_;refine q1 ?_;refine q1 ?_;refine q1 ?_;refine q1 ?_;refine qq rfl rfl (zbx (g:=iv) (enc:=zbm) (k:=b.o) (0:Int) rfl rfl) ?_
 refine rn ?_;refine rq 1 ?_
 exact ⟨rfl,rfl⟩
theorem yhs (k:Nat) (hk:k < 4) (d:Dos) (h2:(zf5 k d).length≤1000000) (bi b4 bm:Nat) (M:List (Int×Int)):y9 Tryz.prog 110 [.agg (zb1 d),pZ bi,pZ b4] (.box bi 3 [iv (k:Int)]:: .box b4 141 [mpv bm]:: .map bm (j9 zbm (zbe iv M)):: .glob 0 117 x6:: []) (fun r h'=>h'= .box bi 3 [iv (k:Int)]:: .box b4 141 [mpv bm]:: .map bm (j9 zbm (zbe iv M)):: .glob 0 117 x6:: []∧r=bv (yhi k d M)):=by
 refine z6 Tryz.func110 rfl rfl rfl ?_
 refine rn ?_;refine z7 rfl (x9 rfl rfl rfl fun b3=> ?_)
 refine rn ?_;refine j4 7 rfl ?_
 refine dq rfl rfl qrA ?_;refine dq rfl rfl (u9 (i:=k) rfl rfl (by omega)) ?_
 refine dq rfl rfl qrA ?_;refine dq rfl rfl (j3 rfl (ymv hk)) ?_
 refine rn ?_;refine dv rfl rfl (by exact y4 rfl rfl (y3.pure (R:=fun r=>r=zf3 (zf5 k d)) (zsk k d))) ?_
 refine rn ?_;refine qv rfl rfl (y4 rfl rfl (y3.of_fun (zk2 (zf5 k d) _ (yk8 M) _ (fun b _=>y3.qt (y3.of_acall (fs:= []) (cs:= [pZ b4]) (yht b b4 bm M)) ((pt2 _ _ _ _).trans (.cons _ (pt2 _ _ _ _)))) (Nat.le_trans h2 (by decide))))) ?_
 refine rn ?_;refine rq 1 ?_
 exact ⟨rfl,rfl⟩
theorem yb5 (k:Nat) (L:List Dos) (W:List Res):y9 Tryz.prog 59 [iv (k:Int),zd3 L] W (fun r h'=>∃bi bl,h'= .box bl 101 [zd3 L]:: .box bi 3 [iv (k:Int)]::W∧r= .fn (.func 109) [] [pZ bi,pZ bl]):=by
 refine z6 Tryz.func59 rfl rfl rfl ?_
 refine rn ?_;refine z7 rfl (x9 rfl rfl rfl fun b2=> ?_)
 refine z7 rfl (x9 rfl rfl rfl fun b3=> ?_)
 refine rn ?_;exact j6 rfl (.refl _ _) ⟨_,_,rfl,rfl⟩
set_option maxHeartbeats 8000000 in
theorem yb4 (k:Nat) (hk:k < 4) (L:List Dos) (hL:L.length≤1000000) (hf:∀d∈L,(zc5 k d).length≤1000000) (hs:∀d∈L,(zf5 k d).length≤1000000) (y:AV) (hone:y.cellsOf=some [y]) (bi bl:Nat) {σ:Type} (p:List Brch→σ→Prop) (q:σ→Prop) (I:List Brch→σ→List Res) (X:σ→List Res) (x0:σ) (hp0:p [] x0) (hy:∀pre d rest x,(brW k L L.length)=pre++d::rest→p pre x→y3 Tryz.prog y [.agg (zc8 d)] (.box bl 101 [zd3 L]:: .box bi 3 [iv ((k:Nat):Int)]:: .glob 0 117 x6::I pre x) (fun r h'=>∃x',(r=bv true∧p (pre++ [d]) x'∧h'= .box bl 101 [zd3 L]:: .box bi 3 [iv ((k:Nat):Int)]:: .glob 0 117 x6::I (pre++ [d]) x')∨(r=bv false∧q x'∧h'= .box bl 101 [zd3 L]:: .box bi 3 [iv ((k:Nat):Int)]:: .glob 0 117 x6::X x'))):y9 Tryz.prog 109 [y,pZ bi,pZ bl] (.box bl 101 [zd3 L]:: .box bi 3 [iv ((k:Nat):Int)]:: .glob 0 117 x6::I [] x0) (fun r h'=>∃x,(p (brW k L L.length) x∧h'= .box bl 101 [zd3 L]:: .box bi 3 [iv ((k:Nat):Int)]:: .glob 0 117 x6::I (brW k L L.length) x)∨(q x∧h'= .box bl 101 [zd3 L]:: .box bi 3 [iv ((k:Nat):Int)]:: .glob 0 117 x6::X x)):=by
 refine z6 Tryz.func109 rfl rfl rfl ?_
 have hyF:∀pre d rest x (W:List Res),(brW k L L.length)=pre++d::rest→p pre x→y3 Tryz.prog y [.agg (zc8 d)] (.box bl 101 [zd3 L]:: .box bi 3 [iv ((k:Nat):Int)]:: .glob 0 117 x6::(I pre x++W)) (fun r h'=>∃x',(r=bv true∧p (pre++ [d]) x'∧h'= .box bl 101 [zd3 L]:: .box bi 3 [iv ((k:Nat):Int)]:: .glob 0 117 x6::(I (pre++ [d]) x'++W))∨(r=bv false∧q x'∧h'= .box bl 101 [zd3 L]:: .box bi 3 [iv ((k:Nat):Int)]:: .glob 0 117 x6::(X x'++W))):=fun pre d rest x W e hp=>((hy pre d rest x e hp).frame W).mono (by
  rintro _ _ ⟨_,rfl,x',⟨rfl,hp',rfl⟩|⟨rfl,hq',rfl⟩⟩
  ·exact ⟨x',.inl ⟨rfl,hp',rfl⟩⟩
  ·exact ⟨x',.inr ⟨rfl,hq',rfl⟩⟩)
 refine rn ?_;refine z7 rfl (x9 rfl hone rfl fun b3=> ?_)
 refine rn ?_;refine zht ?_;refine rn ?_;refine z7 rfl (zau (enc:=zbm) rfl fun bm=> ?_)
 refine z7 rfl (x5 rfl fun b4=> ?_)
 refine rn ?_;refine zem L.length (fun j (z:σ×List (Int×Int)×List Nat)=>p (brW k L j) z.1∧zmp k L j z.2.1) (fun j z=>⟨[(18,iv j),(1,pZ bi),(2,pZ bl),(3,pZ b3),(4,pZ b4),(5,.fn (.func 110) [] [pZ bi,pZ b4]),(16,zd3 L),(17,iv (L.map zb1).length)],.box b4 141 [mpv bm]:: .map bm (j9 zbm (zbe iv z.2.1)):: .box b3 175 [y]:: .box bl 101 [zd3 L]:: .box bi 3 [iv ((k:Nat):Int)]:: .glob 0 117 x6::(I (brW k L j) z.1++(z.2.2.map Res.defs)),z.2.2⟩) (x0,[],[]) ⟨hp0,yiw k L⟩ (by simp only [List.map_nil,List.append_nil];exact es) ?_
 rintro j ⟨x,M,dfs⟩ lj ⟨hx,hM⟩
 have hx:p (brW k L j) x:=hx
 have hM:zmp k L j M:=hM
 show aw _ _ _ _ _ ⟨[(18,iv j),(1,pZ bi),(2,pZ bl),(3,pZ b3),(4,pZ b4),(5,.fn (.func 110) [] [pZ bi,pZ b4]),(16,zd3 L),(17,iv (L.map zb1).length)],.box b4 141 [mpv bm]:: .map bm (j9 zbm (zbe iv M)):: .box b3 175 [y]:: .box bl 101 [zd3 L]:: .box bi 3 [iv ((k:Nat):Int)]:: .glob 0 117 x6::(I (brW k L j) x++(dfs.map Res.defs)),dfs⟩
 refine rn ?_;refine z8 rfl (fun hc19=> ?_) (fun hc19=> ?_)
 ·have hj:=zd0 hc19
  have rj:=zdp (f:=zb1) hj
  refine rn ?_;refine z7 rfl (x5 rfl fun b7=> ?_)
  refine rn ?_;refine qv rfl rfl (y4 rfl rfl (y3.qt (y3.of_acall (fs:= []) (cs:= [pZ bi,pZ b4]) (yhs k hk L[j] (hs _ (List.getElem_mem hj)) bi b4 bm M)) ((pt5 _ _ _ _ _ _ _).trans (.cons _ ((pt1 _ _ _).trans (.cons _ ((pt1 _ _ _).trans (.cons _ (pt3 _ _ _ _ _))))))))) ?_
  refine rn ?_;refine j4 8 rfl ?_
  refine dq rfl rfl qrA ?_;refine dq rfl rfl (u9 (i:=k) rfl rfl (by omega)) ?_
  refine dq rfl rfl qrA ?_;refine dq rfl rfl (j3 rfl (ymw hk)) ?_
  refine rn ?_;refine dv rfl rfl (by exact y4 rfl rfl (y3.pure (R:=fun r=>r=zf3 (zc5 k L[j])) (zs9 k L[j]))) ?_
  refine rn ?_;refine zbc (zc5 k L[j]).length (fun _=>True) (fun u=>⟨[(33,iv u),(1,pZ bi),(2,pZ bl),(3,pZ b3),(4,pZ b4),(5,.fn (.func 110) [] [pZ bi,pZ b4]),(6,iv j),(7,pZ b7),(8,bv (yhi k L[j] M)),(16,zd3 L),(17,iv (L.map zb1).length),(18,iv j),(31,zf3 (zc5 k L[j])),(32,iv ((zc5 k L[j]).map accR).length)],.box b7 121 (zb1 L[j]):: .box b4 141 [mpv bm]:: .map bm (j9 zbm (zbe iv (zjc M ((zc5 k L[j]).take u)))):: .box b3 175 [y]:: .box bl 101 [zd3 L]:: .box bi 3 [iv ((k:Nat):Int)]:: .glob 0 117 x6::(I (brW k L j) x++(dfs.map Res.defs)),dfs⟩) trivial es ?_
  intro u lu _
  refine rn ?_;refine z8 rfl (fun hc34=> ?_) (fun hc34=> ?_)
  ·have hu:=zd0 hc34
   have ru:=zdp (f:=accR) hu
   have hfl:=hf _ (List.getElem_mem hj)
   refine rn ?_;refine z7 rfl (x5 rfl fun b10=> ?_)
   first|refine z7 rfl (za2 rfl rfl rfl ?_)|refine z7 rfl (zby rfl rfl rfl rfl (Nat.le_of_ble_eq_true rfl) ?_)
   refine u3 (k6 ?_)
   refine y6 ?_;refine q1 ?_;refine q1 ?_;refine q1 ?_;refine q1 ?_;refine q1 ?_;refine q1 ?_;refine qq rfl rfl (zbx (g:=iv) (enc:=zbm) (k:=(zc5 k L[j])[u].o) (0:Int) rfl rfl) ?_
   refine rn ?_;refine z7 rfl (za0 (g:=iv) (enc:=zbm) (k:=(zc5 k L[j])[u].o) (v:=max ((zbn (zc5 k L[j])[u].o (zjc M ((zc5 k L[j]).take u))).getD 0) (zc5 k L[j])[u].r) rfl rfl rfl ?_)
   refine rn ?_;exact ⟨hu,trivial,by rw [yiv hu];exact eA⟩
  ·have qu:=zd1 hc34 lu
   subst qu
   rw [List.take_length]
   refine rn ?_;refine z8 rfl (fun hc49=> ?_) (fun hc49=> ?_)
   ·have hsw:yhi k L[j] M=false:=by simpa using hc49
    refine rn ?_;have hw:=yhh hM hj hsw
    exact ⟨hj,(x,(zjc M (zc5 k L[j])),dfs),⟨by simp only;rw [hw];exact hx,ycb hM hj⟩,by simp only;rw [hw];exact eA⟩
   ·have hsw:yhi k L[j] M=true:=by simpa using hc49
    refine zad ?_;refine k6 ?_;refine w6 (y6 ?_)
    refine q1 ?_;refine q1 ?_;refine qq rfl rfl (zdt (k:=j) rfl rfl (by rw [oM];omega)) ?_
    rw [←List.map_take]
    refine rn ?_;have hx0:=hx
    rw [←ynb k L j L[j]] at hx ⊢
    refine zem (L.take j).length (fun i (z:σ×List Nat)=>p (brP k L j L[j] i) z.1) (fun i z=>⟨[(54,iv i),(1,pZ bi),(2,pZ bl),(3,pZ b3),(4,pZ b4),(5,.fn (.func 110) [] [pZ bi,pZ b4]),(7,pZ b7),(16,zd3 L),(17,iv (L.map zb1).length),(18,iv j),(52,zd3 (L.take j)),(53,iv ((L.take j).map zb1).length)],.box b7 121 (zb1 L[j]):: .box b4 141 [mpv bm]:: .map bm (j9 zbm (zbe iv (zjc M (zc5 k L[j])))):: .box b3 175 [y]:: .box bl 101 [zd3 L]:: .box bi 3 [iv ((k:Nat):Int)]:: .glob 0 117 x6::(I (brP k L j L[j] i) z.1++(z.2.map Res.defs)),z.2⟩) (x,dfs) hx es ?_
    clear hx hx0
    rintro i ⟨x,dfs⟩ li hx
    have hx:p (brP k L j L[j] i) x:=hx
    show aw _ _ _ _ _ ⟨[(54,iv i),(1,pZ bi),(2,pZ bl),(3,pZ b3),(4,pZ b4),(5,.fn (.func 110) [] [pZ bi,pZ b4]),(7,pZ b7),(16,zd3 L),(17,iv (L.map zb1).length),(18,iv j),(52,zd3 (L.take j)),(53,iv ((L.take j).map zb1).length)],.box b7 121 (zb1 L[j]):: .box b4 141 [mpv bm]:: .map bm (j9 zbm (zbe iv (zjc M (zc5 k L[j])))):: .box b3 175 [y]:: .box bl 101 [zd3 L]:: .box bi 3 [iv ((k:Nat):Int)]:: .glob 0 117 x6::(I (brP k L j L[j] i) x++(dfs.map Res.defs)),dfs⟩
    refine rn ?_;refine z8 rfl (fun hc55=> ?_) (fun hc55=> ?_)
    ·have hi:=zd0 hc55
     have ri:=zdp (f:=zb1) hi
     have hil:=List.length_take_le j L
     refine rn ?_;refine z7 rfl (x5 rfl fun b12=> ?_)
     refine rn ?_;refine z7 rfl (w8 rfl rfl (y3.of_fun (yd0 k (L.take j)[i] L[j] _)) rfl ?_)
     rintro _ _ ⟨ci,ce,cl,rfl,rfl⟩
     refine rn ?_;refine zlo (fun pend h''=>(pend=none∧(zig k (L.take j)[i] L[j])= []∧h''= .box cl 121 (zb1 L[j]):: .box ce 121 (zb1 (L.take j)[i]):: .box ci 3 [iv (k:Int)]:: .glob 0 117 x6:: .box b12 121 (zb1 (L.take j)[i]):: .box b7 121 (zb1 L[j]):: .box b4 141 [mpv bm]:: .map bm (j9 zbm (zbe iv (zjc M (zc5 k L[j])))):: .box b3 175 [y]:: .box bl 101 [zd3 L]:: .box bi 3 [iv (k:Int)]::(I (brP k L j L[j] i) x++(dfs.map Res.defs)))∨(pend=some (.exit 6)∧∃b rest x',(zig k (L.take j)[i] L[j])=b::rest∧p ((brP k L j L[j] i)++ [b]) x'∧h''= .box cl 121 (zb1 L[j]):: .box ce 121 (zb1 (L.take j)[i]):: .box ci 3 [iv (k:Int)]:: .glob 0 117 x6:: .box b12 121 (zb1 (L.take j)[i]):: .box b7 121 (zb1 L[j]):: .box b4 141 [mpv bm]:: .map bm (j9 zbm (zbe iv (zjc M (zc5 k L[j])))):: .box b3 175 [y]:: .box bl 101 [zd3 L]:: .box bi 3 [iv (k:Int)]::(I ((brP k L j L[j] i)++ [b]) x'++(dfs.map Res.defs)))∨(pend=some .ret∧∃x',q x'∧h''= .box cl 121 (zb1 L[j]):: .box ce 121 (zb1 (L.take j)[i]):: .box ci 3 [iv (k:Int)]:: .glob 0 117 x6:: .box b12 121 (zb1 (L.take j)[i]):: .box b7 121 (zb1 L[j]):: .box b4 141 [mpv bm]:: .map bm (j9 zbm (zbe iv (zjc M (zc5 k L[j])))):: .box b3 175 [y]:: .box bl 101 [zd3 L]:: .box bi 3 [iv (k:Int)]::(X x'++(dfs.map Res.defs)))) rfl (fun fn l q0 lp hlp=> ?_) (fun q0 h'' hK=> ?_) (fun q0 h'' cc hK=> ?_)
     ·suffices hy2:∀pre d' rest z,(zig k (L.take j)[i] L[j])=pre++d'::rest→(fun (pre:List Brch) (_:Bool×σ)=>pre= []) pre z→y3 Tryz.prog (yv l) [.agg (zc8 d')] (.box cl 121 (zb1 L[j]):: .box ce 121 (zb1 (L.take j)[i]):: .box ci 3 [iv (k:Int)]:: .glob 0 117 x6::(fun (_:List Brch) (_:Bool×σ)=>lp .ready none:: .defs q0:: .box b12 121 (zb1 (L.take j)[i]):: .box b7 121 (zb1 L[j]):: .box b4 141 [mpv bm]:: .map bm (j9 zbm (zbe iv (zjc M (zc5 k L[j])))):: .box b3 175 [y]:: .box bl 101 [zd3 L]:: .box bi 3 [iv (k:Int)]::(I (brP k L j L[j] i) x++(dfs.map Res.defs))) pre z) (fun r h'=>∃z',(r=bv true∧(fun (pre:List Brch) (_:Bool×σ)=>pre= []) (pre++ [d']) z'∧h'= .box cl 121 (zb1 L[j]):: .box ce 121 (zb1 (L.take j)[i]):: .box ci 3 [iv (k:Int)]:: .glob 0 117 x6::(fun (_:List Brch) (_:Bool×σ)=>lp .ready none:: .defs q0:: .box b12 121 (zb1 (L.take j)[i]):: .box b7 121 (zb1 L[j]):: .box b4 141 [mpv bm]:: .map bm (j9 zbm (zbe iv (zjc M (zc5 k L[j])))):: .box b3 175 [y]:: .box bl 101 [zd3 L]:: .box bi 3 [iv (k:Int)]::(I (brP k L j L[j] i) x++(dfs.map Res.defs))) (pre++ [d']) z')∨(r=bv false∧(fun z:Bool×σ=>(z.1=true∧(∃b rest,(zig k (L.take j)[i] L[j])=b::rest)∧p ((brP k L j L[j] i)++ [hdB (zig k (L.take j)[i] L[j])]) z.2)∨(z.1=false∧q z.2)) z'∧h'= .box cl 121 (zb1 L[j]):: .box ce 121 (zb1 (L.take j)[i]):: .box ci 3 [iv (k:Int)]:: .glob 0 117 x6::(fun z:Bool×σ=>lp .done (some (bif z.1 then .exit 6 else .ret)):: .defs q0:: .box b12 121 (zb1 (L.take j)[i]):: .box b7 121 (zb1 L[j]):: .box b4 141 [mpv bm]:: .map bm (j9 zbm (zbe iv (zjc M (zc5 k L[j])))):: .box b3 175 [y]:: .box bl 101 [zd3 L]:: .box bi 3 [iv (k:Int)]::((bif z.1 then I ((brP k L j L[j] i)++ [hdB (zig k (L.take j)[i] L[j])]) z.2 else X z.2)++(dfs.map Res.defs))) z')) by
       refine y9.mono (y9.perm ((pt2 _ _ _ _).trans (.cons _ ((pt2 _ _ _ _).trans (.cons _ ((pt2 _ _ _ _).trans (.cons _ (pt9 _ _ _ _ _ _ _ _ _ _ _))))))) (ydz k hk (L.take j)[i] L[j] (hf _ (List.mem_of_mem_take (List.getElem_mem hi))) (hs _ (List.getElem_mem hj)) (yv l) ci ce cl (fun (pre:List Brch) (_:Bool×σ)=>pre= []) (fun z:Bool×σ=>(z.1=true∧(∃b rest,(zig k (L.take j)[i] L[j])=b::rest)∧p ((brP k L j L[j] i)++ [hdB (zig k (L.take j)[i] L[j])]) z.2)∨(z.1=false∧q z.2)) (fun (_:List Brch) (_:Bool×σ)=>lp .ready none:: .defs q0:: .box b12 121 (zb1 (L.take j)[i]):: .box b7 121 (zb1 L[j]):: .box b4 141 [mpv bm]:: .map bm (j9 zbm (zbe iv (zjc M (zc5 k L[j])))):: .box b3 175 [y]:: .box bl 101 [zd3 L]:: .box bi 3 [iv (k:Int)]::(I (brP k L j L[j] i) x++(dfs.map Res.defs))) (fun z:Bool×σ=>lp .done (some (bif z.1 then .exit 6 else .ret)):: .defs q0:: .box b12 121 (zb1 (L.take j)[i]):: .box b7 121 (zb1 L[j]):: .box b4 141 [mpv bm]:: .map bm (j9 zbm (zbe iv (zjc M (zc5 k L[j])))):: .box b3 175 [y]:: .box bl 101 [zd3 L]:: .box bi 3 [iv (k:Int)]::((bif z.1 then I ((brP k L j L[j] i)++ [hdB (zig k (L.take j)[i] L[j])]) z.2 else X z.2)++(dfs.map Res.defs))) (false,x) rfl hy2)) ?_
       rintro _ _ ⟨⟨b,x'⟩,⟨hn,rfl⟩|⟨⟨e1,⟨b0,rest,hn⟩,hp1⟩|⟨e1,hq1⟩,rfl⟩⟩
       ·exact ⟨none,.ready,_,((pt4 _ _ _ _ _ _).trans (.cons _ (pt4 _ _ _ _ _ _))),by simp,.inl ⟨rfl,hn,rfl⟩⟩
       ·have e1:b=true:=e1
        subst e1
        have hd1:hdB (zig k (L.take j)[i] L[j])=b0:=by rw [hn];rfl
        exact ⟨some (.exit 6),.done,_,((pt4 _ _ _ _ _ _).trans (.cons _ (pt4 _ _ _ _ _ _))),by simp,.inr (.inl ⟨rfl,b0,rest,x',hn,by rw [←hd1];exact hp1,by rw [←hd1];rfl⟩)⟩
       ·have e1:b=false:=e1
        subst e1
        exact ⟨some .ret,.done,_,((pt4 _ _ _ _ _ _).trans (.cons _ (pt4 _ _ _ _ _ _))),by simp,.inr (.inr ⟨rfl,x',hq1,rfl⟩)⟩
      intro pre d' rest z hL hpre
      obtain rfl:pre= []:=hpre
      have hL1:(zig k (L.take j)[i] L[j])=d'::rest:=hL
      obtain ⟨R,hL2⟩:=ykh hj hi hL1
      have hd1:hdB (zig k (L.take j)[i] L[j])=d':=by rw [hL1];rfl
      refine y3.perm (pt4 _ _ _ _ _ _) (y3.ventE ?_)
      refine zdl hlp rfl rfl ?_
      refine rn ?_;refine z7 rfl (x5 rfl fun b13=> ?_)
      refine rn ?_;refine ⟨[(13,pZ b13),(3,pZ b3)],.box b13 36 (zc8 d'):: .box cl 121 (zb1 L[j]):: .box ce 121 (zb1 (L.take j)[i]):: .box ci 3 [iv (k:Int)]:: .glob 0 117 x6:: .defs q0:: .box b12 121 (zb1 (L.take j)[i]):: .box b7 121 (zb1 L[j]):: .box b4 141 [mpv bm]:: .map bm (j9 zbm (zbe iv (zjc M (zc5 k L[j])))):: .box b3 175 [y]:: .box bl 101 [zd3 L]:: .box bi 3 [iv (k:Int)]::(I (brP k L j L[j] i) x++(dfs.map Res.defs)),w7 (k8 (pt1 _ _ _)) es,?_⟩
      refine zae ?_;refine w6 ?_;refine w6 (y6 ?_)
      refine q1 ?_;refine q1 ?_;refine z7 rfl (w8 rfl rfl (y3.perm (.cons _ (.cons _ (.cons _ (.cons _ (.cons _ ((pt1 _ _ _).trans (.cons _ ((pt1 _ _ _).trans (.cons _ ((pt1 _ _ _).trans (.cons _ ((pt1 _ _ _).trans (.cons _ ((pt1 _ _ _).trans (.cons _ ((pt1 _ _ _).trans (.cons _ ((pt1 _ _ _).trans (.cons _ (pt1 _ _ _)))))))))))))))))))) (y3.fr11 (hyF (brP k L j L[j] i) d' R x (dfs.map Res.defs) hL2 hx))) rfl ?_)
      rintro _ _ ⟨_,rfl,x',⟨rfl,hp',rfl⟩|⟨rfl,hq',rfl⟩⟩
      ·refine rn ?_;refine z8 rfl (fun hc66=> ?_) (fun hc66=> ?_)
       ·first|cases hc66|exact absurd hc66 (by decide)|(exfalso;simp_all;done)
       ·refine rn ?_;exact zj8 (.refl _) ⟨_,_,.trans (.perm ((pt1 _ _ _).trans (.cons _ ((pt1 _ _ _).trans (.cons _ ((pt1 _ _ _).trans (.cons _ ((pt1 _ _ _).trans (.cons _ (pt9 _ _ _ _ _ _ _ _ _ _ _))))))))) _) (.drop [_] _ _),(true,x'),.inr ⟨rfl,.inl ⟨rfl,⟨_,_,hL1⟩,by rw [hd1];exact hp'⟩,by rw [hd1];rfl⟩⟩
      ·refine rn ?_;refine z8 rfl (fun hc66=> ?_) (fun hc66=> ?_)
       ·refine rn ?_;exact zmy (.refl _) ⟨_,_,.trans (.perm ((pt1 _ _ _).trans (.cons _ ((pt1 _ _ _).trans (.cons _ ((pt1 _ _ _).trans (.cons _ ((pt1 _ _ _).trans (.cons _ (pt9 _ _ _ _ _ _ _ _ _ _ _))))))))) _) (.drop [_] _ _),(false,x'),.inr ⟨rfl,.inr ⟨rfl,hq'⟩,rfl⟩⟩
       ·first|cases hc66|exact absurd hc66 (by decide)|(exfalso;simp_all;done)
     ·obtain ⟨_,hFE,rfl⟩|⟨hc',_⟩|⟨hc',_⟩:=hK
      rotate_left
      ·cases hc'
      ·cases hc'
      refine rn ?_;exact ⟨hi,(x,q0::dfs),by simp only;rw [ykj hi hFE];exact hx,by simp only;rw [ykj hi hFE];exact w7 (k8 ((List.Perm.cons _ (.cons _ (.cons _ (.cons _ ((pt1 _ _ _).trans (.cons _ ((pt1 _ _ _).trans (.cons _ ((pt1 _ _ _).trans (.cons _ ((pt1 _ _ _).trans (.cons _ ((pt1 _ _ _).trans (.cons _ ((pt1 _ _ _).trans (.cons _ (pt1 _ _ _))))))))))))))))).trans (zhh _ [_,_,_,_,_,_,_,_,_,_,_] _ _))) (w7 (zas (h1:= [_,_,_,_])) es)⟩
     ·obtain ⟨hc',_⟩|⟨hc',b,rest,x',hFE,hpp,rfl⟩|⟨hc',x',hqq,rfl⟩:=hK
      ·cases hc'
      ·obtain rfl:cc= .exit 6:=by simpa using hc'
       refine rn ?_;exact ⟨hi,(x',q0::dfs),by simp only;rw [yki hi hFE];exact hpp,by simp only;rw [yki hi hFE];exact w7 (k8 ((List.Perm.cons _ (.cons _ (.cons _ (.cons _ ((pt1 _ _ _).trans (.cons _ ((pt1 _ _ _).trans (.cons _ ((pt1 _ _ _).trans (.cons _ ((pt1 _ _ _).trans (.cons _ ((pt1 _ _ _).trans (.cons _ ((pt1 _ _ _).trans (.cons _ (pt1 _ _ _))))))))))))))))).trans (zhh _ [_,_,_,_,_,_,_,_,_,_,_] _ _))) (w7 (zas (h1:= [_,_,_,_])) es)⟩
      ·obtain rfl:cc= .ret:=by simpa using hc'
       refine rn ?_;refine ⟨fun l h=>(by cases h),?_⟩
       exact zgf (.cons _ (zst [_,_,_,_,_,_,_,_,_,_,_] _ dfs)) .nil (.trans (.perm (.cons _ (.cons _ (.cons _ ((pt1 _ _ _).trans (.cons _ ((pt1 _ _ _).trans (.cons _ ((pt1 _ _ _).trans (.cons _ ((pt1 _ _ _).trans (.cons _ ((pt1 _ _ _).trans (.cons _ ((pt1 _ _ _).trans (.cons _ (pt1 _ _ _)))))))))))))))) _) (.drop [_,_,_,_,_,_,_,_] _ _)) ⟨x',.inr ⟨hqq,rfl⟩⟩
    ·have qi:=zd1 hc55 li
     refine rn ?_;have hw:=yna (k:=k) hj qi
     exact ⟨hj,(x,(zjc M (zc5 k L[j])),dfs),⟨by simp only;rw [←hw];exact hx,ycb hM hj⟩,by simp only;rw [←hw];exact eA⟩
 ·have qj:=zd1 hc19 lj
  subst qj
  refine rn ?_;refine ⟨fun l h=>(by cases h),?_⟩
  exact yec (zst [_,_,_,_,_,_] _ dfs) .nil (.drop [_,_,_] _ _) ⟨x,.inl ⟨hx,rfl⟩⟩
def br0:Brch:=⟨0,0,0,0,0,0⟩
theorem ygn {h:Hist} {s g:Int} (he:zlp h s g=0):zds h s=0∧ycy h s g=zaa h s∧∃k:Nat,k < 4∧ycz h s g=(k:Int)∧zdu k=g∧znm g=(k:Int):=by
 by_cases hl:zds h s=0
 ·by_cases hg:znm g < 0
  ·have:=(zn0 hl hg).1;omega
  ·obtain ⟨k,hk,e1,e2⟩:=yjw hg
   exact ⟨hl,(zij hl hg).2.1,k,hk,by rw [(zij hl hg).2.2,e1],e2,e1⟩
 ·have:=(zn1 (g:=g) hl).1;omega
theorem zlx (l:List Acc):∀n:Nat,(zp9 n l).length=(l.filter fun a=>decide (0≤a.o∧a.o < (n:Int))).length
 |0=>by
  have:(l.filter fun a=>decide (0≤a.o∧a.o < ((0:Nat):Int)))= []:=by
   rw [List.filter_eq_nil_iff];intro a _;simp <;> omega
  rw [this];rfl
 |n+1=>by
  have ih:=zlx l n
  rw [zp9,yg9,List.flatMap_append,List.length_append]
  rw [zp9] at ih
  rw [ih]
  clear ih
  induction l with
  |nil=>rfl
  |cons a l ih=>
   simp only [List.filter_cons,List.flatMap_cons,List.flatMap_nil,List.append_nil] at ih ⊢
   by_cases h1:a.o=(n:Int)
   ·have e1:decide (0≤a.o∧a.o < (n:Int))=false:=decide_eq_false (by omega)
    have e2:decide (0≤a.o∧a.o < ((n+1:Nat):Int))=true:=decide_eq_true (by omega)
    have e3:(a.o==(n:Int))=true:=by simpa using h1
    rw [e1,e2,e3];simp only [↓reduceIte,List.length_cons,Bool.false_eq_true] at ih ⊢;omega
   ·have e3:(a.o==(n:Int))=false:=by simpa using h1
    by_cases h2:0≤a.o∧a.o < (n:Int)
    ·have e1:decide (0≤a.o∧a.o < (n:Int))=true:=decide_eq_true h2
     have e2:decide (0≤a.o∧a.o < ((n+1:Nat):Int))=true:=decide_eq_true (by omega)
     rw [e1,e2,e3];simp only [↓reduceIte,List.length_cons,Bool.false_eq_true] at ih ⊢;omega
    ·have e1:decide (0≤a.o∧a.o < (n:Int))=false:=decide_eq_false h2
     have e2:decide (0≤a.o∧a.o < ((n+1:Nat):Int))=false:=decide_eq_false (by omega)
     rw [e1,e2,e3];simp only [↓reduceIte,Bool.false_eq_true];exact ih
theorem zsf (n:Nat) (l:List Acc):(zp9 n l).length≤l.length:=by rw [zlx];exact List.length_filter_le _ _
theorem zs0 {h:Hist} (hc:u6 h=0) (s:Int):(zaa h s).length≤3000∧∀d∈zaa h s,d.A.length≤3000∧d.B.length≤3000:=by
 have lE:=(zfa hc).evs
 refine ⟨by rw [zaa,oM];exact Nat.le_trans (zsz h s) lE,fun d hd=> ?_⟩
 obtain ⟨t,_,rfl⟩:=List.mem_map.1 hd
 have h1:=zsf h.os.length (zp5 h t 3)
 have h2:=zsf h.os.length (zp5 h t 2)
 have h3:(zp5 h t 3).length≤h.evs.length:=zfd h t 3 h.evs.length
 have h4:(zp5 h t 2).length≤h.evs.length:=zfd h t 2 h.evs.length
 exact ⟨by show (zp9 _ _).length≤_;omega,by show (zp9 _ _).length≤_;omega⟩
theorem zxk {k n:Nat} {d:Dos} (h:d.A.length≤n∧d.B.length≤n):(zc5 k d).length≤n:=by rw [zc5];split;exact h.2;exact h.1
theorem zsj {k n:Nat} {d:Dos} (h:d.A.length≤n∧d.B.length≤n):(zf5 k d).length≤n:=by rw [zf5];split;exact h.1;exact h.2
def seB (h:Hist) (s g:Int):List Brch:=if zlp h s g=0 then brW (znm g).toNat (zaa h s) (zaa h s).length else []
theorem ylx {h:Hist} {s g:Int} (he:zlp h s g≠0):seB h s g= []:=if_neg he
theorem yd2 {h:Hist} {s g:Int} {k:Nat} (he:zlp h s g=0) (hk:znm g=(k:Int)):seB h s g=brW k (zaa h s) (zaa h s).length:=by rw [seB,if_pos he,hk];rfl
theorem zsv {α:Type} {l pre rest:List α} {d:α} (h:l=pre++d::rest) (e:pre= []):l=d::rest:=by rw [h,e];rfl
def haK (h:Hist) (s:Int):Nat→Int
 |0=>0
 |k+1=>if brW k (zaa h s) (zaa h s).length= [] then bI .or .i64 (haK h s k) (zdu k) else haK h s k
def haO (h:Hist) (s:Int):Int:=if zds h s=0 then haK h s 4 else 0
set_option maxHeartbeats 8000000 in
theorem zzn (h:Hist) (la:Lim 4611686018427387904 h) (s g:Int):y9 Tryz.prog 15 [.agg (x4 h),iv s,iv g] (.glob 0 117 x6:: .glob 3 148 y8:: .glob 5 276 x3:: .glob 6 279 y5:: .glob 2 197 u0:: []) (fun r h'=>h'= .glob 0 117 x6:: .glob 3 148 y8:: .glob 5 276 x3:: .glob 6 279 y5:: .glob 2 197 u0:: []∧r= .tup [.agg (zc8 ((seB h s g).head?.getD br0)),bv (seB h s g).head?.isSome,iv (zlp h s g)]):=by
 refine z6 Tryz.func15 rfl rfl rfl ?_
 refine rn ?_;refine z7 rfl (x9 rfl rfl rfl fun b3=> ?_)
 refine z7 rfl (x5 rfl fun b6=> ?_)
 refine z7 rfl (x5 rfl fun b7=> ?_)
 refine z7 rfl (x5 rfl fun b8=> ?_)
 refine rn ?_;refine qv rfl rfl (y4 rfl rfl (y3.qt (y3.of_fun (zzo h la s g)) ((pt4 _ _ _ _ _ _).trans (.cons _ ((pt4 _ _ _ _ _ _).trans (.cons _ ((pt4 _ _ _ _ _ _).trans (.cons _ ((pt4 _ _ _ _ _ _).trans (.cons _ (pt4 _ _ _ _ _ _))))))))))) ?_
 refine rn ?_;refine z8 rfl (fun hc22=> ?_) (fun hc22=> ?_)
 ·have he:zlp h s g≠0:=nzT hc22
  refine rn ?_;exact zd7 (.cons _ _ _ _ (.agg _ _ _ _ _ _ _ rfl inferInstance inferInstance inferInstance rfl) (.cons _ _ _ _ (.one _ _ _ _ _ _ _ rfl inferInstance inferInstance rfl) (.cons _ _ _ _ (.one _ _ _ _ _ _ _ rfl inferInstance inferInstance rfl) .nil))) (.drop [_,_,_,_] _ _) ⟨rfl,by rw [ylx he];rfl⟩
 ·have he:zlp h s g=0:=nzF hc22
  obtain ⟨hl0,eO,k,hk,eI,eB,eG⟩:=ygn he
  have hB:=zs0 (zbb.2 (ybr hl0).1) s
  rw [eI,eO]
  refine rn ?_;refine z7 rfl (w8 rfl rfl (y3.of_fun (yb5 k (zaa h s) _)) rfl ?_)
  rintro _ _ ⟨bi,bl,rfl,rfl⟩
  refine rn ?_;refine zlo (fun pend h''=>(pend=none∧(brW k (zaa h s) (zaa h s).length)= []∧h''= .box bl 101 [zd3 (zaa h s)]:: .box bi 3 [iv ((k:Nat):Int)]:: .glob 0 117 x6:: .box b8 32 [iv 0]:: .box b7 4 [bv false]:: .box b6 36 (zc8 br0):: .box b3 28 (x4 h):: .glob 3 148 y8:: .glob 5 276 x3:: .glob 6 279 y5:: .glob 2 197 u0:: [])∨(pend=some .ret∧∃d rest,(brW k (zaa h s) (zaa h s).length)=d::rest∧h''= .box bl 101 [zd3 (zaa h s)]:: .box bi 3 [iv ((k:Nat):Int)]:: .glob 0 117 x6:: .box b8 32 [iv 0]:: .box b7 4 [bv true]:: .box b6 36 (zc8 d):: .box b3 28 (x4 h):: .glob 3 148 y8:: .glob 5 276 x3:: .glob 6 279 y5:: .glob 2 197 u0:: [])) rfl (fun fn l q lp hlp=> ?_) (fun q h'' hK=> ?_) (fun q h'' cc hK=> ?_)
  ·suffices hy:∀pre d rest (x:Brch),(brW k (zaa h s) (zaa h s).length)=pre++d::rest→pre= []→y3 Tryz.prog (yv l) [.agg (zc8 d)] (.box bl 101 [zd3 (zaa h s)]:: .box bi 3 [iv ((k:Nat):Int)]:: .glob 0 117 x6::lp .ready none:: .defs q:: .box b8 32 [iv 0]:: .box b7 4 [bv false]:: .box b6 36 (zc8 br0):: .box b3 28 (x4 h):: .glob 3 148 y8:: .glob 5 276 x3:: .glob 6 279 y5:: .glob 2 197 u0:: []) (fun r h'=>∃x',(r=bv true∧pre++ [d]= []∧h'= .box bl 101 [zd3 (zaa h s)]:: .box bi 3 [iv ((k:Nat):Int)]:: .glob 0 117 x6::lp .ready none:: .defs q:: .box b8 32 [iv 0]:: .box b7 4 [bv false]:: .box b6 36 (zc8 br0):: .box b3 28 (x4 h):: .glob 3 148 y8:: .glob 5 276 x3:: .glob 6 279 y5:: .glob 2 197 u0:: [])∨(r=bv false∧(∃rest,(brW k (zaa h s) (zaa h s).length)=x'::rest)∧h'= .box bl 101 [zd3 (zaa h s)]:: .box bi 3 [iv ((k:Nat):Int)]:: .glob 0 117 x6::lp .done (some .ret):: .defs q:: .box b8 32 [iv 0]:: .box b7 4 [bv true]:: .box b6 36 (zc8 x'):: .box b3 28 (x4 h):: .glob 3 148 y8:: .glob 5 276 x3:: .glob 6 279 y5:: .glob 2 197 u0:: [])) by
    refine y9.mono (y9.perm ((pt2 _ _ _ _).trans (.cons _ ((pt2 _ _ _ _).trans (.cons _ (pt6 _ _ _ _ _ _ _ _))))) (yb4 k hk (zaa h s) (by omega) (fun d hd=>zxk ⟨Nat.le_trans (hB.2 d hd).1 (by decide),Nat.le_trans (hB.2 d hd).2 (by decide)⟩) (fun d hd=>zsj ⟨Nat.le_trans (hB.2 d hd).1 (by decide),Nat.le_trans (hB.2 d hd).2 (by decide)⟩) (yv l) rfl bi bl (fun pre _=>pre= []) (fun d=>∃rest,(brW k (zaa h s) (zaa h s).length)=d::rest) (fun _ _=>lp .ready none:: .defs q:: .box b8 32 [iv 0]:: .box b7 4 [bv false]:: .box b6 36 (zc8 br0):: .box b3 28 (x4 h):: .glob 3 148 y8:: .glob 5 276 x3:: .glob 6 279 y5:: .glob 2 197 u0:: []) (fun d=>lp .done (some .ret):: .defs q:: .box b8 32 [iv 0]:: .box b7 4 [bv true]:: .box b6 36 (zc8 d):: .box b3 28 (x4 h):: .glob 3 148 y8:: .glob 5 276 x3:: .glob 6 279 y5:: .glob 2 197 u0:: []) br0 rfl hy)) ?_
    rintro _ _ ⟨x,⟨hn,rfl⟩|⟨⟨rest,hn⟩,rfl⟩⟩
    ·exact ⟨none,.ready,_,((pt3 _ _ _ _ _).trans (.cons _ (pt3 _ _ _ _ _))),by simp,.inl ⟨rfl,hn,rfl⟩⟩
    ·exact ⟨some .ret,.done,_,((pt3 _ _ _ _ _).trans (.cons _ (pt3 _ _ _ _ _))),by simp,.inr ⟨rfl,x,rest,hn,rfl⟩⟩
   intro pre d rest x hL hpre
   refine y3.perm (pt3 _ _ _ _ _) (y3.ventE ?_)
   refine zdl hlp rfl rfl ?_
   refine rn ?_;refine z7 rfl (x5 rfl fun b12=> ?_)
   refine rn ?_;refine ⟨[(12,pZ b12),(6,pZ b6),(7,pZ b7),(8,pZ b8)],.box b12 36 (zc8 d):: .box bl 101 [zd3 (zaa h s)]:: .box bi 3 [iv ((k:Nat):Int)]:: .glob 0 117 x6:: .defs q:: .box b8 32 [iv 0]:: .box b7 4 [bv false]:: .box b6 36 (zc8 br0):: .box b3 28 (x4 h):: .glob 3 148 y8:: .glob 5 276 x3:: .glob 6 279 y5:: .glob 2 197 u0:: [],w7 (k8 (pt1 _ _ _)) es,?_⟩
   refine rn ?_;exact zmy (.refl _) ⟨_,_,.trans (.perm ((pt1 _ _ _).trans (.cons _ ((pt1 _ _ _).trans (.cons _ ((pt1 _ _ _).trans (.cons _ (pt1 _ _ _))))))) _) (.drop [_] _ _),d,.inr ⟨rfl,⟨rest,zsv hL hpre⟩,rfl⟩⟩
  ·obtain ⟨_,hn,rfl⟩|⟨hc',_⟩:=hK
   rotate_left
   ·cases hc'
   refine rn ?_;exact zgf (.refl _) (.cons _ _ _ _ (.agg _ _ _ _ _ _ _ rfl inferInstance inferInstance inferInstance rfl) (.cons _ _ _ _ (.one _ _ _ _ _ _ _ rfl inferInstance inferInstance rfl) (.cons _ _ _ _ (.one _ _ _ _ _ _ _ rfl inferInstance inferInstance rfl) .nil))) (.trans (.perm (.cons _ (.cons _ ((pt1 _ _ _).trans (.cons _ ((pt1 _ _ _).trans (.cons _ ((pt1 _ _ _).trans (.cons _ (pt1 _ _ _))))))))) _) (.drop [_,_,_,_,_,_] _ _)) ⟨rfl,by rw [yd2 he eG,hn,he];rfl⟩
  ·obtain ⟨hc',_⟩|⟨hc',d,rest,hn,rfl⟩:=hK
   ·cases hc'
   obtain rfl:cc= .ret:=by simpa using hc'
   refine rn ?_;exact zgf (.refl _) (.cons _ _ _ _ (.agg _ _ _ _ _ _ _ rfl inferInstance inferInstance inferInstance rfl) (.cons _ _ _ _ (.one _ _ _ _ _ _ _ rfl inferInstance inferInstance rfl) (.cons _ _ _ _ (.one _ _ _ _ _ _ _ rfl inferInstance inferInstance rfl) .nil))) (.trans (.perm (.cons _ (.cons _ ((pt1 _ _ _).trans (.cons _ ((pt1 _ _ _).trans (.cons _ ((pt1 _ _ _).trans (.cons _ (pt1 _ _ _))))))))) _) (.drop [_,_,_,_,_,_] _ _)) ⟨rfl,by rw [yd2 he eG,hn,he];rfl⟩
set_option maxHeartbeats 8000000 in
theorem yhu (h:Hist) (la:Lim 4611686018427387904 h) (s:Int):y9 Tryz.prog 24 [.agg (x4 h),iv s] (.glob 0 117 x6:: .glob 3 148 y8:: .glob 5 276 x3:: .glob 6 279 y5:: .glob 2 197 u0:: []) (fun r h'=>h'= .glob 0 117 x6:: .glob 3 148 y8:: .glob 5 276 x3:: .glob 6 279 y5:: .glob 2 197 u0:: []∧r= .tup [iv (haO h s),iv (zds h s)]):=by
 refine z6 Tryz.func24 rfl rfl rfl ?_
 refine rn ?_;refine z7 rfl (x9 rfl rfl rfl fun b2=> ?_)
 refine rn ?_;refine qv rfl rfl (y4 rfl rfl (y3.qt (y3.of_fun (zvx h la s)) ((pt2 _ _ _ _).trans (.cons _ ((pt2 _ _ _ _).trans (.cons _ ((pt2 _ _ _ _).trans (.cons _ (pt2 _ _ _ _))))))))) ?_
 refine rn ?_;refine z8 rfl (fun hc19=> ?_) (fun hc19=> ?_)
 ·have he:zds h s≠0:=nzT hc19
  refine rn ?_;exact zbl rfl rfl (.drop [_] _ _) ⟨rfl,by rw [haO,if_neg he];rfl⟩
 ·have hl0:zds h s=0:=nzF hc19
  have hB:=zs0 (zbb.2 (ybr hl0).1) s
  rw [zrc hl0]
  refine rn ?_;refine zem 4 (fun _ (_:List Nat)=>True) (fun k dfs=>⟨[(22,iv (k:Nat)),(8,iv (haK h s k)),(6,zd3 (zaa h s)),(21,.agg x6)],.box b2 28 (x4 h):: .glob 0 117 x6:: .glob 3 148 y8:: .glob 5 276 x3:: .glob 6 279 y5:: .glob 2 197 u0::(dfs.map Res.defs),dfs⟩) [] trivial es ?_
  intro k dfs lk _
  refine rn ?_;refine z8 rfl (fun hc23=> ?_) (fun hc23=> ?_)
  ·have hk:k < 4:=by have q:=oT hc23;omega
   refine zad ?_;refine k6 ?_;refine w6 ?_;refine zae ?_;refine w6 (y6 ?_)
   refine q1 ?_;refine qq rfl rfl (zff (i:=k) (out:=zs8 k) rfl rfl hk (by show k * 3+3≤12;omega) (yft hk)) ?_
   refine z7 rfl (x5 rfl fun b10=> ?_)
   refine rn ?_;refine z7 rfl (x5 rfl fun b11=> ?_)
   refine rn ?_;refine z7 rfl (w8 rfl rfl (y3.of_fun (yb5 k (zaa h s) _)) rfl ?_)
   rintro _ _ ⟨bi,bl,rfl,rfl⟩
   refine rn ?_;refine zlo (fun pend h''=>(pend=none∧(brW k (zaa h s) (zaa h s).length)= []∧h''= .box bl 101 [zd3 (zaa h s)]:: .box bi 3 [iv ((k:Nat):Int)]:: .glob 0 117 x6:: .box b11 4 [bv false]:: .box b10 116 (zs8 k):: .box b2 28 (x4 h):: .glob 3 148 y8:: .glob 5 276 x3:: .glob 6 279 y5:: .glob 2 197 u0::(dfs.map Res.defs))∨(pend=some (.exit 2)∧(brW k (zaa h s) (zaa h s).length)≠ []∧h''= .box bl 101 [zd3 (zaa h s)]:: .box bi 3 [iv ((k:Nat):Int)]:: .glob 0 117 x6:: .box b11 4 [bv true]:: .box b10 116 (zs8 k):: .box b2 28 (x4 h):: .glob 3 148 y8:: .glob 5 276 x3:: .glob 6 279 y5:: .glob 2 197 u0::(dfs.map Res.defs))) rfl (fun fn l q lp hlp=> ?_) (fun q h'' hK=> ?_) (fun q h'' cc hK=> ?_)
   ·suffices hy:∀pre d rest (x:Unit),(brW k (zaa h s) (zaa h s).length)=pre++d::rest→pre= []→y3 Tryz.prog (yv l) [.agg (zc8 d)] (.box bl 101 [zd3 (zaa h s)]:: .box bi 3 [iv ((k:Nat):Int)]:: .glob 0 117 x6::lp .ready none:: .defs q:: .box b11 4 [bv false]:: .box b10 116 (zs8 k):: .box b2 28 (x4 h):: .glob 3 148 y8:: .glob 5 276 x3:: .glob 6 279 y5:: .glob 2 197 u0::(dfs.map Res.defs)) (fun r h'=>∃x':Unit,(r=bv true∧pre++ [d]= []∧h'= .box bl 101 [zd3 (zaa h s)]:: .box bi 3 [iv ((k:Nat):Int)]:: .glob 0 117 x6::lp .ready none:: .defs q:: .box b11 4 [bv false]:: .box b10 116 (zs8 k):: .box b2 28 (x4 h):: .glob 3 148 y8:: .glob 5 276 x3:: .glob 6 279 y5:: .glob 2 197 u0::(dfs.map Res.defs))∨(r=bv false∧(brW k (zaa h s) (zaa h s).length)≠ []∧h'= .box bl 101 [zd3 (zaa h s)]:: .box bi 3 [iv ((k:Nat):Int)]:: .glob 0 117 x6::lp .done (some (.exit 2)):: .defs q:: .box b11 4 [bv true]:: .box b10 116 (zs8 k):: .box b2 28 (x4 h):: .glob 3 148 y8:: .glob 5 276 x3:: .glob 6 279 y5:: .glob 2 197 u0::(dfs.map Res.defs))) by
     refine y9.mono (y9.perm ((pt2 _ _ _ _).trans (.cons _ ((pt2 _ _ _ _).trans (.cons _ (pt5 _ _ _ _ _ _ _))))) (yb4 k hk (zaa h s) (by omega) (fun d hd=>zxk ⟨Nat.le_trans (hB.2 d hd).1 (by decide),Nat.le_trans (hB.2 d hd).2 (by decide)⟩) (fun d hd=>zsj ⟨Nat.le_trans (hB.2 d hd).1 (by decide),Nat.le_trans (hB.2 d hd).2 (by decide)⟩) (yv l) rfl bi bl (fun pre _=>pre= []) (fun _=>(brW k (zaa h s) (zaa h s).length)≠ []) (fun _ _=>lp .ready none:: .defs q:: .box b11 4 [bv false]:: .box b10 116 (zs8 k):: .box b2 28 (x4 h):: .glob 3 148 y8:: .glob 5 276 x3:: .glob 6 279 y5:: .glob 2 197 u0::(dfs.map Res.defs)) (fun _=>lp .done (some (.exit 2)):: .defs q:: .box b11 4 [bv true]:: .box b10 116 (zs8 k):: .box b2 28 (x4 h):: .glob 3 148 y8:: .glob 5 276 x3:: .glob 6 279 y5:: .glob 2 197 u0::(dfs.map Res.defs)) () rfl hy)) ?_
     rintro _ _ ⟨x,⟨hn,rfl⟩|⟨hn,rfl⟩⟩
     ·exact ⟨none,.ready,_,((pt3 _ _ _ _ _).trans (.cons _ (pt3 _ _ _ _ _))),by simp,.inl ⟨rfl,hn,rfl⟩⟩
     ·exact ⟨some (.exit 2),.done,_,((pt3 _ _ _ _ _).trans (.cons _ (pt3 _ _ _ _ _))),by simp,.inr ⟨rfl,hn,rfl⟩⟩
    intro pre d rest x hL hpre
    refine y3.perm (pt3 _ _ _ _ _) (y3.ventE ?_)
    refine zdl hlp rfl rfl ?_
    refine rn ?_;refine ⟨[(11,pZ b11)],.box bl 101 [zd3 (zaa h s)]:: .box bi 3 [iv ((k:Nat):Int)]:: .glob 0 117 x6:: .defs q:: .box b11 4 [bv false]:: .box b10 116 (zs8 k):: .box b2 28 (x4 h):: .glob 3 148 y8:: .glob 5 276 x3:: .glob 6 279 y5:: .glob 2 197 u0::(dfs.map Res.defs),es,?_⟩
    refine rn ?_;exact zj8 (.refl _) ⟨_,_,.perm ((pt1 _ _ _).trans (.cons _ ((pt1 _ _ _).trans (.cons _ (pt1 _ _ _))))) _,(),.inr ⟨rfl,by rw [zsv hL hpre];exact List.cons_ne_nil _ _,rfl⟩⟩
   ·obtain ⟨_,hn,rfl⟩|⟨hc',_⟩:=hK
    rotate_left
    ·cases hc'
    refine rn ?_;refine z8 rfl (fun hc31=> ?_) (fun hc31=> ?_)
    ·refine rn ?_;exact ⟨hk,q::dfs,trivial,by rw [haK,if_pos hn];exact w7 (k8 ((List.Perm.cons _ (.cons _ (.cons _ ((pt1 _ _ _).trans (.cons _ ((pt1 _ _ _).trans (.cons _ (pt1 _ _ _)))))))).trans (zhh _ [_,_,_,_,_,_,_,_,_,_] [] _))) (w7 (zas (h1:= [_,_,_,_])) es)⟩
    ·refine rn ?_;exact absurd hc31 (by decide)
   ·obtain ⟨hc',_⟩|⟨hc',hn,rfl⟩:=hK
    ·cases hc'
    obtain rfl:cc= .exit 2:=by simpa using hc'
    refine rn ?_;refine z8 rfl (fun hc31=> ?_) (fun hc31=> ?_)
    ·refine rn ?_;exact absurd hc31 (by decide)
    ·refine rn ?_;exact ⟨hk,q::dfs,trivial,by rw [haK,if_neg hn];exact w7 (k8 ((List.Perm.cons _ (.cons _ (.cons _ ((pt1 _ _ _).trans (.cons _ ((pt1 _ _ _).trans (.cons _ (pt1 _ _ _)))))))).trans (zhh _ [_,_,_,_,_,_,_,_,_,_] [] _))) (w7 (zas (h1:= [_,_,_,_])) es)⟩
  ·have qk:k=4:=by have q:=oF hc23;omega
   subst qk
   refine rn ?_;exact zgf (List.perm_append_comm (l₁:= [_,_,_,_,_,_]) (l₂:=(dfs.map Res.defs))) (.cons _ _ _ _ (.tmp _ _ rfl) (.cons _ _ _ _ (.tmp _ _ rfl) .nil)) (.drop [_] _ _) ⟨rfl,by rw [haO,if_pos hl0,hl0];rfl⟩
instance:EqInts Tryz.prog 81 3:=⟨by kernel_rfl,fun w xs ys h1 h2=>match xs,ys,h1,h2 with
 | [a0,a1,a2],[c0,c1,c2],_,_=>by
   rw [run_equalIn_struct w 9999 81 _ _ (by kernel_rfl) (by kernel_rfl)]
   simp only [Program.fieldsOf,Tryz.underlying81]
   simp [Op.eqFields,part,run_equalIn_int _ 9998 3 .i64 .i64 _ _ Tryz.underlying3]
   by_cases h0:a0=c0
   case neg=>simp [h0]
   subst h0
   by_cases h1:a1=c1
   case neg=>simp [h1]
   subst h1
   by_cases h2:a2=c2
   case neg=>simp [h2]
   subst h2
   simp⟩
def yjf (L:List Dos) (t:Int):Int:=za5 (fun d:Dos=>d.t==t) 0 L
def isO (h:Hist) (s:Int) (z:Brch):Bool:=
 if zlp h s z.g=0 then
  (if yjf (zaa h s) z.e < 0∨yjf (zaa h s) z.l≤yjf (zaa h s) z.e then false
   else (match (zaa h s)[(yjf (zaa h s) z.e).toNat]?,(zaa h s)[(yjf (zaa h s) z.l).toNat]? with|some e,some l=>decide (z∈zig (znm z.g).toNat e l)|_,_=>false))
 else false
def yh3 (h:Hist) (x:Int) (v:Ver):Int×Bool:=if zii h x h.os.length=0 then (if v=⟨0,0⟩ then (0,true) else (yh2 h x v+1,decide (yh2 h x v ≥ 0))) else (0,false)
def kdR (rd:Bool):Int:=bif rd then 3 else 2
def rdA (g:Int):Bool:=g==2||g==8
def rdB (g:Int):Bool:=g==1||g==2
def yns (h:Hist) (t kd x:Int) (k:Nat):List Acc:=(zn2 h t kd k).filter fun a=>a.o==x
def hF (g t1 t2 x:Int) (a b:Acc):Option Brch:=if b.r < a.r then some ⟨g,t1,t2,x,a.a,b.a⟩ else none
def bG (h:Hist) (g t1 t2 x:Int) (i:Nat):List Brch:=(yns h t1 (kdR (rdA g)) x i).flatMap fun a=>(yns h t2 (kdR (rdB g)) x h.evs.length).filterMap (hF g t1 t2 x a)
def yol (h:Hist) (g t1 t2:Int) (k:Nat):List Brch:=(upR k).flatMap fun x=>bG h g t1 t2 x h.evs.length
def eR (h:Hist) (g:Int) (l:List Int) (t2:Int) (i:Nat):List Brch:=(l.take i).flatMap fun t1=>yol h g t1 t2 h.os.length
abbrev yct (l:List Brch):AV:= .list false 6 (l.map zc8)
def isG (g:Int):Bool:=g==1||g==2||g==4||g==8
def nmR (n:NV) (h:Hist) (L:List Res):List Res:= .row n.vT.v 1 9 (h.ts.map zay):: .row n.vS.v 1 9 (h.ss.map zay):: .row n.vO.v 1 9 (h.os.map zay):: .row n.vP.v 1 9 (h.ps.map zay)::L
def yf0 (e:Ev):List AV:= [iv e.kind,iv e.t,iv e.s,iv e.l,iv e.o,iv e.v.t,iv e.v.k,iv e.p,.v (.slice none 0 0)]
theorem yf1 {α:Type} [DecidableEq α] {l m:List α} {k:Nat} (h1:k < l.length) (h2:k < m.length) (h:l.take k=m.take k) (e:l[k]=m[k]):l.take (k+1)=m.take (k+1):=by
 rw [List.take_succ_eq_append_getElem h1,List.take_succ_eq_append_getElem h2,h,e]
theorem ymf {α:Type} {l m:List α} {k:Nat} (h1:k < l.length) (h2:k < m.length) (e:l[k]≠m[k]):l≠m:=fun q=>e (by subst q;rfl)
theorem yf2 {a b:Nat} (h:((a:Int) !=(b:Int))=false):a=b:=Int.ofNat.inj (by simpa using h)
theorem yfw (h:Hist) (t:Int) {k:Nat} (hk:k < 4):zc5 k (zro h t)=zp9 h.os.length (zp5 h t (kdA (zdu k))):=by
 rcases (by omega:k=0∨k=1∨k=2∨k=3) with rfl|rfl|rfl|rfl <;> rfl
theorem ydr (h:Hist) (t:Int) {k:Nat} (hk:k < 4):zf5 k (zro h t)=zp9 h.os.length (zp5 h t (kdB (zdu k))):=by
 rcases (by omega:k=0∨k=1∨k=2∨k=3) with rfl|rfl|rfl|rfl <;> rfl
theorem ygc (h:Hist) (t1 t2:Int) {k:Nat} (hk:k < 4):zig k (zro h t1) (zro h t2)=ync h.os.length (zdu k) t1 t2 (zp5 h t1 (kdA (zdu k))) (zp5 h t2 (kdB (zdu k))):=by
 rw [zig,yfw h t1 hk,ydr h t2 hk];rfl
theorem zx7 (h:Hist) (s:Int) {k:Nat} (hk:k < 4):∀j,brW k (zaa h s) j=brL h.os.length (zdu k) (yf4 h s (zdu k)) j
 |0=>rfl
 |j+1=>by
  rw [brW,brL,zx7 h s hk j,zaa,yf4,List.getElem?_map,List.getElem?_map]
  cases (zei h.evs s)[j]? with
  |none=>rfl
  |some t2=>
   simp only [Option.map_some]
   rw [←List.map_take,←List.map_take,List.filterMap_map,List.filterMap_map]
   congr 1
   refine ztb fun t1 _=> ?_
   simp only [Function.comp,hdW]
   rw [ygc h t1 t2 hk];rfl
theorem znx (h:Hist) (s:Int) {k:Nat} (hk:k < 4):brW k (zaa h s) (zaa h s).length=brS h s (zdu k):=by
 rw [zx7 h s hk,brS,zaa,yf4,oM,oM]
theorem yfi {h:Hist} {s:Int} (hl:zds h s=0):haO h s=yjj h s:=by
 rw [haO,if_pos hl]
 simp only [haK,yjj,List.foldl_cons,List.foldl_nil]
 rw [znx h s (by decide:0 < 4),znx h s (by decide:1 < 4),znx h s (by decide:2 < 4),znx h s (by decide:3 < 4)]
 simp only [show zdu 0=1 from rfl,show zdu 1=2 from rfl,show zdu 2=4 from rfl,show zdu 3=8 from rfl]
 by_cases h1:brS h s 1= [] <;> by_cases h2:brS h s 2= [] <;> by_cases h3:brS h s 4= [] <;> by_cases h4:brS h s 8= [] <;> simp only [h1,h2,h3,h4,if_true,if_false,↓reduceIte] <;> decide
theorem zh9 {n m:Int}:isB n m=true ↔ 0≤n∧n < m:=by unfold isB;simp
theorem zwx {h:Hist} (hc:u6 h=0) {s:Int} (hb:isB s h.ss.length=true):zds h s=0:=zyc hc (zh9.1 hb)
theorem yjv {g:Int}:znm g < 0 ↔ isG g=false:=by
 unfold znm isG
 by_cases h1:g=1
 ·subst h1;decide
 by_cases h2:g=2
 ·subst h2;decide
 by_cases h3:g=4
 ·subst h3;decide
 by_cases h4:g=8
 ·subst h4;decide
 simp [h1,h2,h3,h4]
theorem ykt {h:Hist} (hc:u6 h=0) {s:Int} (hb:isB s h.ss.length=true) {g:Int} (hg:isG g=true):zlp h s g=0:=(zij (zwx hc hb) fun q=>by rw [yjv.1 q] at hg;cases hg).1
end Go.Proofs
namespace Go.Ab
open Go
section
variable {P:Program} {h:List Res} {f:Operand→Option AV} {dst:Option Tmp} {ty:TypeId} {pos:String} {after:Array Edge} {guard:Option (Nat×Bool)} {x:Operand}
end
end Go.Ab
set_option maxRecDepth 10000
namespace Go.Proofs
open Go Go.Ab
attribute [local irreducible] QR QV OE zca aw zcu zbh za3 zam thn ze6 zdj jch zeh
open Go.H
theorem take_min {α β:Type} {f:α→β} (l:List α) (n:Nat):(l.map f).take (min (l.map f).length n)=(l.take n).map f:=by
 rw [←List.map_take,oM]
 congr 1
 by_cases h:l.length≤n
 ·rw [Nat.min_eq_left h,List.take_length,List.take_of_length_le h]
 ·rw [Nat.min_eq_right (by omega)]
theorem yhr:∀{k:Nat},k < 4→zl0 .shl .i64 1 (k:Nat)=some (zdu k)
 |0,_=>rfl
 |1,_=>rfl
 |2,_=>rfl
 |3,_=>rfl
end Go.Proofs
