/- The walks of session's asked, between. Conditions: none. -/
import Derived.Test.YtcaijocpofcbdaaGreatDoorGAsI
set_option maxHeartbeats 4000000
set_option linter.unusedSectionVars false
set_option linter.unusedSimpArgs false
set_option linter.unusedVariables false
set_option maxRecDepth 10000
namespace Go.Proofs
open Go Go.Ab
attribute [local irreducible] QR QV OE zc9 aw zds zb0 zbp za8 thn zgc zem jch zfo
open Go.H
abbrev yis:AV:= .fn (.func 244) [] []
abbrev yir:AV:= .fn (.func 248) [] []
def x9:List AV:= [iv 1,yis,yir,iv 2,yir,yir,iv 4,yis,yis,iv 8,yir,yis]
def zfe (k:Nat):Int:=if k=0 then 1 else if k=1 then 2 else if k=2 then 4 else 8
def gFn (k:Nat):Nat:=if k=0∨k=2 then 244 else 248
def gSn (k:Nat):Nat:=if k=0∨k=1 then 248 else 244
abbrev yup (k:Nat):AV:= .fn (.func (gFn k)) [] []
abbrev yuo (k:Nat):AV:= .fn (.func (gSn k)) [] []
abbrev zx6 (k:Nat):List AV:= [iv (zfe k),yup k,yuo k]
theorem yom {k:Nat} (hk:k < 4):(x9.drop (k * 3)).take 3=zx6 k:=by
 rcases (by omega:k=0∨k=1∨k=2∨k=3) with rfl|rfl|rfl|rfl <;> rfl
def zed (k:Nat) (d:Dos):List Acc:=if k=0∨k=2 then d.B else d.A
def zid (k:Nat) (d:Dos):List Acc:=if k=0∨k=1 then d.A else d.B
def giK (g:Int):Nat→Int
 |0=> -1
 |k+1=>if zfe k=g then (k:Int) else giK g k
def zqu (g:Int):Int:=if g=1 then 0 else if g=2 then 1 else if g=4 then 2 else if g=8 then 3 else -1
theorem yxr (g:Int):giK g 4=zqu g:=by
 simp only [giK,zfe,zqu];by_cases h1:g=1
 ·subst h1;decide
 by_cases h2:g=2
 ·subst h2;decide
 by_cases h3:g=4
 ·subst h3;decide
 by_cases h4:g=8
 ·subst h4;decide
 simp [h1,h2,h3,h4,M8 h1,M8 h2,M8 h3,M8 h4]
theorem ysz {g:Int} (h:¬zqu g < 0):∃k,k < 4∧zqu g=(k:Nat)∧zfe k=g:=by
 rw [zqu] at h ⊢;split
 ·exact ⟨0,by decide,rfl,by rename_i e;rw [e];rfl⟩
 split
 ·exact ⟨1,by decide,rfl,by rename_i e;rw [e];rfl⟩
 split
 ·exact ⟨2,by decide,rfl,by rename_i e;rw [e];rfl⟩
 split
 ·exact ⟨3,by decide,rfl,by rename_i e;rw [e];rfl⟩
 exfalso;simp_all
def zoj (h:Hist) (s g:Int):Int:=if zfc h s≠0 then zfc h s else if zqu g < 0 then 2 else 0
def yk4 (h:Hist) (s g:Int):List Dos:=if zoj h s g=0 then zax h s else []
def yk5 (h:Hist) (s g:Int):Int:=if zoj h s g=0 then zqu g else 0
theorem zre {h:Hist} {s g:Int} (he:zfc h s≠0):zoj h s g=zfc h s∧yk4 h s g= []∧yk5 h s g=0:=by
 have:zoj h s g=zfc h s:=A6 he;exact ⟨this,by rw [yk4,this,A0 he],by rw [yk5,this,A0 he]⟩
theorem zrd {h:Hist} {s g:Int} (he:zfc h s=0) (hg:zqu g < 0):zoj h s g=2∧yk4 h s g= []∧yk5 h s g=0:=by
 have:zoj h s g=2:=by rw [zoj,A0 (by simpa using he),A6 hg]
 exact ⟨this,by rw [yk4,this,A0 (by decide)],by rw [yk5,this,A0 (by decide)]⟩
theorem zk7 {h:Hist} {s g:Int} (he:zfc h s=0) (hg:¬zqu g < 0):zoj h s g=0∧yk4 h s g=zax h s∧yk5 h s g=zqu g:=by
 have:zoj h s g=0:=by rw [zoj,A0 (by simpa using he),A0 hg]
 exact ⟨this,by rw [yk4,this,A6 rfl],by rw [yk5,this,A6 rfl]⟩
def zk5 (k:Nat) (e l:Dos):List Brch:=(zed k e).flatMap fun a=>(zid k l).filterMap (brk (zfe k) e.t l.t a)
theorem ywe {g t1 t2:Int} {a b:Acc} (h1:(a.o==b.o)=true) (h2:decide (b.r < a.r)=true):brk g t1 t2 a b=some ⟨g,t1,t2,a.o,a.a,b.a⟩:=by rw [brk,h1,h2];rfl
theorem yet {g t1 t2:Int} {a b:Acc} (h1:(a.o==b.o)=false):brk g t1 t2 a b=none:=by rw [brk,h1];rfl
theorem yes {g t1 t2:Int} {a b:Acc} (h2:decide (b.r < a.r)=false):brk g t1 t2 a b=none:=by rw [brk,h2,C2];rfl
theorem yot {α β:Type} {f:α→Option β} {l:List α} {k:Nat} {b:β} (hk:k < l.length) (h:f l[k]=some b):(l.take (k+1)).filterMap f=(l.take k).filterMap f++ [b]:=by
 rw [A5 hk,N4];simp [h]
theorem ydx {α β:Type} {f:α→Option β} {l:List α} {k:Nat} (hk:k < l.length) (h:f l[k]=none):(l.take (k+1)).filterMap f=(l.take k).filterMap f:=by
 rw [A5 hk,N4];simp [h]
def zwf (k:Nat) (e l:Dos) (i:Nat):List Brch:=((zed k e).take i).flatMap fun a=>(zid k l).filterMap (brk (zfe k) e.t l.t a)
theorem ytu {k i:Nat} {e l:Dos} (hi:i < (zed k e).length):zwf k e l (i+1)=zwf k e l i++(zid k l).filterMap (brk (zfe k) e.t l.t (zed k e)[i]):=by
 rw [zwf,A5 hi,M0];simp [zwf]
theorem yo6 {k i j:Nat} {e l:Dos} {d:Brch} (hi:i < (zed k e).length) (hj:j < (zid k l).length) (hd:brk (zfe k) e.t l.t (zed k e)[i] (zid k l)[j]=some d):
 ∃rest,zk5 k e l=(zwf k e l i++((zid k l).take j).filterMap (brk (zfe k) e.t l.t (zed k e)[i]))++d::rest:=by
 have e1:(zid k l).filterMap (brk (zfe k) e.t l.t (zed k e)[i])=((zid k l).take j).filterMap (brk (zfe k) e.t l.t (zed k e)[i])++d::((zid k l).drop (j+1)).filterMap (brk (zfe k) e.t l.t (zed k e)[i]):=by
  conv=>lhs;rw [←G9 j (zid k l),A8 hj]
  rw [N4,P2,hd]
 refine ⟨((zid k l).drop (j+1)).filterMap (brk (zfe k) e.t l.t (zed k e)[i])++((zed k e).drop (i+1)).flatMap (fun a=>(zid k l).filterMap (brk (zfe k) e.t l.t a)),?_⟩;rw [zk5];conv=>lhs;rw [←G9 i (zed k e),A8 hi]
 rw [M0,I6,e1,zwf];simp [E0]
theorem yjb (l:List Brch):∀r∈l.map zc4,r.all AV.one=true:=by
 intro r hr;obtain ⟨a,_,rfl⟩:=H2.1 hr;rfl
theorem ybk (d:Dos):y9 Tryz.prog 244 [.agg (zc3 d)] [] (fun r h'=>h'= []∧r=zia d.B):=by
 refine z6 Tryz.func244 rfl rfl rfl ?_;refine rn ?_;refine z8 rfl (w7 rfl rfl rfl fun b1=>?_);refine rn ?_;refine rq 1 ?_;exact ⟨rfl,rfl⟩
theorem ybi (d:Dos):y9 Tryz.prog 248 [.agg (zc3 d)] [] (fun r h'=>h'= []∧r=zia d.A):=by
 refine z6 Tryz.func248 rfl rfl rfl ?_;refine rn ?_;refine z8 rfl (w7 rfl rfl rfl fun b1=>?_);refine rn ?_;refine rq 1 ?_;exact ⟨rfl,rfl⟩
theorem zx7 (k:Nat) (d:Dos):y4 Tryz.prog (yup k) [.agg (zc3 d)] [] (fun r h'=>h'= []∧r=zia (zed k d)):=by
 rw [yup,gFn,zed];split
 ·exact y4.of_fun (ybk d)
 exact y4.of_fun (ybi d)
theorem zw9 (k:Nat) (d:Dos):y4 Tryz.prog (yuo k) [.agg (zc3 d)] [] (fun r h'=>h'= []∧r=zia (zid k d)):=by
 rw [yuo,gSn,zid];split
 ·exact y4.of_fun (ybi d)
 exact y4.of_fun (ybk d)
theorem ygo (h:Hist) (la:Lim 4611686018427387904 h) (s g:Int):y9 Tryz.prog 58 [.agg (y8 h),iv s,iv g] (.glob 0 117 x9:: .glob 3 148 x3:: .glob 5 276 x6:: .glob 6 279 y7:: .glob 2 197 u3:: []) (fun r h'=>h'= .glob 0 117 x9:: .glob 3 148 x3:: .glob 5 276 x6:: .glob 6 279 y7:: .glob 2 197 u3:: []∧r= .tup [zfp (yk4 h s g),iv (yk5 h s g),iv (zoj h s g)]):=by
 refine z6 Tryz.func58 rfl rfl rfl ?_;refine rn ?_;refine z8 rfl (w7 rfl rfl rfl fun b3=>?_);refine rn ?_;refine zbv 4 (fun _=>True) (fun k=>⟨[(15,iv (k:Nat)),(9,iv (giK g k)),(1,iv s),(2,iv g),(3,pZ b3),(14,.agg x9)],.box b3 28 (y8 h):: .glob 0 117 x9:: .glob 3 148 x3:: .glob 5 276 x6:: .glob 6 279 y7:: .glob 2 197 u3:: [],[]⟩) trivial es ?_;intro k lk _;refine rn ?_;refine z7 rfl (fun hc16=>?_) (fun hc16=>?_)
 ·have hk:k < 4:=by have q:=oT hc16;omega
  refine k7 ?_;refine j8 ?_;refine x7 ?_;refine k8 ?_;refine x7 (y5 ?_);refine q1 ?_;refine qq rfl rfl (zhl (i:=k) (out:=zx6 k) rfl rfl hk (by show k * 3+3≤12;omega) (yom hk)) ?_;refine z8 rfl (y6 rfl fun b11=>?_);refine rn ?_;refine z7 rfl (fun hc22=>?_) (fun hc22=>?_)
  ·have hg:zfe k=g:=by simpa using hc22
   refine rn ?_;exact ⟨hk,trivial,by rw [giK,A6 hg];exact eA⟩
  have hg:¬zfe k=g:=by simpa using hc22
  refine rn ?_;exact ⟨hk,trivial,by rw [giK,A0 hg];exact eA⟩
 have qk:k=4:=by have q:=oF hc16;omega
 subst qk;rw [yxr];refine rn ?_;refine qv rfl rfl (y3 rfl rfl (y4.qt (y4.of_fun (ybj h la s)) ((pt2 _ _ _ _).trans (.cons _ ((pt2 _ _ _ _).trans (.cons _ ((pt2 _ _ _ _).trans (.cons _ (pt2 _ _ _ _))))))))) ?_;refine rn ?_;refine z7 rfl (fun hc31=>?_) (fun hc31=>?_)
 ·have he:zfc h s≠0:=nzT hc31;refine rn ?_;exact zdn (.cons _ _ _ _ (.tmp _ _ rfl) (.cons _ _ _ _ (.tmp _ _ rfl) (.cons _ _ _ _ (.tmp _ _ rfl) .nil))) (.trans (.drop [_] _ _) (.trans (j7 3 121 _) (zba [] [_,_]))) ⟨rfl,by rw [(zre (g:=g) he).1,(zre (g:=g) he).2.1,(zre (g:=g) he).2.2];rfl⟩
 have he:zfc h s=0:=nzF hc31;refine rn ?_;refine z7 rfl (fun hc35=>?_) (fun hc35=>?_)
 ·have hg:zqu g < 0:=oT hc35;refine rn ?_;exact zdn (.cons _ _ _ _ (.tmp _ _ rfl) (.cons _ _ _ _ (.tmp _ _ rfl) (.cons _ _ _ _ (.tmp _ _ rfl) .nil))) (.trans (.drop [_] _ _) (.trans (j7 3 121 _) (zba [] [_,_]))) ⟨rfl,by rw [(zrd he hg).1,(zrd he hg).2.1,(zrd he hg).2.2];rfl⟩
 have hg:¬zqu g < 0:=oF hc35;refine rn ?_;exact zdn (.cons _ _ _ _ (.tmp _ _ rfl) (.cons _ _ _ _ (.tmp _ _ rfl) (.cons _ _ _ _ (.tmp _ _ rfl) .nil))) (.drop [_] _ _) ⟨rfl,by rw [(zk7 he hg).1,(zk7 he hg).2.1,(zk7 he hg).2.2,zvt he];rfl⟩
theorem ymf (k:Nat) (e l:Dos) (W:List Res):y9 Tryz.prog 69 [iv (k:Int),.agg (zc3 e),.agg (zc3 l)] W (fun r h'=>∃bi be bl,h'= .box bl 121 (zc3 l):: .box be 121 (zc3 e):: .box bi 3 [iv (k:Int)]::W∧r= .fn (.func 119) [] [pZ bi,pZ bl,pZ be]):=by
 refine z6 Tryz.func69 rfl rfl rfl ?_;refine rn ?_;refine z8 rfl (w7 rfl rfl rfl fun b3=>?_);refine z8 rfl (w7 rfl rfl rfl fun b4=>?_);refine z8 rfl (w7 rfl rfl rfl fun b5=>?_);refine rn ?_;exact u6 rfl (.refl _ _) ⟨_,_,_,rfl,rfl⟩
theorem yme (k:Nat) (hk:k < 4) (e l:Dos) (h1:(zed k e).length≤1000000) (h2:(zid k l).length≤1000000) (y:AV) (bi be bl:Nat) {σ:Type} (p:List Brch→σ→Prop) (q:σ→Prop) (I:List Brch→σ→List Res) (X:σ→List Res) (x0:σ) (hp0:p [] x0) (hy:∀pre d rest x,(zk5 k e l)=pre++d::rest→p pre x→y4 Tryz.prog y [.agg (zc4 d)] (.box bl 121 (zc3 l):: .box be 121 (zc3 e):: .box bi 3 [iv ((k:Nat):Int)]:: .glob 0 117 x9::I pre x) (fun r h'=>∃x',(r=bv true∧p (pre++ [d]) x'∧h'= .box bl 121 (zc3 l):: .box be 121 (zc3 e):: .box bi 3 [iv ((k:Nat):Int)]:: .glob 0 117 x9::I (pre++ [d]) x')∨(r=bv false∧q x'∧h'= .box bl 121 (zc3 l):: .box be 121 (zc3 e):: .box bi 3 [iv ((k:Nat):Int)]:: .glob 0 117 x9::X x'))):y9 Tryz.prog 119 [y,pZ bi,pZ bl,pZ be] (.box bl 121 (zc3 l):: .box be 121 (zc3 e):: .box bi 3 [iv ((k:Nat):Int)]:: .glob 0 117 x9::I [] x0) (fun r h'=>∃x,(p (zk5 k e l) x∧h'= .box bl 121 (zc3 l):: .box be 121 (zc3 e):: .box bi 3 [iv ((k:Nat):Int)]:: .glob 0 117 x9::I (zk5 k e l) x)∨(q x∧h'= .box bl 121 (zc3 l):: .box be 121 (zc3 e):: .box bi 3 [iv ((k:Nat):Int)]:: .glob 0 117 x9::X x)):=by
 refine z6 Tryz.func119 rfl rfl rfl ?_;refine x7 (y5 ?_);refine q1 ?_;refine qq rfl rfl (k9 (i:=k) rfl rfl (by omega)) ?_;refine qq rfl rfl (za9 (zi8 rfl (by show 0+k * 3+3≤12;omega)) (show AV.agg _=AV.agg (zx6 k) from A4 AV.agg (by rw [H9];exact yom hk))) ?_;refine z8 rfl (y6 rfl fun b5=>?_);refine rn ?_;refine qv rfl rfl (y3 rfl rfl (y4.pure (R:=fun r=>r=zia (zid k l)) (zw9 k l))) ?_;refine rn ?_;refine qv rfl rfl (y3 rfl rfl (y4.pure (R:=fun r=>r=zia (zed k e)) (zx7 k e))) ?_;refine rn ?_;refine zb5 (zed k e).length (fun i (x:σ)=>p (zwf k e l i) x) (fun i x=>⟨[(23,iv i),(0,y),(2,pZ bl),(3,pZ be),(5,pZ b5),(6,zia (zid k l)),(21,zia (zed k e)),(22,iv ((zed k e).map accR).length)],.box b5 116 (zx6 k):: .box bl 121 (zc3 l):: .box be 121 (zc3 e):: .box bi 3 [iv ((k:Nat):Int)]:: .glob 0 117 x9::I (zwf k e l i) x,[]⟩) x0 hp0 es ?_;intro i x li zi;refine rn ?_;refine z7 rfl (fun hc24=>?_) (fun hc24=>?_)
 ·have hi:=zaw hc24;have ri:=zam (f:=accR) hi;refine rn ?_;refine z8 rfl (y6 rfl fun b8=>?_);refine rn ?_;refine zb5 (zid k l).length (fun j (x:σ)=>p ((zwf k e l i)++((zid k l).take j).filterMap (brk (zfe k) e.t l.t (zed k e)[i])) x) (fun j x=>⟨[(29,iv j),(0,y),(2,pZ bl),(3,pZ be),(5,pZ b5),(6,zia (zid k l)),(8,pZ b8),(21,zia (zed k e)),(22,iv ((zed k e).map accR).length),(23,iv i),(27,zia (zid k l)),(28,iv ((zid k l).map accR).length)],.box b8 178 (accR (zed k e)[i]):: .box b5 116 (zx6 k):: .box bl 121 (zc3 l):: .box be 121 (zc3 e):: .box bi 3 [iv ((k:Nat):Int)]:: .glob 0 117 x9::I ((zwf k e l i)++((zid k l).take j).filterMap (brk (zfe k) e.t l.t (zed k e)[i])) x,[]⟩) x (by simpa using zi) (by simpa using eA) ?_;intro j x lj zj;refine rn ?_;refine z7 rfl (fun hc30=>?_) (fun hc30=>?_)
  ·have hj:=zaw hc30;have rj:=zam (f:=accR) hj;refine rn ?_;refine z8 rfl (y6 rfl fun b10=>?_);refine rn ?_;refine x5 (fun hg8_5=>?_) (fun hg8_5=>?_)
   ·refine rn ?_;refine x5 (fun hg8_12=>?_) (fun hg8_12=>?_)
    ·refine q1 ?_;refine q1 ?_;refine q1 ?_;refine q1 ?_;refine q1 ?_;refine q1 ?_;refine q1 ?_;refine q1 ?_;refine q1 ?_;refine q1 ?_;refine q1 ?_;refine q1 ?_;refine q1 ?_;refine qq rfl rfl (zal (out:= [iv (zfe k),iv e.t,iv l.t,iv (zed k e)[i].o,iv (zed k e)[i].a,iv (zid k l)[j].a]) rfl (by rfl)) ?_;have hbk:=ywe (g:=zfe k) (t1:=e.t) (t2:=l.t) hg8_5 hg8_12;obtain ⟨rest,hL⟩:=yo6 hi hj hbk;refine z8 rfl (q7 rfl rfl (y4.fr3 (hy ((zwf k e l i)++((zid k l).take j).filterMap (brk (zfe k) e.t l.t (zed k e)[i])) _ rest x hL zj)) rfl ?_);rintro _ _ ⟨_,rfl,x',⟨rfl,hp',rfl⟩|⟨rfl,hq',rfl⟩⟩
     ·refine rn ?_;refine z7 rfl (fun hc62=>?_) (fun hc62=>?_)
      ·first|cases hc62|exact absurd hc62 (by decide)|(exfalso;simp_all;done)
      refine rn ?_;exact ⟨hj,x',by rw [yot hj hbk,←E0];exact hp',by rw [yot hj hbk,←E0];exact eA⟩
     refine rn ?_;refine z7 rfl (fun hc62=>?_) (fun hc62=>?_)
     ·refine rn ?_;exact zdn .nil (.drop [_,_,_] _ _) ⟨x',.inr ⟨hq',rfl⟩⟩
     first|cases hc62|exact absurd hc62 (by decide)|(exfalso;simp_all;done)
    refine rn ?_;refine zfd rfl ?_;refine rn ?_;exact ⟨hj,x,by rw [ydx hj (yes hg8_12)];exact zj,by rw [ydx hj (yes hg8_12)];exact eA⟩
   refine rn ?_;refine zfd rfl ?_;refine rn ?_;exact ⟨hj,x,by rw [ydx hj (yet hg8_5)];exact zj,by rw [ydx hj (yet hg8_5)];exact eA⟩
  have qj:=zaz hc30 lj;refine rn ?_;have e1:((zwf k e l i)++((zid k l).take j).filterMap (brk (zfe k) e.t l.t (zed k e)[i]))=(zwf k e l (i+1)):=by rw [ytu hi,qj,C7]
  exact ⟨hi,x,by rw [←e1];exact zj,by rw [←e1];exact eA⟩
 have qi:=zaz hc24 li;refine rn ?_;have e1:(zwf k e l i)=(zk5 k e l):=by rw [qi,zwf,C7];rfl
 exact zfi .nil (.drop [_] _ _) ⟨x,.inl ⟨by rw [←e1];exact zi,by rw [←e1]⟩⟩
theorem yv2 {k:Nat} (hk:k < 4):x9[0+k * 3+2]? =some (yuo k):=by
 rcases (by omega:k=0∨k=1∨k=2∨k=3) with rfl|rfl|rfl|rfl <;> rfl
theorem yv3 {k:Nat} (hk:k < 4):x9[0+k * 3+1]? =some (yup k):=by
 rcases (by omega:k=0∨k=1∨k=2∨k=3) with rfl|rfl|rfl|rfl <;> rfl
def yug (M:List (Int×Int)) (b:Acc):Bool:=decide (b.r < (zch b.o M).getD 0)
def yqd (k:Nat) (d:Dos) (M:List (Int×Int)):Bool:=(zid k d).any (yug M)
def zl5 (M:List (Int×Int)) (l:List Acc):List (Int×Int):=l.foldl (fun m a=>zf2 a.o (max ((zch a.o m).getD 0) a.r) m) M
theorem yrr {M:List (Int×Int)} {l:List Acc} {i:Nat} (hi:i < l.length):zl5 M (l.take (i+1))=zf2 l[i].o (max ((zch l[i].o (zl5 M (l.take i))).getD 0) l[i].r) (zl5 M (l.take i)):=by
 rw [zl5,A5 hi,K0];rfl
theorem ycr (o:Int):∀(l:List Acc) (M:List (Int×Int)),(zch o M).getD 0≤(zch o (zl5 M l)).getD 0∧∀a∈l,a.o=o→a.r≤(zch o (zl5 M l)).getD 0
 | [],M=>⟨A0o _,by simp⟩
 |a::l,M=>by
  obtain ⟨h1,h2⟩:=ycr o l (zf2 a.o (max ((zch a.o M).getD 0) a.r) M);have e:zl5 M (a::l)=zl5 (zf2 a.o (max ((zch a.o M).getD 0) a.r) M) l:=rfl;rw [zcy] at h1;by_cases q:a.o=o
  ·subst q;rw [A6 rfl,O4] at h1;refine ⟨by rw [e];omega,fun b hb ho=>?_⟩;rcases C9.1 hb with rfl|hb
   ·rw [e];omega
   rw [e];exact h2 b hb ho
  rw [A0 q] at h1;refine ⟨by rw [e];exact h1,fun b hb ho=>?_⟩;rcases C9.1 hb with rfl|hb
  ·exact absurd ho q
  rw [e];exact h2 b hb ho
def zpm (k:Nat) (L:List Dos) (j:Nat) (M:List (Int×Int)):Prop:=∀e∈L.take j,∀a∈zed k e,a.r≤(zch a.o M).getD 0
theorem yrs (k:Nat) (L:List Dos):zpm k L 0 []:=fun e he=>by simp at he
theorem ykb {k j:Nat} {L:List Dos} {M:List (Int×Int)} (hM:zpm k L j M) (hj:j < L.length):zpm k L (j+1) (zl5 M (zed k L[j])):=by
 intro e he a ha;rw [A5 hj,D2,D7] at he;rcases he with he|rfl
 ·have h1:=hM e he a ha;have h2:=(ycr a.o (zed k L[j]) M).1;omega
 exact (ycr a.o _ M).2 a ha rfl
def hdW (k:Nat) (d e:Dos):Option Brch:=(zk5 k e d).head?
def brW (k:Nat) (L:List Dos):Nat→List Brch
 |0=> []
 |j+1=>brW k L j++(match L[j]? with|some d=>(L.take j).filterMap (hdW k d)|none=> [])
theorem yo5 {k j:Nat} {L:List Dos} (hj:j < L.length):brW k L (j+1)=brW k L j++(L.take j).filterMap (hdW k L[j]):=by rw [brW,B4 hj]
theorem yqc {k j:Nat} {L:List Dos} {M:List (Int×Int)} (hM:zpm k L j M) (hj:j < L.length) (hs:yqd k L[j] M=false):brW k L (j+1)=brW k L j:=by
 rw [yo5 hj];have:(L.take j).filterMap (hdW k L[j])= []:=by
  rw [V2];intro e he;have:zk5 k e L[j]= []:=by
   rw [zk5,A0d];intro a ha;rw [V2];intro b hb;by_cases q:(a.o==b.o)=true
   ·refine yes (I9 fun hlt=>?_);have h1:=hM e he a ha;have h2:=L7.1 hs b hb;rw [yug,←eq_of_beq q] at h2;simp only [G8] at h2;omega
   exact yet (by simpa using q)
  rw [hdW,this];rfl
 rw [this,F8]
theorem ykx {k m:Nat} {L:List Dos}:∀{n},m≤n→∃R,brW k L n=brW k L m++R
 |0,hm=>⟨[],by rw [Nat.le_zero.1 hm,F8]⟩
 |n+1,hm=>by
  by_cases e:m=n+1
  ·exact ⟨[],by rw [e,F8]⟩
  obtain ⟨R,hR⟩:=ykx (k:=k) (m:=m) (L:=L) (n:=n) (by omega);exact ⟨_,by rw [brW,hR,E0]⟩
def brP (k:Nat) (L:List Dos) (j:Nat) (d:Dos) (i:Nat):List Brch:=brW k L j++((L.take j).take i).filterMap (hdW k d)
theorem ywh (k:Nat) (L:List Dos) (j:Nat) (d:Dos):brP k L j d 0=brW k L j:=by simp [brP]
theorem ytn {k j i:Nat} {L:List Dos} {d:Dos} {b:Brch} {rest:List Brch} (hi:i < (L.take j).length) (h:zk5 k (L.take j)[i] d=b::rest):brP k L j d (i+1)=brP k L j d i++ [b]:=by
 rw [brP,yot hi (show hdW k d (L.take j)[i]=some b by rw [hdW,h];rfl),brP,E0]
theorem yto {k j i:Nat} {L:List Dos} {d:Dos} (hi:i < (L.take j).length) (h:zk5 k (L.take j)[i] d= []):brP k L j d (i+1)=brP k L j d i:=by
 rw [brP,ydx hi (show hdW k d (L.take j)[i]=none by rw [hdW,h];rfl),brP]
theorem ywg {k j i:Nat} {L:List Dos} (hj:j < L.length) (hi:i=(L.take j).length):brP k L j L[j] i=brW k L (j+1):=by
 rw [yo5 hj,brP,hi,C7]
theorem ytm {k j i:Nat} {L:List Dos} {b:Brch} {rest:List Brch} (hj:j < L.length) (hi:i < (L.take j).length) (h:zk5 k (L.take j)[i] L[j]=b::rest):∃R,brW k L L.length=brP k L j L[j] i++b::R:=by
 obtain ⟨R,hR⟩:=ykx (k:=k) (L:=L) (m:=j+1) (n:=L.length) hj;have e:(L.take j).filterMap (hdW k L[j])=((L.take j).take i).filterMap (hdW k L[j])++b::((L.take j).drop (i+1)).filterMap (hdW k L[j]):=by
  conv=>lhs;rw [←G9 i (L.take j),A8 hi]
  rw [N4,P2,hdW,h];rfl
 exact ⟨_,by rw [hR,yo5 hj,e,brP];simp only [E0,G7];rfl⟩
def hdB (l:List Brch):Brch:=l.headD ⟨0,0,0,0,0,0⟩
theorem y4.fr11 {P:Program} {fv:AV} {args:List AV} {G:List Res} {R:AV→List Res→Prop} {a0 a1 a2 a3 a4 a5 a6 a7 a8 a9 a10:Res} (hc:y4 P fv args G R):y4 P fv args (a0::a1::a2::a3::a4::a5::a6::a7::a8::a9::a10::G) (fun r h'=>∃h'',h'=a0::a1::a2::a3::a4::a5::a6::a7::a8::a9::a10::h''∧R r h''):=hc.frL [a0,a1,a2,a3,a4,a5,a6,a7,a8,a9,a10]
theorem zjz (q:Nat) (A B:List Res) (dfs:List Nat):(Res.defs q::(A++(B++dfs.map Res.defs))).Perm (A++(B++(q::dfs).map Res.defs)):=by
 rw [←E0,←E0];exact U2.symm
theorem zxk (A B:List Res) (dfs:List Nat):(A++(B++dfs.map Res.defs)).Perm (dfs.map Res.defs++(A++B)):=by
 rw [←E0];exact E9
theorem zs8 {full:Bool} (l:List Acc) (fv:AV) (p:Acc→Bool) (G:List Res) (hp:∀a∈l,y4 Tryz.prog fv [.agg (accR a)] G (fun r h'=>h'=G∧r=bv (p a))) (hlen:l.length≤4611686018427387904):y9 Tryz.prog 153 [.list full 3 (l.map accR),fv] G (fun r h'=>h'=G∧r=iv (zbe p 0 l)):=by
 refine z6 Tryz.func153 rfl rfl rfl ?_
 refine rn ?_;refine u4 (fun k:Nat=>k≤l.length∧zbe p 0 l=zbe p k (l.drop k)) (fun k=>⟨[(8,iv k),(7,iv (l.map accR).length),(0,.list full 3 (l.map accR)),(1,fv)],G,[]⟩) (fun k=>l.length - k) 0 ⟨G1 _,by simp⟩
  (w6 (.cons _ _ _ rfl (.cons _ _ _ rfl (.cons _ _ _ rfl (.cons _ _ _ rfl (.nil)))))) ?_
 rintro k ⟨hk,hnot⟩;refine rn ?_;refine z7 rfl (fun hc9=>?_) (fun hc9=>?_)
 ·have hk2:k < l.length:=by simpa using hc9
  have hrow:(l.map accR)[k]? =some (accR l[k]):=by simp [hk2]
  have hd:=A8 hk2;refine rn ?_;refine qv rfl rfl (y3 rfl rfl (hp l[k] (by simp))) ?_;refine rn ?_;refine z7 rfl (fun hc16=>?_) (fun hc16=>?_)
  ·refine rn ?_;exact u6 rfl (.refl _ _) ⟨rfl,by rw [hnot,hd,zbe,A6 hc16];rfl⟩
  refine rn ?_;exact ⟨k+1,⟨by omega,by rw [hnot,hd,zbe,A0 (by simp [hc16])]⟩,(w6 (.cons _ _ _ rfl (.cons _ _ _ rfl (.cons _ _ _ rfl (.cons _ _ _ rfl (.nil)))))),by omega⟩
 have hk3:k=l.length:=by
  have:l.length≤k:=by simpa using hc9
  omega
 refine rn ?_;exact u6 rfl (.refl _ _) ⟨rfl,by rw [hnot,hk3,E5,zbe];rfl⟩
theorem zns {full:Bool} (l:List Acc) (fv:AV) (p:Acc→Bool) (G:List Res) (hp:∀a∈l,y4 Tryz.prog fv [.agg (accR a)] G (fun r h'=>h'=G∧r=bv (p a))) (hlen:l.length≤4611686018427387904):y9 Tryz.prog 111 [.list full 3 (l.map accR),fv] G (fun r h'=>h'=G∧r=bv (l.any p)):=by
 refine z6 Tryz.func111 rfl rfl rfl ?_;refine rn ?_;refine qv rfl rfl (y3 rfl rfl (y4.of_fun (zs8 l _ p G hp hlen))) ?_;refine rn ?_;exact u6 rfl (.refl _ _) ⟨rfl,by simp only [←zeo p l 0];rfl⟩
theorem yqo (b:Acc) (b4 bm:Nat) (M:List (Int×Int)):y9 Tryz.prog 112 [.agg (accR b),pZ b4] (.box b4 141 [mpv bm]:: .map bm (zan zcm (zce iv M)):: []) (fun r h'=>h'= .box b4 141 [mpv bm]:: .map bm (zan zcm (zce iv M)):: []∧r=bv (yug M b)):=by
 refine z6 Tryz.func112 rfl rfl rfl ?_;refine rn ?_;refine z8 rfl (w7 rfl rfl rfl fun b2=>?_);refine q1 ?_;refine u1 (j8 ?_);refine x7 (y5 ?_);refine q1 ?_;refine q1 ?_;refine q1 ?_;refine q1 ?_;refine q1 ?_;refine qq rfl rfl (zc0 (g:=iv) (enc:=zcm) (k:=b.o) (0:Int) rfl rfl) ?_;refine rn ?_;refine rq 1 ?_;exact ⟨rfl,rfl⟩
theorem yqn (k:Nat) (hk:k < 4) (d:Dos) (h2:(zid k d).length≤1000000) (bi b4 bm:Nat) (M:List (Int×Int)):y9 Tryz.prog 110 [.agg (zc3 d),pZ bi,pZ b4] (.box bi 3 [iv (k:Int)]:: .box b4 141 [mpv bm]:: .map bm (zan zcm (zce iv M)):: .glob 0 117 x9:: []) (fun r h'=>h'= .box bi 3 [iv (k:Int)]:: .box b4 141 [mpv bm]:: .map bm (zan zcm (zce iv M)):: .glob 0 117 x9:: []∧r=bv (yqd k d M)):=by
 refine z6 Tryz.func110 rfl rfl rfl ?_;refine rn ?_;refine z8 rfl (w7 rfl rfl rfl fun b3=>?_);refine rn ?_;refine j5 7 rfl ?_;refine dq rfl rfl qrA ?_;refine dq rfl rfl (k9 (i:=k) rfl rfl (by omega)) ?_;refine dq rfl rfl qrA ?_;refine dq rfl rfl (zab rfl (yv2 hk)) ?_;refine rn ?_;refine dv rfl rfl (by exact y3 rfl rfl (y4.pure (R:=fun r=>r=zia (zid k d)) (zw9 k d))) ?_;refine rn ?_;refine qv rfl rfl (y3 rfl rfl (y4.of_fun (zns (zid k d) _ (yug M) _ (fun b _=>y4.qt (y4.of_acall (fs:= []) (cs:= [pZ b4]) (yqo b b4 bm M)) ((pt2 _ _ _ _).trans (.cons _ (pt2 _ _ _ _)))) (B8 h2 (by decide))))) ?_;refine rn ?_;refine rq 1 ?_;exact ⟨rfl,rfl⟩
theorem yj3 (k:Nat) (L:List Dos) (W:List Res):y9 Tryz.prog 59 [iv (k:Int),zfp L] W (fun r h'=>∃bi bl,h'= .box bl 101 [zfp L]:: .box bi 3 [iv (k:Int)]::W∧r= .fn (.func 109) [] [pZ bi,pZ bl]):=by
 refine z6 Tryz.func59 rfl rfl rfl ?_;refine rn ?_;refine z8 rfl (w7 rfl rfl rfl fun b2=>?_);refine z8 rfl (w7 rfl rfl rfl fun b3=>?_);refine rn ?_;exact u6 rfl (.refl _ _) ⟨_,_,rfl,rfl⟩
set_option maxHeartbeats 8000000 in
theorem yj2 (k:Nat) (hk:k < 4) (L:List Dos) (hL:L.length≤1000000) (hf:∀d∈L,(zed k d).length≤1000000) (hs:∀d∈L,(zid k d).length≤1000000) (y:AV) (hone:y.cellsOf=some [y]) (bi bl:Nat) {σ:Type} (p:List Brch→σ→Prop) (q:σ→Prop) (I:List Brch→σ→List Res) (X:σ→List Res) (x0:σ) (hp0:p [] x0) (hy:∀pre d rest x,(brW k L L.length)=pre++d::rest→p pre x→y4 Tryz.prog y [.agg (zc4 d)] (.box bl 101 [zfp L]:: .box bi 3 [iv ((k:Nat):Int)]:: .glob 0 117 x9::I pre x) (fun r h'=>∃x',(r=bv true∧p (pre++ [d]) x'∧h'= .box bl 101 [zfp L]:: .box bi 3 [iv ((k:Nat):Int)]:: .glob 0 117 x9::I (pre++ [d]) x')∨(r=bv false∧q x'∧h'= .box bl 101 [zfp L]:: .box bi 3 [iv ((k:Nat):Int)]:: .glob 0 117 x9::X x'))):y9 Tryz.prog 109 [y,pZ bi,pZ bl] (.box bl 101 [zfp L]:: .box bi 3 [iv ((k:Nat):Int)]:: .glob 0 117 x9::I [] x0) (fun r h'=>∃x,(p (brW k L L.length) x∧h'= .box bl 101 [zfp L]:: .box bi 3 [iv ((k:Nat):Int)]:: .glob 0 117 x9::I (brW k L L.length) x)∨(q x∧h'= .box bl 101 [zfp L]:: .box bi 3 [iv ((k:Nat):Int)]:: .glob 0 117 x9::X x)):=by
 refine z6 Tryz.func109 rfl rfl rfl ?_
 have hyF:∀pre d rest x (W:List Res),(brW k L L.length)=pre++d::rest→p pre x→y4 Tryz.prog y [.agg (zc4 d)] (.box bl 101 [zfp L]:: .box bi 3 [iv ((k:Nat):Int)]:: .glob 0 117 x9::(I pre x++W)) (fun r h'=>∃x',(r=bv true∧p (pre++ [d]) x'∧h'= .box bl 101 [zfp L]:: .box bi 3 [iv ((k:Nat):Int)]:: .glob 0 117 x9::(I (pre++ [d]) x'++W))∨(r=bv false∧q x'∧h'= .box bl 101 [zfp L]:: .box bi 3 [iv ((k:Nat):Int)]:: .glob 0 117 x9::(X x'++W))):=fun pre d rest x W e hp=>((hy pre d rest x e hp).frame W).mono (by
  rintro _ _ ⟨_,rfl,x',⟨rfl,hp',rfl⟩|⟨rfl,hq',rfl⟩⟩
  ·exact ⟨x',.inl ⟨rfl,hp',rfl⟩⟩
  exact ⟨x',.inr ⟨rfl,hq',rfl⟩⟩)
 refine rn ?_;refine z8 rfl (w7 rfl hone rfl fun b3=>?_);refine rn ?_;refine zke ?_;refine rn ?_;refine z8 rfl (zbm (enc:=zcm) rfl fun bm=>?_);refine z8 rfl (y6 rfl fun b4=>?_);refine rn ?_;refine zb5 L.length (fun j (z:σ×List (Int×Int)×List Nat)=>p (brW k L j) z.1∧zpm k L j z.2.1) (fun j z=>⟨[(18,iv j),(1,pZ bi),(2,pZ bl),(3,pZ b3),(4,pZ b4),(5,.fn (.func 110) [] [pZ bi,pZ b4]),(16,zfp L),(17,iv (L.map zc3).length)],.box b4 141 [mpv bm]:: .map bm (zan zcm (zce iv z.2.1)):: .box b3 175 [y]:: .box bl 101 [zfp L]:: .box bi 3 [iv ((k:Nat):Int)]:: .glob 0 117 x9::(I (brW k L j) z.1++(z.2.2.map Res.defs)),z.2.2⟩) (x0,[],[]) ⟨hp0,yrs k L⟩ (by simp only [I1,F8];exact es) ?_;rintro j ⟨x,M,dfs⟩ lj ⟨hx,hM⟩;have hx:p (brW k L j) x:=hx;have hM:zpm k L j M:=hM;show aw _ _ _ _ _ ⟨[(18,iv j),(1,pZ bi),(2,pZ bl),(3,pZ b3),(4,pZ b4),(5,.fn (.func 110) [] [pZ bi,pZ b4]),(16,zfp L),(17,iv (L.map zc3).length)],.box b4 141 [mpv bm]:: .map bm (zan zcm (zce iv M)):: .box b3 175 [y]:: .box bl 101 [zfp L]:: .box bi 3 [iv ((k:Nat):Int)]:: .glob 0 117 x9::(I (brW k L j) x++(dfs.map Res.defs)),dfs⟩;refine rn ?_;refine z7 rfl (fun hc19=>?_) (fun hc19=>?_)
 ·have hj:=zaw hc19;have rj:=zam (f:=zc3) hj;refine rn ?_;refine z8 rfl (y6 rfl fun b7=>?_);refine rn ?_;refine qv rfl rfl (y3 rfl rfl (y4.qt (y4.of_acall (fs:= []) (cs:= [pZ bi,pZ b4]) (yqn k hk L[j] (hs _ (D0 hj)) bi b4 bm M)) ((pt5 _ _ _ _ _ _ _).trans (.cons _ ((pt1 _ _ _).trans (.cons _ ((pt1 _ _ _).trans (.cons _ (pt3 _ _ _ _ _))))))))) ?_;refine rn ?_;refine j5 8 rfl ?_;refine dq rfl rfl qrA ?_;refine dq rfl rfl (k9 (i:=k) rfl rfl (by omega)) ?_;refine dq rfl rfl qrA ?_;refine dq rfl rfl (zab rfl (yv3 hk)) ?_;refine rn ?_;refine dv rfl rfl (by exact y3 rfl rfl (y4.pure (R:=fun r=>r=zia (zed k L[j])) (zx7 k L[j]))) ?_;refine rn ?_;refine zbv (zed k L[j]).length (fun _=>True) (fun u=>⟨[(33,iv u),(1,pZ bi),(2,pZ bl),(3,pZ b3),(4,pZ b4),(5,.fn (.func 110) [] [pZ bi,pZ b4]),(6,iv j),(7,pZ b7),(8,bv (yqd k L[j] M)),(16,zfp L),(17,iv (L.map zc3).length),(18,iv j),(31,zia (zed k L[j])),(32,iv ((zed k L[j]).map accR).length)],.box b7 121 (zc3 L[j]):: .box b4 141 [mpv bm]:: .map bm (zan zcm (zce iv (zl5 M ((zed k L[j]).take u)))):: .box b3 175 [y]:: .box bl 101 [zfp L]:: .box bi 3 [iv ((k:Nat):Int)]:: .glob 0 117 x9::(I (brW k L j) x++(dfs.map Res.defs)),dfs⟩) trivial es ?_;intro u lu _;refine rn ?_;refine z7 rfl (fun hc34=>?_) (fun hc34=>?_)
  ·have hu:=zaw hc34;have ru:=zam (f:=accR) hu;have hfl:=hf _ (D0 hj);refine rn ?_;refine z8 rfl (y6 rfl fun b10=>?_);first|refine z8 rfl (zak rfl rfl rfl ?_)|refine z8 rfl (za6 rfl rfl rfl rfl (A7 rfl) ?_)
   refine u1 (j8 ?_);refine y5 ?_;refine q1 ?_;refine q1 ?_;refine q1 ?_;refine q1 ?_;refine q1 ?_;refine q1 ?_;refine qq rfl rfl (zc0 (g:=iv) (enc:=zcm) (k:=(zed k L[j])[u].o) (0:Int) rfl rfl) ?_;refine rn ?_;refine z8 rfl (zby (g:=iv) (enc:=zcm) (k:=(zed k L[j])[u].o) (v:=max ((zch (zed k L[j])[u].o (zl5 M ((zed k L[j]).take u))).getD 0) (zed k L[j])[u].r) rfl rfl rfl ?_);refine rn ?_;exact ⟨hu,trivial,by rw [yrr hu];exact eA⟩
  have qu:=zaz hc34 lu;subst qu;rw [C7];refine rn ?_;refine z7 rfl (fun hc49=>?_) (fun hc49=>?_)
  ·have hsw:yqd k L[j] M=false:=by simpa using hc49
   refine rn ?_;have hw:=yqc hM hj hsw;exact ⟨hj,(x,(zl5 M (zed k L[j])),dfs),⟨by simp only;rw [hw];exact hx,ykb hM hj⟩,by simp only;rw [hw];exact eA⟩
  have hsw:yqd k L[j] M=true:=by simpa using hc49
  refine k7 ?_;refine j8 ?_;refine x7 (y5 ?_);refine q1 ?_;refine q1 ?_;refine qq rfl rfl (zbl (k:=j) rfl rfl (by rw [oM];omega)) ?_;rw [←L6];refine rn ?_;have hx0:=hx;rw [←ywh k L j L[j]] at hx ⊢;refine zb5 (L.take j).length (fun i (z:σ×List Nat)=>p (brP k L j L[j] i) z.1) (fun i z=>⟨[(54,iv i),(1,pZ bi),(2,pZ bl),(3,pZ b3),(4,pZ b4),(5,.fn (.func 110) [] [pZ bi,pZ b4]),(7,pZ b7),(16,zfp L),(17,iv (L.map zc3).length),(18,iv j),(52,zfp (L.take j)),(53,iv ((L.take j).map zc3).length)],.box b7 121 (zc3 L[j]):: .box b4 141 [mpv bm]:: .map bm (zan zcm (zce iv (zl5 M (zed k L[j])))):: .box b3 175 [y]:: .box bl 101 [zfp L]:: .box bi 3 [iv ((k:Nat):Int)]:: .glob 0 117 x9::(I (brP k L j L[j] i) z.1++(z.2.map Res.defs)),z.2⟩) (x,dfs) hx es ?_;clear hx hx0;rintro i ⟨x,dfs⟩ li hx;have hx:p (brP k L j L[j] i) x:=hx;show aw _ _ _ _ _ ⟨[(54,iv i),(1,pZ bi),(2,pZ bl),(3,pZ b3),(4,pZ b4),(5,.fn (.func 110) [] [pZ bi,pZ b4]),(7,pZ b7),(16,zfp L),(17,iv (L.map zc3).length),(18,iv j),(52,zfp (L.take j)),(53,iv ((L.take j).map zc3).length)],.box b7 121 (zc3 L[j]):: .box b4 141 [mpv bm]:: .map bm (zan zcm (zce iv (zl5 M (zed k L[j])))):: .box b3 175 [y]:: .box bl 101 [zfp L]:: .box bi 3 [iv ((k:Nat):Int)]:: .glob 0 117 x9::(I (brP k L j L[j] i) x++(dfs.map Res.defs)),dfs⟩;refine rn ?_;refine z7 rfl (fun hc55=>?_) (fun hc55=>?_)
  ·have hi:=zaw hc55;have ri:=zam (f:=zc3) hi;have hil:=V0 j L;refine rn ?_;refine z8 rfl (y6 rfl fun b12=>?_);refine rn ?_;refine z8 rfl (q7 rfl rfl (y4.of_fun (ymf k (L.take j)[i] L[j] _)) rfl ?_);rintro _ _ ⟨ci,ce,cl,rfl,rfl⟩;refine rn ?_;refine zoi (fun pend h''=>(pend=none∧(zk5 k (L.take j)[i] L[j])= []∧h''= .box cl 121 (zc3 L[j]):: .box ce 121 (zc3 (L.take j)[i]):: .box ci 3 [iv (k:Int)]:: .glob 0 117 x9:: .box b12 121 (zc3 (L.take j)[i]):: .box b7 121 (zc3 L[j]):: .box b4 141 [mpv bm]:: .map bm (zan zcm (zce iv (zl5 M (zed k L[j])))):: .box b3 175 [y]:: .box bl 101 [zfp L]:: .box bi 3 [iv (k:Int)]::(I (brP k L j L[j] i) x++(dfs.map Res.defs)))∨(pend=some (.exit 6)∧∃b rest x',(zk5 k (L.take j)[i] L[j])=b::rest∧p ((brP k L j L[j] i)++ [b]) x'∧h''= .box cl 121 (zc3 L[j]):: .box ce 121 (zc3 (L.take j)[i]):: .box ci 3 [iv (k:Int)]:: .glob 0 117 x9:: .box b12 121 (zc3 (L.take j)[i]):: .box b7 121 (zc3 L[j]):: .box b4 141 [mpv bm]:: .map bm (zan zcm (zce iv (zl5 M (zed k L[j])))):: .box b3 175 [y]:: .box bl 101 [zfp L]:: .box bi 3 [iv (k:Int)]::(I ((brP k L j L[j] i)++ [b]) x'++(dfs.map Res.defs)))∨(pend=some .ret∧∃x',q x'∧h''= .box cl 121 (zc3 L[j]):: .box ce 121 (zc3 (L.take j)[i]):: .box ci 3 [iv (k:Int)]:: .glob 0 117 x9:: .box b12 121 (zc3 (L.take j)[i]):: .box b7 121 (zc3 L[j]):: .box b4 141 [mpv bm]:: .map bm (zan zcm (zce iv (zl5 M (zed k L[j])))):: .box b3 175 [y]:: .box bl 101 [zfp L]:: .box bi 3 [iv (k:Int)]::(X x'++(dfs.map Res.defs)))) rfl (fun fn l q0 lp hlp=>?_) (fun q0 h'' hK=>?_) (fun q0 h'' cc hK=>?_)
   ·suffices hy2:∀pre d' rest z,(zk5 k (L.take j)[i] L[j])=pre++d'::rest→(fun (pre:List Brch) (_:Bool×σ)=>pre= []) pre z→y4 Tryz.prog (yv l) [.agg (zc4 d')] (.box cl 121 (zc3 L[j]):: .box ce 121 (zc3 (L.take j)[i]):: .box ci 3 [iv (k:Int)]:: .glob 0 117 x9::(fun (_:List Brch) (_:Bool×σ)=>lp .ready none:: .defs q0:: .box b12 121 (zc3 (L.take j)[i]):: .box b7 121 (zc3 L[j]):: .box b4 141 [mpv bm]:: .map bm (zan zcm (zce iv (zl5 M (zed k L[j])))):: .box b3 175 [y]:: .box bl 101 [zfp L]:: .box bi 3 [iv (k:Int)]::(I (brP k L j L[j] i) x++(dfs.map Res.defs))) pre z) (fun r h'=>∃z',(r=bv true∧(fun (pre:List Brch) (_:Bool×σ)=>pre= []) (pre++ [d']) z'∧h'= .box cl 121 (zc3 L[j]):: .box ce 121 (zc3 (L.take j)[i]):: .box ci 3 [iv (k:Int)]:: .glob 0 117 x9::(fun (_:List Brch) (_:Bool×σ)=>lp .ready none:: .defs q0:: .box b12 121 (zc3 (L.take j)[i]):: .box b7 121 (zc3 L[j]):: .box b4 141 [mpv bm]:: .map bm (zan zcm (zce iv (zl5 M (zed k L[j])))):: .box b3 175 [y]:: .box bl 101 [zfp L]:: .box bi 3 [iv (k:Int)]::(I (brP k L j L[j] i) x++(dfs.map Res.defs))) (pre++ [d']) z')∨(r=bv false∧(fun z:Bool×σ=>(z.1=true∧(∃b rest,(zk5 k (L.take j)[i] L[j])=b::rest)∧p ((brP k L j L[j] i)++ [hdB (zk5 k (L.take j)[i] L[j])]) z.2)∨(z.1=false∧q z.2)) z'∧h'= .box cl 121 (zc3 L[j]):: .box ce 121 (zc3 (L.take j)[i]):: .box ci 3 [iv (k:Int)]:: .glob 0 117 x9::(fun z:Bool×σ=>lp .done (some (bif z.1 then .exit 6 else .ret)):: .defs q0:: .box b12 121 (zc3 (L.take j)[i]):: .box b7 121 (zc3 L[j]):: .box b4 141 [mpv bm]:: .map bm (zan zcm (zce iv (zl5 M (zed k L[j])))):: .box b3 175 [y]:: .box bl 101 [zfp L]:: .box bi 3 [iv (k:Int)]::((bif z.1 then I ((brP k L j L[j] i)++ [hdB (zk5 k (L.take j)[i] L[j])]) z.2 else X z.2)++(dfs.map Res.defs))) z')) by
     refine y9.mono (y9.perm ((pt2 _ _ _ _).trans (.cons _ ((pt2 _ _ _ _).trans (.cons _ ((pt2 _ _ _ _).trans (.cons _ (pt9 _ _ _ _ _ _ _ _ _ _ _))))))) (yme k hk (L.take j)[i] L[j] (hf _ (N6 (D0 hi))) (hs _ (D0 hj)) (yv l) ci ce cl (fun (pre:List Brch) (_:Bool×σ)=>pre= []) (fun z:Bool×σ=>(z.1=true∧(∃b rest,(zk5 k (L.take j)[i] L[j])=b::rest)∧p ((brP k L j L[j] i)++ [hdB (zk5 k (L.take j)[i] L[j])]) z.2)∨(z.1=false∧q z.2)) (fun (_:List Brch) (_:Bool×σ)=>lp .ready none:: .defs q0:: .box b12 121 (zc3 (L.take j)[i]):: .box b7 121 (zc3 L[j]):: .box b4 141 [mpv bm]:: .map bm (zan zcm (zce iv (zl5 M (zed k L[j])))):: .box b3 175 [y]:: .box bl 101 [zfp L]:: .box bi 3 [iv (k:Int)]::(I (brP k L j L[j] i) x++(dfs.map Res.defs))) (fun z:Bool×σ=>lp .done (some (bif z.1 then .exit 6 else .ret)):: .defs q0:: .box b12 121 (zc3 (L.take j)[i]):: .box b7 121 (zc3 L[j]):: .box b4 141 [mpv bm]:: .map bm (zan zcm (zce iv (zl5 M (zed k L[j])))):: .box b3 175 [y]:: .box bl 101 [zfp L]:: .box bi 3 [iv (k:Int)]::((bif z.1 then I ((brP k L j L[j] i)++ [hdB (zk5 k (L.take j)[i] L[j])]) z.2 else X z.2)++(dfs.map Res.defs))) (false,x) rfl hy2)) ?_;rintro _ _ ⟨⟨b,x'⟩,⟨hn,rfl⟩|⟨⟨e1,⟨b0,rest,hn⟩,hp1⟩|⟨e1,hq1⟩,rfl⟩⟩
     ·exact ⟨none,.ready,_,((pt4 _ _ _ _ _ _).trans (.cons _ (pt4 _ _ _ _ _ _))),by simp,.inl ⟨rfl,hn,rfl⟩⟩
     ·have e1:b=true:=e1;subst e1;have hd1:hdB (zk5 k (L.take j)[i] L[j])=b0:=by rw [hn];rfl
      exact ⟨some (.exit 6),.done,_,((pt4 _ _ _ _ _ _).trans (.cons _ (pt4 _ _ _ _ _ _))),by simp,.inr (.inl ⟨rfl,b0,rest,x',hn,by rw [←hd1];exact hp1,by rw [←hd1];rfl⟩)⟩
     have e1:b=false:=e1;subst e1;exact ⟨some .ret,.done,_,((pt4 _ _ _ _ _ _).trans (.cons _ (pt4 _ _ _ _ _ _))),by simp,.inr (.inr ⟨rfl,x',hq1,rfl⟩)⟩
    intro pre d' rest z hL hpre;obtain rfl:pre= []:=hpre;have hL1:(zk5 k (L.take j)[i] L[j])=d'::rest:=hL;obtain ⟨R,hL2⟩:=ytm hj hi hL1;have hd1:hdB (zk5 k (L.take j)[i] L[j])=d':=by rw [hL1];rfl
    refine y4.perm (pt4 _ _ _ _ _ _) (y4.ventE ?_);refine zez hlp rfl rfl ?_;refine rn ?_;refine z8 rfl (y6 rfl fun b13=>?_);refine rn ?_;refine ⟨[(13,pZ b13),(3,pZ b3)],.box b13 36 (zc4 d'):: .box cl 121 (zc3 L[j]):: .box ce 121 (zc3 (L.take j)[i]):: .box ci 3 [iv (k:Int)]:: .glob 0 117 x9:: .defs q0:: .box b12 121 (zc3 (L.take j)[i]):: .box b7 121 (zc3 L[j]):: .box b4 141 [mpv bm]:: .map bm (zan zcm (zce iv (zl5 M (zed k L[j])))):: .box b3 175 [y]:: .box bl 101 [zfp L]:: .box bi 3 [iv (k:Int)]::(I (brP k L j L[j] i) x++(dfs.map Res.defs)),w8 (zau (pt1 _ _ _)) es,?_⟩;refine k8 ?_;refine x7 ?_;refine x7 (y5 ?_);refine q1 ?_;refine q1 ?_;refine z8 rfl (q7 rfl rfl (y4.perm (.cons _ (.cons _ (.cons _ (.cons _ (.cons _ ((pt1 _ _ _).trans (.cons _ ((pt1 _ _ _).trans (.cons _ ((pt1 _ _ _).trans (.cons _ ((pt1 _ _ _).trans (.cons _ ((pt1 _ _ _).trans (.cons _ ((pt1 _ _ _).trans (.cons _ ((pt1 _ _ _).trans (.cons _ (pt1 _ _ _)))))))))))))))))))) (y4.fr11 (hyF (brP k L j L[j] i) d' R x (dfs.map Res.defs) hL2 hx))) rfl ?_);rintro _ _ ⟨_,rfl,x',⟨rfl,hp',rfl⟩|⟨rfl,hq',rfl⟩⟩
    ·refine rn ?_;refine z7 rfl (fun hc66=>?_) (fun hc66=>?_)
     ·first|cases hc66|exact absurd hc66 (by decide)|(exfalso;simp_all;done)
     refine rn ?_;exact zmy (.refl _) ⟨_,_,.trans (.perm ((pt1 _ _ _).trans (.cons _ ((pt1 _ _ _).trans (.cons _ ((pt1 _ _ _).trans (.cons _ ((pt1 _ _ _).trans (.cons _ (pt9 _ _ _ _ _ _ _ _ _ _ _))))))))) _) (.drop [_] _ _),(true,x'),.inr ⟨rfl,.inl ⟨rfl,⟨_,_,hL1⟩,by rw [hd1];exact hp'⟩,by rw [hd1];rfl⟩⟩
    refine rn ?_;refine z7 rfl (fun hc66=>?_) (fun hc66=>?_)
    ·refine rn ?_;exact zpz (.refl _) ⟨_,_,.trans (.perm ((pt1 _ _ _).trans (.cons _ ((pt1 _ _ _).trans (.cons _ ((pt1 _ _ _).trans (.cons _ ((pt1 _ _ _).trans (.cons _ (pt9 _ _ _ _ _ _ _ _ _ _ _))))))))) _) (.drop [_] _ _),(false,x'),.inr ⟨rfl,.inr ⟨rfl,hq'⟩,rfl⟩⟩
    first|cases hc66|exact absurd hc66 (by decide)|(exfalso;simp_all;done)
   ·obtain ⟨_,hFE,rfl⟩|⟨hc',_⟩|⟨hc',_⟩:=hK
    rotate_left
    ·cases hc'
    ·cases hc'
    refine rn ?_;exact ⟨hi,(x,q0::dfs),by simp only;rw [yto hi hFE];exact hx,by simp only;rw [yto hi hFE];exact w8 (zau ((List.Perm.cons _ (.cons _ (.cons _ (.cons _ ((pt1 _ _ _).trans (.cons _ ((pt1 _ _ _).trans (.cons _ ((pt1 _ _ _).trans (.cons _ ((pt1 _ _ _).trans (.cons _ ((pt1 _ _ _).trans (.cons _ ((pt1 _ _ _).trans (.cons _ (pt1 _ _ _))))))))))))))))).trans (zjz _ [_,_,_,_,_,_,_,_,_,_,_] _ _))) (w8 (za1 (h1:= [_,_,_,_])) es)⟩
   obtain ⟨hc',_⟩|⟨hc',b,rest,x',hFE,hpp,rfl⟩|⟨hc',x',hqq,rfl⟩:=hK
   ·cases hc'
   ·obtain rfl:cc= .exit 6:=by simpa using hc'
    refine rn ?_;exact ⟨hi,(x',q0::dfs),by simp only;rw [ytn hi hFE];exact hpp,by simp only;rw [ytn hi hFE];exact w8 (zau ((List.Perm.cons _ (.cons _ (.cons _ (.cons _ ((pt1 _ _ _).trans (.cons _ ((pt1 _ _ _).trans (.cons _ ((pt1 _ _ _).trans (.cons _ ((pt1 _ _ _).trans (.cons _ ((pt1 _ _ _).trans (.cons _ ((pt1 _ _ _).trans (.cons _ (pt1 _ _ _))))))))))))))))).trans (zjz _ [_,_,_,_,_,_,_,_,_,_,_] _ _))) (w8 (za1 (h1:= [_,_,_,_])) es)⟩
   obtain rfl:cc= .ret:=by simpa using hc'
   refine rn ?_;refine ⟨fun l h=>(by cases h),?_⟩;exact zio (.cons _ (zxk [_,_,_,_,_,_,_,_,_,_,_] _ dfs)) .nil (.trans (.perm (.cons _ (.cons _ (.cons _ ((pt1 _ _ _).trans (.cons _ ((pt1 _ _ _).trans (.cons _ ((pt1 _ _ _).trans (.cons _ ((pt1 _ _ _).trans (.cons _ ((pt1 _ _ _).trans (.cons _ ((pt1 _ _ _).trans (.cons _ (pt1 _ _ _)))))))))))))))) _) (.drop [_,_,_,_,_,_,_,_] _ _)) ⟨x',.inr ⟨hqq,rfl⟩⟩
  have qi:=zaz hc55 li;refine rn ?_;have hw:=ywg (k:=k) hj qi;exact ⟨hj,(x,(zl5 M (zed k L[j])),dfs),⟨by simp only;rw [←hw];exact hx,ykb hM hj⟩,by simp only;rw [←hw];exact eA⟩
 have qj:=zaz hc19 lj;subst qj;refine rn ?_;refine ⟨fun l h=>(by cases h),?_⟩;exact ymv (zxk [_,_,_,_,_,_] _ dfs) .nil (.drop [_,_,_] _ _) ⟨x,.inl ⟨hx,rfl⟩⟩
def br0:Brch:=⟨0,0,0,0,0,0⟩
theorem ypi {h:Hist} {s g:Int} (he:zoj h s g=0):zfc h s=0∧yk4 h s g=zax h s∧∃k:Nat,k < 4∧yk5 h s g=(k:Int)∧zfe k=g∧zqu g=(k:Int):=by
 by_cases hl:zfc h s=0
 ·by_cases hg:zqu g < 0
  ·have:=(zrd hl hg).1;omega
  obtain ⟨k,hk,e1,e2⟩:=ysz hg;exact ⟨hl,(zk7 hl hg).2.1,k,hk,by rw [(zk7 hl hg).2.2,e1],e2,e1⟩
 have:=(zre (g:=g) hl).1;omega
theorem zor (l:List Acc):∀n:Nat,(zrp n l).length=(l.filter fun a=>decide (0≤a.o∧a.o < (n:Int))).length
 |0=>by
  have:(l.filter fun a=>decide (0≤a.o∧a.o < ((0:Nat):Int)))= []:=by
   rw [S6];intro a _;simp <;> omega
  rw [this];rfl
 |n+1=>by
  have ih:=zor l n;rw [zrp,ya0,M0,D4];rw [zrp] at ih;rw [ih];clear ih;induction l with
  |nil=>rfl
  |cons a l ih=>
   simp only [I0,I6,N7,F8] at ih ⊢;by_cases h1:a.o=(n:Int)
   ·have e1:decide (0≤a.o∧a.o < (n:Int))=false:=I9 (by omega);have e2:decide (0≤a.o∧a.o < ((n+1:Nat):Int))=true:=I4 (by omega);have e3:(a.o==(n:Int))=true:=by simpa using h1
    rw [e1,e2,e3];simp only [↓reduceIte,E6,B3] at ih ⊢;omega
   have e3:(a.o==(n:Int))=false:=by simpa using h1
   by_cases h2:0≤a.o∧a.o < (n:Int)
   ·have e1:decide (0≤a.o∧a.o < (n:Int))=true:=I4 h2;have e2:decide (0≤a.o∧a.o < ((n+1:Nat):Int))=true:=I4 (by omega);rw [e1,e2,e3];simp only [↓reduceIte,E6,B3] at ih ⊢;omega
   have e1:decide (0≤a.o∧a.o < (n:Int))=false:=I9 h2;have e2:decide (0≤a.o∧a.o < ((n+1:Nat):Int))=false:=I9 (by omega);rw [e1,e2,e3];simp only [↓reduceIte,B3];exact ih
theorem zw3 (n:Nat) (l:List Acc):(zrp n l).length≤l.length:=by rw [zor];exact K6 _ _
theorem zxt {h:Hist} (hc:v6 h=0) (s:Int):(zax h s).length≤3000∧∀d∈zax h s,d.A.length≤3000∧d.B.length≤3000:=by
 have lE:=(zeq hc).evs;refine ⟨by rw [zax,oM];exact B8 (zql h s) lE,fun d hd=>?_⟩;obtain ⟨t,_,rfl⟩:=H2.1 hd;have h1:=zw3 h.os.length (zrh h t 3);have h2:=zw3 h.os.length (zrh h t 2);have h3:(zrh h t 3).length≤h.evs.length:=zf3 h t 3 h.evs.length;have h4:(zrh h t 2).length≤h.evs.length:=zf3 h t 2 h.evs.length;exact ⟨by show (zrp _ _).length≤_;omega,by show (zrp _ _).length≤_;omega⟩
theorem ydv {k n:Nat} {d:Dos} (h:d.A.length≤n∧d.B.length≤n):(zed k d).length≤n:=by rw [zed];split;exact h.2;exact h.1
theorem zw8 {k n:Nat} {d:Dos} (h:d.A.length≤n∧d.B.length≤n):(zid k d).length≤n:=by rw [zid];split;exact h.1;exact h.2
def seB (h:Hist) (s g:Int):List Brch:=if zoj h s g=0 then brW (zqu g).toNat (zax h s) (zax h s).length else []
theorem yu5 {h:Hist} {s g:Int} (he:zoj h s g≠0):seB h s g= []:=A0 he
theorem ymi {h:Hist} {s g:Int} {k:Nat} (he:zoj h s g=0) (hk:zqu g=(k:Int)):seB h s g=brW k (zax h s) (zax h s).length:=by rw [seB,A6 he,hk];rfl
theorem zxo {α:Type} {l pre rest:List α} {d:α} (h:l=pre++d::rest) (e:pre= []):l=d::rest:=by rw [h,e];rfl
def haK (h:Hist) (s:Int):Nat→Int
 |0=>0
 |k+1=>if brW k (zax h s) (zax h s).length= [] then bI .or .i64 (haK h s k) (zfe k) else haK h s k
def haO (h:Hist) (s:Int):Int:=if zfc h s=0 then haK h s 4 else 0
set_option maxHeartbeats 8000000 in
theorem ygn (h:Hist) (la:Lim 4611686018427387904 h) (s g:Int):y9 Tryz.prog 15 [.agg (y8 h),iv s,iv g] (.glob 0 117 x9:: .glob 3 148 x3:: .glob 5 276 x6:: .glob 6 279 y7:: .glob 2 197 u3:: []) (fun r h'=>h'= .glob 0 117 x9:: .glob 3 148 x3:: .glob 5 276 x6:: .glob 6 279 y7:: .glob 2 197 u3:: []∧r= .tup [.agg (zc4 ((seB h s g).head?.getD br0)),bv (seB h s g).head?.isSome,iv (zoj h s g)]):=by
 refine z6 Tryz.func15 rfl rfl rfl ?_;refine rn ?_;refine z8 rfl (w7 rfl rfl rfl fun b3=>?_);refine z8 rfl (y6 rfl fun b6=>?_);refine z8 rfl (y6 rfl fun b7=>?_);refine z8 rfl (y6 rfl fun b8=>?_);refine rn ?_;refine qv rfl rfl (y3 rfl rfl (y4.qt (y4.of_fun (ygo h la s g)) ((pt4 _ _ _ _ _ _).trans (.cons _ ((pt4 _ _ _ _ _ _).trans (.cons _ ((pt4 _ _ _ _ _ _).trans (.cons _ ((pt4 _ _ _ _ _ _).trans (.cons _ (pt4 _ _ _ _ _ _))))))))))) ?_;refine rn ?_;refine z7 rfl (fun hc22=>?_) (fun hc22=>?_)
 ·have he:zoj h s g≠0:=nzT hc22;refine rn ?_;exact zdn (.cons _ _ _ _ (.agg _ _ _ _ _ _ _ rfl inferInstance inferInstance inferInstance rfl) (.cons _ _ _ _ (.one _ _ _ _ _ _ _ rfl inferInstance inferInstance rfl) (.cons _ _ _ _ (.one _ _ _ _ _ _ _ rfl inferInstance inferInstance rfl) .nil))) (.drop [_,_,_,_] _ _) ⟨rfl,by rw [yu5 he];rfl⟩
 have he:zoj h s g=0:=nzF hc22;obtain ⟨hl0,eO,k,hk,eI,eB,eG⟩:=ypi he;have hB:=zxt (zcb.2 (yjl hl0).1) s;rw [eI,eO];refine rn ?_;refine z8 rfl (q7 rfl rfl (y4.of_fun (yj3 k (zax h s) _)) rfl ?_);rintro _ _ ⟨bi,bl,rfl,rfl⟩;refine rn ?_;refine zoi (fun pend h''=>(pend=none∧(brW k (zax h s) (zax h s).length)= []∧h''= .box bl 101 [zfp (zax h s)]:: .box bi 3 [iv ((k:Nat):Int)]:: .glob 0 117 x9:: .box b8 32 [iv 0]:: .box b7 4 [bv false]:: .box b6 36 (zc4 br0):: .box b3 28 (y8 h):: .glob 3 148 x3:: .glob 5 276 x6:: .glob 6 279 y7:: .glob 2 197 u3:: [])∨(pend=some .ret∧∃d rest,(brW k (zax h s) (zax h s).length)=d::rest∧h''= .box bl 101 [zfp (zax h s)]:: .box bi 3 [iv ((k:Nat):Int)]:: .glob 0 117 x9:: .box b8 32 [iv 0]:: .box b7 4 [bv true]:: .box b6 36 (zc4 d):: .box b3 28 (y8 h):: .glob 3 148 x3:: .glob 5 276 x6:: .glob 6 279 y7:: .glob 2 197 u3:: [])) rfl (fun fn l q lp hlp=>?_) (fun q h'' hK=>?_) (fun q h'' cc hK=>?_)
 ·suffices hy:∀pre d rest (x:Brch),(brW k (zax h s) (zax h s).length)=pre++d::rest→pre= []→y4 Tryz.prog (yv l) [.agg (zc4 d)] (.box bl 101 [zfp (zax h s)]:: .box bi 3 [iv ((k:Nat):Int)]:: .glob 0 117 x9::lp .ready none:: .defs q:: .box b8 32 [iv 0]:: .box b7 4 [bv false]:: .box b6 36 (zc4 br0):: .box b3 28 (y8 h):: .glob 3 148 x3:: .glob 5 276 x6:: .glob 6 279 y7:: .glob 2 197 u3:: []) (fun r h'=>∃x',(r=bv true∧pre++ [d]= []∧h'= .box bl 101 [zfp (zax h s)]:: .box bi 3 [iv ((k:Nat):Int)]:: .glob 0 117 x9::lp .ready none:: .defs q:: .box b8 32 [iv 0]:: .box b7 4 [bv false]:: .box b6 36 (zc4 br0):: .box b3 28 (y8 h):: .glob 3 148 x3:: .glob 5 276 x6:: .glob 6 279 y7:: .glob 2 197 u3:: [])∨(r=bv false∧(∃rest,(brW k (zax h s) (zax h s).length)=x'::rest)∧h'= .box bl 101 [zfp (zax h s)]:: .box bi 3 [iv ((k:Nat):Int)]:: .glob 0 117 x9::lp .done (some .ret):: .defs q:: .box b8 32 [iv 0]:: .box b7 4 [bv true]:: .box b6 36 (zc4 x'):: .box b3 28 (y8 h):: .glob 3 148 x3:: .glob 5 276 x6:: .glob 6 279 y7:: .glob 2 197 u3:: [])) by
   refine y9.mono (y9.perm ((pt2 _ _ _ _).trans (.cons _ ((pt2 _ _ _ _).trans (.cons _ (pt6 _ _ _ _ _ _ _ _))))) (yj2 k hk (zax h s) (by omega) (fun d hd=>ydv ⟨B8 (hB.2 d hd).1 (by decide),B8 (hB.2 d hd).2 (by decide)⟩) (fun d hd=>zw8 ⟨B8 (hB.2 d hd).1 (by decide),B8 (hB.2 d hd).2 (by decide)⟩) (yv l) rfl bi bl (fun pre _=>pre= []) (fun d=>∃rest,(brW k (zax h s) (zax h s).length)=d::rest) (fun _ _=>lp .ready none:: .defs q:: .box b8 32 [iv 0]:: .box b7 4 [bv false]:: .box b6 36 (zc4 br0):: .box b3 28 (y8 h):: .glob 3 148 x3:: .glob 5 276 x6:: .glob 6 279 y7:: .glob 2 197 u3:: []) (fun d=>lp .done (some .ret):: .defs q:: .box b8 32 [iv 0]:: .box b7 4 [bv true]:: .box b6 36 (zc4 d):: .box b3 28 (y8 h):: .glob 3 148 x3:: .glob 5 276 x6:: .glob 6 279 y7:: .glob 2 197 u3:: []) br0 rfl hy)) ?_;rintro _ _ ⟨x,⟨hn,rfl⟩|⟨⟨rest,hn⟩,rfl⟩⟩
   ·exact ⟨none,.ready,_,((pt3 _ _ _ _ _).trans (.cons _ (pt3 _ _ _ _ _))),by simp,.inl ⟨rfl,hn,rfl⟩⟩
   exact ⟨some .ret,.done,_,((pt3 _ _ _ _ _).trans (.cons _ (pt3 _ _ _ _ _))),by simp,.inr ⟨rfl,x,rest,hn,rfl⟩⟩
  intro pre d rest x hL hpre;refine y4.perm (pt3 _ _ _ _ _) (y4.ventE ?_);refine zez hlp rfl rfl ?_;refine rn ?_;refine z8 rfl (y6 rfl fun b12=>?_);refine rn ?_;refine ⟨[(12,pZ b12),(6,pZ b6),(7,pZ b7),(8,pZ b8)],.box b12 36 (zc4 d):: .box bl 101 [zfp (zax h s)]:: .box bi 3 [iv ((k:Nat):Int)]:: .glob 0 117 x9:: .defs q:: .box b8 32 [iv 0]:: .box b7 4 [bv false]:: .box b6 36 (zc4 br0):: .box b3 28 (y8 h):: .glob 3 148 x3:: .glob 5 276 x6:: .glob 6 279 y7:: .glob 2 197 u3:: [],w8 (zau (pt1 _ _ _)) es,?_⟩;refine rn ?_;exact zpz (.refl _) ⟨_,_,.trans (.perm ((pt1 _ _ _).trans (.cons _ ((pt1 _ _ _).trans (.cons _ ((pt1 _ _ _).trans (.cons _ (pt1 _ _ _))))))) _) (.drop [_] _ _),d,.inr ⟨rfl,⟨rest,zxo hL hpre⟩,rfl⟩⟩
 ·obtain ⟨_,hn,rfl⟩|⟨hc',_⟩:=hK
  rotate_left
  ·cases hc'
  refine rn ?_;exact zio (.refl _) (.cons _ _ _ _ (.agg _ _ _ _ _ _ _ rfl inferInstance inferInstance inferInstance rfl) (.cons _ _ _ _ (.one _ _ _ _ _ _ _ rfl inferInstance inferInstance rfl) (.cons _ _ _ _ (.one _ _ _ _ _ _ _ rfl inferInstance inferInstance rfl) .nil))) (.trans (.perm (.cons _ (.cons _ ((pt1 _ _ _).trans (.cons _ ((pt1 _ _ _).trans (.cons _ ((pt1 _ _ _).trans (.cons _ (pt1 _ _ _))))))))) _) (.drop [_,_,_,_,_,_] _ _)) ⟨rfl,by rw [ymi he eG,hn,he];rfl⟩
 obtain ⟨hc',_⟩|⟨hc',d,rest,hn,rfl⟩:=hK
 ·cases hc'
 obtain rfl:cc= .ret:=by simpa using hc'
 refine rn ?_;exact zio (.refl _) (.cons _ _ _ _ (.agg _ _ _ _ _ _ _ rfl inferInstance inferInstance inferInstance rfl) (.cons _ _ _ _ (.one _ _ _ _ _ _ _ rfl inferInstance inferInstance rfl) (.cons _ _ _ _ (.one _ _ _ _ _ _ _ rfl inferInstance inferInstance rfl) .nil))) (.trans (.perm (.cons _ (.cons _ ((pt1 _ _ _).trans (.cons _ ((pt1 _ _ _).trans (.cons _ ((pt1 _ _ _).trans (.cons _ (pt1 _ _ _))))))))) _) (.drop [_,_,_,_,_,_] _ _)) ⟨rfl,by rw [ymi he eG,hn,he];rfl⟩
set_option maxHeartbeats 8000000 in
theorem yqp (h:Hist) (la:Lim 4611686018427387904 h) (s:Int):y9 Tryz.prog 24 [.agg (y8 h),iv s] (.glob 0 117 x9:: .glob 3 148 x3:: .glob 5 276 x6:: .glob 6 279 y7:: .glob 2 197 u3:: []) (fun r h'=>h'= .glob 0 117 x9:: .glob 3 148 x3:: .glob 5 276 x6:: .glob 6 279 y7:: .glob 2 197 u3:: []∧r= .tup [iv (haO h s),iv (zfc h s)]):=by
 refine z6 Tryz.func24 rfl rfl rfl ?_;refine rn ?_;refine z8 rfl (w7 rfl rfl rfl fun b2=>?_);refine rn ?_;refine qv rfl rfl (y3 rfl rfl (y4.qt (y4.of_fun (ybj h la s)) ((pt2 _ _ _ _).trans (.cons _ ((pt2 _ _ _ _).trans (.cons _ ((pt2 _ _ _ _).trans (.cons _ (pt2 _ _ _ _))))))))) ?_;refine rn ?_;refine z7 rfl (fun hc19=>?_) (fun hc19=>?_)
 ·have he:zfc h s≠0:=nzT hc19;refine rn ?_;exact zb9 rfl rfl (.drop [_] _ _) ⟨rfl,by rw [haO,A0 he];rfl⟩
 have hl0:zfc h s=0:=nzF hc19;have hB:=zxt (zcb.2 (yjl hl0).1) s;rw [zvt hl0];refine rn ?_;refine zb5 4 (fun _ (_:List Nat)=>True) (fun k dfs=>⟨[(22,iv (k:Nat)),(8,iv (haK h s k)),(6,zfp (zax h s)),(21,.agg x9)],.box b2 28 (y8 h):: .glob 0 117 x9:: .glob 3 148 x3:: .glob 5 276 x6:: .glob 6 279 y7:: .glob 2 197 u3::(dfs.map Res.defs),dfs⟩) [] trivial es ?_;intro k dfs lk _;refine rn ?_;refine z7 rfl (fun hc23=>?_) (fun hc23=>?_)
 ·have hk:k < 4:=by have q:=oT hc23;omega
  refine k7 ?_;refine j8 ?_;refine x7 ?_;refine k8 ?_;refine x7 (y5 ?_);refine q1 ?_;refine qq rfl rfl (zhl (i:=k) (out:=zx6 k) rfl rfl hk (by show k * 3+3≤12;omega) (yom hk)) ?_;refine z8 rfl (y6 rfl fun b10=>?_);refine rn ?_;refine z8 rfl (y6 rfl fun b11=>?_);refine rn ?_;refine z8 rfl (q7 rfl rfl (y4.of_fun (yj3 k (zax h s) _)) rfl ?_);rintro _ _ ⟨bi,bl,rfl,rfl⟩;refine rn ?_;refine zoi (fun pend h''=>(pend=none∧(brW k (zax h s) (zax h s).length)= []∧h''= .box bl 101 [zfp (zax h s)]:: .box bi 3 [iv ((k:Nat):Int)]:: .glob 0 117 x9:: .box b11 4 [bv false]:: .box b10 116 (zx6 k):: .box b2 28 (y8 h):: .glob 3 148 x3:: .glob 5 276 x6:: .glob 6 279 y7:: .glob 2 197 u3::(dfs.map Res.defs))∨(pend=some (.exit 2)∧(brW k (zax h s) (zax h s).length)≠ []∧h''= .box bl 101 [zfp (zax h s)]:: .box bi 3 [iv ((k:Nat):Int)]:: .glob 0 117 x9:: .box b11 4 [bv true]:: .box b10 116 (zx6 k):: .box b2 28 (y8 h):: .glob 3 148 x3:: .glob 5 276 x6:: .glob 6 279 y7:: .glob 2 197 u3::(dfs.map Res.defs))) rfl (fun fn l q lp hlp=>?_) (fun q h'' hK=>?_) (fun q h'' cc hK=>?_)
  ·suffices hy:∀pre d rest (x:Unit),(brW k (zax h s) (zax h s).length)=pre++d::rest→pre= []→y4 Tryz.prog (yv l) [.agg (zc4 d)] (.box bl 101 [zfp (zax h s)]:: .box bi 3 [iv ((k:Nat):Int)]:: .glob 0 117 x9::lp .ready none:: .defs q:: .box b11 4 [bv false]:: .box b10 116 (zx6 k):: .box b2 28 (y8 h):: .glob 3 148 x3:: .glob 5 276 x6:: .glob 6 279 y7:: .glob 2 197 u3::(dfs.map Res.defs)) (fun r h'=>∃x':Unit,(r=bv true∧pre++ [d]= []∧h'= .box bl 101 [zfp (zax h s)]:: .box bi 3 [iv ((k:Nat):Int)]:: .glob 0 117 x9::lp .ready none:: .defs q:: .box b11 4 [bv false]:: .box b10 116 (zx6 k):: .box b2 28 (y8 h):: .glob 3 148 x3:: .glob 5 276 x6:: .glob 6 279 y7:: .glob 2 197 u3::(dfs.map Res.defs))∨(r=bv false∧(brW k (zax h s) (zax h s).length)≠ []∧h'= .box bl 101 [zfp (zax h s)]:: .box bi 3 [iv ((k:Nat):Int)]:: .glob 0 117 x9::lp .done (some (.exit 2)):: .defs q:: .box b11 4 [bv true]:: .box b10 116 (zx6 k):: .box b2 28 (y8 h):: .glob 3 148 x3:: .glob 5 276 x6:: .glob 6 279 y7:: .glob 2 197 u3::(dfs.map Res.defs))) by
    refine y9.mono (y9.perm ((pt2 _ _ _ _).trans (.cons _ ((pt2 _ _ _ _).trans (.cons _ (pt5 _ _ _ _ _ _ _))))) (yj2 k hk (zax h s) (by omega) (fun d hd=>ydv ⟨B8 (hB.2 d hd).1 (by decide),B8 (hB.2 d hd).2 (by decide)⟩) (fun d hd=>zw8 ⟨B8 (hB.2 d hd).1 (by decide),B8 (hB.2 d hd).2 (by decide)⟩) (yv l) rfl bi bl (fun pre _=>pre= []) (fun _=>(brW k (zax h s) (zax h s).length)≠ []) (fun _ _=>lp .ready none:: .defs q:: .box b11 4 [bv false]:: .box b10 116 (zx6 k):: .box b2 28 (y8 h):: .glob 3 148 x3:: .glob 5 276 x6:: .glob 6 279 y7:: .glob 2 197 u3::(dfs.map Res.defs)) (fun _=>lp .done (some (.exit 2)):: .defs q:: .box b11 4 [bv true]:: .box b10 116 (zx6 k):: .box b2 28 (y8 h):: .glob 3 148 x3:: .glob 5 276 x6:: .glob 6 279 y7:: .glob 2 197 u3::(dfs.map Res.defs)) () rfl hy)) ?_;rintro _ _ ⟨x,⟨hn,rfl⟩|⟨hn,rfl⟩⟩
    ·exact ⟨none,.ready,_,((pt3 _ _ _ _ _).trans (.cons _ (pt3 _ _ _ _ _))),by simp,.inl ⟨rfl,hn,rfl⟩⟩
    exact ⟨some (.exit 2),.done,_,((pt3 _ _ _ _ _).trans (.cons _ (pt3 _ _ _ _ _))),by simp,.inr ⟨rfl,hn,rfl⟩⟩
   intro pre d rest x hL hpre;refine y4.perm (pt3 _ _ _ _ _) (y4.ventE ?_);refine zez hlp rfl rfl ?_;refine rn ?_;refine ⟨[(11,pZ b11)],.box bl 101 [zfp (zax h s)]:: .box bi 3 [iv ((k:Nat):Int)]:: .glob 0 117 x9:: .defs q:: .box b11 4 [bv false]:: .box b10 116 (zx6 k):: .box b2 28 (y8 h):: .glob 3 148 x3:: .glob 5 276 x6:: .glob 6 279 y7:: .glob 2 197 u3::(dfs.map Res.defs),es,?_⟩;refine rn ?_;exact zmy (.refl _) ⟨_,_,.perm ((pt1 _ _ _).trans (.cons _ ((pt1 _ _ _).trans (.cons _ (pt1 _ _ _))))) _,(),.inr ⟨rfl,by rw [zxo hL hpre];exact List.cons_ne_nil _ _,rfl⟩⟩
  ·obtain ⟨_,hn,rfl⟩|⟨hc',_⟩:=hK
   rotate_left
   ·cases hc'
   refine rn ?_;refine z7 rfl (fun hc31=>?_) (fun hc31=>?_)
   ·refine rn ?_;exact ⟨hk,q::dfs,trivial,by rw [haK,A6 hn];exact w8 (zau ((List.Perm.cons _ (.cons _ (.cons _ ((pt1 _ _ _).trans (.cons _ ((pt1 _ _ _).trans (.cons _ (pt1 _ _ _)))))))).trans (zjz _ [_,_,_,_,_,_,_,_,_,_] [] _))) (w8 (za1 (h1:= [_,_,_,_])) es)⟩
   refine rn ?_;exact absurd hc31 (by decide)
  obtain ⟨hc',_⟩|⟨hc',hn,rfl⟩:=hK
  ·cases hc'
  obtain rfl:cc= .exit 2:=by simpa using hc'
  refine rn ?_;refine z7 rfl (fun hc31=>?_) (fun hc31=>?_)
  ·refine rn ?_;exact absurd hc31 (by decide)
  refine rn ?_;exact ⟨hk,q::dfs,trivial,by rw [haK,A0 hn];exact w8 (zau ((List.Perm.cons _ (.cons _ (.cons _ ((pt1 _ _ _).trans (.cons _ ((pt1 _ _ _).trans (.cons _ (pt1 _ _ _)))))))).trans (zjz _ [_,_,_,_,_,_,_,_,_,_] [] _))) (w8 (za1 (h1:= [_,_,_,_])) es)⟩
 have qk:k=4:=by have q:=oF hc23;omega
 subst qk;refine rn ?_;exact zio (E9 (l₁:= [_,_,_,_,_,_]) (l₂:=(dfs.map Res.defs))) (.cons _ _ _ _ (.tmp _ _ rfl) (.cons _ _ _ _ (.tmp _ _ rfl) .nil)) (.drop [_] _ _) ⟨rfl,by rw [haO,A6 hl0,hl0];rfl⟩
instance:EqInts Tryz.prog 81 3:=⟨by kernel_rfl,fun w xs ys h1 h2=>match xs,ys,h1,h2 with
 | [a0,a1,a2],[c0,c1,c2],_,_=>by
   rw [run_equalIn_struct w 9999 81 _ _ (by kernel_rfl) (by kernel_rfl)];simp only [Program.fieldsOf,Tryz.underlying81];simp [Op.eqFields,part,run_equalIn_int _ 9998 3 .i64 .i64 _ _ Tryz.underlying3];by_cases h0:a0=c0;case neg=>simp [h0]
   subst h0;by_cases h1:a1=c1;case neg=>simp [h1]
   subst h1;by_cases h2:a2=c2;case neg=>simp [h2]
   subst h2;simp⟩
def ysg (L:List Dos) (t:Int):Int:=zbe (fun d:Dos=>d.t==t) 0 L
def isO (h:Hist) (s:Int) (z:Brch):Bool:=
 if zoj h s z.g=0 then
  (if ysg (zax h s) z.e < 0∨ysg (zax h s) z.l≤ysg (zax h s) z.e then false
   else (match (zax h s)[(ysg (zax h s) z.e).toNat]?,(zax h s)[(ysg (zax h s) z.l).toNat]? with|some e,some l=>decide (z∈zk5 (zqu z.g).toNat e l)|_,_=>false))
 else false
def yq0 (h:Hist) (x:Int) (v:Ver):Int×Bool:=if zk6 h x h.os.length=0 then (if v=⟨0,0⟩ then (0,true) else (zp1 h x v+1,decide (zp1 h x v ≥ 0))) else (0,false)
theorem ymx {f g:Bool} (l m:List Seen) (hl:l.length≤4611686018427387904) (hm:m.length≤4611686018427387904):y9 Tryz.prog 116 [.list f 3 (l.map zav),.list g 3 (m.map zav)] [] (fun r h'=>h'= []∧r=bv (eqF zgj l m)):=by
 refine z6 Tryz.func116 rfl rfl rfl ?_;refine rn ?_;refine z7 rfl (fun hc10=>?_) (fun hc10=>?_)
 ·refine rn ?_;have hne:(l.length==m.length)=false:=H1.2 fun q=>by simp [q] at hc10
  exact u6 rfl (.refl _ _) ⟨rfl,by rw [eqF,hne,B0];rfl⟩
 have hlm:l.length=m.length:=by simp at hc10;omega
 refine rn ?_;refine u4 (fun k:Nat=>k≤l.length∧zfu zgj l m=zfu zgj (l.drop k) (m.drop k)) (fun k=>⟨[(13,iv k),(12,iv (l.map zav).length),(0,.list f 3 (l.map zav)),(1,.list g 3 (m.map zav))],[],[]⟩) (fun k=>l.length - k) 0 ⟨G1 _,by simp⟩
  (w6 (.cons _ _ _ rfl (.cons _ _ _ rfl (.cons _ _ _ rfl (.cons _ _ _ rfl (.nil)))))) ?_
 rintro k ⟨hk,hz⟩;refine rn ?_;refine z7 rfl (fun hc14=>?_) (fun hc14=>?_)
 ·have hk2:k < l.length:=by simpa using hc14
  have hk3:k < m.length:=by omega
  have hrow1:(l.map zav)[k]? =some (zav l[k]):=by simp [hk2]
  have hrow2:(m.map zav)[k]? =some (zav m[k]):=by simp [hk3]
  have hd1:=A8 hk2;have hd2:=A8 hk3;refine rn ?_;refine j5 8 rfl ?_;refine rn ?_;refine z7 rfl (fun hc24=>?_) (fun hc24=>?_)
  ·refine rn ?_;exact u6 rfl (.refl _ _) ⟨rfl,by rw [eqF,hz,hd1,hd2,zfu,show zgj l[k] m[k]=false from zj2 hc24,B0,C2];rfl⟩
  refine rn ?_;exact ⟨k+1,⟨by omega,by rw [hz,hd1,hd2,zfu,show zgj l[k] m[k]=true from zj3 hc24,B9]⟩,(w6 (.cons _ _ _ rfl (.cons _ _ _ rfl (.cons _ _ _ rfl (.cons _ _ _ rfl (.nil)))))),by omega⟩
 have hk3:k=l.length:=by
  have:l.length≤k:=by simpa using hc14
  omega
 refine rn ?_;exact u6 rfl (.refl _ _) ⟨rfl,by rw [eqF,hz,hk3,E5,zet,hlm,N8];rfl⟩
theorem yg0 {f g:Bool} (l m:List ByteArray) (hl:l.length≤4611686018427387904) (hm:m.length≤4611686018427387904):y9 Tryz.prog 62 [.list f 1 (l.map zaq),.list g 1 (m.map zaq)] [] (fun r h'=>h'= []∧r=bv (eqF zkm l m)):=by
 refine z6 Tryz.func62 rfl rfl rfl ?_;refine rn ?_;refine z7 rfl (fun hc10=>?_) (fun hc10=>?_)
 ·refine rn ?_;have hne:(l.length==m.length)=false:=H1.2 fun q=>by simp [q] at hc10
  exact u6 rfl (.refl _ _) ⟨rfl,by rw [eqF,hne,B0];rfl⟩
 have hlm:l.length=m.length:=by simp at hc10;omega
 refine rn ?_;refine u4 (fun k:Nat=>k≤l.length∧zfu zkm l m=zfu zkm (l.drop k) (m.drop k)) (fun k=>⟨[(13,iv k),(12,iv (l.map zaq).length),(0,.list f 1 (l.map zaq)),(1,.list g 1 (m.map zaq))],[],[]⟩) (fun k=>l.length - k) 0 ⟨G1 _,by simp⟩
  (w6 (.cons _ _ _ rfl (.cons _ _ _ rfl (.cons _ _ _ rfl (.cons _ _ _ rfl (.nil)))))) ?_
 rintro k ⟨hk,hz⟩;refine rn ?_;refine z7 rfl (fun hc14=>?_) (fun hc14=>?_)
 ·have hk2:k < l.length:=by simpa using hc14
  have hk3:k < m.length:=by omega
  have hrow1:(l.map zaq)[k]? =some (zaq l[k]):=by simp [hk2]
  have hrow2:(m.map zaq)[k]? =some (zaq m[k]):=by simp [hk3]
  have hd1:=A8 hk2;have hd2:=A8 hk3;refine rn ?_;refine j5 8 rfl ?_;refine rn ?_;refine z7 rfl (fun hc24=>?_) (fun hc24=>?_)
  ·refine rn ?_;exact u6 rfl (.refl _ _) ⟨rfl,by rw [eqF,hz,hd1,hd2,zfu,show zkm l[k] m[k]=false from zj2 hc24,B0,C2];rfl⟩
  refine rn ?_;exact ⟨k+1,⟨by omega,by rw [hz,hd1,hd2,zfu,show zkm l[k] m[k]=true from zj3 hc24,B9]⟩,(w6 (.cons _ _ _ rfl (.cons _ _ _ rfl (.cons _ _ _ rfl (.cons _ _ _ rfl (.nil)))))),by omega⟩
 have hk3:k=l.length:=by
  have:l.length≤k:=by simpa using hc14
  omega
 refine rn ?_;exact u6 rfl (.refl _ _) ⟨rfl,by rw [eqF,hz,hk3,E5,zet,hlm,N8];rfl⟩
theorem zze {f g:Bool} (l m:List Int) (hl:l.length≤4611686018427387904) (hm:m.length≤4611686018427387904):y9 Tryz.prog 64 [.list f 1 (l.map zag),.list g 1 (m.map zag)] [] (fun r h'=>h'= []∧r=bv (eqF zky l m)):=by
 refine z6 Tryz.func64 rfl rfl rfl ?_;refine rn ?_;refine z7 rfl (fun hc10=>?_) (fun hc10=>?_)
 ·refine rn ?_;have hne:(l.length==m.length)=false:=H1.2 fun q=>by simp [q] at hc10
  exact u6 rfl (.refl _ _) ⟨rfl,by rw [eqF,hne,B0];rfl⟩
 have hlm:l.length=m.length:=by simp at hc10;omega
 refine rn ?_;refine u4 (fun k:Nat=>k≤l.length∧zfu zky l m=zfu zky (l.drop k) (m.drop k)) (fun k=>⟨[(13,iv k),(12,iv (l.map zag).length),(0,.list f 1 (l.map zag)),(1,.list g 1 (m.map zag))],[],[]⟩) (fun k=>l.length - k) 0 ⟨G1 _,by simp⟩
  (w6 (.cons _ _ _ rfl (.cons _ _ _ rfl (.cons _ _ _ rfl (.cons _ _ _ rfl (.nil)))))) ?_
 rintro k ⟨hk,hz⟩;refine rn ?_;refine z7 rfl (fun hc14=>?_) (fun hc14=>?_)
 ·have hk2:k < l.length:=by simpa using hc14
  have hk3:k < m.length:=by omega
  have hrow1:(l.map zag)[k]? =some (zag l[k]):=by simp [hk2]
  have hrow2:(m.map zag)[k]? =some (zag m[k]):=by simp [hk3]
  have hd1:=A8 hk2;have hd2:=A8 hk3;refine rn ?_;refine j5 8 rfl ?_;refine rn ?_;refine z7 rfl (fun hc24=>?_) (fun hc24=>?_)
  ·refine rn ?_;exact u6 rfl (.refl _ _) ⟨rfl,by rw [eqF,hz,hd1,hd2,zfu,show zky l[k] m[k]=false from zj2 hc24,B0,C2];rfl⟩
  refine rn ?_;exact ⟨k+1,⟨by omega,by rw [hz,hd1,hd2,zfu,show zky l[k] m[k]=true from zj3 hc24,B9]⟩,(w6 (.cons _ _ _ rfl (.cons _ _ _ rfl (.cons _ _ _ rfl (.cons _ _ _ rfl (.nil)))))),by omega⟩
 have hk3:k=l.length:=by
  have:l.length≤k:=by simpa using hc14
  omega
 refine rn ?_;exact u6 rfl (.refl _ _) ⟨rfl,by rw [eqF,hz,hk3,E5,zet,hlm,N8];rfl⟩
theorem zg3 (n m:Int):y9 Tryz.prog 43 [iv n,iv m] [] (fun r h'=>h'= []∧r=bv (isB n m)):=by
 refine z6 Tryz.func43 rfl rfl rfl ?_;refine rn ?_;refine x5 (fun hg1_2=>?_) (fun hg1_2=>?_)
 ·refine rn ?_;exact u6 rfl (.refl _ _) ⟨rfl,A4 bv (by first|(simp only [isB, *,B9,B0,C2,E3,D1,E8,C4,F1,G4,F2,B3,D8,D3];done)|(simp_all [isB];done)|(simp_all [isB] <;> omega))⟩
 refine rn ?_;exact u6 rfl (.refl _ _) ⟨rfl,A4 bv (by first|(simp only [isB, *,B9,B0,C2,E3,D1,E8,C4,F1,G4,F2,B3,D8,D3];done)|(simp_all [isB];done)|(simp_all [isB] <;> omega))⟩
theorem bvz0_6504 {a b:Bool} (h:a=b:=by first|(simp only [zf0, *,B9,B0,C2,E3,D1,E8,C4,F1,G4,F2,B3,D8,D3];done)|(simp_all [zf0];done)|(simp_all [zf0] <;> omega)):bv a=bv b:=A4 bv h
theorem zgp (v:Ver) (m:Int):y9 Tryz.prog 192 [.agg (yf2 v),iv m] [] (fun r h'=>h'= []∧r=bv (zf0 v m)):=by
 refine z6 Tryz.func192 rfl rfl rfl ?_;refine rn ?_;refine z8 rfl (w7 rfl rfl rfl fun b2=>?_);refine rn ?_;refine x5 (fun hg1_3=>?_) (fun hg1_3=>?_)
 ·refine rn ?_;exact u6 rfl (.drop [_] _ _) ⟨rfl,bvz0_6504⟩
 refine rn ?_;refine qv rfl rfl (y3 rfl rfl (u0 (zg3 _ _) (Sbs.refl _))) ?_;refine rn ?_;refine x5 (fun hg1_8=>?_) (fun hg1_8=>?_)
 ·refine rn ?_;refine x5 (fun hg1_13=>?_) (fun hg1_13=>?_)
  ·refine rn ?_;exact u6 rfl (.drop [_] _ _) ⟨rfl,bvz0_6504⟩
  refine rn ?_;exact u6 rfl (.drop [_] _ _) ⟨rfl,bvz0_6504⟩
 refine rn ?_;exact u6 rfl (.drop [_] _ _) ⟨rfl,bvz0_6504⟩
theorem bvz1_1971 {a b:Bool} (h:a=b:=by first|(simp only [zjk, *,B9,B0,C2,E3,D1,E8,C4,F1,G4,F2,B3,D8,D3];done)|(simp_all [zjk];done)|(simp_all [zjk] <;> omega)):bv a=bv b:=A4 bv h
theorem zf1 (a b:Ev) (ha:a.scan.length≤4611686018427387904) (hb:b.scan.length≤4611686018427387904):y9 Tryz.prog 63 [.agg (evR a),.agg (evR b)] [] (fun r h'=>h'= []∧r=bv (zjk a b)):=by
 refine z6 Tryz.func63 rfl rfl rfl ?_;refine rn ?_;refine z8 rfl (w7 rfl rfl rfl fun b2=>?_);refine z8 rfl (w7 rfl rfl rfl fun b3=>?_);refine rn ?_;refine x5 (fun hg1_5=>?_) (fun hg1_5=>?_)
 ·refine rn ?_;refine x5 (fun hg1_12=>?_) (fun hg1_12=>?_)
  ·refine rn ?_;refine x5 (fun hg1_19=>?_) (fun hg1_19=>?_)
   ·refine rn ?_;refine x5 (fun hg1_26=>?_) (fun hg1_26=>?_)
    ·refine rn ?_;refine x5 (fun hg1_33=>?_) (fun hg1_33=>?_)
     ·refine rn ?_;refine x5 (fun hg1_40=>?_) (fun hg1_40=>?_)
      ·refine rn ?_;refine x5 (fun hg1_47=>?_) (fun hg1_47=>?_)
       ·refine rn ?_;refine qv rfl rfl (y3 rfl rfl (u0 (ymx _ _ ha hb) (Sbs.refl _))) ?_;refine rn ?_;exact u6 rfl (.drop [_,_] _ _) ⟨rfl,bvz1_1971⟩
       refine rn ?_;exact u6 rfl (.drop [_,_] _ _) ⟨rfl,bvz1_1971⟩
      refine rn ?_;exact u6 rfl (.drop [_,_] _ _) ⟨rfl,bvz1_1971⟩
     refine rn ?_;exact u6 rfl (.drop [_,_] _ _) ⟨rfl,bvz1_1971⟩
    refine rn ?_;exact u6 rfl (.drop [_,_] _ _) ⟨rfl,bvz1_1971⟩
   refine rn ?_;exact u6 rfl (.drop [_,_] _ _) ⟨rfl,bvz1_1971⟩
  refine rn ?_;exact u6 rfl (.drop [_,_] _ _) ⟨rfl,bvz1_1971⟩
 refine rn ?_;exact u6 rfl (.drop [_,_] _ _) ⟨rfl,bvz1_1971⟩
theorem ymz {f:Bool} (l:List Int) (n:Int) (hl:l.length≤4611686018427387904):y9 Tryz.prog 193 [.list f 1 (l.map zag),iv n] [] (fun r h'=>h'= []∧r=iv (atI n 0 l)):=by
 refine z6 Tryz.func193 rfl rfl rfl ?_
 refine rn ?_;refine u4 (fun k:Nat=>k≤l.length∧atI n 0 l=atI n k (l.drop k)) (fun k=>⟨[(9,iv k),(8,iv (l.map zag).length),(7,.list f 1 (l.map zag)),(1,iv n)],[],[]⟩) (fun k=>l.length - k) 0 ⟨G1 _,by simp⟩
  (w6 (.cons _ _ _ rfl (.cons _ _ _ rfl (.cons _ _ _ rfl (.cons _ _ _ rfl (.nil)))))) ?_
 rintro k ⟨hk,hz⟩;refine rn ?_;refine z7 rfl (fun hc10=>?_) (fun hc10=>?_)
 ·have hk2:k < l.length:=by simpa using hc10
  have hrow:(l.map zag)[k]? =some (zag l[k]):=by simp [hk2]
  have hd:=A8 hk2;refine rn ?_;refine z7 rfl (fun hc16=>?_) (fun hc16=>?_)
  ·have hx:l[k]=n:=by simpa using hc16
   refine rn ?_;exact u6 rfl (.refl _ _) ⟨rfl,A4 iv (by rw [hz,hd,atI,A6 hx])⟩
  have hx:¬l[k]=n:=by simpa using hc16
  refine rn ?_;exact ⟨k+1,⟨by omega,by rw [hz,hd,atI,A0 hx]⟩,(w6 (.cons _ _ _ rfl (.cons _ _ _ rfl (.cons _ _ _ rfl (.cons _ _ _ rfl (.nil)))))),by omega⟩
 have hk3:k=l.length:=by
  have:l.length≤k:=by simpa using hc10
  omega
 refine rn ?_;exact u6 rfl (.refl _ _) ⟨rfl,A4 iv (by rw [hz,hk3,E5];rfl)⟩
theorem yqw (h:Hist) (t c:Int) (la:Lim 4611686018427387904 h):y9 Tryz.prog 154 [.agg (y8 h),iv t,iv c] [] (fun r h'=>h'= []∧r=bv (ztc h.evs t c)):=by
 refine z6 Tryz.func154 rfl rfl rfl ?_;refine rn ?_;refine z8 rfl (w7 rfl rfl rfl fun b3=>?_);refine rn ?_;refine zc8 (h.evs.length) (fun k:Nat=>h.evs.all (fun e:Ev=> !(e.t==t && e.kind==c))=(h.evs.drop k).all (fun e:Ev=> !(e.t==t && e.kind==c))) (fun k=> [(12,iv k)]) [(1,_),(2,_),(10,_),(11,_)] rfl ?_;intro k lk zk;refine rn ?_;refine z7 rfl (fun hc13=>?_) (fun hc13=>?_)
 ·have hk:=zaw hc13;have rk:=zam (f:=evR) hk;have bk:=la.evs;refine rn ?_;refine z8 rfl (y6 rfl fun b8=>?_);refine rn ?_;refine x5 (fun hg4_4=>?_) (fun hg4_4=>?_)
  ·refine rn ?_;refine z7 rfl (fun hc25=>?_) (fun hc25=>?_)
   ·refine rn ?_;refine rq 2 ?_;exact ⟨rfl,A4 bv (by rw [ztc,zuh hk (by simp_all)];rfl)⟩
   refine rn ?_;exact ⟨hk,zwk hk zk (by simp_all),eA⟩
  refine rn ?_;refine zfd rfl ?_;refine rn ?_;exact ⟨hk,zwk hk zk (by simp_all),eA⟩
 have qk:=zaz hc13 lk;have ak:=yan qk zk;refine rn ?_;refine rq 1 ?_;exact ⟨rfl,A4 bv (by rw [ztc,ak];rfl)⟩
theorem yb1 (h:Hist) (t:Int) (la:Lim 4611686018427387904 h):y9 Tryz.prog 113 [.agg (y8 h),iv t] [] (fun r h'=>h'= []∧r=bv (ztc h.evs t 5)):=by
 refine z6 Tryz.func113 rfl rfl rfl ?_;refine rn ?_;refine z8 rfl (w7 rfl rfl rfl fun b2=>?_);refine rn ?_;refine qv rfl rfl (y3 rfl rfl (u0 (yqw h t 5 la) (Sbs.refl _))) ?_;refine rn ?_;refine rq 1 ?_;exact ⟨rfl,rfl⟩
theorem zu6 (ts f:List Int) (hl:ts.length≤4611686018427387904) (hm:f.length≤4611686018427387904):y9 Tryz.prog 223 [zcs ts,zcs f] [] (fun r h'=>h'= []∧r=bv (zgz ts f)):=by
 refine z6 Tryz.func223 rfl rfl rfl ?_;refine rn ?_;refine zc8 (ts.length) (fun k:Nat=>yjr ts f k) (fun k=> [(9,iv k)]) [(0,_),(1,_),(7,_),(8,_)] (fun j _ h=>absurd h (H6 _)) ?_;intro k lk zk;refine rn ?_;refine z7 rfl (fun hc10=>?_) (fun hc10=>?_)
 ·have hk:=zaw hc10;have rk:=zam (f:=zag) hk;refine rn ?_;refine qv rfl rfl (y3 rfl rfl (u0 (ymz f ts[k] hm) (Sbs.refl _))) ?_;refine rn ?_;refine x5 (fun hg4_4=>?_) (fun hg4_4=>?_)
  ·refine rn ?_;refine zdk rfl ?_;refine rn ?_;refine rq 0 ?_;exact ⟨rfl,A4 bv (by rw [yj1 hk (by first|exact .inl hg4_4|exact .inr (by simpa using hc24))])⟩
  refine rn ?_;refine qv rfl rfl (y3 rfl rfl (u0 (ymz ts ts[k] hl) (Sbs.refl _))) ?_;refine rn ?_;refine z7 rfl (fun hc24=>?_) (fun hc24=>?_)
  ·refine rn ?_;refine rq 0 ?_;exact ⟨rfl,A4 bv (by rw [yj1 hk (by first|exact .inl hg4_4|exact .inr (by simpa using hc24))])⟩
  refine rn ?_;exact ⟨hk,yl5 hk zk (by simp_all) (by simp_all),eA⟩
 have qk:=zaz hc10 lk;refine rn ?_;refine rq 0 ?_;exact ⟨rfl,A4 bv (by rw [yqi (qk ▸ zk)])⟩
theorem zig (h:Hist) (x:Int) (la:Lim 1000000 h):y9 Tryz.prog 214 [.agg (y8 h),iv x] [] (fun r h'=>h'= []∧r=zcs (zbf h x)):=by
 refine z6 Tryz.func214 rfl rfl rfl ?_;have be:=la.evs;have bt:=la.ts;refine rn ?_;refine z8 rfl (w7 rfl rfl rfl fun b2=>?_);refine rn0 ?_;refine x7 (y5 ?_);refine rn0 ?_;refine x7 ?_;refine x7 ?_;refine zgv (zaf 1 3) ?_;refine rn ?_;refine zer h.ts.length (fun k s=>⟨[(13,iv k),(5,.v s.v),(1,iv x),(2,pZ b2),(12,iv (h.ts.map zaq).length)],.row s.v 1 3 ((zdv h x k).map zag):: .box b2 28 (y8 h):: [],[]⟩) ⟨none,0,0⟩ es ?_;intro k s lk;refine rn ?_;refine z7 rfl (fun hc14=>?_) (fun hc14=>?_)
 ·have hk:=zaw hc14;have rk:=zam (f:=zaq) hk;refine rn ?_;refine zwh h.evs.length (fun j wb=>wb=(h.evs.take j).any (zbw k x)) (fun j wb=> [(19,iv j),(7,bv wb)]) [(1,_),(2,_),(5,_),(6,_),(12,_),(13,_),(17,_),(18,_)] false rfl ?_;intro j wb lj zj;refine rn ?_;refine z7 rfl (fun hc20=>?_) (fun hc20=>?_)
  ·have hj:=zaw hc20;have rj:=zam (f:=evR) hj;refine rn ?_;refine z8 rfl (y6 rfl fun b9=>?_);refine rn ?_;refine x5 (fun hg9_1=>?_) (fun hg9_1=>?_)
   ·refine rn ?_;refine ⟨hj,_,?_,eA⟩;rw [za7 hj,←zj];simp_all [zbw]
   refine rn ?_;refine x5 (fun hg9_5=>?_) (fun hg9_5=>?_)
   ·refine rn ?_;refine x5 (fun hg9_11=>?_) (fun hg9_11=>?_)
    ·refine rn ?_;refine ⟨hj,_,?_,eA⟩;rw [za7 hj,←zj];simp_all [zbw]
    refine rn ?_;refine ⟨hj,_,?_,eA⟩;rw [za7 hj,←zj];simp_all [zbw]
   refine rn ?_;refine ⟨hj,_,?_,eA⟩;rw [za7 hj,←zj];simp_all [zbw]
  have qj:=zaz hc20 lj;have wq:wb=h.evs.any (zbw k x):=by rw [zj,qj,C7]
  refine rn ?_;refine x5 (fun hg11_1=>?_) (fun hg11_1=>?_)
  ·refine rn ?_;refine qv rfl rfl (y3 rfl rfl (u0 (yb1 h k (la.mono (by decide))) (Sbs.refl _))) ?_;refine rn ?_;refine z7 rfl (fun hc47=>?_) (fun hc47=>?_)
   ·refine rn ?_;refine qv rfl rfl (q8 rfl rfl) ?_;refine z8 rfl (j3 rfl rfl (by simp only [oM];have:=zk8 h x k;simp;omega) rfl (fun s51=>?_) (zja [(k:Int)]));refine zac s51 fun sv hsv=>?_;subst hsv;refine rn ?_;first|exact ⟨hk,sv,by rw [zki (by simp_all) (by simp_all),D9];exact eA⟩|exact ⟨hk,s,by rw [zkj (by simp_all)];exact eA⟩
   refine rn ?_;first|exact ⟨hk,sv,by rw [zki (by simp_all) (by simp_all),D9];exact eA⟩|exact ⟨hk,s,by rw [zkj (by simp_all)];exact eA⟩
  refine rn ?_;refine zfd rfl ?_;refine rn ?_;first|exact ⟨hk,sv,by rw [zki (by simp_all) (by simp_all),D9];exact eA⟩|exact ⟨hk,s,by rw [zkj (by simp_all)];exact eA⟩
 have qk:=zaz hc14 lk;refine rn ?_;exact u6 rfl (.trans zc5 (.drop1 _ _ _)) ⟨rfl,by rw [qk,zrw];rfl⟩
theorem ygz (h:Hist) (i:Nat) (hi:i < h.ords.length) (la:Lim 1000000 h):y9 Tryz.prog 209 [.agg (y8 h),iv i] [] (fun r h'=>h'= []∧r=bv (zj0 h i h.ords[i])):=by
 refine z6 Tryz.func209 rfl rfl rfl ?_;have ri:=zam (f:=zb7) hi;have bo:=la.ords;have si:=la.ordts h.ords[i] (D0 hi);refine rn ?_;refine z8 rfl (w7 rfl rfl rfl fun b2=>?_);refine rn ?_;refine z8 rfl (y6 rfl fun b5=>?_);first|refine z8 rfl (zak rfl rfl rfl ?_)|refine z8 rfl (za6 rfl rfl rfl rfl (A7 rfl) ?_)
 refine u1 (j8 ?_);refine x7 ?_;refine x7 (y5 ?_);refine q1 ?_;refine q1 ?_;refine q1 ?_;refine qq rfl rfl (zbl (k:=i) rfl rfl (by simp;omega)) ?_;rw [←L6];refine rn ?_;refine zc8 ((h.ords.take i).length) (fun j:Nat=>(h.ords.take i).all (fun p:Ord=> !(p.o==h.ords[i].o))=((h.ords.take i).drop j).all (fun p:Ord=> !(p.o==h.ords[i].o))) (fun j=> [(19,iv j)]) [(2,_),(5,_),(17,_),(18,_)] rfl ?_;intro j lj zj;refine rn ?_;refine z7 rfl (fun hc20=>?_) (fun hc20=>?_)
 ·have hj:=zaw hc20;have rj:=zam (f:=zb7) hj;have bj:(h.ords.take i).length≤4611686018427387904:=by simp;omega
  refine rn ?_;refine z8 rfl (y6 rfl fun b7=>?_);refine rn ?_;refine z7 rfl (fun hc27=>?_) (fun hc27=>?_)
  ·refine rn ?_;refine rq 3 ?_;exact ⟨rfl,A4 bv (by rw [yhl (zuh hj (by simpa using hc27))])⟩
  refine rn ?_;exact ⟨hj,zwk hj zj (by simpa using hc27),eA⟩
 have qj:=zaz hc20 lj;have aj:=yan qj zj;refine rn ?_;refine qv rfl rfl (y3 rfl rfl (u0 (zig h h.ords[i].o la) (Sbs.refl _))) ?_;refine rn ?_;refine qv rfl rfl (y3 rfl rfl (u0 (zu6 h.ords[i].ts (zbf h h.ords[i].o) (B8 si (by decide)) (B8 (zgx _ _) (B8 la.ts (by decide)))) (Sbs.refl _))) ?_;refine rn ?_;refine x5 (fun hg9_5=>?_) (fun hg9_5=>?_)
 ·refine rn ?_;refine rq 2 ?_;exact ⟨rfl,A4 bv (by rw [zxm aj];simp_all)⟩
 refine rn ?_;refine qv rfl rfl (y3 rfl rfl (u0 (zu6 (zbf h h.ords[i].o) h.ords[i].ts (B8 (zgx _ _) (B8 la.ts (by decide))) (B8 si (by decide))) (Sbs.refl _))) ?_;refine rn ?_;refine rq 2 ?_;exact ⟨rfl,A4 bv (by rw [zxm aj];simp_all)⟩
theorem zzf (h:Hist) (x:Int) (la:Lim 1000000 h):y9 Tryz.prog 210 [.agg (y8 h),iv x] [] (fun r h'=>h'= []∧r=bv (zof h x)):=by
 refine z6 Tryz.func210 rfl rfl rfl ?_;refine rn ?_;refine z8 rfl (w7 rfl rfl rfl fun b2=>?_);refine rn ?_;refine zc8 (h.ords.length) (fun j:Nat=>h.ords.all (fun p:Ord=> !(p.o==x))=(h.ords.drop j).all (fun p:Ord=> !(p.o==x))) (fun j=> [(10,iv j)]) [(1,_),(2,_),(8,_),(9,_)] rfl ?_;intro j lj zj;refine rn ?_;refine z7 rfl (fun hc11=>?_) (fun hc11=>?_)
 ·have hj:=zaw hc11;have rj:=zam (f:=zb7) hj;have bo:=la.ords;refine rn ?_;refine z8 rfl (y6 rfl fun b6=>?_);refine rn ?_;refine z7 rfl (fun hc17=>?_) (fun hc17=>?_)
  ·refine rn ?_;refine rq 2 ?_;exact ⟨rfl,A4 bv (by rw [ynn (zuh hj (by simpa using hc17))])⟩
  refine rn ?_;exact ⟨hj,zwk hj zj (by simpa using hc17),eA⟩
 have qj:=zaz hc11 lj;have aj:=yan qj zj;refine rn ?_;refine qv rfl rfl (y3 rfl rfl (u0 (zig h x la) (Sbs.refl _))) ?_;refine rn ?_;refine rq 1 ?_;exact ⟨rfl,A4 bv (by rw [yno aj];simp;omega)⟩
theorem yg1 (h:Hist) (i:Nat) (hi:i < h.mats.length) (la:Lim 1000000 h):y9 Tryz.prog 211 [.agg (y8 h),iv i] [] (fun r h'=>h'= []∧r=bv (zj4 h i h.mats[i])):=by
 refine z6 Tryz.func211 rfl rfl rfl ?_;have ri:=zam (f:=zck) hi;have bo:=la.mats;have si:=la.matts h.mats[i] (D0 hi);refine rn ?_;refine z8 rfl (w7 rfl rfl rfl fun b2=>?_);refine rn ?_;refine z8 rfl (y6 rfl fun b5=>?_);first|refine z8 rfl (zak rfl rfl rfl ?_)|refine z8 rfl (za6 rfl rfl rfl rfl (A7 rfl) ?_)
 refine u1 (j8 ?_);refine x7 ?_;refine x7 (y5 ?_);refine q1 ?_;refine q1 ?_;refine q1 ?_;refine qq rfl rfl (zbl (k:=i) rfl rfl (by simp;omega)) ?_;rw [←L6];refine rn ?_;refine zc8 ((h.mats.take i).length) (fun j:Nat=>(h.mats.take i).all (fun p:Mat=> !(p.p==h.mats[i].p && p.o==h.mats[i].o))=((h.mats.take i).drop j).all (fun p:Mat=> !(p.p==h.mats[i].p && p.o==h.mats[i].o))) (fun j=> [(18,iv j)]) [(2,_),(5,_),(16,_),(17,_)] rfl ?_;intro j lj zj;refine rn ?_;refine z7 rfl (fun hc19=>?_) (fun hc19=>?_)
 ·have hj:=zaw hc19;have rj:=zam (f:=zck) hj;have bj:(h.mats.take i).length≤4611686018427387904:=by simp;omega
  refine rn ?_;refine z8 rfl (y6 rfl fun b7=>?_);refine rn ?_;refine x5 (fun hg5_5=>?_) (fun hg5_5=>?_)
  ·refine rn ?_;refine z7 rfl (fun hc33=>?_) (fun hc33=>?_)
   ·refine rn ?_;refine rq 3 ?_;exact ⟨rfl,A4 bv (by rw [yhx (zuh hj (by simp_all))])⟩
   refine rn ?_;exact ⟨hj,zwk hj zj (by simp_all),eA⟩
  refine rn ?_;refine zfd rfl ?_;refine rn ?_;exact ⟨hj,zwk hj zj (by simp_all),eA⟩
 have qj:=zaz hc19 lj;have aj:=yan qj zj;refine rn ?_;refine j5 6 rfl ?_;refine rn ?_;refine dv rfl rfl (by exact y3 rfl rfl (u0 (zig h h.mats[i].o la) (Sbs.refl _))) ?_;refine rn ?_;refine qv rfl rfl (y3 rfl rfl (u0 (zu6 h.mats[i].ts (zbf h h.mats[i].o) (B8 si (by decide)) (B8 (zgx _ _) (B8 la.ts (by decide)))) (Sbs.refl _))) ?_;refine rn ?_;refine rq 2 ?_;exact ⟨rfl,A4 bv (by rw [yhy aj])⟩
theorem ymw (h:Hist) (i:Nat) (hi:i < h.wants.length) (la:Lim 1000000 h):y9 Tryz.prog 212 [.agg (y8 h),iv i] [] (fun r h'=>h'= []∧r=bv (zi5 h i h.wants[i])):=by
 refine z6 Tryz.func212 rfl rfl rfl ?_;have ri:=zam (f:=zar) hi;have bo:=la.wants;refine rn ?_;refine z8 rfl (w7 rfl rfl rfl fun b2=>?_);refine q1 ?_;refine u1 (j8 ?_);refine x7 ?_;refine x7 (y5 ?_);refine q1 ?_;refine q1 ?_;refine q1 ?_;refine qq rfl rfl (zbl (k:=i) rfl rfl (by simp;omega)) ?_;rw [←L6];refine rn ?_;refine zc8 ((h.wants.take i).length) (fun j:Nat=>(h.wants.take i).all (fun p:Wan=> !(p.s==h.wants[i].s))=((h.wants.take i).drop j).all (fun p:Wan=> !(p.s==h.wants[i].s))) (fun j=> [(14,iv j)]) [(1,_),(2,_),(12,_),(13,_)] rfl ?_;intro j lj zj;refine rn ?_;refine z7 rfl (fun hc15=>?_) (fun hc15=>?_)
 ·have hj:=zaw hc15;have rj:=zam (f:=zar) hj;have bj:(h.wants.take i).length≤4611686018427387904:=by simp;omega
  refine rn ?_;refine z8 rfl (y6 rfl fun b6=>?_);refine rn ?_;refine j5 8 rfl ?_;refine rn ?_;refine z7 rfl (fun hc26=>?_) (fun hc26=>?_)
  ·refine rn ?_;refine rq 2 ?_;exact ⟨rfl,A4 bv (by rw [ylk (zuh hj (by simpa using hc26))])⟩
  refine rn ?_;exact ⟨hj,zwk hj zj (by simpa using hc26),eA⟩
 have qj:=zaz hc15 lj;have aj:=yan qj zj;refine rn ?_;refine zc8 (h.evs.length) (fun k:Nat=>h.evs.all (fun e:Ev=> !(e.kind==1 && e.s==h.wants[i].s))=(h.evs.drop k).all (fun e:Ev=> !(e.kind==1 && e.s==h.wants[i].s))) (fun k=> [(31,iv k)]) [(1,_),(2,_),(29,_),(30,_)] rfl ?_;intro k lk zk;refine rn ?_;refine z7 rfl (fun hc32=>?_) (fun hc32=>?_)
 ·have hk:=zaw hc32;have rk:=zam (f:=evR) hk;have bk:=la.evs;refine rn ?_;refine z8 rfl (y6 rfl fun b8=>?_);refine rn ?_;refine j5 12 rfl ?_;refine rn ?_;refine ze6 (fun hg10_3=>?_) (fun hg10_3=>?_)
  ·refine rn ?_;refine z7 rfl (fun hc48=>?_) (fun hc48=>?_)
   ·refine rn ?_;refine rq 2 ?_;exact ⟨rfl,A4 bv (by rw [yaw aj (zuh hk (by simp_all))])⟩
   refine rn ?_;exact ⟨hk,zwk hk zk (by simp_all),eA⟩
  refine rn ?_;refine zfd rfl ?_;refine rn ?_;exact ⟨hk,zwk hk zk (by simp_all),eA⟩
 have qk:=zaz hc32 lk;have ak:=yan qk zk;refine rn ?_;refine rq 1 ?_;exact ⟨rfl,A4 bv (by rw [yaw aj ak])⟩
theorem ybw (e:Ev):y9 Tryz.prog 225 [.agg (evR e)] [] (fun r h'=>h'= []∧r=zlb (u5 e)):=by
 refine z6 Tryz.func225 rfl rfl rfl ?_;refine rn ?_;refine z8 rfl (w7 rfl rfl rfl fun b1=>?_);refine rn ?_;refine z7 rfl (fun hc5=>?_) (fun hc5=>?_)
 ·refine rn ?_;refine qv rfl rfl (q8 rfl rfl) ?_;refine rn ?_;exact u6 rfl (.trans (.drop [_] _ _) (.le Sb.unfull.le)) ⟨rfl,by rw [u5,A6 (by simpa using hc5)];rfl⟩
 refine rn ?_;refine rq 1 ?_;exact ⟨rfl,by rw [u5,A0 (by simpa using hc5)];rfl⟩
theorem zxg (l:List Ev) (t x:Int) (la:l.length≤1000000):y9 Tryz.prog 224 [zll l,iv t,iv x] [] (fun r h'=>h'= []∧r=zll (zcp l t x)):=by
 refine z6 Tryz.func224 rfl rfl rfl ?_;refine x7 (y5 ?_);refine rn0 ?_;refine x7 (y5 ?_);refine rn0 ?_;refine x7 ?_;refine x7 ?_;refine zgv (zaf 9 66) ?_;refine rn ?_;refine zer l.length (fun k s=>⟨[(12,iv k),(7,.v s.v),(1,iv t),(2,iv x),(10,zll l),(11,iv (l.map evR).length)],.row s.v 9 66 ((zcp (l.take k) t x).map evR):: [],[]⟩) ⟨none,0,0⟩ es ?_;intro k s lk;refine rn ?_;refine z7 rfl (fun hc13=>?_) (fun hc13=>?_)
 ·have hk:=zaw hc13;have rk:=zam (f:=evR) hk;refine rn ?_;refine z8 rfl (y6 rfl fun b9=>?_);refine rn ?_;refine x5 (fun hg5_3=>?_) (fun hg5_3=>?_)
  ·refine rn ?_;refine x5 (fun hg5_9=>?_) (fun hg5_9=>?_)
   ·refine rn ?_;refine z7 rfl (fun hc30=>?_) (fun hc30=>?_)
    ·refine rn ?_;refine qv rfl rfl (q8 rfl rfl) ?_;refine z8 rfl (j3 rfl rfl (by simp only [oM];have:=yft l t x k;simp;omega) rfl (fun s34=>?_) (yj8 [l[k]]));refine zac s34 fun sv hsv=>?_;subst hsv;refine rn ?_;first|exact ⟨hk,sv,by rw [zpo hk (by simp_all),D9];exact eA⟩|exact ⟨hk,s,by rw [zpp hk (by simp_all)];exact eA⟩
    refine rn ?_;first|exact ⟨hk,sv,by rw [zpo hk (by simp_all),D9];exact eA⟩|exact ⟨hk,s,by rw [zpp hk (by simp_all)];exact eA⟩
   refine rn ?_;refine zfd rfl ?_;refine rn ?_;first|exact ⟨hk,sv,by rw [zpo hk (by simp_all),D9];exact eA⟩|exact ⟨hk,s,by rw [zpp hk (by simp_all)];exact eA⟩
  refine rn ?_;refine zfd rfl ?_;refine rn ?_;first|exact ⟨hk,sv,by rw [zpo hk (by simp_all),D9];exact eA⟩|exact ⟨hk,s,by rw [zpp hk (by simp_all)];exact eA⟩
 have qk:=zaz hc13 lk;refine rn ?_;exact u6 rfl zc5 ⟨rfl,by rw [qk,C7];rfl⟩
theorem bvz2_3427 {a b:Bool} (h:a=b:=by subst e1;show _=(zhn l e.t && e.kind==1|| !zhn l e.t && e.kind !=1);rw [←zB];clear zb zo zB zO;simp_all):bv a=bv b:=A4 bv h
theorem zzi (rl:Nat) (e:Ev) (l:List Ev) (h1:1≤rl) (h6:rl≤6) (la:l.length≤1000000) (hl:e.scan.length≤1000000):y9 Tryz.prog 213 [iv rl,.agg (evR e),zll l] [] (fun r h'=>h'= []∧r=bv (zdm rl e l)):=by
 refine z6 Tryz.func213 rfl rfl rfl ?_;refine rn ?_;refine z8 rfl (w7 rfl rfl rfl fun b4=>?_);refine rn ?_;refine zwh l.length (fun j x=>x.1=(l.take j).any (fun y:Ev=>y.t==e.t && y.kind==1)∧x.2=(l.take j).any (fun y:Ev=>y.t==e.t && (y.kind==5||y.kind==6))) (fun j x=> [(21,iv j),(7,bv x.1),(8,bv x.2)]) [(0,_),(2,_),(4,_),(19,_),(20,_)] (false,false) ⟨rfl,rfl⟩ ?_;rintro j ⟨bg,ov⟩ lj ⟨zb,zo⟩;refine rn ?_;refine z7 rfl (fun hc22=>?_) (fun hc22=>?_)
 ·have hj:=zaw hc22;have rj:=zam (f:=evR) hj;refine rn ?_;refine z8 rfl (y6 rfl fun b10=>?_);refine rn ?_;refine z7 rfl (fun hc29=>?_) (fun hc29=>?_)
  ·refine rn ?_;refine x5 (fun hg6_1=>?_) (fun hg6_1=>?_)
   ·refine rn ?_;refine x5 (fun hg7_1=>?_) (fun hg7_1=>?_)
    ·refine rn ?_;refine ⟨hj,(_,_),?_,eA⟩;rw [za7 hj,za7 hj];generalize (l.take j).any (fun y:Ev=>y.t==e.t && y.kind==1)=A at *;generalize (l.take j).any (fun y:Ev=>y.t==e.t && (y.kind==5||y.kind==6))=B at *;simp_all
    refine rn ?_;refine x5 (fun hg7_6=>?_) (fun hg7_6=>?_)
    ·refine rn ?_;refine ⟨hj,(_,_),?_,eA⟩;rw [za7 hj,za7 hj];generalize (l.take j).any (fun y:Ev=>y.t==e.t && y.kind==1)=A at *;generalize (l.take j).any (fun y:Ev=>y.t==e.t && (y.kind==5||y.kind==6))=B at *;simp_all
    refine rn ?_;refine ⟨hj,(_,_),?_,eA⟩;rw [za7 hj,za7 hj];generalize (l.take j).any (fun y:Ev=>y.t==e.t && y.kind==1)=A at *;generalize (l.take j).any (fun y:Ev=>y.t==e.t && (y.kind==5||y.kind==6))=B at *;simp_all
   refine rn ?_;refine x5 (fun hg7_1=>?_) (fun hg7_1=>?_)
   ·refine rn ?_;refine ⟨hj,(_,_),?_,eA⟩;rw [za7 hj,za7 hj];generalize (l.take j).any (fun y:Ev=>y.t==e.t && y.kind==1)=A at *;generalize (l.take j).any (fun y:Ev=>y.t==e.t && (y.kind==5||y.kind==6))=B at *;simp_all
   refine rn ?_;refine x5 (fun hg7_6=>?_) (fun hg7_6=>?_)
   ·refine rn ?_;refine ⟨hj,(_,_),?_,eA⟩;rw [za7 hj,za7 hj];generalize (l.take j).any (fun y:Ev=>y.t==e.t && y.kind==1)=A at *;generalize (l.take j).any (fun y:Ev=>y.t==e.t && (y.kind==5||y.kind==6))=B at *;simp_all
   refine rn ?_;refine ⟨hj,(_,_),?_,eA⟩;rw [za7 hj,za7 hj];generalize (l.take j).any (fun y:Ev=>y.t==e.t && y.kind==1)=A at *;generalize (l.take j).any (fun y:Ev=>y.t==e.t && (y.kind==5||y.kind==6))=B at *;simp_all
  refine rn ?_;refine ⟨hj,(_,_),?_,eA⟩;rw [za7 hj,za7 hj];generalize (l.take j).any (fun y:Ev=>y.t==e.t && y.kind==1)=A at *;generalize (l.take j).any (fun y:Ev=>y.t==e.t && (y.kind==5||y.kind==6))=B at *;simp_all
 have qj:=zaz hc22 lj;have zB:bg=zhn l e.t:=by rw [ye0,zyl];simpa [qj] using zb
 have zO:ov=zsr l e.t:=by rw [zsr];simpa [qj] using zo
 refine rn ?_;refine z7 rfl (fun hc49=>?_) (fun hc49=>?_)
 ·have e1:rl=1:=by have h:=hc49;simp at h;omega
  refine rn ?_;refine x5 (fun hg11_1=>?_) (fun hg11_1=>?_)
  ·refine rn ?_;refine x5 (fun hg11_6=>?_) (fun hg11_6=>?_)
   ·refine rn ?_;refine rq 1 ?_;exact ⟨rfl,bvz2_3427⟩
   refine rn ?_;refine x5 (fun hg11_9=>?_) (fun hg11_9=>?_)
   ·refine rn ?_;refine rq 1 ?_;exact ⟨rfl,bvz2_3427⟩
   refine rn ?_;refine rq 1 ?_;exact ⟨rfl,bvz2_3427⟩
  refine rn ?_;refine x5 (fun hg11_9=>?_) (fun hg11_9=>?_)
  ·refine rn ?_;refine rq 1 ?_;exact ⟨rfl,bvz2_3427⟩
  refine rn ?_;refine rq 1 ?_;exact ⟨rfl,bvz2_3427⟩
 have n1:rl≠1:=by intro h;subst h;exact absurd hc49 (by decide)
 refine rn ?_;refine z7 rfl (fun hc66=>?_) (fun hc66=>?_)
 ·have e2:rl=2:=by have h:=hc66;simp at h;omega
  refine rn ?_;refine rq 1 ?_;exact ⟨rfl,A4 bv (by subst e2;show _=zsr l e.t;rw [←zO])⟩
 have n2:rl≠2:=by intro h;subst h;exact absurd hc66 (by decide)
 refine rn ?_;refine z7 rfl (fun hc69=>?_) (fun hc69=>?_)
 ·have e3:rl=3:=by have h:=hc69;simp at h;omega
  refine rn ?_;refine j5 15 rfl ?_;refine rn ?_;refine ze6 (fun hg15_3=>?_) (fun hg15_3=>?_)
  ·refine rn ?_;refine dv rfl rfl (by exact y3 rfl rfl (u0 (zxg l e.t e.o la) (Sbs.refl _))) ?_;refine dq rfl rfl qrA ?_;first|refine ds rfl rfl ?_|refine dq rfl rfl (zai rfl rfl rfl (by rw [oM];have:=zho l e.t e.o;omega)) ?_
   refine rn ?_;refine rq 1 ?_;exact ⟨rfl,A4 bv (by subst e3;simp_all [zdm])⟩
  refine rn ?_;refine rq 1 ?_;exact ⟨rfl,A4 bv (by subst e3;simp_all [zdm])⟩
 have n3:rl≠3:=by intro h;subst h;exact absurd hc69 (by decide)
 refine rn ?_;refine qv rfl rfl (y3 rfl rfl (u0 (ybw e) (Sbs.refl _))) ?_;refine rn ?_;refine zc8 ((u5 e).length) (fun k:Nat=>OkS rl e l k) (fun k=> [(91,iv k)]) [(0,_),(2,_),(4,_),(89,_),(90,_)] (fun i _ h=>absurd h (H6 _)) ?_;intro k lk zk;refine rn ?_;refine z7 rfl (fun hc92=>?_) (fun hc92=>?_)
 ·have hk:=zaw hc92;have rk:=zam (f:=zav) hk;have sl:=zkn (e:=e) (B8 hl (by decide));refine rn ?_;refine z8 rfl (y6 rfl fun b12=>?_);refine rn ?_;refine qv rfl rfl (y3 rfl rfl (u0 (zxg l e.t (u5 e)[k].o la) (Sbs.refl _))) ?_;refine rn ?_;refine zwh l.length (fun m x=>x=((u5 e)[k].v.k==0||(l.take m).any (fun y:Ev=>y.kind==2 && y.o==(u5 e)[k].o && y.v==(u5 e)[k].v))) (fun m x=> [(108,iv m),(14,bv x)]) [(0,_),(2,_),(4,_),(11,_),(12,_),(13,_),(89,_),(90,_),(91,_),(106,_),(107,_)] ((u5 e)[k].v.k==0) (by simp) ?_;intro m th lm zm;refine rn ?_;refine z7 rfl (fun hc109=>?_) (fun hc109=>?_)
  ·have hm:=zaw hc109;have rm:=zam (f:=evR) hm;refine rn ?_;refine z8 rfl (y6 rfl fun b16=>?_);refine rn ?_;refine x5 (fun hg24_1=>?_) (fun hg24_1=>?_)
   ·refine rn ?_;refine ⟨hm,_,?_,eA⟩;try rw [zcz]
    rw [za7 hm];generalize (l.take m).any (fun y:Ev=>y.kind==2 && y.o==(u5 e)[k].o && y.v==(u5 e)[k].v)=A at *;generalize ((u5 e)[k].v.k==0)=B at *;generalize (l[m].v==(u5 e)[k].v)=D at *;cases A <;> cases B <;> simp_all
   refine rn ?_;refine x5 (fun hg24_5=>?_) (fun hg24_5=>?_)
   ·refine rn ?_;refine x5 (fun hg24_12=>?_) (fun hg24_12=>?_)
    ·refine rn ?_;refine ⟨hm,_,?_,eA⟩;try rw [zcz]
     rw [za7 hm];generalize (l.take m).any (fun y:Ev=>y.kind==2 && y.o==(u5 e)[k].o && y.v==(u5 e)[k].v)=A at *;generalize ((u5 e)[k].v.k==0)=B at *;generalize (l[m].v==(u5 e)[k].v)=D at *;cases A <;> cases B <;> simp_all
    refine rn ?_;refine ⟨hm,_,?_,eA⟩;try rw [zcz]
    rw [za7 hm];generalize (l.take m).any (fun y:Ev=>y.kind==2 && y.o==(u5 e)[k].o && y.v==(u5 e)[k].v)=A at *;generalize ((u5 e)[k].v.k==0)=B at *;generalize (l[m].v==(u5 e)[k].v)=D at *;cases A <;> cases B <;> simp_all
   refine rn ?_;refine ⟨hm,_,?_,eA⟩;try rw [zcz]
   rw [za7 hm];generalize (l.take m).any (fun y:Ev=>y.kind==2 && y.o==(u5 e)[k].o && y.v==(u5 e)[k].v)=A at *;generalize ((u5 e)[k].v.k==0)=B at *;generalize (l[m].v==(u5 e)[k].v)=D at *;cases A <;> cases B <;> simp_all
  have qm:=zaz hc109 lm;have zT:th=((u5 e)[k].v.k==0||zfh l (u5 e)[k].o (u5 e)[k].v):=by rw [zm,qm,C7];rfl
  refine rn ?_;refine z7 rfl (fun hc134=>?_) (fun hc134=>?_)
  ·have e4:rl=4:=by have h:=hc134;simp at h;omega
   refine rn ?_;refine z7 rfl (fun hc137=>?_) (fun hc137=>?_)
   ·refine rn ?_;refine rq 2 ?_;exact ⟨rfl,A4 bv (by subst e4;rw [zpq (by omega) hk (by show (!((u5 e)[k].v.k==0||zfh l (u5 e)[k].o (u5 e)[k].v))=true;rw [←zT];exact hc137)])⟩
   refine rn ?_;exact ⟨hk,ycm hk zk (by first|(subst e4;show (!((u5 e)[k].v.k==0||zfh l (u5 e)[k].o (u5 e)[k].v))=false;rw [←zT];exact hc137)|(subst e5;rw [zko hw1,bne,←zcz];exact hc154)|(subst e5;exact zmx hg31_3)|(subst e6;show ((u5 e).take k).any _=false;rw [ze7,au];rfl)|(exfalso;omega)),eA⟩
  have n4:rl≠4:=by intro h;subst h;exact absurd hc134 (by decide)
  refine rn ?_;refine z7 rfl (fun hc138=>?_) (fun hc138=>?_)
  ·have e5:rl=5:=by have h:=hc138;simp at h;omega
   refine rn ?_;refine j5 13 rfl ?_;refine rn ?_;refine ze6 (fun hg31_3=>?_) (fun hg31_3=>?_)
   ·try obtain ⟨w,hw1,hw2,hw3⟩:=zxv hg31_3
    refine dq rfl rfl qrA ?_;refine dq rfl rfl qrA ?_;refine dq rfl rfl qrA ?_;first|refine ds rfl rfl ?_|refine dq rfl rfl (zai rfl rfl rfl (by rw [oM];have:=zho l e.t (u5 e)[k].o;omega)) ?_
    first|refine ds rfl rfl ?_|refine dq rfl rfl (zld rfl rfl hw3 hw2) ?_
    refine rn ?_;refine z7 rfl (fun hc154=>?_) (fun hc154=>?_)
    ·refine rn ?_;refine rq 2 ?_;exact ⟨rfl,A4 bv (by subst e5;rw [zpq (by omega) hk (by rw [zko hw1,bne,←zcz];exact hc154)])⟩
    refine rn ?_;exact ⟨hk,ycm hk zk (by first|(subst e4;show (!((u5 e)[k].v.k==0||zfh l (u5 e)[k].o (u5 e)[k].v))=false;rw [←zT];exact hc137)|(subst e5;rw [zko hw1,bne,←zcz];exact hc154)|(subst e5;exact zmx hg31_3)|(subst e6;show ((u5 e).take k).any _=false;rw [ze7,au];rfl)|(exfalso;omega)),eA⟩
   try obtain ⟨w,hw1,hw2,hw3⟩:=zxv hg31_3
   refine rn ?_;refine zfd rfl ?_;refine rn ?_;exact ⟨hk,ycm hk zk (by first|(subst e4;show (!((u5 e)[k].v.k==0||zfh l (u5 e)[k].o (u5 e)[k].v))=false;rw [←zT];exact hc137)|(subst e5;rw [zko hw1,bne,←zcz];exact hc154)|(subst e5;exact zmx hg31_3)|(subst e6;show ((u5 e).take k).any _=false;rw [ze7,au];rfl)|(exfalso;omega)),eA⟩
  have n5:rl≠5:=by intro h;subst h;exact absurd hc138 (by decide)
  refine rn ?_;refine z7 rfl (fun hc155=>?_) (fun hc155=>?_)
  ·have e6:rl=6:=by have h:=hc155;simp at h;omega
   refine rn ?_;refine qv rfl rfl (y3 rfl rfl (u0 (ybw e) (Sbs.refl _))) ?_;refine q1 ?_;refine qq rfl rfl (zbl (k:=k) rfl rfl (by simp;omega)) ?_;rw [←L6];refine rn ?_;refine zc8 (((u5 e).take k).length) (fun u:Nat=>((u5 e).take k).all (fun p:Seen=> !(p.o==(u5 e)[k].o))=(((u5 e).take k).drop u).all (fun p:Seen=> !(p.o==(u5 e)[k].o))) (fun u=> [(162,iv u)]) [(0,_),(2,_),(4,_),(12,_),(89,_),(90,_),(91,_),(160,_),(161,_)] rfl ?_;intro u lu zu;refine rn ?_;refine z7 rfl (fun hc163=>?_) (fun hc163=>?_)
   ·have hu:=zaw hc163;have ru:=zam (f:=zav) hu;have bu:((u5 e).take k).length≤4611686018427387904:=by simp;omega
    refine rn ?_;refine z8 rfl (y6 rfl fun b18=>?_);refine rn ?_;refine z7 rfl (fun hc170=>?_) (fun hc170=>?_)
    ·refine rn ?_;refine rq 3 ?_;exact ⟨rfl,A4 bv (by subst e6;rw [zpq (by omega) hk (by show ((u5 e).take k).any _=true;rw [ze7,zuh hu (by simpa using hc170)];rfl)])⟩
    refine rn ?_;exact ⟨hu,zwk hu zu (by simpa using hc170),eA⟩
   have qu:=zaz hc163 lu;have au:=yan qu zu;refine rn ?_;exact ⟨hk,ycm hk zk (by first|(subst e4;show (!((u5 e)[k].v.k==0||zfh l (u5 e)[k].o (u5 e)[k].v))=false;rw [←zT];exact hc137)|(subst e5;rw [zko hw1,bne,←zcz];exact hc154)|(subst e5;exact zmx hg31_3)|(subst e6;show ((u5 e).take k).any _=false;rw [ze7,au];rfl)|(exfalso;omega)),eA⟩
  have n6:rl≠6:=by intro h;subst h;exact absurd hc155 (by decide)
  refine rn ?_;exact ⟨hk,ycm hk zk (by first|(subst e4;show (!((u5 e)[k].v.k==0||zfh l (u5 e)[k].o (u5 e)[k].v))=false;rw [←zT];exact hc137)|(subst e5;rw [zko hw1,bne,←zcz];exact hc154)|(subst e5;exact zmx hg31_3)|(subst e6;show ((u5 e).take k).any _=false;rw [ze7,au];rfl)|(exfalso;omega)),eA⟩
 have qk:=zaz hc92 lk;refine rn ?_;refine rq 1 ?_;exact ⟨rfl,A4 bv (by rw [yfv (by omega) (qk ▸ zk)])⟩
theorem yb2 (h:Hist) (rl i:Nat) (h1:1≤rl) (h10:rl≤10) (hi:i < zg9 h rl) (la:Lim 1000000 h):y9 Tryz.prog 194 [.agg (y8 h),iv rl,iv i] [] (fun r h'=>h'= []∧r=bv (zhi h rl i)):=by
 refine z6 Tryz.func194 rfl rfl rfl ?_;refine rn ?_;refine z8 rfl (w7 rfl rfl rfl fun b3=>?_);refine rn ?_;refine z7 rfl (fun hc8=>?_) (fun hc8=>?_)
 ·obtain rfl:rl=7:=by have q:=hc8;simp at q;omega
  have hi2:i < h.ords.length:=hi;refine rn ?_;refine qv rfl rfl (y3 rfl rfl (u0 (ygz h i hi2 la) (Sbs.refl _))) ?_;refine rn ?_;refine rq 1 ?_;exact ⟨rfl,A4 bv (by exact (zlo hi2).symm)⟩
 have n7:rl≠7:=by intro q;subst q;exact absurd hc8 (by decide)
 refine rn ?_;refine z7 rfl (fun hc13=>?_) (fun hc13=>?_)
 ·obtain rfl:rl=8:=by have q:=hc13;simp at q;omega
  have hi2:i < h.os.length:=hi;refine rn ?_;refine qv rfl rfl (y3 rfl rfl (u0 (zzf h i la) (Sbs.refl _))) ?_;refine rn ?_;refine rq 1 ?_;exact ⟨rfl,A4 bv (by exact (zlo (w:=fun x _=>zof h (x:Int)) hi2).symm)⟩
 have n8:rl≠8:=by intro q;subst q;exact absurd hc13 (by decide)
 refine rn ?_;refine z7 rfl (fun hc18=>?_) (fun hc18=>?_)
 ·obtain rfl:rl=9:=by have q:=hc18;simp at q;omega
  have hi2:i < h.mats.length:=hi;refine rn ?_;refine qv rfl rfl (y3 rfl rfl (u0 (yg1 h i hi2 la) (Sbs.refl _))) ?_;refine rn ?_;refine rq 1 ?_;exact ⟨rfl,A4 bv (by exact (zlo hi2).symm)⟩
 have n9:rl≠9:=by intro q;subst q;exact absurd hc18 (by decide)
 refine rn ?_;refine z7 rfl (fun hc23=>?_) (fun hc23=>?_)
 ·obtain rfl:rl=10:=by have q:=hc23;simp at q;omega
  have hi2:i < h.wants.length:=hi;refine rn ?_;refine qv rfl rfl (y3 rfl rfl (u0 (ymw h i hi2 la) (Sbs.refl _))) ?_;refine rn ?_;refine rq 1 ?_;exact ⟨rfl,A4 bv (by exact (zlo hi2).symm)⟩
 have n10:rl≠10:=by intro q;subst q;exact absurd hc23 (by decide)
 have hi2:i < h.evs.length:=by rw [←ycw n7 n8 n9 n10];exact hi
 have ri:=zam (f:=evR) hi2;have be:=la.evs;have sc:=la.scans h.evs[i] (D0 hi2);refine rn ?_;refine j5 10 rfl ?_;refine dq rfl rfl qrA ?_;refine dq rfl rfl qrA ?_;refine dq rfl rfl qrA ?_;refine dq rfl rfl qrA ?_;refine dq rfl rfl qrA ?_;refine dq rfl rfl qrA ?_;refine dq rfl rfl qrA ?_;refine dq rfl rfl qrA ?_;refine dq rfl rfl qrA ?_;refine dq rfl rfl (zbl (k:=i) rfl rfl (by simp;omega)) ?_;rw [←L6];refine rn ?_;refine qv rfl rfl (y3 rfl rfl (u0 (zzi rl h.evs[i] (h.evs.take i) h1 (by omega) (by simp;omega) sc) (Sbs.refl _))) ?_;refine rn ?_;refine rq 1 ?_;exact ⟨rfl,A4 bv (by rw [yeq n7 n8 n9 n10,zlo hi2])⟩
theorem ygy (h:Hist) (rl:Nat) (h1:1≤rl) (h10:rl≤10) (la:Lim 1000000 h):y9 Tryz.prog 152 [.agg (y8 h),iv rl] [] (fun r h'=>h'= []∧r=iv (zxj (ze5 h rl))):=by
 refine z6 Tryz.func152 rfl rfl rfl ?_;refine rn ?_;refine z8 rfl (w7 rfl rfl rfl fun b2=>?_);refine rn0 ?_;refine x7 (y5 ?_);refine rn0 ?_;refine zh9 (⟨[(5,iv (zg9 h rl)),(1,iv rl),(2,pZ b2)],.box b2 28 (y8 h):: [],[]⟩) ?_ ?_
 ·refine rn ?_;refine z7 rfl (fun hc11=>?_) (fun hc11=>?_)
  ·obtain rfl:rl=7:=by have q:=hc11;simp at q;omega
   refine rn ?_;first|(rw [yc0];exact es)|(rw [ycz];exact es)|(rw [ycy];exact es)|(rw [zsy];exact es)|(rw [ycx n7 n8 n9 n10];exact es)
  have n7:rl≠7:=by intro q;subst q;exact absurd hc11 (by decide)
  refine rn ?_;refine z7 rfl (fun hc16=>?_) (fun hc16=>?_)
  ·obtain rfl:rl=8:=by have q:=hc16;simp at q;omega
   refine rn ?_;first|(rw [yc0];exact es)|(rw [ycz];exact es)|(rw [ycy];exact es)|(rw [zsy];exact es)|(rw [ycx n7 n8 n9 n10];exact es)
  have n8:rl≠8:=by intro q;subst q;exact absurd hc16 (by decide)
  refine rn ?_;refine z7 rfl (fun hc21=>?_) (fun hc21=>?_)
  ·obtain rfl:rl=9:=by have q:=hc21;simp at q;omega
   refine rn ?_;first|(rw [yc0];exact es)|(rw [ycz];exact es)|(rw [ycy];exact es)|(rw [zsy];exact es)|(rw [ycx n7 n8 n9 n10];exact es)
  have n9:rl≠9:=by intro q;subst q;exact absurd hc21 (by decide)
  refine rn ?_;refine z7 rfl (fun hc26=>?_) (fun hc26=>?_)
  ·obtain rfl:rl=10:=by have q:=hc26;simp at q;omega
   refine rn ?_;first|(rw [yc0];exact es)|(rw [ycz];exact es)|(rw [ycy];exact es)|(rw [zsy];exact es)|(rw [ycx n7 n8 n9 n10];exact es)
  have n10:rl≠10:=by intro q;subst q;exact absurd hc26 (by decide)
  refine rn ?_;first|(rw [yc0];exact es)|(rw [ycz];exact es)|(rw [ycy];exact es)|(rw [zsy];exact es)|(rw [ycx n7 n8 n9 n10];exact es)
 refine rn ?_;refine zc8 (zg9 h rl) (fun k:Nat=>∀j,j < k→zhi h rl j=false) (fun k=> [(32,iv k)]) [(1,_),(2,_),(31,_)] (fun j q=>absurd q (H6 _)) ?_;intro k lk zk;refine rn ?_;refine z7 rfl (fun hc33=>?_) (fun hc33=>?_)
 ·have hk:k < zg9 h rl:=by have q:=hc33;simp at q;omega
  have mb:zg9 h rl≤1000000:=yh1 la;refine rn ?_;refine qv rfl rfl (y3 rfl rfl (u0 (yb2 h rl k h1 h10 hk la) (Sbs.refl _))) ?_;refine rn ?_;refine z7 rfl (fun hc38=>?_) (fun hc38=>?_)
  ·refine rn ?_;refine rq 1 ?_;exact ⟨rfl,by rw [ych hk hc38 zk];rfl⟩
  refine rn ?_;exact ⟨hk,ylq zk hc38,eA⟩
 have qk:k=zg9 h rl:=by have q:=hc33;simp at q;omega
 refine rn ?_;refine rq 1 ?_;exact ⟨rfl,by rw [zzu (qk ▸ zk)];rfl⟩
theorem ycj {o:Option Nat} (h:decide (zxj o ≥ 0)=true):∃n,o=some n:=by
 cases o with
 |none=>exact absurd h (by decide)
 |some n=>exact ⟨n,rfl⟩
theorem yci {o:Option Nat} (h:decide (zxj o ≥ 0)=false):o=none:=by
 cases o with
 |none=>rfl
 |some n=>have:=oF h;simp [zxj] at this
theorem zzg (h:Hist) (la:Lim 1000000 h):y9 Tryz.prog 108 [.agg (y8 h)] [] (fun r h'=>h'= []∧r= .tup [.agg (ywf (za5 (ze5 h) rules10)),bv (za5 (ze5 h) rules10).isSome]):=by
 refine z6 Tryz.func108 rfl rfl rfl ?_;refine rn ?_;refine z8 rfl (w7 rfl rfl rfl fun b1=>?_);refine z8 rfl (y6 rfl fun b2=>?_);refine rn ?_;refine zdf (fun k:Nat=>(1≤k∧k≤11)∧za5 (ze5 h) rules10=za5 (ze5 h) (rules10.drop (k - 1))) (fun k=>⟨[(4,iv k),(1,pZ b1),(2,pZ b2)],(.box b2 152 [iv 0,iv 0]:: .box b1 28 (y8 h):: []),[]⟩) (fun k=>11 - k) 1 ⟨by omega,rfl⟩ es ?_;rintro k ⟨⟨k1,k3⟩,zk⟩;refine rn ?_;refine z7 rfl (fun hc7=>?_) (fun hc7=>?_)
 ·have k2:k≤10:=by have:=oT hc7;omega
  refine rn ?_;refine qv rfl rfl (y3 rfl rfl (u0 (ygy h k k1 k2 la) (Sbs.refl _))) ?_;refine rn ?_;refine z7 rfl (fun hc14=>?_) (fun hc14=>?_)
  ·refine rn ?_;exact zdn (.cons _ _ _ _ (.agg _ _ _ _ _ _ _ rfl inferInstance inferInstance inferInstance rfl) (.cons _ _ _ _ (.tmp _ _ rfl) .nil)) (.drop [_,_] _ _) ⟨rfl,by
    obtain ⟨n,hp⟩:=ycj hc14;rw [ztg k1 k2 zk hp,hp];rfl⟩
  refine rn ?_;exact ⟨k+1,⟨by omega,zpa k1 k2 zk (yci hc14)⟩,eA,by omega⟩
 have k2:11≤k:=by have:=oF hc7;omega
 refine rn ?_;exact zdn (.cons _ _ _ _ (.agg _ _ _ _ _ _ _ rfl inferInstance inferInstance inferInstance rfl) (.cons _ _ _ _ (.tmp _ _ rfl) .nil)) (.drop [_,_] _ _) ⟨rfl,by rw [zpb k2 k3 zk];rfl⟩
theorem yxb (l:Int):y9 Tryz.prog 191 [iv l] [] (fun r h'=>h'= []∧r=bv (ziu l)):=by
 refine z6 Tryz.func191 rfl rfl rfl ?_;refine rn ?_;refine x5 (fun hg1_2=>?_) (fun hg1_2=>?_)
 ·refine rn ?_;exact u6 rfl (.refl _ _) ⟨rfl,A4 bv (by first|(simp only [ziu, *,B9,B0,C2,E3,D1,E8,C4,F1,G4,F2,B3,D8,D3];done)|(simp_all [ziu];done)|(simp_all [ziu] <;> omega))⟩
 refine rn ?_;exact u6 rfl (.refl _ _) ⟨rfl,A4 bv (by first|(simp only [ziu, *,B9,B0,C2,E3,D1,E8,C4,F1,G4,F2,B3,D8,D3];done)|(simp_all [ziu];done)|(simp_all [ziu] <;> omega))⟩
theorem bvz3_6162 {a b:Bool} (h:a=b:=by first|(simp only [zs3, *,B9,B0,C2,E3,D1,E8,C4,F1,G4,F2,B3,D8,D3];done)|(simp_all [zs3];done)|(simp_all [zs3] <;> omega)):bv a=bv b:=A4 bv h
theorem zzl (c:Int):y9 Tryz.prog 207 [.v (.int .i32 c)] [] (fun r h'=>h'= []∧r=bv (zs3 c)):=by
 refine z6 Tryz.func207 rfl rfl rfl ?_;refine rn ?_;refine x5 (fun hg1_2=>?_) (fun hg1_2=>?_)
 ·refine rn ?_;refine x5 (fun hg1_6=>?_) (fun hg1_6=>?_)
  ·refine rn ?_;exact u6 rfl (.refl _ _) ⟨rfl,bvz3_6162⟩
  refine rn ?_;refine x5 (fun hg1_9=>?_) (fun hg1_9=>?_)
  ·refine rn ?_;refine x5 (fun hg1_14=>?_) (fun hg1_14=>?_)
   ·refine rn ?_;exact u6 rfl (.refl _ _) ⟨rfl,bvz3_6162⟩
   refine rn ?_;refine x5 (fun hg1_18=>?_) (fun hg1_18=>?_)
   ·refine rn ?_;exact u6 rfl (.refl _ _) ⟨rfl,bvz3_6162⟩
   refine rn ?_;exact u6 rfl (.refl _ _) ⟨rfl,bvz3_6162⟩
  refine rn ?_;refine x5 (fun hg1_18=>?_) (fun hg1_18=>?_)
  ·refine rn ?_;exact u6 rfl (.refl _ _) ⟨rfl,bvz3_6162⟩
  refine rn ?_;exact u6 rfl (.refl _ _) ⟨rfl,bvz3_6162⟩
 refine rn ?_;refine x5 (fun hg1_9=>?_) (fun hg1_9=>?_)
 ·refine rn ?_;refine x5 (fun hg1_14=>?_) (fun hg1_14=>?_)
  ·refine rn ?_;exact u6 rfl (.refl _ _) ⟨rfl,bvz3_6162⟩
  refine rn ?_;refine x5 (fun hg1_18=>?_) (fun hg1_18=>?_)
  ·refine rn ?_;exact u6 rfl (.refl _ _) ⟨rfl,bvz3_6162⟩
  refine rn ?_;exact u6 rfl (.refl _ _) ⟨rfl,bvz3_6162⟩
 refine rn ?_;refine x5 (fun hg1_18=>?_) (fun hg1_18=>?_)
 ·refine rn ?_;exact u6 rfl (.refl _ _) ⟨rfl,bvz3_6162⟩
 refine rn ?_;exact u6 rfl (.refl _ _) ⟨rfl,bvz3_6162⟩
theorem zsk (c:Int):y9 Tryz.prog 208 [.v (.int .i32 c)] [] (fun r h'=>h'= []∧r=bv (zkg c)):=by
 refine z6 Tryz.func208 rfl rfl rfl ?_;refine rn ?_;refine x5 (fun hg1_2=>?_) (fun hg1_2=>?_)
 ·refine rn ?_;exact u6 rfl (.refl _ _) ⟨rfl,A4 bv (by first|(simp only [zkg, *,B9,B0,C2,E3,D1,E8,C4,F1,G4,F2,B3,D8,D3];done)|(simp_all [zkg];done)|(simp_all [zkg] <;> omega))⟩
 refine rn ?_;exact u6 rfl (.refl _ _) ⟨rfl,A4 bv (by first|(simp only [zkg, *,B9,B0,C2,E3,D1,E8,C4,F1,G4,F2,B3,D8,D3];done)|(simp_all [zkg];done)|(simp_all [zkg] <;> omega))⟩
theorem yqv {f:Bool} (h:Hist) (l:List Int) (hl:l.length≤4611686018427387904):y9 Tryz.prog 149 [.agg (y8 h),.list f 1 (l.map zag)] [] (fun r h'=>h'= []∧r=bv (zg2 h l)):=by
 refine z6 Tryz.func149 rfl rfl rfl ?_;refine rn ?_;refine z8 rfl (w7 rfl rfl rfl fun b2=>?_)
 refine rn ?_;refine u4 (fun k:Nat=>k≤l.length∧l.all (fun t=>isB t h.ts.length)=(l.drop k).all (fun t=>isB t h.ts.length)) (fun k=>⟨[(9,iv k),(8,iv (l.map zag).length),(7,.list f 1 (l.map zag)),(1,.list f 1 (l.map zag)),(2,pZ b2)],[.box b2 28 (y8 h)],[]⟩) (fun k=>l.length - k) 0 ⟨G1 _,by simp⟩
  (w6 (.cons _ _ _ rfl (.cons _ _ _ rfl (.cons _ _ _ rfl (.cons _ _ _ rfl (.cons _ _ _ rfl (.nil))))))) ?_
 rintro k ⟨hk,hz⟩;refine rn ?_;refine z7 rfl (fun hc10=>?_) (fun hc10=>?_)
 ·have hk2:k < l.length:=by simpa using hc10
  have hrow:(l.map zag)[k]? =some (zag l[k]):=by simp [hk2]
  have hd:=A8 hk2;refine rn ?_;refine qv rfl rfl (y3 rfl rfl (u0 (zg3 _ _) (Sbs.refl _))) ?_;refine rn ?_;refine z7 rfl (fun hc18=>?_) (fun hc18=>?_)
  ·have hx:isB l[k] h.ts.length=false:=by simpa using hc18
   refine rn ?_;exact u6 rfl (.drop [_] _ _) ⟨rfl,A4 bv (by rw [zg2,hz,hd,P4,hx,B0];rfl)⟩
  have hx:isB l[k] h.ts.length=true:=by simpa using hc18
  refine rn ?_;exact ⟨k+1,⟨by omega,by rw [hz,hd,P4,hx,B9]⟩,(w6 (.cons _ _ _ rfl (.cons _ _ _ rfl (.cons _ _ _ rfl (.cons _ _ _ rfl (.cons _ _ _ rfl (.nil))))))),by omega⟩
 have hk3:k=l.length:=by
  have:l.length≤k:=by simpa using hc10
  omega
 refine rn ?_;exact u6 rfl (.drop [_] _ _) ⟨rfl,A4 bv (by rw [zg2,hz,hk3,E5];simp)⟩
theorem bvz4_4227 {a b:Bool} (h:a=b:=by first|(simp only [zkp,zwg, *,B9,B0,C2,E3,D1,E8,C4,F1,G4,F2,B3,D8,D3];done)|(simp_all [zkp,zwg];done)|(simp_all [zkp,zwg] <;> omega)):bv a=bv b:=A4 bv h
theorem zzd (h:Hist) (e:Ev) (hl:e.scan.length≤4611686018427387904):y9 Tryz.prog 148 [.agg (y8 h),.agg (evR e)] [] (fun r h'=>h'= []∧r=bv (zkp h e)):=by
 refine z6 Tryz.func148 rfl rfl rfl ?_;refine rn ?_;refine z8 rfl (w7 rfl rfl rfl fun b2=>?_);refine z8 rfl (w7 rfl rfl rfl fun b3=>?_);refine rn ?_;refine qv rfl rfl (y3 rfl rfl (u0 (zg3 _ _) (Sbs.refl _))) ?_;refine rn ?_;refine z7 rfl (fun hc16=>?_) (fun hc16=>?_)
 ·refine rn ?_;exact u6 rfl (.drop [_,_] _ _) ⟨rfl,bvz4_4227⟩
 refine rn ?_;refine z8 rfl (y6 rfl fun b6=>?_);refine rn ?_;refine z7 rfl (fun hc24=>?_) (fun hc24=>?_)
 ·refine rn ?_;refine zev 6 [(b6,66,_)] rfl (E9 (l₁:= [_])) ?_;refine rn ?_;refine dw 0 rfl rfl rfl rfl rfl (A7 rfl) ?_;refine rn2 ?_;show zc9 _ _ _ _ _ _ ⟨_,.box b6 66 [iv e.kind,iv e.t,iv e.s,iv 0,iv 0,iv 0,iv 0,iv 0,.v (.slice none 0 0)]:: .box b3 66 (evR e):: .box b2 28 (y8 h):: [],_⟩;refine rn0 ?_;refine x7 ?_;show aw _ _ _ _ _ ⟨_,.box b6 66 [iv e.kind,iv e.t,iv e.s,iv e.l,iv 0,iv 0,iv 0,iv 0,.v (.slice none 0 0)]:: .box b3 66 (evR e):: .box b2 28 (y8 h):: [],_⟩;refine rn ?_;refine qv rfl rfl (y3 rfl rfl (u0 (zf1 ⟨e.kind,e.t,e.s,e.l,0,⟨0,0⟩,0,[]⟩ e (by simp [hl]) hl) (by exact ⟨(by exact Sb.aggs (by exact ⟨.refl _,.refl _,.refl _,.refl _,.refl _,.refl _,.refl _,.refl _,.nil _ _,trivial⟩)),.refl _,trivial⟩))) ?_;refine rn ?_;refine x5 (fun hg8_3=>?_) (fun hg8_3=>?_)
  ·refine rn ?_;refine qv rfl rfl (y3 rfl rfl (u0 (zg3 _ _) (Sbs.refl _))) ?_;refine rn ?_;refine x5 (fun hg8_11=>?_) (fun hg8_11=>?_)
   ·refine rn ?_;refine qv rfl rfl (y3 rfl rfl (u0 (yxb _) (Sbs.refl _))) ?_;refine rn ?_;exact u6 rfl (.drop [_,_,_] _ _) ⟨rfl,bvz4_4227⟩
   refine rn ?_;exact u6 rfl (.drop [_,_,_] _ _) ⟨rfl,bvz4_4227⟩
  refine rn ?_;exact u6 rfl (.drop [_,_,_] _ _) ⟨rfl,bvz4_4227⟩
 refine rn ?_;refine z7 rfl (fun hc48=>?_) (fun hc48=>?_)
 ·refine rn ?_;refine z7 rfl (fun hc48=>?_) (fun hc48=>?_)
  ·refine rn ?_;refine zev 6 [(b6,66,_)] rfl (E9 (l₁:= [_])) ?_;refine rn ?_;refine dw 0 rfl rfl rfl rfl rfl (A7 rfl) ?_;refine rn2 ?_;show zc9 _ _ _ _ _ _ ⟨_,.box b6 66 [iv e.kind,iv e.t,iv 0,iv 0,iv e.o,iv 0,iv 0,iv 0,.v (.slice none 0 0)]:: .box b3 66 (evR e):: .box b2 28 (y8 h):: [],_⟩;refine rn0 ?_;refine x7 ?_;refine x7 ?_;show aw _ _ _ _ _ ⟨_,.box b6 66 [iv e.kind,iv e.t,iv 0,iv 0,iv e.o,iv e.v.t,iv e.v.k,iv 0,.v (.slice none 0 0)]:: .box b3 66 (evR e):: .box b2 28 (y8 h):: [],_⟩;refine rn ?_;refine x5 (fun hg12_3=>?_) (fun hg12_3=>?_)
   ·refine rn ?_;refine x5 (fun hg12_8=>?_) (fun hg12_8=>?_)
    ·refine rn ?_;refine zdk rfl ?_;refine rn ?_;exact u6 rfl (.drop [_,_,_] _ _) ⟨rfl,bvz4_4227⟩
    refine rn ?_;refine z7 rfl (fun hc73=>?_) (fun hc73=>?_)
    ·refine rn ?_;exact u6 rfl (.drop [_,_,_] _ _) ⟨rfl,bvz4_4227⟩
    refine rn ?_;refine qv rfl rfl (y3 rfl rfl (u0 (zf1 ⟨e.kind,e.t,0,0,e.o,e.v,0,[]⟩ e (by simp [hl]) hl) (by exact ⟨(by exact Sb.aggs (by exact ⟨.refl _,.refl _,.refl _,.refl _,.refl _,.refl _,.refl _,.refl _,.nil _ _,trivial⟩)),.refl _,trivial⟩))) ?_;refine rn ?_;refine x5 (fun hg14_3=>?_) (fun hg14_3=>?_)
    ·refine rn ?_;refine qv rfl rfl (y3 rfl rfl (u0 (zg3 _ _) (Sbs.refl _))) ?_;refine rn ?_;refine x5 (fun hg14_11=>?_) (fun hg14_11=>?_)
     ·refine rn ?_;refine qv rfl rfl (y3 rfl rfl (u0 (zgp e.v _) (Sbs.refl _))) ?_;refine rn ?_;exact u6 rfl (.drop [_,_,_] _ _) ⟨rfl,bvz4_4227⟩
     refine rn ?_;exact u6 rfl (.drop [_,_,_] _ _) ⟨rfl,bvz4_4227⟩
    refine rn ?_;exact u6 rfl (.drop [_,_,_] _ _) ⟨rfl,bvz4_4227⟩
   refine rn ?_;refine zfd rfl ?_;refine rn ?_;refine qv rfl rfl (y3 rfl rfl (u0 (zf1 ⟨e.kind,e.t,0,0,e.o,e.v,0,[]⟩ e (by simp [hl]) hl) (by exact ⟨(by exact Sb.aggs (by exact ⟨.refl _,.refl _,.refl _,.refl _,.refl _,.refl _,.refl _,.refl _,.nil _ _,trivial⟩)),.refl _,trivial⟩))) ?_;refine rn ?_;refine x5 (fun hg14_3=>?_) (fun hg14_3=>?_)
   ·refine rn ?_;refine qv rfl rfl (y3 rfl rfl (u0 (zg3 _ _) (Sbs.refl _))) ?_;refine rn ?_;refine x5 (fun hg14_11=>?_) (fun hg14_11=>?_)
    ·refine rn ?_;refine qv rfl rfl (y3 rfl rfl (u0 (zgp e.v _) (Sbs.refl _))) ?_;refine rn ?_;exact u6 rfl (.drop [_,_,_] _ _) ⟨rfl,bvz4_4227⟩
    refine rn ?_;exact u6 rfl (.drop [_,_,_] _ _) ⟨rfl,bvz4_4227⟩
   refine rn ?_;exact u6 rfl (.drop [_,_,_] _ _) ⟨rfl,bvz4_4227⟩
  first|cases hc48|exact absurd hc48 (by decide)|(exfalso;simp_all;done)
 refine rn ?_;refine z7 rfl (fun hc48=>?_) (fun hc48=>?_)
 ·refine rn ?_;refine zev 6 [(b6,66,_)] rfl (E9 (l₁:= [_])) ?_;refine rn ?_;refine dw 0 rfl rfl rfl rfl rfl (A7 rfl) ?_;refine rn2 ?_;show zc9 _ _ _ _ _ _ ⟨_,.box b6 66 [iv e.kind,iv e.t,iv 0,iv 0,iv e.o,iv 0,iv 0,iv 0,.v (.slice none 0 0)]:: .box b3 66 (evR e):: .box b2 28 (y8 h):: [],_⟩;refine rn0 ?_;refine x7 ?_;refine x7 ?_;show aw _ _ _ _ _ ⟨_,.box b6 66 [iv e.kind,iv e.t,iv 0,iv 0,iv e.o,iv e.v.t,iv e.v.k,iv 0,.v (.slice none 0 0)]:: .box b3 66 (evR e):: .box b2 28 (y8 h):: [],_⟩;refine rn ?_;refine x5 (fun hg12_3=>?_) (fun hg12_3=>?_)
  ·refine rn ?_;refine x5 (fun hg12_8=>?_) (fun hg12_8=>?_)
   ·refine rn ?_;refine zdk rfl ?_;refine rn ?_;exact u6 rfl (.drop [_,_,_] _ _) ⟨rfl,bvz4_4227⟩
   refine rn ?_;refine z7 rfl (fun hc73=>?_) (fun hc73=>?_)
   ·refine rn ?_;exact u6 rfl (.drop [_,_,_] _ _) ⟨rfl,bvz4_4227⟩
   refine rn ?_;refine qv rfl rfl (y3 rfl rfl (u0 (zf1 ⟨e.kind,e.t,0,0,e.o,e.v,0,[]⟩ e (by simp [hl]) hl) (by exact ⟨(by exact Sb.aggs (by exact ⟨.refl _,.refl _,.refl _,.refl _,.refl _,.refl _,.refl _,.refl _,.nil _ _,trivial⟩)),.refl _,trivial⟩))) ?_;refine rn ?_;refine x5 (fun hg14_3=>?_) (fun hg14_3=>?_)
   ·refine rn ?_;refine qv rfl rfl (y3 rfl rfl (u0 (zg3 _ _) (Sbs.refl _))) ?_;refine rn ?_;refine x5 (fun hg14_11=>?_) (fun hg14_11=>?_)
    ·refine rn ?_;refine qv rfl rfl (y3 rfl rfl (u0 (zgp e.v _) (Sbs.refl _))) ?_;refine rn ?_;exact u6 rfl (.drop [_,_,_] _ _) ⟨rfl,bvz4_4227⟩
    refine rn ?_;exact u6 rfl (.drop [_,_,_] _ _) ⟨rfl,bvz4_4227⟩
   refine rn ?_;exact u6 rfl (.drop [_,_,_] _ _) ⟨rfl,bvz4_4227⟩
  refine rn ?_;refine zfd rfl ?_;refine rn ?_;refine qv rfl rfl (y3 rfl rfl (u0 (zf1 ⟨e.kind,e.t,0,0,e.o,e.v,0,[]⟩ e (by simp [hl]) hl) (by exact ⟨(by exact Sb.aggs (by exact ⟨.refl _,.refl _,.refl _,.refl _,.refl _,.refl _,.refl _,.refl _,.nil _ _,trivial⟩)),.refl _,trivial⟩))) ?_;refine rn ?_;refine x5 (fun hg14_3=>?_) (fun hg14_3=>?_)
  ·refine rn ?_;refine qv rfl rfl (y3 rfl rfl (u0 (zg3 _ _) (Sbs.refl _))) ?_;refine rn ?_;refine x5 (fun hg14_11=>?_) (fun hg14_11=>?_)
   ·refine rn ?_;refine qv rfl rfl (y3 rfl rfl (u0 (zgp e.v _) (Sbs.refl _))) ?_;refine rn ?_;exact u6 rfl (.drop [_,_,_] _ _) ⟨rfl,bvz4_4227⟩
   refine rn ?_;exact u6 rfl (.drop [_,_,_] _ _) ⟨rfl,bvz4_4227⟩
  refine rn ?_;exact u6 rfl (.drop [_,_,_] _ _) ⟨rfl,bvz4_4227⟩
 refine rn ?_;refine z7 rfl (fun hc91=>?_) (fun hc91=>?_)
 ·refine rn ?_;refine zev 6 [(b6,66,_)] rfl (E9 (l₁:= [_])) ?_;refine rn ?_;refine dw 0 rfl rfl rfl rfl rfl (A7 rfl) ?_;refine rn2 ?_;show zc9 _ _ _ _ _ _ ⟨_,.box b6 66 [iv e.kind,iv e.t,iv 0,iv 0,iv 0,iv 0,iv 0,iv e.p,.v (.slice none 0 0)]:: .box b3 66 (evR e):: .box b2 28 (y8 h):: [],_⟩;refine rn0 ?_;refine x7 ?_;refine x7 ?_;show aw _ _ _ _ _ ⟨_,.box b6 66 [iv e.kind,iv e.t,iv 0,iv 0,iv 0,iv 0,iv 0,iv e.p,zlb e.scan]:: .box b3 66 (evR e):: .box b2 28 (y8 h):: [],_⟩
  refine rn ?_;refine u4 (fun k:Nat=>k≤e.scan.length∧e.scan.all (zbz h)=(e.scan.drop k).all (zbz h)) (fun k=>⟨[(102,iv k),(101,iv (e.scan.map zav).length),(100,zlb e.scan),(2,pZ b2),(3,pZ b3),(6,pZ b6),(5,iv (h.ts.map zaq).length)],[.box b6 66 (evR ⟨e.kind,e.t,0,0,0,⟨0,0⟩,e.p,e.scan⟩),.box b3 66 (evR e),.box b2 28 (y8 h)],[]⟩) (fun k=>e.scan.length - k) 0 ⟨G1 _,by simp⟩
   (w6 (.cons _ _ _ rfl (.cons _ _ _ rfl (.cons _ _ _ rfl (.cons _ _ _ rfl (.cons _ _ _ rfl (.cons _ _ _ rfl (.cons _ _ _ rfl (.nil))))))))) ?_
  rintro k ⟨hk,hz⟩;refine rn ?_;refine z7 rfl (fun hc103=>?_) (fun hc103=>?_)
  ·have hk2:k < e.scan.length:=by simpa using hc103
   obtain ⟨s,hs⟩:∃s,s=e.scan[k]:=⟨_,rfl⟩;have hrow:(e.scan.map zav)[k]? =some (zav s):=by rw [hs];simp [hk2]
   have hd:=A8 hk2;rw [←hs] at hd;refine rn ?_;refine z8 rfl (y6 rfl fun b8=>?_);refine rn ?_;refine qv rfl rfl (y3 rfl rfl (u0 (zg3 _ _) (Sbs.refl _))) ?_;refine rn ?_;refine x5 (fun hg20_7=>?_) (fun hg20_7=>?_)
   ·refine rn ?_;refine zdk rfl ?_;have hx:zbz h s=false:=by clear hz hd hrow hs hc103 hk2 hk;simp_all [zbz]
    have hall:e.scan.all (zbz h)=false:=by rw [hz,hd,P4,hx,B0]
    clear hz hd hx hrow;refine rn ?_;exact u6 rfl (.drop [_,_,_,_] _ _) ⟨rfl,bvz4_4227⟩
   refine rn ?_;refine qv rfl rfl (y3 rfl rfl (u0 (zgp s.v _) (Sbs.refl _))) ?_;refine rn ?_;refine z7 rfl (fun hc119=>?_) (fun hc119=>?_)
   ·have hx:zbz h s=false:=by clear hz hd hrow hs hc103 hk2 hk;simp_all [zbz]
    have hall:e.scan.all (zbz h)=false:=by rw [hz,hd,P4,hx,B0]
    clear hz hd hx hrow;refine rn ?_;exact u6 rfl (.drop [_,_,_,_] _ _) ⟨rfl,bvz4_4227⟩
   have hx:zbz h s=true:=by clear hz hd hrow hs hc103 hk2 hk;simp_all [zbz]
   refine rn ?_;exact ⟨k+1,⟨by omega,by rw [hz,hd,P4,hx,B9]⟩,(w8 (za1 (h1:= [_])) (w6 (.cons _ _ _ rfl (.cons _ _ _ rfl (.cons _ _ _ rfl (.cons _ _ _ rfl (.cons _ _ _ rfl (.cons _ _ _ rfl (.cons _ _ _ rfl (.nil)))))))))),by omega⟩
  have hk3:k=e.scan.length:=by
   have:e.scan.length≤k:=by simpa using hc103
   omega
  rw [hk3,E5,List.all_nil] at hz;refine rn ?_;refine qv rfl rfl (y3 rfl rfl (u0 (zf1 ⟨e.kind,e.t,0,0,0,⟨0,0⟩,e.p,e.scan⟩ e (by simp [hl]) hl) (by exact ⟨(by exact Sb.aggs (by exact ⟨.refl _,.refl _,.refl _,.refl _,.refl _,.refl _,.refl _,.refl _,.refl _,trivial⟩)),.refl _,trivial⟩))) ?_;refine rn ?_;refine x5 (fun hg23_3=>?_) (fun hg23_3=>?_)
  ·refine rn ?_;refine qv rfl rfl (y3 rfl rfl (u0 (zg3 _ _) (Sbs.refl _))) ?_;refine rn ?_;refine x5 (fun hg23_11=>?_) (fun hg23_11=>?_)
   ·refine rn ?_;exact u6 rfl (.drop [_,_,_] _ _) ⟨rfl,bvz4_4227⟩
   refine rn ?_;exact u6 rfl (.drop [_,_,_] _ _) ⟨rfl,bvz4_4227⟩
  refine rn ?_;exact u6 rfl (.drop [_,_,_] _ _) ⟨rfl,bvz4_4227⟩
 refine rn ?_;refine qv rfl rfl (y3 rfl rfl (u0 (zf1 ⟨e.kind,e.t,0,0,0,⟨0,0⟩,0,[]⟩ e (by simp [hl]) hl) (by exact ⟨(by exact Sb.aggs (by exact ⟨.refl _,.refl _,.refl _,.refl _,.refl _,.refl _,.refl _,.refl _,.nil _ _,trivial⟩)),.refl _,trivial⟩))) ?_;refine rn ?_;refine x5 (fun hg24_3=>?_) (fun hg24_3=>?_)
 ·refine rn ?_;refine x5 (fun hg24_7=>?_) (fun hg24_7=>?_)
  ·refine rn ?_;exact u6 rfl (.drop [_,_,_] _ _) ⟨rfl,bvz4_4227⟩
  refine rn ?_;exact u6 rfl (.drop [_,_,_] _ _) ⟨rfl,bvz4_4227⟩
 refine rn ?_;exact u6 rfl (.drop [_,_,_] _ _) ⟨rfl,bvz4_4227⟩
theorem yb6 (s:ByteArray):y9 Tryz.prog 206 [sv s] [] (fun r h'=>h'= []∧r= .tup [.v (.int .i32 (zci s).1),iv (zci s).2]):=by
 refine z6 Tryz.func206 rfl rfl rfl ?_;refine rn ?_;refine z8 rfl (zle rfl rfl fun b8=>?_)
 refine rn ?_;refine u4 (fun x:Unit=>True) (fun x=>⟨[(8,pZ b8),(0,sv s),(2,.v (.int .i32 0)),(3,iv 0)],[.obj b8 (.stringIter s 0)],[]⟩) (fun x=>0) () trivial
  (w6 (.cons _ _ _ rfl (.cons _ _ _ rfl (.cons _ _ _ rfl (.cons _ _ _ rfl (.nil)))))) ?_
 rintro _ _;refine x7 (y5 ?_);refine z8 rfl (znc rfl rfl (fun hp=>?_) (fun hp=>?_))
 ·refine rn ?_;refine z7 rfl (fun hc10=>?_) (fun hc10=>?_)
  ·first|cases hc10|exact absurd hc10 (by decide)|(exfalso;simp_all;done)
  refine rn ?_;exact zb9 rfl rfl (.drop1 _ _ _) ⟨rfl,by first|(rw [zci,A6 hp];rfl)|(rw [zci,A0 (by omega)];split <;> first|rfl|(exfalso;simp_all;done)|(exfalso;simp_all;omega))⟩
 refine rn ?_;refine z7 rfl (fun hc10=>?_) (fun hc10=>?_)
 ·refine rn ?_;refine z7 rfl (fun hc14=>?_) (fun hc14=>?_)
  ·exact absurd hc14 (by decide)
  refine k7 ?_;refine j8 ?_;refine x7 (y5 ?_);refine q1 ?_;refine qq rfl rfl (zoe rfl) ?_;refine rn ?_;refine x5 (fun hg6_2=>?_) (fun hg6_2=>?_)
  ·refine rn ?_;refine x5 (fun hg6_6=>?_) (fun hg6_6=>?_)
   ·refine rn ?_;refine z7 rfl (fun hc29=>?_) (fun hc29=>?_)
    ·refine rn ?_;exact zb9 rfl rfl (.drop1 _ _ _) ⟨rfl,by first|(rw [zci,A6 hp];rfl)|(rw [zci,A0 (by omega)];split <;> first|rfl|(exfalso;simp_all;done)|(exfalso;simp_all;omega))⟩
    first|cases hc29|exact absurd hc29 (by decide)|(exfalso;simp_all;done)
   refine q1 ?_;refine qq rfl rfl (zej (k:=3) rfl rfl (by have:=hg6_6;simp at this;omega)) ?_;refine rn ?_;refine z7 rfl (fun hc29=>?_) (fun hc29=>?_)
   ·refine rn ?_;exact zb9 rfl rfl (.drop1 _ _ _) ⟨rfl,by first|(rw [zci,A6 hp];rfl)|(rw [zci,A0 (by omega)];split <;> first|rfl|(exfalso;simp_all;done)|(exfalso;simp_all;omega))⟩
   refine rn ?_;exact zb9 rfl rfl (.drop1 _ _ _) ⟨rfl,by first|(rw [zci,A6 hp];rfl)|(rw [zci,A0 (by omega)];split <;> first|rfl|(exfalso;simp_all;done)|(exfalso;simp_all;omega))⟩
  refine rn ?_;refine z7 rfl (fun hc29=>?_) (fun hc29=>?_)
  ·first|cases hc29|exact absurd hc29 (by decide)|(exfalso;simp_all;done)
  refine rn ?_;exact zb9 rfl rfl (.drop1 _ _ _) ⟨rfl,by first|(rw [zci,A6 hp];rfl)|(rw [zci,A0 (by omega)];split <;> first|rfl|(exfalso;simp_all;done)|(exfalso;simp_all;omega))⟩
 first|cases hc10|exact absurd hc10 (by decide)|(exfalso;simp_all;done)
theorem zzm (s:ByteArray) (c n:Int) (h:zci s=(c,n)):y9 Tryz.prog 206 [sv s] [] (fun r h'=>h'= []∧r= .tup [.v (.int .i32 c),iv n]):=
 (yb6 s).mono fun _ _ q=>⟨q.1,by rw [q.2,h]⟩
theorem yg4 (s:ByteArray):y9 Tryz.prog 190 [sv s] [] (fun r h'=>h'= []∧r=bv (wordB s)):=by
 refine z6 Tryz.func190 rfl rfl rfl ?_;refine rn ?_;refine x5 (fun hg1_2=>?_) (fun hg1_2=>?_)
 ·refine rn ?_;refine zdk rfl ?_;refine rn ?_;refine rq 0 ?_;exact ⟨rfl,A4 bv (by first|(rw [zgy,←yea,hg1_2];rfl)|(rw [zgy,I9 (show ¬(s.size:Int)≤24 by simp at hc12;omega),C2];rfl))⟩
 refine rn ?_;refine z7 rfl (fun hc12=>?_) (fun hc12=>?_)
 ·refine rn ?_;refine rq 0 ?_;exact ⟨rfl,A4 bv (by first|(rw [zgy,←yea,hg1_2];rfl)|(rw [zgy,I9 (show ¬(s.size:Int)≤24 by simp at hc12;omega),C2];rfl))⟩
 have hlen:s.size≤24:=by simp at hc12;omega
 refine rn ?_;refine zdf (fun i:Nat=>zim s 0=zim s i∧i≤48) (fun i=>⟨[(3,iv i),(0,sv s)],[],[]⟩) (fun i=>s.size - i) 0 ⟨rfl,by omega⟩ es ?_;rintro i ⟨hz,hi⟩;refine rn ?_;refine z7 rfl (fun hc16=>?_) (fun hc16=>?_)
 ·have h1:i < s.size:=by simpa using hc16
  refine k7 ?_;refine j8 ?_;refine k8 ?_;refine x7 (y5 ?_);refine q1 ?_;refine q1 ?_;refine qq rfl rfl (zei (k:=i) rfl rfl (by omega)) ?_;obtain ⟨c,n,hw,hn1,hn4⟩:=yiz h1;refine qv rfl rfl (y3 rfl rfl (u0 (zzm _ c n hw) (Sbs.refl _))) ?_;refine rn ?_;refine qv rfl rfl (y3 rfl rfl (u0 (zzl _) (Sbs.refl _))) ?_;refine rn ?_;refine x5 (fun hg6_3=>?_) (fun hg6_3=>?_)
  ·refine rn ?_;refine x5 (fun hg6_6=>?_) (fun hg6_6=>?_)
   ·refine rn ?_;refine zdk rfl ?_;refine rn ?_;refine rq 0 ?_;exact ⟨rfl,A4 bv (by rw [zgy,hz,zol h1 hw (by simpa using hg6_3) (by first|exact .inl (by simpa using hg6_6)|exact .inr (by simpa using hc35)),C2])⟩
   refine rn ?_;refine qv rfl rfl (y3 rfl rfl (u0 (zsk _) (Sbs.refl _))) ?_;refine rn ?_;refine z7 rfl (fun hc35=>?_) (fun hc35=>?_)
   ·refine rn ?_;refine rq 0 ?_;exact ⟨rfl,A4 bv (by rw [zgy,hz,zol h1 hw (by simpa using hg6_3) (by first|exact .inl (by simpa using hg6_6)|exact .inr (by simpa using hc35)),C2])⟩
   refine rn ?_;exact ⟨i+n,⟨hz.trans (zwn h1 hw hn1 (.inr ⟨by simpa using hg6_6,by simpa using hc35⟩)),by omega⟩,eA,by omega⟩
  refine rn ?_;first|(refine qv rfl rfl (y3 rfl rfl (u0 (zsk _) (Sbs.refl _))) ?_)|refine qs rfl rfl ?_|skip
  refine rn ?_;refine zfd rfl ?_;refine rn ?_;exact ⟨i+n,⟨hz.trans (zwn h1 hw hn1 (.inl (by simpa using hg6_3))),by omega⟩,eA,by omega⟩
 have h1:¬i < s.size:=by simpa using hc16
 refine rn ?_;refine rq 0 ?_;exact ⟨rfl,A4 bv (by rw [zgy,←yea,hg1_2,hz,yas h1,I4 (show (s.size:Int)≤24 by omega)];rfl)⟩
theorem ze9 (l:List ByteArray) (most:Nat) (hl:l.length≤4611686018427387904):y9 Tryz.prog 147 [v7 l,iv most] [] (fun r h'=>h'= []∧r=bv (zcr most l)):=by
 refine z6 Tryz.func147 rfl rfl rfl ?_;refine rn ?_;refine zc8 (l.length) (fun k:Nat=>zbj [] l=zbj (l.take k) (l.drop k)) (fun k=> [(11,iv k)]) [(0,_),(1,_),(9,_),(10,_)] rfl ?_;intro k lk zk;refine rn ?_;refine z7 rfl (fun hc12=>?_) (fun hc12=>?_)
 ·have hk:=zaw hc12;have rk:=zam (f:=zaq) hk;refine rn ?_;refine qv rfl rfl (y3 rfl rfl (u0 (yg4 _) (Sbs.refl _))) ?_;refine rn ?_;refine z7 rfl (fun hc18=>?_) (fun hc18=>?_)
  ·refine rn ?_;refine rq 0 ?_;exact ⟨rfl,A4 bv (by rw [zcr,yoq hk zk (by simpa using hc18),C2])⟩
  refine k7 ?_;refine j8 ?_;refine x7 (y5 ?_);refine q1 ?_;refine q1 ?_;refine qq rfl rfl (zbl (k:=k) rfl rfl (by simp;omega)) ?_;rw [←L6];refine rn ?_;refine zc8 ((l.take k).length) (fun j:Nat=>(l.take k).all (fun t=> !(l[k].toList==t.toList))=((l.take k).drop j).all (fun t=> !(l[k].toList==t.toList))) (fun j=> [(23,iv j)]) [(0,_),(1,_),(6,_),(9,_),(10,_),(11,_),(21,_),(22,_)] rfl ?_;intro j lj zj;refine rn ?_;refine z7 rfl (fun hc24=>?_) (fun hc24=>?_)
  ·have hj:=zaw hc24;have rj:=zam (f:=zaq) hj;have bj:(l.take k).length≤4611686018427387904:=by simp;omega
   refine rn ?_;refine z7 rfl (fun hc29=>?_) (fun hc29=>?_)
   ·refine rn ?_;refine rq 0 ?_;exact ⟨rfl,A4 bv (by rw [zcr,yor hk zk (zuh hj (by simpa using hc29)),C2])⟩
   refine rn ?_;exact ⟨hj,zwk hj zj (by simpa using hc29),eA⟩
  have qj:=zaz hc24 lj;have aj:=yan qj zj;refine rn ?_;exact ⟨hk,zz7 hk zk (by simpa using hc18) aj,eA⟩
 have qk:=zaz hc12 lk;refine rn ?_;refine rq 0 ?_;exact ⟨rfl,A4 bv (by rw [zcr,yos qk zk];simp)⟩
theorem zu7 (h:Hist) (e:Ev) (hl:e.scan.length≤4611686018427387904):y9 Tryz.prog 148 [.agg (y8 h),.agg (evR e)] [] (fun r h'=>h'= []∧r=bv (zcj h e)):=
 (zzd h e hl).mono fun _ _ q=>⟨q.1,by rw [q.2,zy9]⟩
theorem bvz5_8327 {a b:Bool} (h:a=b:=by rw [ybf (by simp_all) (by simp_all) (by simp_all) (by simp_all) ai aj ak am];first|(simp_all;done)|(simp_all;intros;omega)):bv a=bv b:=A4 bv h
theorem ybv (h:Hist) (la:Lim 4611686018427387904 h):y9 Tryz.prog 106 [.agg (y8 h)] [] (fun r h'=>h'= []∧r=bv (zaa h)):=by
 refine z6 Tryz.func106 rfl rfl rfl ?_;refine rn ?_;refine z8 rfl (w7 rfl rfl rfl fun b1=>?_);refine rn ?_;refine qv rfl rfl (y3 rfl rfl (u0 (ze9 h.ts 300 la.ts) (Sbs.refl _))) ?_;refine rn ?_;refine x5 (fun hg1_4=>?_) (fun hg1_4=>?_)
 ·refine rn ?_;refine zdk rfl ?_;refine rn ?_;refine rq 1 ?_;exact ⟨rfl,A4 bv (by rw [zjr (by simp_all)])⟩
 refine rn ?_;refine qv rfl rfl (y3 rfl rfl (u0 (ze9 h.ss 60 la.ss) (Sbs.refl _))) ?_;refine rn ?_;refine x5 (fun hg1_10=>?_) (fun hg1_10=>?_)
 ·refine rn ?_;refine zdk rfl ?_;refine rn ?_;refine rq 1 ?_;exact ⟨rfl,A4 bv (by rw [zjr (by simp_all)])⟩
 refine rn ?_;refine qv rfl rfl (y3 rfl rfl (u0 (ze9 h.os 300 la.os) (Sbs.refl _))) ?_;refine rn ?_;refine x5 (fun hg1_16=>?_) (fun hg1_16=>?_)
 ·refine rn ?_;refine zdk rfl ?_;refine rn ?_;refine rq 1 ?_;exact ⟨rfl,A4 bv (by rw [zjr (by simp_all)])⟩
 refine rn ?_;refine qv rfl rfl (y3 rfl rfl (u0 (ze9 h.ps 60 la.ps) (Sbs.refl _))) ?_;refine rn ?_;refine z7 rfl (fun hc32=>?_) (fun hc32=>?_)
 ·refine rn ?_;refine rq 1 ?_;exact ⟨rfl,A4 bv (by rw [zjr (by simp_all)])⟩
 refine rn ?_;refine zc8 (h.evs.length) (fun i:Nat=>h.evs.all (zcj h)=(h.evs.drop i).all (zcj h)) (fun i=> [(36,iv i)]) [(1,_),(34,_),(35,_)] rfl ?_;intro i li zi;refine rn ?_;refine z7 rfl (fun hc37=>?_) (fun hc37=>?_)
 ·have hi:=zaw hc37;have ri:=zam (f:=evR) hi;have bi:=la.evs;have si:=la.scans h.evs[i] (D0 hi);refine rn ?_;refine z8 rfl (y6 rfl fun b4=>?_);refine rn ?_;refine qv rfl rfl (y3 rfl rfl (u0 (zu7 h h.evs[i] si) (Sbs.refl _))) ?_;refine rn ?_;refine z7 rfl (fun hc43=>?_) (fun hc43=>?_)
  ·refine rn ?_;refine rq 2 ?_;exact ⟨rfl,A4 bv (by rw [ybg (zuh hi (by simpa using hc43))])⟩
  refine rn ?_;exact ⟨hi,zwk hi zi (by simpa using hc43),eA⟩
 have qi:=zaz hc37 li;have ai:=yan qi zi;refine rn ?_;refine zc8 (h.ords.length) (fun j:Nat=>h.ords.all (zrq h)=(h.ords.drop j).all (zrq h)) (fun j=> [(48,iv j)]) [(1,_),(46,_),(47,_)] rfl ?_;intro j lj zj;refine rn ?_;refine z7 rfl (fun hc49=>?_) (fun hc49=>?_)
 ·have hj:=zaw hc49;have rj:=zam (f:=zb7) hj;have bj:=la.ords;have sj:=la.ordts h.ords[j] (D0 hj);refine rn ?_;refine z8 rfl (y6 rfl fun b6=>?_);refine rn ?_;refine qv rfl rfl (y3 rfl rfl (u0 (zg3 _ _) (Sbs.refl _))) ?_;refine rn ?_;refine x5 (fun hg12_7=>?_) (fun hg12_7=>?_)
  ·refine rn ?_;refine zdk rfl ?_;refine rn ?_;refine rq 2 ?_;exact ⟨rfl,A4 bv (by rw [zsb (zuh hj (by rw [zvh];simp_all))])⟩
  refine rn ?_;refine qv rfl rfl (y3 rfl rfl (u0 (yqv h h.ords[j].ts sj) (Sbs.refl _))) ?_;refine rn ?_;refine z7 rfl (fun hc65=>?_) (fun hc65=>?_)
  ·refine rn ?_;refine rq 2 ?_;exact ⟨rfl,A4 bv (by rw [zsb (zuh hj (by rw [zvh];simp_all))])⟩
  refine rn ?_;exact ⟨hj,zwk hj zj (by rw [zvh];simp_all),eA⟩
 have qj:=zaz hc49 lj;have aj:=yan qj zj;refine rn ?_;refine zc8 (h.mats.length) (fun k:Nat=>h.mats.all (zvo h)=(h.mats.drop k).all (zvo h)) (fun k=> [(70,iv k)]) [(1,_),(68,_),(69,_)] rfl ?_;intro k lk zk;refine rn ?_;refine z7 rfl (fun hc71=>?_) (fun hc71=>?_)
 ·have hk:=zaw hc71;have rk:=zam (f:=zck) hk;have bk:=la.mats;have sk:=la.matts h.mats[k] (D0 hk);refine rn ?_;refine z8 rfl (y6 rfl fun b8=>?_);refine rn ?_;refine qv rfl rfl (y3 rfl rfl (u0 (zg3 _ _) (Sbs.refl _))) ?_;refine rn ?_;refine x5 (fun hg18_7=>?_) (fun hg18_7=>?_)
  ·refine rn ?_;refine zdk rfl ?_;refine rn ?_;refine rq 2 ?_;exact ⟨rfl,A4 bv (by rw [zmt (zuh hk (by rw [zqi];simp_all))])⟩
  refine rn ?_;refine qv rfl rfl (y3 rfl rfl (u0 (zg3 _ _) (Sbs.refl _))) ?_;refine rn ?_;refine x5 (fun hg18_16=>?_) (fun hg18_16=>?_)
  ·refine rn ?_;refine zdk rfl ?_;refine rn ?_;refine rq 2 ?_;exact ⟨rfl,A4 bv (by rw [zmt (zuh hk (by rw [zqi];simp_all))])⟩
  refine rn ?_;refine qv rfl rfl (y3 rfl rfl (u0 (yqv h h.mats[k].ts sk) (Sbs.refl _))) ?_;refine rn ?_;refine z7 rfl (fun hc96=>?_) (fun hc96=>?_)
  ·refine rn ?_;refine rq 2 ?_;exact ⟨rfl,A4 bv (by rw [zmt (zuh hk (by rw [zqi];simp_all))])⟩
  refine rn ?_;exact ⟨hk,zwk hk zk (by rw [zqi];simp_all),eA⟩
 have qk:=zaz hc71 lk;have ak:=yan qk zk;refine rn ?_;refine zc8 (h.wants.length) (fun m:Nat=>h.wants.all (zut h)=(h.wants.drop m).all (zut h)) (fun m=> [(101,iv m)]) [(1,_),(99,_),(100,_)] rfl ?_;intro m lm zm;refine rn ?_;refine z7 rfl (fun hc102=>?_) (fun hc102=>?_)
 ·have hm:=zaw hc102;have rm:=zam (f:=zar) hm;have bm:=la.wants;refine rn ?_;refine z8 rfl (y6 rfl fun b10=>?_);refine rn ?_;refine qv rfl rfl (y3 rfl rfl (u0 (zg3 _ _) (Sbs.refl _))) ?_;refine rn ?_;refine x5 (fun hg24_7=>?_) (fun hg24_7=>?_)
  ·refine rn ?_;refine zdk rfl ?_;refine rn ?_;refine rq 2 ?_;exact ⟨rfl,A4 bv (by rw [zsa (zuh hm (by rw [zus];simp_all))])⟩
  refine rn ?_;refine qv rfl rfl (y3 rfl rfl (u0 (zg3 _ _) (Sbs.refl _))) ?_;refine rn ?_;refine z7 rfl (fun hc117=>?_) (fun hc117=>?_)
  ·refine rn ?_;refine rq 2 ?_;exact ⟨rfl,A4 bv (by rw [zsa (zuh hm (by rw [zus];simp_all))])⟩
  refine rn ?_;exact ⟨hm,zwk hm zm (by rw [zus];simp_all),eA⟩
 have qm:=zaz hc102 lm;have am:=yan qm zm;refine rn ?_;refine x5 (fun hg27_4=>?_) (fun hg27_4=>?_)
 ·refine rn ?_;refine x5 (fun hg27_10=>?_) (fun hg27_10=>?_)
  ·refine rn ?_;refine x5 (fun hg27_16=>?_) (fun hg27_16=>?_)
   ·refine rn ?_;refine rq 1 ?_;exact ⟨rfl,bvz5_8327⟩
   refine rn ?_;refine rq 1 ?_;exact ⟨rfl,bvz5_8327⟩
  refine rn ?_;refine rq 1 ?_;exact ⟨rfl,bvz5_8327⟩
 refine rn ?_;refine rq 1 ?_;exact ⟨rfl,bvz5_8327⟩
theorem zbk (s:SV) (l:List Int) (n:Int) (hl:l.length≤1000000000):y9 Tryz.prog 150 [.v s.v,iv n] [.row s.v 1 3 (l.map zag)] (fun r h'=>∃s':SV,h'= [.row s'.v 1 3 ((yfr l n).map zag)]∧r= .v s'.v):=by
 refine z6 Tryz.func150 rfl rfl rfl ?_;refine rn ?_;refine qv rfl rfl (y3 rfl rfl (y4.lend (R:=fun x=>x=iv (atI n 0 l)) (y4.of_fun (ymz (f:=false) l n (by omega))) (fun r hr=>by rw [hr];rfl) (.refl _ _) ⟨zra,.refl _ _,trivial⟩)) ?_;refine rn ?_;refine z7 rfl (fun hc8=>?_) (fun hc8=>?_)
 ·refine rn ?_;refine rq 0 ?_;exact ⟨s,by rw [yfr,A6 (by simpa using hc8)];rfl,rfl⟩
 refine rn ?_;refine qv rfl rfl (q8 rfl rfl) ?_;refine z8 rfl (j3 rfl rfl (by simp;omega) rfl (fun s13=>?_) (fun r hr=>by simp at hr;subst hr;rfl));refine zac s13 fun sv hsv=>?_;subst hsv;refine rn ?_;refine rq 0 ?_;exact ⟨sv,by rw [yfr,A0 (by simpa using hc8),D9];rfl,rfl⟩
theorem zm3 (s:SV) (l:List Int) (v:Ver) (hl:l.length≤1000000000):y9 Tryz.prog 151 [.v s.v,.agg (yf2 v)] [.row s.v 1 3 (l.map zag)] (fun r h'=>∃s':SV,h'= [.row s'.v 1 3 ((ypl l v).map zag)]∧r= .v s'.v):=by
 refine z6 Tryz.func151 rfl rfl rfl ?_;refine rn ?_;refine z8 rfl (w7 rfl rfl rfl fun b3=>?_);refine rn ?_;refine z7 rfl (fun hc7=>?_) (fun hc7=>?_)
 ·refine rn ?_;refine rq 1 ?_;exact ⟨s,by rw [ypl,A6 (by simpa using hc7)];rfl,rfl⟩
 refine rn ?_;refine z8 rfl (q7 rfl rfl (za3 (y4.of_fun (zbk s l v.t hl))) rfl ?_);rintro _ _ ⟨s',rfl,rfl⟩;refine rn ?_;refine rq 1 ?_;exact ⟨s',by rw [ypl,A0 (by simpa using hc7)];rfl,rfl⟩
end Go.Proofs
