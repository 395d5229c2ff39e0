/- The walk of what tells wr's reads. Conditions: none. -/
import Derived.Test.YtfmcbdjnmlcacaaGreatDoorWTeJ
set_option maxHeartbeats 4000000
set_option linter.unusedSectionVars false
set_option linter.unusedSimpArgs false
set_option linter.unusedVariables false
set_option maxRecDepth 10000
namespace Go.Proofs
open Go Go.Ab
attribute [local irreducible] QR QV OE zch aw zc6 zdc zbg zb8 thn zfa zd9 jch zfo
open Go.H
theorem yuc {h:Hist} (hs:zar h=true) {e:Ev} (o0:0≤e.o) (o1:e.o < h.os.length) (hn:((za6 (e.o,e.v.t,e.v.k) (rkM h h.os.length)).getD 0==0)=false):∃k,∃hk:k < (zax h e.o).length,(za6 (e.o,e.v.t,e.v.k) (rkM h h.os.length)).getD 0=(k:Int)+1∧zou h e.o ((k:Int)+1)=(zax h e.o)[k]:=by
 cases hq:za6 (e.o,e.v.t,e.v.k) (rkM h h.os.length) with
 |none=>rw [hq] at hn;simp at hn
 |some r=>
  rw [hq] at hn
  obtain ⟨k,hk,e1,_⟩:=yqv hs o0 o1 (v:=e.v) (r:=r) hq (by simpa using hn)
  refine ⟨k,hk,by rw [e1];rfl,?_⟩
  rw [zou,show ((k:Int)+1 - 1).toNat=k by omega,List.getElem?_eq_getElem hk];rfl
theorem zwv {h:Hist} {e:Ev} {a:Nat} (h3:e.kind≠3):zcy h e a= []:=by rw [zcy,if_neg (by simpa using h3)]
theorem zwu {h:Hist} {e:Ev} {a:Nat} (hn:((za6 (e.o,e.v.t,e.v.k) (rkM h h.os.length)).getD 0==0)=true):zcy h e a= []:=by
 rw [zcy];split
 ·exact if_pos hn
 ·rfl
theorem zwt {h:Hist} {e:Ev} {a k:Nat} (hk:k < (zax h e.o).length) (hr:(za6 (e.o,e.v.t,e.v.k) (rkM h h.os.length)).getD 0=(k:Int)+1) (ea:zou h e.o ((k:Int)+1)=(zax h e.o)[k]) (ht:((zax h e.o)[k]==e.t)=true):zcy h e a= []:=by
 have hr:(zir h e.o e.v).getD 0=(k:Int)+1:=hr
 rw [zcy];split
 ·rw [hr,ea,ht];split <;> rfl
 ·rfl
theorem ygo {h:Hist} {e:Ev} {a k:Nat} (h3:e.kind=3) (hk:k < (zax h e.o).length) (hr:(za6 (e.o,e.v.t,e.v.k) (rkM h h.os.length)).getD 0=(k:Int)+1) (ea:zou h e.o ((k:Int)+1)=(zax h e.o)[k]) (ht:((zax h e.o)[k]==e.t)=false):zcy h e a= [wrC h e a 1 (zax h e.o)[k] e.o 0]:=by
 have hr:(zir h e.o e.v).getD 0=(k:Int)+1:=hr
 rw [zcy,if_pos (by simpa using h3),hr,ea,ht,if_neg (by simp;omega),if_neg (by decide)]
theorem yl6 {σ:Type} (h:Hist) (la:Lim 4611686018427387904 h) (hc:v7 h=0) (a:Nat) (ha:a < h.evs.length) (y:AV) (bp ba:Nat) (bl rd rf rk rg:Nat) (M0:List ((Int×Int)×List Int)) (hM0:zf6 h M0) (p:List Conf→σ→Prop) (q:σ→Prop) (I:List Conf→σ→List Res) (X:σ→List Res) (x0:σ) (hp0:p [] x0) (hy:∀pre d rest x M,(zcy h h.evs[a] a)=pre++d::rest→p pre x→zf6 h M→y1 Tryz.prog y [.agg (j3 d)] (.box ba 3 [iv (a:Int)]:: .box bp 147 [pZ bl]:: .box bl 202 (wrP h rd rf rk rg)::rgR rg M::rkS h rk::zd0 h rf::rcR h rd:: .glob 2 156 y3:: .glob 4 305 y4:: .glob 5 308 y2:: .glob 3 246 q7::I pre x) (fun r h'=>∃x',(r=bv true∧p (pre++ [d]) x'∧h'= .box ba 3 [iv (a:Int)]:: .box bp 147 [pZ bl]:: .box bl 202 (wrP h rd rf rk rg)::rgR rg M::rkS h rk::zd0 h rf::rcR h rd:: .glob 2 156 y3:: .glob 4 305 y4:: .glob 5 308 y2:: .glob 3 246 q7::I (pre++ [d]) x')∨(r=bv false∧q x'∧h'= .box ba 3 [iv (a:Int)]:: .box bp 147 [pZ bl]:: .box bl 202 (wrP h rd rf rk rg)::rgR rg M::rkS h rk::zd0 h rf::rcR h rd:: .glob 2 156 y3:: .glob 4 305 y4:: .glob 5 308 y2:: .glob 3 246 q7::X x'))):y7 Tryz.prog 158 [y,pZ bp,pZ ba] (.box ba 3 [iv (a:Int)]:: .box bp 147 [pZ bl]:: .box bl 202 (wrP h rd rf rk rg)::rgR rg M0::rkS h rk::zd0 h rf::rcR h rd:: .glob 2 156 y3:: .glob 4 305 y4:: .glob 5 308 y2:: .glob 3 246 q7::I [] x0) (fun r h'=>∃x M,zf6 h M∧((p (zcy h h.evs[a] a) x∧h'= .box ba 3 [iv (a:Int)]:: .box bp 147 [pZ bl]:: .box bl 202 (wrP h rd rf rk rg)::rgR rg M::rkS h rk::zd0 h rf::rcR h rd:: .glob 2 156 y3:: .glob 4 305 y4:: .glob 5 308 y2:: .glob 3 246 q7::I (zcy h h.evs[a] a) x)∨(q x∧h'= .box ba 3 [iv (a:Int)]:: .box bp 147 [pZ bl]:: .box bl 202 (wrP h rd rf rk rg)::rgR rg M::rkS h rk::zd0 h rf::rcR h rd:: .glob 2 156 y3:: .glob 4 305 y4:: .glob 5 308 y2:: .glob 3 246 q7::X x))):=by
 refine z6 Tryz.func158 rfl rfl rfl ?_
 have ra:=zae (f:=evR) ha
 refine rn ?_;refine u4 9 rfl ?_
 refine rn ?_;refine zm2 rfl fun b4=> ?_
 refine rn ?_;refine z7 rfl (fun hc17=> ?_) (fun hc17=> ?_)
 ·have h3:h.evs[a].kind≠3:=by simpa using hc17
  refine rn ?_;exact zej .nil (.drop [_] _ _) ⟨x0,M0,hM0,.inl ⟨by rw [zwv h3];exact hp0,by rw [zwv h3]⟩⟩
 ·have h3:h.evs[a].kind=3:=by simpa using hc17
  obtain ⟨⟨o0,o1⟩, -⟩:=zpq (ze6 (za4.1 hc) _ (List.getElem_mem ha)) h3
  refine rn ?_;refine u4 9 rfl ?_
  refine dq rfl rfl qrA ?_;refine dq rfl rfl qrA ?_;refine dq rfl rfl qrA ?_;refine dq rfl rfl qrA ?_;refine dq rfl rfl qrA ?_;refine dq rfl rfl qrA ?_;refine dq rfl rfl qrA ?_;refine dq rfl rfl qrA ?_;refine dq rfl rfl (j7 (out:= [iv h.evs[a].o,iv h.evs[a].v.t,iv h.evs[a].v.k]) rfl (by rfl)) ?_
  refine rn2 ?_;refine qq rfl rfl (zbl (enc:=zdt) (k:=(h.evs[a].o,h.evs[a].v.t,h.evs[a].v.k)) (0:Int) rfl rfl) ?_
  refine rn ?_;refine u4 17 rfl ?_
  refine rn ?_;refine zcv (fun hg3_2=> ?_) (fun hg3_2=> ?_)
  ·refine rn ?_;refine zdh rfl ?_;have hw:(zcy h h.evs[a] a)= []:=by
    first
    |exact zwu hg3_2
    |exact zwt hk hr ea hc46
   refine rn ?_;exact zej .nil (.drop [_] _ _) ⟨x0,M0,hM0,.inl ⟨by rw [hw];exact hp0,by rw [hw]⟩⟩
  ·obtain ⟨k,hk,hr,ea⟩:=yuc (za4.1 hc) o0 o1 hg3_2
   have hil:=zl3 hc o0 o1
   rw [hr]
   have rr:((zax h h.evs[a].o).map zai)[((k:Int)+1 - 1).toNat]? =some (zai (zax h h.evs[a].o)[k]):=by rw [show ((k:Int)+1 - 1).toNat=k by omega];exact zae hk
   refine dq rfl rfl qrA ?_;refine dq rfl rfl qrA ?_;refine dq rfl rfl qrA ?_;refine dq rfl rfl qrA ?_;refine dq rfl rfl qrA ?_;refine dq rfl rfl qrA ?_;refine dq rfl rfl (zau rfl rfl o0 (zkl h o0 o1)) ?_
   refine dq rfl rfl qrA ?_;refine dq rfl rfl qrA ?_;refine dq rfl rfl (zc1 rfl rfl rfl (by omega)) ?_
   refine dq rfl rfl (zau rfl rfl (by omega) rr) ?_
   refine rn ?_;refine z7 rfl (fun hc46=> ?_) (fun hc46=> ?_)
   ·have hw:(zcy h h.evs[a] a)= []:=by
     first
     |exact zwu hg3_2
     |exact zwt hk hr ea hc46
    refine rn ?_;exact zej .nil (.drop [_] _ _) ⟨x0,M0,hM0,.inl ⟨by rw [hw];exact hp0,by rw [hw]⟩⟩
   ·have hw:(zcy h h.evs[a] a)= [(wrC h h.evs[a] a 1 (zax h h.evs[a].o)[k] h.evs[a].o 0)]:=ygo h3 hk hr ea hc46
    refine rn ?_;refine u4 18 rfl ?_
    refine dq rfl rfl qrA ?_;refine dq rfl rfl qrA ?_;refine dq rfl rfl qrA ?_;refine dq rfl rfl qrA ?_;refine dq rfl rfl qrA ?_;refine dq rfl rfl qrA ?_;refine dq rfl rfl qrA ?_;refine dq rfl rfl (zau rfl rfl o0 (zkl h o0 o1)) ?_
    refine dq rfl rfl qrA ?_;refine dq rfl rfl qrA ?_;refine dq rfl rfl (zc1 rfl rfl rfl (by omega)) ?_
    refine dq rfl rfl (zau rfl rfl (by omega) rr) ?_
    refine rn ?_;refine dv rfl rfl (by exact y0 rfl rfl (y1.qt (y1.of_fun (ykb h (zax h h.evs[a].o)[k] h.evs[a].o a ha o0 o1 (List.getElem_mem hk) bl rd rf rk rg M0 [])) ((pt3 _ _ _ _ _).trans (.cons _ ((pt3 _ _ _ _ _).trans (.cons _ ((pt3 _ _ _ _ _).trans (.cons _ ((pt3 _ _ _ _ _).trans (.cons _ ((pt3 _ _ _ _ _).trans (.cons _ ((pt3 _ _ _ _ _).trans (.cons _ ((pt3 _ _ _ _ _).trans (.cons _ ((pt3 _ _ _ _ _).trans (.cons _ (pt3 _ _ _ _ _))))))))))))))))))) ?_
    refine rn ?_;refine zm2 rfl fun b6=> ?_
    refine rn2 ?_;first|refine z8 rfl (j5 rfl rfl rfl ?_)|refine z8 rfl (zak rfl rfl rfl rfl (Nat.le_of_ble_eq_true rfl) ?_)
    refine u3 (zag ?_)
    refine w9 (y6 ?_)
    refine q1 ?_;first|refine z8 rfl (j5 rfl rfl rfl ?_)|refine z8 rfl (zak rfl rfl rfl rfl (Nat.le_of_ble_eq_true rfl) ?_)
    refine u3 (zag ?_)
    refine y6 ?_;refine q1 ?_;refine q1 ?_;refine z8 rfl (v2 rfl rfl (y1.fr2 (hy [] (wrC h h.evs[a] a 1 (zax h h.evs[a].o)[k] h.evs[a].o 0) [] x0 M0 hw hp0 hM0)) rfl ?_)
    rintro _ _ ⟨_,rfl,x',⟨rfl,hp',rfl⟩|⟨rfl,hq',rfl⟩⟩
    ·refine rn ?_;first|exact zd4 .nil (.drop [_,_] _ _) ⟨x',M0,hM0,.inr ⟨hq',rfl⟩⟩|exact zd4 .nil (.drop [_,_] _ _) ⟨x',M0,hM0,.inl ⟨by rw [hw];exact hp',by rw [hw];rfl⟩⟩
    ·refine rn ?_;first|exact zd4 .nil (.drop [_,_] _ _) ⟨x',M0,hM0,.inr ⟨hq',rfl⟩⟩|exact zd4 .nil (.drop [_,_] _ _) ⟨x',M0,hM0,.inl ⟨by rw [hw];exact hp',by rw [hw];rfl⟩⟩
theorem zwq {h:Hist} {a:Nat} (ha:a < h.evs.length) (hc:v7 h=0) (hs:zeh h a≠0):zet h h.evs[a] a= []:=by
 rw [zet];split
 ·rename_i h4;exact absurd (yt1 ha hc (eq_of_beq h4)).1 hs
 ·rfl
theorem ymt {h:Hist} {a:Nat} (ha:a < h.evs.length) (hc:v7 h=0) (hs:zeh h a=0):h.evs[a].kind=4:=by
 by_cases h4:h.evs[a].kind=4
 ·exact h4
 ·have:=(ypy (n:=(a:Int)) hc (fun q=>h4 (by rw [ztm ha] at q;exact q.2.2))).1
  omega
theorem zqp {h:Hist} {e:Ev} {a:Nat} (h4:e.kind=4):zet h e a=(j9 h e a).flatMap (za5 h e a):=by rw [zet,if_pos (by simpa using h4)]
theorem ym0 {h:Hist} {e:Ev} {a:Nat} {s:Seen} (hn:(!(zir h s.o s.v).isSome)=true):za5 h e a s= []:=by
 rw [za5];cases hq:zir h s.o s.v with
 |none=>rfl
 |some r=>rw [hq] at hn;cases hn
theorem zuu {h:Hist} {e:Ev} {a:Nat} {s:Seen} {r:Int} (hr:zir h s.o s.v=some r):za5 h e a s=((chL h e.p s.o).takeWhile fun k=>decide (k≤r)).filterMap (wrQ h e a s.o):=by rw [za5,hr]
theorem zmo {q:Int→Bool}:∀(l:List Int) (j:Nat),((l.take j).all q)=true→l.takeWhile q=l.take j++(l.drop j).takeWhile q
 |_,0,_=>by simp
 | [],j+1,_=>by simp
 |a::l,j+1,h=>by
  rw [List.take_succ_cons,List.all_cons,Bool.and_eq_true] at h
  rw [List.takeWhile_cons,h.1,List.take_succ_cons,List.drop_succ_cons,if_pos rfl,zmo l j h.2];rfl
theorem ymg {l:List Int} {r:Int} {j:Nat} (hj:j < l.length) (ha:((l.take j).all fun k=>decide (k≤r))=true) (hg:decide (l[j] > r)=true):(l.takeWhile fun k=>decide (k≤r))=l.take j:=by
 rw [zmo l j ha,List.drop_eq_getElem_cons hj,List.takeWhile_cons,if_neg (by have:=oT hg;simpa using this),List.append_nil]
theorem yqd {l:List Int} {r:Int} {j:Nat} (hj:j=l.length) (ha:((l.take j).all fun k=>decide (k≤r))=true):(l.takeWhile fun k=>decide (k≤r))=l.take j:=by
 rw [zmo l j ha,hj,List.drop_length];simp
theorem yuo {l:List Int} {r:Int} {j:Nat} (hj:j < l.length) (ha:((l.take j).all fun k=>decide (k≤r))=true) (hg:decide (l[j] > r)=false):((l.take (j+1)).all fun k=>decide (k≤r))=true:=by
 rw [List.take_succ_eq_append_getElem hj,List.all_append,ha]
 have:=oF hg
 simp;omega
theorem yty {h:Hist} {e:Ev} {a:Nat} {L:List Seen} {i:Nat} (hi:i < L.length):(L.take (i+1)).flatMap (za5 h e a)=(L.take i).flatMap (za5 h e a)++za5 h e a L[i]:=by
 rw [List.take_succ_eq_append_getElem hi,List.flatMap_append];simp
theorem yp5 {h:Hist} {e:Ev} {a i j:Nat} {r:Int} {d:Conf} (h4:e.kind=4) (hi:i < (j9 h e a).length) (hr:zir h (j9 h e a)[i].o (j9 h e a)[i].v=some r) (hj:j < (chL h e.p (j9 h e a)[i].o).length)
 (ha:(((chL h e.p (j9 h e a)[i].o).take j).all fun k=>decide (k≤r))=true) (hg:decide ((chL h e.p (j9 h e a)[i].o)[j] > r)=false) (hd:wrQ h e a (j9 h e a)[i].o (chL h e.p (j9 h e a)[i].o)[j]=some d):
 ∃rest,zet h e a=(((j9 h e a).take i).flatMap (za5 h e a)++((chL h e.p (j9 h e a)[i].o).take j).filterMap (wrQ h e a (j9 h e a)[i].o))++d::rest:=by
 have hg':=oF hg
 have e1:za5 h e a (j9 h e a)[i]=((chL h e.p (j9 h e a)[i].o).take j).filterMap (wrQ h e a (j9 h e a)[i].o)++d::(((chL h e.p (j9 h e a)[i].o).drop (j+1)).takeWhile fun k=>decide (k≤r)).filterMap (wrQ h e a (j9 h e a)[i].o):=by
  rw [zuu hr,zmo _ j ha,List.drop_eq_getElem_cons hj,List.takeWhile_cons,if_pos (by simp;omega),List.filterMap_append,List.filterMap_cons,hd]
 refine ⟨(((chL h e.p (j9 h e a)[i].o).drop (j+1)).takeWhile fun k=>decide (k≤r)).filterMap (wrQ h e a (j9 h e a)[i].o)++((j9 h e a).drop (i+1)).flatMap (za5 h e a),?_⟩
 rw [zqp h4]
 conv=>lhs;rw [←List.take_append_drop i (j9 h e a),List.drop_eq_getElem_cons hi]
 rw [List.flatMap_append,List.flatMap_cons,e1]
 simp [List.append_assoc]
theorem yjz {h:Hist} (hc:v7 h=0) {p x:Int} {k:Int} (hk:k∈chL h p x):1≤k∧k≤(zax h x).length:=by
 rw [chL] at hk;split at hk
 ·rename_i ht
  rw [yp3,zm3] at hk
  obtain ⟨j,rfl,j0,j1,_⟩:=hk
  rw [znh] at j1
  omega
 ·cases hk
theorem yox {h:Hist} {x k:Int} (h1:1≤k) (h2:k≤(zax h x).length):zou h x k∈zax h x∧((zax h x).map zai)[(k - 1).toNat]? =some (zai (zou h x k)):=by
 have hl:(k - 1).toNat < (zax h x).length:=by omega
 rw [zou,List.getElem?_eq_getElem hl,List.getElem?_map,List.getElem?_eq_getElem hl]
 exact ⟨List.getElem_mem hl,rfl⟩
theorem yp7 {h:Hist} {e:Ev} {a:Nat} {x k:Int} (ht:(zou h x k !=e.t)=false):wrQ h e a x k=none:=by rw [wrQ,if_pos (by simpa using ht)]
theorem yl7 {h:Hist} {e:Ev} {a:Nat} {x k:Int} (ht:(zou h x k !=e.t)=true):wrQ h e a x k=some (wrC h e a 2 (zou h x k) x e.p):=by rw [wrQ,if_neg (by simpa using ht)]
theorem yl4 {σ:Type} (h:Hist) (la:Lim 4611686018427387904 h) (hc:v7 h=0) (a:Nat) (ha:a < h.evs.length) (y:AV) (bp ba:Nat) (bl rd rf rk rg:Nat) (M0:List ((Int×Int)×List Int)) (hM0:zf6 h M0) (p:List Conf→σ→Prop) (q:σ→Prop) (I:List Conf→σ→List Res) (X:σ→List Res) (x0:σ) (hp0:p [] x0) (hy:∀pre d rest x M,(zet h h.evs[a] a)=pre++d::rest→p pre x→zf6 h M→y1 Tryz.prog y [.agg (j3 d)] (.box ba 3 [iv (a:Int)]:: .box bp 147 [pZ bl]:: .box bl 202 (wrP h rd rf rk rg)::rgR rg M::rkS h rk::zd0 h rf::rcR h rd:: .glob 2 156 y3:: .glob 4 305 y4:: .glob 5 308 y2:: .glob 3 246 q7::I pre x) (fun r h'=>∃x',(r=bv true∧p (pre++ [d]) x'∧h'= .box ba 3 [iv (a:Int)]:: .box bp 147 [pZ bl]:: .box bl 202 (wrP h rd rf rk rg)::rgR rg M::rkS h rk::zd0 h rf::rcR h rd:: .glob 2 156 y3:: .glob 4 305 y4:: .glob 5 308 y2:: .glob 3 246 q7::I (pre++ [d]) x')∨(r=bv false∧q x'∧h'= .box ba 3 [iv (a:Int)]:: .box bp 147 [pZ bl]:: .box bl 202 (wrP h rd rf rk rg)::rgR rg M::rkS h rk::zd0 h rf::rcR h rd:: .glob 2 156 y3:: .glob 4 305 y4:: .glob 5 308 y2:: .glob 3 246 q7::X x'))):y7 Tryz.prog 160 [y,pZ bp,pZ ba] (.box ba 3 [iv (a:Int)]:: .box bp 147 [pZ bl]:: .box bl 202 (wrP h rd rf rk rg)::rgR rg M0::rkS h rk::zd0 h rf::rcR h rd:: .glob 2 156 y3:: .glob 4 305 y4:: .glob 5 308 y2:: .glob 3 246 q7::I [] x0) (fun r h'=>∃x M,zf6 h M∧((p (zet h h.evs[a] a) x∧h'= .box ba 3 [iv (a:Int)]:: .box bp 147 [pZ bl]:: .box bl 202 (wrP h rd rf rk rg)::rgR rg M::rkS h rk::zd0 h rf::rcR h rd:: .glob 2 156 y3:: .glob 4 305 y4:: .glob 5 308 y2:: .glob 3 246 q7::I (zet h h.evs[a] a) x)∨(q x∧h'= .box ba 3 [iv (a:Int)]:: .box bp 147 [pZ bl]:: .box bl 202 (wrP h rd rf rk rg)::rgR rg M::rkS h rk::zd0 h rf::rcR h rd:: .glob 2 156 y3:: .glob 4 305 y4:: .glob 5 308 y2:: .glob 3 246 q7::X x))):=by
 refine z6 Tryz.func160 rfl rfl rfl ?_
 have ra:=zae (f:=evR) ha
 refine zkx ?_;refine rn ?_;refine u4 9 rfl ?_
 refine rn ?_;refine zm2 rfl fun b4=> ?_
 refine rn ?_;refine u4 10 rfl ?_
 refine rn ?_;refine dv rfl rfl (by exact y0 rfl rfl (y1.qt (y1.of_fun (yk3 h la a)) ((pt8 _ _ _ _ _ _ _ _ _ _).trans (.cons _ ((pt8 _ _ _ _ _ _ _ _ _ _).trans (.cons _ ((pt8 _ _ _ _ _ _ _ _ _ _).trans (.cons _ (pt8 _ _ _ _ _ _ _ _ _ _))))))))) ?_
 refine rn ?_;refine z7 rfl (fun hc33=> ?_) (fun hc33=> ?_)
 ·have hs:=nzT hc33
  refine rn ?_;refine ⟨fun l h=>(by cases h),?_⟩
  exact zej .nil (.drop [_] _ _) ⟨x0,M0,hM0,.inl ⟨by rw [zwq ha hc hs];exact hp0,by rw [zwq ha hc hs]⟩⟩
 ·have hs:=nzF hc33
  have h4:=ymt ha hc hs
  rw [(yt1 ha hc h4).2]
  have hsl:(j9 h h.evs[a] a).length≤3000:=by rw [zjk];exact (zb9 hc).os
  refine rn ?_;refine zhh (j9 h h.evs[a] a).length (fun i (z:σ×List ((Int×Int)×List Int))=>p (((j9 h h.evs[a] a).take i).flatMap (za5 h h.evs[a] a)) z.1∧zf6 h z.2) (fun i z=>⟨[(36,iv i),(0,y),(1,pZ bp),(2,pZ ba),(4,pZ b4),(34,zei (j9 h h.evs[a] a)),(35,iv ((j9 h h.evs[a] a).map zaj).length)],.box b4 60 (evR h.evs[a]):: .box ba 3 [iv (a:Int)]:: .box bp 147 [pZ bl]:: .box bl 202 (wrP h rd rf rk rg)::rgR rg z.2::rkS h rk::zd0 h rf::rcR h rd:: .glob 2 156 y3:: .glob 4 305 y4:: .glob 5 308 y2:: .glob 3 246 q7::I (((j9 h h.evs[a] a).take i).flatMap (za5 h h.evs[a] a)) z.1,[]⟩) (x0,M0) ⟨hp0,hM0⟩ es ?_
  rintro i ⟨x,M⟩ li ⟨zi,hM⟩
  have zi:p (((j9 h h.evs[a] a).take i).flatMap (za5 h h.evs[a] a)) x:=zi
  have hM:zf6 h M:=hM
  show aw _ _ _ _ _ ⟨[(36,iv i),(0,y),(1,pZ bp),(2,pZ ba),(4,pZ b4),(34,zei (j9 h h.evs[a] a)),(35,iv ((j9 h h.evs[a] a).map zaj).length)],.box b4 60 (evR h.evs[a]):: .box ba 3 [iv (a:Int)]:: .box bp 147 [pZ bl]:: .box bl 202 (wrP h rd rf rk rg)::rgR rg M::rkS h rk::zd0 h rf::rcR h rd:: .glob 2 156 y3:: .glob 4 305 y4:: .glob 5 308 y2:: .glob 3 246 q7::I (((j9 h h.evs[a] a).take i).flatMap (za5 h h.evs[a] a)) x,[]⟩
  refine rn ?_;refine z7 rfl (fun hc37=> ?_) (fun hc37=> ?_)
  ·have hi:=zay hc37
   have ri:=zae (f:=zaj) hi
   obtain ⟨⟨o0,o1⟩, -⟩:=zqy (List.getElem_mem hi)
   have hcl:=zyq hc h.evs[a].p (j9 h h.evs[a] a)[i].o
   have hil:=zl3 hc o0 o1
   refine rn ?_;refine z8 rfl (y5 rfl fun b8=> ?_)
   refine rn ?_;refine u4 10 rfl ?_
   refine dq rfl rfl qrA ?_;refine dq rfl rfl qrA ?_;refine dq rfl rfl qrA ?_;refine dq rfl rfl qrA ?_;refine dq rfl rfl (zsz (zjo rfl rfl) (show AV.agg (zaj (j9 h h.evs[a] a)[i])=AV.agg [iv (j9 h h.evs[a] a)[i].o,iv (j9 h h.evs[a] a)[i].v.t,iv (j9 h h.evs[a] a)[i].v.k] from rfl)) ?_
   refine dq rfl rfl (zfm (g:=iv) (enc:=zdt) (k:=((j9 h h.evs[a] a)[i].o,(j9 h h.evs[a] a)[i].v.t,(j9 h h.evs[a] a)[i].v.k)) (0:Int) rfl rfl rfl) ?_
   refine rn ?_;refine z7 rfl (fun hc50=> ?_) (fun hc50=> ?_)
   ·have hw:za5 h h.evs[a] a (j9 h h.evs[a] a)[i]= []:=ym0 hc50
    refine rn ?_;exact ⟨hi,(x,M),⟨by simp only;rw [yty hi,hw,List.append_nil];exact zi,hM⟩,by simp only;rw [yty hi,hw,List.append_nil];exact eA⟩
   ·obtain ⟨r0,hr⟩:∃r,(za6 ((j9 h h.evs[a] a)[i].o,(j9 h h.evs[a] a)[i].v.t,(j9 h h.evs[a] a)[i].v.k) (rkM h h.os.length))=some r:=Option.isSome_iff_exists.1 (by simpa using hc50)
    have hr':zir h (j9 h h.evs[a] a)[i].o (j9 h h.evs[a] a)[i].v=some r0:=hr
    rw [hr,Option.getD_some,Option.isSome_some]
    refine rn ?_;refine z8 rfl (v2 rfl rfl (y1.fr4 (y1.of_fun (yuh h la hc h.evs[a].p (j9 h h.evs[a] a)[i].o bl rd rf rk rg M hM (I (((j9 h h.evs[a] a).take i).flatMap (za5 h h.evs[a] a)) x)))) rfl ?_)
    rintro _ _ ⟨_,rfl,M',hM',rfl,rfl⟩
    refine rn ?_;refine zhh (chL h h.evs[a].p (j9 h h.evs[a] a)[i].o).length (fun j (x:σ)=>(((chL h h.evs[a].p (j9 h h.evs[a] a)[i].o).take j).all fun k=>decide (k≤r0))=true∧p ((((j9 h h.evs[a] a).take i).flatMap (za5 h h.evs[a] a))++((chL h h.evs[a].p (j9 h h.evs[a] a)[i].o).take j).filterMap (wrQ h h.evs[a] a (j9 h h.evs[a] a)[i].o)) x) (fun j x=>⟨[(58,iv j),(0,y),(1,pZ bp),(2,pZ ba),(4,pZ b4),(8,pZ b8),(9,iv r0),(34,zei (j9 h h.evs[a] a)),(35,iv ((j9 h h.evs[a] a).map zaj).length),(36,iv i),(56,zaq (chL h h.evs[a].p (j9 h h.evs[a] a)[i].o)),(57,iv ((chL h h.evs[a].p (j9 h h.evs[a] a)[i].o).map zai).length)],.box b8 70 (zaj (j9 h h.evs[a] a)[i]):: .box b4 60 (evR h.evs[a]):: .box ba 3 [iv (a:Int)]:: .box bp 147 [pZ bl]:: .box bl 202 (wrP h rd rf rk rg)::rgR rg M'::rkS h rk::zd0 h rf::rcR h rd:: .glob 2 156 y3:: .glob 4 305 y4:: .glob 5 308 y2:: .glob 3 246 q7::I ((((j9 h h.evs[a] a).take i).flatMap (za5 h h.evs[a] a))++((chL h h.evs[a].p (j9 h h.evs[a] a)[i].o).take j).filterMap (wrQ h h.evs[a] a (j9 h h.evs[a] a)[i].o)) x,[]⟩) x ⟨by simp,by simpa using zi⟩ (by simpa using eA) ?_
    intro j x lj zj
    refine rn ?_;refine z7 rfl (fun hc59=> ?_) (fun hc59=> ?_)
    ·have hj:=zay hc59
     have rj:=zae (f:=zai) hj
     obtain ⟨k0,k1⟩:=yjz hc (List.getElem_mem hj)
     obtain ⟨hmem,rr⟩:=yox k0 k1
     refine rn ?_;refine z7 rfl (fun hc64=> ?_) (fun hc64=> ?_)
     ·have htw:=ymg hj zj.1 hc64
      refine rn ?_;have e1:((((j9 h h.evs[a] a).take i).flatMap (za5 h h.evs[a] a))++((chL h h.evs[a].p (j9 h h.evs[a] a)[i].o).take j).filterMap (wrQ h h.evs[a] a (j9 h h.evs[a] a)[i].o))=(((j9 h h.evs[a] a).take (i+1)).flatMap (za5 h h.evs[a] a)):=by rw [yty hi,zuu hr',htw]
      exact ⟨hi,(x,M'),⟨by rw [←e1];exact zj.2,hM'⟩,by simp only;rw [←e1];exact eA⟩
     ·have hon:=yuo hj zj.1 hc64
      refine rn ?_;refine u4 10 rfl ?_
      refine dq rfl rfl qrA ?_;refine dq rfl rfl qrA ?_;refine dq rfl rfl qrA ?_;refine dq rfl rfl qrA ?_;refine dq rfl rfl qrA ?_;refine dq rfl rfl qrA ?_;refine dq rfl rfl (zau rfl rfl o0 (zkl h o0 o1)) ?_
      refine dq rfl rfl qrA ?_;refine dq rfl rfl qrA ?_;refine dq rfl rfl (zc1 rfl rfl rfl (by omega)) ?_
      refine rn2 ?_;refine qq rfl rfl (zau rfl rfl (by omega) rr) ?_
      refine rn ?_;refine qv rfl rfl (y0 rfl rfl (y1.qt (y1.of_fun (ykb h (zou h (j9 h h.evs[a] a)[i].o (chL h h.evs[a].p (j9 h h.evs[a] a)[i].o)[j]) (j9 h h.evs[a] a)[i].o a ha o0 o1 hmem bl rd rf rk rg M' [])) ((pt4 _ _ _ _ _ _).trans (.cons _ ((pt4 _ _ _ _ _ _).trans (.cons _ ((pt4 _ _ _ _ _ _).trans (.cons _ ((pt4 _ _ _ _ _ _).trans (.cons _ ((pt4 _ _ _ _ _ _).trans (.cons _ ((pt4 _ _ _ _ _ _).trans (.cons _ ((pt4 _ _ _ _ _ _).trans (.cons _ ((pt4 _ _ _ _ _ _).trans (.cons _ (pt4 _ _ _ _ _ _))))))))))))))))))) ?_
      refine z8 rfl (y5 rfl fun b14=> ?_)
      refine rn ?_;refine zcw 4 [(b14,41,_)] rfl (List.perm_append_comm (l₁:= [_])) ?_
      refine rn ?_;refine dw 0 rfl rfl rfl rfl rfl (Nat.le_of_ble_eq_true rfl) ?_
      refine rn2 ?_;show zch _ _ _ _ _ _ ⟨_,.box b14 41 (j3 ⟨zou h (j9 h h.evs[a] a)[i].o (chL h h.evs[a].p (j9 h h.evs[a] a)[i].o)[j],h.evs[a].t,2,zc5 h (zou h (j9 h h.evs[a] a)[i].o (chL h h.evs[a].p (j9 h h.evs[a] a)[i].o)[j]) (j9 h h.evs[a] a)[i].o,a,(j9 h h.evs[a] a)[i].o,0⟩):: .box b8 70 (zaj (j9 h h.evs[a] a)[i]):: .box b4 60 (evR h.evs[a]):: .box ba 3 [iv (a:Int)]:: .box bp 147 [pZ bl]:: .box bl 202 (wrP h rd rf rk rg)::rgR rg M'::rkS h rk::zd0 h rf::rcR h rd:: .glob 2 156 y3:: .glob 4 305 y4:: .glob 5 308 y2:: .glob 3 246 q7::I ((((j9 h h.evs[a] a).take i).flatMap (za5 h h.evs[a] a))++((chL h h.evs[a].p (j9 h h.evs[a] a)[i].o).take j).filterMap (wrQ h h.evs[a] a (j9 h h.evs[a] a)[i].o)) x,_⟩
      refine rn ?_;refine w7 (fun hg15_4=> ?_) (fun hg15_4=> ?_)
      ·refine q1 ?_;refine q1 ?_;obtain ⟨rest,hL⟩:=yp5 h4 hi hr' hj zj.1 hc64 (yl7 hg15_4)
       refine z8 rfl (v2 rfl rfl (y1.fr3 (hy ((((j9 h h.evs[a] a).take i).flatMap (za5 h h.evs[a] a))++((chL h h.evs[a].p (j9 h h.evs[a] a)[i].o).take j).filterMap (wrQ h h.evs[a] a (j9 h h.evs[a] a)[i].o)) _ rest x M' hL zj.2 hM')) rfl ?_)
       rintro _ _ ⟨_,rfl,x',⟨rfl,hp',rfl⟩|⟨rfl,hq',rfl⟩⟩
       ·refine rn ?_;refine z7 rfl (fun hc96=> ?_) (fun hc96=> ?_)
        ·first|cases hc96|exact absurd hc96 (by decide)|(exfalso;simp_all;done)
        ·refine rn ?_;exact ⟨hj,x',⟨hon,by rw [ygd hj (yl7 hg15_4),←List.append_assoc];exact hp'⟩,by rw [ygd hj (yl7 hg15_4),←List.append_assoc];exact eA⟩
       ·refine rn ?_;refine z7 rfl (fun hc96=> ?_) (fun hc96=> ?_)
        ·refine rn ?_;refine ⟨fun l h=>(by cases h),?_⟩
         exact zej .nil (.drop [_,_,_] _ _) ⟨x',M',hM',.inr ⟨hq',rfl⟩⟩
        ·first|cases hc96|exact absurd hc96 (by decide)|(exfalso;simp_all;done)
      ·refine rn ?_;refine zdo rfl ?_;refine rn ?_;exact ⟨hj,x,⟨hon,by rw [yge hj (yp7 hg15_4)];exact zj.2⟩,by rw [yge hj (yp7 hg15_4)];exact eA⟩
    ·have qj:=zaz hc59 lj
     refine rn ?_;have htw:=yqd qj zj.1
     have e1:((((j9 h h.evs[a] a).take i).flatMap (za5 h h.evs[a] a))++((chL h h.evs[a].p (j9 h h.evs[a] a)[i].o).take j).filterMap (wrQ h h.evs[a] a (j9 h h.evs[a] a)[i].o))=(((j9 h h.evs[a] a).take (i+1)).flatMap (za5 h h.evs[a] a)):=by rw [yty hi,zuu hr',htw]
     exact ⟨hi,(x,M'),⟨by rw [←e1];exact zj.2,hM'⟩,by simp only;rw [←e1];exact eA⟩
  ·have qi:=zaz hc37 li
   refine rn ?_;refine ⟨fun l h=>(by cases h),?_⟩
   exact zd4 .nil (.drop [_] _ _) ⟨x,M,hM,.inl ⟨by rw [zqp h4];rw [qi,List.take_length] at zi;exact zi,by rw [zqp h4,qi,List.take_length]⟩⟩
def zcr:List AV:= [.any,.fn (.func 302) [] [],.fn (.func 302) [] [],.fn (.func 303) [] [],.fn (.func 304) [] [],.fn (.func 302) [] [],.fn (.func 302) [] []]
def yg9 (k:Nat):AV:=zcr.getD k .any
theorem yg7 {k:Nat} (h2:k≤6):zcr[k]? =some (yg9 k):=by
 have:k < zcr.length:=by show k < 7;omega
 rw [yg9,List.getD_eq_getElem?_getD,List.getElem?_eq_getElem this];rfl
def zkm (h:Hist) (x r:Int):Int:=((zax h x)[(r - 1).toNat]?).getD 0
def yab (h:Hist) (e:Ev) (a:Nat) (x r:Int):Conf:=if r > ((zax h x).length:Int) then ⟨0,0,0,0,0,0,0⟩ else ⟨e.t,zkm h x r,yd1 e.kind,a,zc5 h (zkm h x r) x,x,e.p⟩
def zrk (h:Hist) (e:Ev) (x r:Int):Bool:=if r > ((zax h x).length:Int) then false else zkm h x r !=e.t
theorem yle {h:Hist} {e:Ev} {a:Nat} {x r:Int} (hb:zrk h e x r=true):zgk h e (zhq e) a x r=some (yab h e a x r):=by
 rw [zrk] at hb
 split at hb
 ·cases hb
 ·rename_i hr
  have hn:¬(((zax h x)[(r - 1).toNat]?).getD 0==e.t)=true:=by rw [show ((zax h x)[(r - 1).toNat]?).getD 0=zkm h x r from rfl];simpa using hb
  rw [zgk,if_neg hr,if_neg hn,yab,if_neg hr];rfl
theorem ysk {h:Hist} {e:Ev} {a:Nat} {x r:Int} (hb:zrk h e x r=false):zgk h e (zhq e) a x r=none:=by
 rw [zrk] at hb
 rw [zgk]
 split at hb
 ·rename_i hr;rw [if_pos hr]
 ·rename_i hr
  rw [if_neg hr,if_pos (by rw [show ((zax h x)[(r - 1).toNat]?).getD 0=zkm h x r from rfl];simpa using hb)]
theorem seen_ok {h:Hist} (hc:v7 h=0) {e:Ev} (he:e∈h.evs) (a:Nat):(u5 h e a).length≤4000∧∀p∈u5 h e a,(0≤p.1∧p.1 < h.os.length)∧p.2.length≤4000∧∀r∈p.2,1≤r∧r≤5000:=by
 have hs:=za4.1 hc
 have lA:=zb9 hc
 have lO:=lA.os
 rw [u5]
 split
 ·rename_i h3
  obtain ⟨⟨o0,o1⟩,_⟩:=zpq (ze6 hs _ he) h3
  rw [zg0]
  cases hr:zir h e.o e.v with
  |none=>exact ⟨Nat.zero_le _,fun p hp=>by cases hp⟩
  |some r=>
   have:=yqw hc o0 o1 hr
   refine ⟨by show 1≤4000;decide,fun p hp=> ?_⟩
   rw [List.mem_singleton] at hp
   subst hp
   refine ⟨⟨o0,o1⟩,by show 1≤4000;decide,fun q hq=> ?_⟩
   rw [List.mem_singleton] at hq
   subst hq
   omega
 ·split
  ·rename_i h4
   refine ⟨?_,fun p hp=> ?_⟩
   ·refine Nat.le_trans (List.length_filterMap_le _ _) ?_
    rw [zjk];omega
   ·rw [zq0,List.mem_filterMap] at hp
    obtain ⟨s,hsm,hp⟩:=hp
    obtain ⟨⟨o0,o1⟩,_⟩:=zqy hsm
    unfold zfk at hp
    split at hp
    ·cases hp
    ·split at hp
     ·injection hp with hp
      subst hp
      have hcl:=zyq hc e.p s.o
      refine ⟨⟨o0,o1⟩,Nat.le_trans (List.dropWhile_sublist _).length_le hcl,fun r hr=> ?_⟩
      have hr':r∈chL h e.p s.o:=(List.dropWhile_sublist _).subset hr
      rw [chL] at hr'
      split at hr'
      ·rename_i ht
       rw [yp3,zm3] at hr'
       obtain ⟨j,rfl,j0,j1,_⟩:=hr'
       rw [znh] at j1
       have:=zl3 hc o0 o1
       omega
      ·cases hr'
     ·cases hp
  ·exact ⟨Nat.zero_le _,fun p hp=>by cases hp⟩
def rwF (h:Hist) (e:Ev) (a:Nat) (p:Int×List Int):List Conf:=p.2.filterMap (zgk h e (zhq e) a p.1)
theorem zv2 {h:Hist} {e:Ev} (a:Nat) (hm:zfb h.evs e.t 5=true):zid h e a=(u5 h e a).flatMap (rwF h e a):=by rw [zid,if_pos hm];rfl
theorem yef {h:Hist} {e:Ev} (a:Nat) (hm:zfb h.evs e.t 5=false):zid h e a= []:=by rw [zid,if_neg (by rw [hm];decide)]
theorem yxc {h:Hist} {e:Ev} {a:Nat} {L:List (Int×List Int)} {i:Nat} (hi:i < L.length):(L.take (i+1)).flatMap (rwF h e a)=(L.take i).flatMap (rwF h e a)++rwF h e a L[i]:=by
 rw [List.take_succ_eq_append_getElem hi,List.flatMap_append];simp
theorem yks {h:Hist} {e:Ev} {a:Nat} {L:List (Int×List Int)} {i j:Nat} (hi:i < L.length) (qj:j=L[i].2.length):(L.take i).flatMap (rwF h e a)++(L[i].2.take j).filterMap (zgk h e (zhq e) a L[i].1)=(L.take (i+1)).flatMap (rwF h e a):=by
 rw [yxc hi,qj,List.take_length];rfl
theorem yqz {h:Hist} {e:Ev} {a:Nat} {i j:Nat} {d:Conf} (hm:zfb h.evs e.t 5=true) (hi:i < (u5 h e a).length) (hj:j < (u5 h e a)[i].2.length) (hd:zgk h e (zhq e) a (u5 h e a)[i].1 (u5 h e a)[i].2[j]=some d):
 ∃rest,zid h e a=(((u5 h e a).take i).flatMap (rwF h e a)++((u5 h e a)[i].2.take j).filterMap (zgk h e (zhq e) a (u5 h e a)[i].1))++d::rest:=by
 have e1:rwF h e a (u5 h e a)[i]=((u5 h e a)[i].2.take j).filterMap (zgk h e (zhq e) a (u5 h e a)[i].1)++d::((u5 h e a)[i].2.drop (j+1)).filterMap (zgk h e (zhq e) a (u5 h e a)[i].1):=by
  conv=>lhs;rw [rwF,←List.take_append_drop j (u5 h e a)[i].2,List.drop_eq_getElem_cons hj]
  rw [List.filterMap_append,List.filterMap_cons,hd]
 refine ⟨((u5 h e a)[i].2.drop (j+1)).filterMap (zgk h e (zhq e) a (u5 h e a)[i].1)++((u5 h e a).drop (i+1)).flatMap (rwF h e a),?_⟩
 rw [zv2 a hm]
 conv=>lhs;rw [←List.take_append_drop i (u5 h e a),List.drop_eq_getElem_cons hi]
 rw [List.flatMap_append,List.flatMap_cons,e1]
 simp [List.append_assoc]
theorem yt3 {h:Hist} {e:Ev} {a:Nat} {B:List Conf} {x:Int} {l:List Int} {j:Nat} (hj:j < l.length) (hb:zrk h e x l[j]=true):B++(l.take (j+1)).filterMap (zgk h e (zhq e) a x)=B++(l.take j).filterMap (zgk h e (zhq e) a x)++ [yab h e a x l[j]]:=by
 rw [ygd hj (yle hb),List.append_assoc]
theorem yt4 {h:Hist} {e:Ev} {a:Nat} {B:List Conf} {x:Int} {l:List Int} {j:Nat} (hj:j < l.length) (hb:zrk h e x l[j]=false):B++(l.take (j+1)).filterMap (zgk h e (zhq e) a x)=B++(l.take j).filterMap (zgk h e (zhq e) a x):=by
 rw [yge hj (ysk hb)]
theorem yse {h:Hist} (hc:v7 h=0) {e:Ev} (he:e∈h.evs):∃kn:Nat,1≤kn∧kn≤6∧e.kind=(kn:Int):=by
 obtain ⟨k1,k2,_⟩:=zcl (ze6 (za4.1 hc) _ he)
 exact ⟨e.kind.toNat,by omega,by omega,by omega⟩
theorem yqp (h:Hist) (la:Lim 4611686018427387904 h) (hc:v7 h=0) (a:Nat) (ha:a < h.evs.length) (rc rl rk rg:Nat) (M:List ((Int×Int)×List Int)) (hM:zf6 h M) (W:List Res) {kn:Nat} (h1:1≤kn) (h6:kn≤6) (hk:h.evs[a].kind=(kn:Int)):y1 Tryz.prog (yg9 kn) [.agg (rwP h rc rl rk rg),iv (a:Int)] (rgR rg M::rkS h rk::zcg h rl::rcR h rc:: .glob 2 156 y3:: .glob 4 305 y4:: .glob 5 308 y2:: .glob 3 246 q7::W) (fun r h'=>∃M',zf6 h M'∧h'=rgR rg M'::rkS h rk::zcg h rl::rcR h rc:: .glob 2 156 y3:: .glob 4 305 y4:: .glob 5 308 y2:: .glob 3 246 q7::W∧r=zjl (u5 h h.evs[a] a)):=by
 have no:h.evs[a].kind≠3→h.evs[a].kind≠4→y1 Tryz.prog (.fn (.func 302) [] []) [.agg (rwP h rc rl rk rg),iv (a:Int)] (rgR rg M::rkS h rk::zcg h rl::rcR h rc:: .glob 2 156 y3:: .glob 4 305 y4:: .glob 5 308 y2:: .glob 3 246 q7::W) (fun r h'=>∃M',zf6 h M'∧h'=rgR rg M'::rkS h rk::zcg h rl::rcR h rc:: .glob 2 156 y3:: .glob 4 305 y4:: .glob 5 308 y2:: .glob 3 246 q7::W∧r=zjl (u5 h h.evs[a] a)):=fun n3 n4=>
  y1.of_fun ((yb7 h rc rl rk rg (a:Int) (rgR rg M::rkS h rk::zcg h rl::rcR h rc:: .glob 2 156 y3:: .glob 4 305 y4:: .glob 5 308 y2:: .glob 3 246 q7::W)).mono fun _ _ q=>⟨M,hM,q.1,by rw [q.2,u5,if_neg n3,if_neg n4]⟩)
 match kn,h1,h6 with
 |1,_,_=>exact no (by omega) (by omega)
 |2,_,_=>exact no (by omega) (by omega)
 |3,_,_=>exact y1.of_fun ((yqr h la hc a ha hk rc rl rk rg M W).mono fun _ _ q=>⟨M,hM,q.1,by rw [q.2,u5,if_pos (show h.evs[a].kind=3 from hk)]⟩)
 |4,_,_=>exact y1.of_fun ((yqq h la hc a ha hk rc rl rk rg M hM W).mono fun _ _ ⟨M',q1,q2,q3⟩=>⟨M',q1,q2,by rw [q3,u5,if_neg (by omega),if_pos (show h.evs[a].kind=4 from hk)]⟩)
 |5,_,_=>exact no (by omega) (by omega)
 |6,_,_=>exact no (by omega) (by omega)
 |n+7,_,h6=>omega
theorem yqs (h:Hist) (x r:Int) (h0:0≤x) (h1:x < h.os.length) (r1:1≤r) (r2:r≤5000) (e:Ev) (a:Nat) (bp be ba:Nat) (rc rl rk rg:Nat) (M:List ((Int×Int)×List Int)) (rO:Nat) (oK:Obj) (hK:KO oK) (W:List Res):y7 Tryz.prog 135 [iv x,iv r,pZ bp,pZ be,pZ ba] (.box be 60 (evR e):: .box ba 3 [iv (a:Int)]:: .box bp 119 (rwP h rc rl rk rg)::rgR rg M::rkS h rk::zcg h rl::rcR h rc:: .glob 2 156 y3:: .glob 4 305 y4:: .glob 5 308 y2:: .glob 3 246 q7:: .glob 1 175 zcr:: .glob 0 171 [mpv rO]:: .obj rO oK::W) (fun r_ h'=>h'= .box be 60 (evR e):: .box ba 3 [iv (a:Int)]:: .box bp 119 (rwP h rc rl rk rg)::rgR rg M::rkS h rk::zcg h rl::rcR h rc:: .glob 2 156 y3:: .glob 4 305 y4:: .glob 5 308 y2:: .glob 3 246 q7:: .glob 1 175 zcr:: .glob 0 171 [mpv rO]:: .obj rO oK::W∧r_= .tup [.agg (j3 (yab h e a x r)),bv (zrk h e x r)]):=by
 refine z6 Tryz.func135 rfl rfl rfl ?_
 refine rn ?_;refine z8 rfl (y5 rfl fun b7=> ?_)
 refine q1 ?_;refine u3 (zag ?_)
 refine w9 ?_;refine w9 (y6 ?_)
 refine q1 ?_;refine q1 ?_;refine q1 ?_;refine q1 ?_;refine qq rfl rfl (zau rfl rfl h0 (zkl h h0 h1)) ?_
 refine rn ?_;refine z7 rfl (fun hc17=> ?_) (fun hc17=> ?_)
 ·have hr:r > ((zax h x).length:Int):=by have q:=oT hc17;rw [oM] at q;exact q
  refine rn ?_;exact zej (.cons _ _ _ _ (.agg _ _ _ _ _ _ _ rfl inferInstance inferInstance inferInstance rfl) (.cons _ _ _ _ (.tmp _ _ rfl) .nil)) (.drop [_] _ _) ⟨rfl,by rw [yab,zrk,if_pos hr,if_pos hr];rfl⟩
 ·have hr:¬r > ((zax h x).length:Int):=by have q:=oF hc17;rw [oM] at q;exact q
  have hk:(r - 1).toNat < (zax h x).length:=by omega
  have rr:((zax h x).map zai)[(r - 1).toNat]? =some (zai (zkm h x r)):=by rw [zkm,List.getElem?_map,List.getElem?_eq_getElem hk];rfl
  refine za8 ?_;refine zag ?_;refine w9 (y6 ?_)
  refine q1 ?_;refine q1 ?_;refine q1 ?_;refine qq rfl rfl (zau rfl rfl h0 (zkl h h0 h1)) ?_
  refine q1 ?_;refine q1 ?_;refine qq rfl rfl (zc1 rfl rfl rfl (by omega)) ?_
  refine qq rfl rfl (zau rfl rfl (by omega) rr) ?_
  refine rn ?_;refine zcw 23 [(b7,41,_)] rfl (List.perm_append_comm (l₁:= [_])) ?_
  refine dq rfl rfl qrA ?_;refine dq rfl rfl qrA ?_;refine dq rfl rfl qrA ?_;refine dq rfl rfl qrA ?_;refine dq rfl rfl qrA ?_;refine dq rfl rfl qrA ?_;refine dq rfl rfl (yhw (k:=e.kind) hK rfl rfl) ?_
  refine dq rfl rfl qrA ?_;refine dq rfl rfl qrA ?_;refine dq rfl rfl qrA ?_;refine dq rfl rfl qrA ?_;refine dq rfl rfl qrA ?_;refine dq rfl rfl (zbt (out:= [iv (zkm h x r),iv x]) rfl (by rfl)) ?_
  refine dq rfl rfl (zsz (zbl (enc:=za1) (k:=(zkm h x r,x)) 0 rfl rfl) (show iv _=iv (zc5 h (zkm h x r) x) from congrArg iv (zw1 _ _ _))) ?_
  refine dq rfl rfl qrA ?_;refine dq rfl rfl qrA ?_;refine dq rfl rfl qrA ?_;refine dq rfl rfl (j7 (out:=j3 ⟨e.t,zkm h x r,yd1 e.kind,a,zc5 h (zkm h x r) x,x,e.p⟩) rfl (by rfl)) ?_
  refine rn ?_;refine dw 0 rfl rfl rfl rfl rfl (Nat.le_of_ble_eq_true rfl) ?_
  refine rn2 ?_;show zch _ _ _ _ _ _ ⟨_,.box b7 41 (j3 ⟨e.t,zkm h x r,yd1 e.kind,a,zc5 h (zkm h x r) x,x,e.p⟩):: .box be 60 (evR e):: .box ba 3 [iv (a:Int)]:: .box bp 119 (rwP h rc rl rk rg)::rgR rg M::rkS h rk::zcg h rl::rcR h rc:: .glob 2 156 y3:: .glob 4 305 y4:: .glob 5 308 y2:: .glob 3 246 q7:: .glob 1 175 zcr:: .glob 0 171 [mpv rO]:: .obj rO oK::W,_⟩
  refine rn ?_;exact zej (.cons _ _ _ _ (.agg _ _ _ _ _ _ _ rfl inferInstance inferInstance inferInstance rfl) (.cons _ _ _ _ (.tmp _ _ rfl) .nil)) (.drop [_] _ _) ⟨rfl,by rw [yab,zrk,if_neg hr,if_neg hr];rfl⟩
theorem ykr (h:Hist) (a:Nat) (rc rl rk rg:Nat) (W:List Res):y7 Tryz.prog 88 [.agg (rwP h rc rl rk rg),iv (a:Int)] W (fun r h'=>∃ba bp,h'= .box ba 3 [iv (a:Int)]:: .box bp 119 (rwP h rc rl rk rg)::W∧r= .fn (.func 134) [] [pZ bp,pZ ba]):=by
 refine z6 Tryz.func88 rfl rfl rfl ?_
 refine rn ?_;refine z8 rfl (w8 rfl rfl rfl fun b2=> ?_)
 refine z8 rfl (w8 rfl rfl rfl fun b3=> ?_)
 refine rn ?_;exact j6 rfl (.refl _ _) ⟨_,_,rfl,rfl⟩
theorem ykq {σ:Type} (h:Hist) (la:Lim 4611686018427387904 h) (hc:v7 h=0) (a:Nat) (ha:a < h.evs.length) (y:AV) (bp ba:Nat) (rc rl rk rg:Nat) (M0:List ((Int×Int)×List Int)) (hM0:zf6 h M0) (rO:Nat) (oK:Obj) (hK:KO oK) (p:List Conf→σ→Prop) (q:σ→Prop) (I:List Conf→σ→List Res) (X:σ→List Res) (x0:σ) (hp0:p [] x0) (hy:∀pre d rest x M,zid h h.evs[a] a=pre++d::rest→p pre x→zf6 h M→y1 Tryz.prog y [.agg (j3 d)] (.box ba 3 [iv (a:Int)]:: .box bp 119 (rwP h rc rl rk rg)::rgR rg M::rkS h rk::zcg h rl::rcR h rc:: .glob 2 156 y3:: .glob 4 305 y4:: .glob 5 308 y2:: .glob 3 246 q7:: .glob 1 175 zcr:: .glob 0 171 [mpv rO]:: .obj rO oK::I pre x) (fun r h'=>∃x',(r=bv true∧p (pre++ [d]) x'∧h'= .box ba 3 [iv (a:Int)]:: .box bp 119 (rwP h rc rl rk rg)::rgR rg M::rkS h rk::zcg h rl::rcR h rc:: .glob 2 156 y3:: .glob 4 305 y4:: .glob 5 308 y2:: .glob 3 246 q7:: .glob 1 175 zcr:: .glob 0 171 [mpv rO]:: .obj rO oK::I (pre++ [d]) x')∨(r=bv false∧q x'∧h'= .box ba 3 [iv (a:Int)]:: .box bp 119 (rwP h rc rl rk rg)::rgR rg M::rkS h rk::zcg h rl::rcR h rc:: .glob 2 156 y3:: .glob 4 305 y4:: .glob 5 308 y2:: .glob 3 246 q7:: .glob 1 175 zcr:: .glob 0 171 [mpv rO]:: .obj rO oK::X x'))):y7 Tryz.prog 134 [y,pZ bp,pZ ba] (.box ba 3 [iv (a:Int)]:: .box bp 119 (rwP h rc rl rk rg)::rgR rg M0::rkS h rk::zcg h rl::rcR h rc:: .glob 2 156 y3:: .glob 4 305 y4:: .glob 5 308 y2:: .glob 3 246 q7:: .glob 1 175 zcr:: .glob 0 171 [mpv rO]:: .obj rO oK::I [] x0) (fun r h'=>∃x M,zf6 h M∧((p (zid h h.evs[a] a) x∧h'= .box ba 3 [iv (a:Int)]:: .box bp 119 (rwP h rc rl rk rg)::rgR rg M::rkS h rk::zcg h rl::rcR h rc:: .glob 2 156 y3:: .glob 4 305 y4:: .glob 5 308 y2:: .glob 3 246 q7:: .glob 1 175 zcr:: .glob 0 171 [mpv rO]:: .obj rO oK::I (zid h h.evs[a] a) x)∨(q x∧h'= .box ba 3 [iv (a:Int)]:: .box bp 119 (rwP h rc rl rk rg)::rgR rg M::rkS h rk::zcg h rl::rcR h rc:: .glob 2 156 y3:: .glob 4 305 y4:: .glob 5 308 y2:: .glob 3 246 q7:: .glob 1 175 zcr:: .glob 0 171 [mpv rO]:: .obj rO oK::X x))):=by
 refine z6 Tryz.func134 rfl rfl rfl ?_
 have ra:=zae (f:=evR) ha
 have hok:=seen_ok hc (List.getElem_mem ha) a
 have hol:=hok.1
 obtain ⟨kn,k1,k6,hkn⟩:=yse hc (List.getElem_mem ha)
 refine w9 (y6 ?_)
 refine q1 ?_;refine q1 ?_;refine q1 ?_;refine q1 ?_;refine qq rfl rfl (zc9 rfl rfl ra) ?_
 refine rn ?_;refine z8 rfl (y5 rfl fun b4=> ?_)
 first|refine z8 rfl (j5 rfl rfl rfl ?_)|refine z8 rfl (zak rfl rfl rfl rfl (Nat.le_of_ble_eq_true rfl) ?_)
 refine u3 (zag ?_)
 refine w9 ?_;refine w9 (y6 ?_)
 refine q1 ?_;refine q1 ?_;refine q1 ?_;refine q1 ?_;refine qq rfl rfl (zbl (enc:=intK) (k:=h.evs[a].t) false rfl rfl) ?_
 refine rn ?_;refine z7 rfl (fun hc23=> ?_) (fun hc23=> ?_)
 ·have hm:zfb h.evs h.evs[a].t 5=false:=by rw [←zga];simpa using hc23
  refine rn ?_;exact zej .nil (.drop [_] _ _) ⟨x0,M0,hM0,.inl ⟨by rw [yef a hm];exact hp0,by rw [yef a hm]⟩⟩
 ·have hm:zfb h.evs h.evs[a].t 5=true:=by rw [←zga];simpa using hc23
  refine za8 ?_;refine rn0 ?_;refine w9 (y6 ?_)
  refine rn0 ?_;refine w9 ?_;refine zf4 9 [6] [7] (fun he=>∃M,he= .box b4 60 (evR h.evs[a]):: .box ba 3 [iv (a:Int)]:: .box bp 119 (rwP h rc rl rk rg)::rgR rg M::rkS h rk::zcg h rl::rcR h rc:: .glob 2 156 y3:: .glob 4 305 y4:: .glob 5 308 y2:: .glob 3 246 q7:: .glob 1 175 zcr:: .glob 0 171 [mpv rO]:: .obj rO oK::I [] x0) rfl rfl ⟨_,rfl⟩ ?_
  refine jq rfl (fun he hC=>by obtain ⟨M,rfl⟩:=hC <;> exact qrA) ?_
  refine jq rfl (fun he hC=>by obtain ⟨M,rfl⟩:=hC <;> exact (by exact zsz (zad rfl rfl) (show iv _=iv (kn:Nat) from congrArg iv hkn))) ?_
  refine jq rfl (fun he hC=>by obtain ⟨M,rfl⟩:=hC <;> exact (by exact zaa rfl rfl (by show kn < 7;omega))) ?_
  refine jq rfl (fun he hC=>by obtain ⟨M,rfl⟩:=hC <;> exact (by exact zad rfl (show zcr[0+kn * 1]? =some (yg9 kn) by rw [Nat.zero_add,Nat.mul_one];exact yg7 k6))) ?_
  refine jq rfl (fun he hC=>by obtain ⟨M,rfl⟩:=hC <;> exact qrA) ?_
  refine jq rfl (fun he hC=>by obtain ⟨M,rfl⟩:=hC <;> exact qrA) ?_
  refine je rfl ?_;refine je rfl ?_;refine jq rfl (fun he hC=>by obtain ⟨M,rfl⟩:=hC <;> exact qrA) ?_
  refine yix ?_;refine jce rfl fun u=> ?_
  refine v2 rfl rfl (y1.fr3 (yqp h la hc a ha rc rl rk rg M0 hM0 (.glob 1 175 zcr:: .glob 0 171 [mpv rO]:: .obj rO oK::I [] x0) k1 k6 hkn)) rfl ?_
  rintro _ _ ⟨_,rfl,M,hM,rfl,rfl⟩
  refine ⟨_,_,rfl,⟨_,rfl⟩,?_⟩
  refine jcn ?_;refine lq rfl rfl (by exact qrA) ?_
  refine ln ?_;refine rn ?_;refine zhh (u5 h h.evs[a] a).length (fun i (x:σ)=>p (((u5 h h.evs[a] a).take i).flatMap (rwF h h.evs[a] a)) x) (fun i x=>⟨[(33,iv i),(0,y),(5,.fn (.func 135) [] [pZ bp,pZ b4,pZ ba]),(31,zjl (u5 h h.evs[a] a)),(32,iv ((u5 h h.evs[a] a).map zq1).length)],.box b4 60 (evR h.evs[a]):: .box ba 3 [iv (a:Int)]:: .box bp 119 (rwP h rc rl rk rg)::rgR rg M::rkS h rk::zcg h rl::rcR h rc:: .glob 2 156 y3:: .glob 4 305 y4:: .glob 5 308 y2:: .glob 3 246 q7:: .glob 1 175 zcr:: .glob 0 171 [mpv rO]:: .obj rO oK::I (((u5 h h.evs[a] a).take i).flatMap (rwF h h.evs[a] a)) x,[]⟩) x0 hp0 es ?_
  intro i x li zi
  refine rn ?_;refine z7 rfl (fun hc34=> ?_) (fun hc34=> ?_)
  ·have hi:=zay hc34
   have ri:=zae (f:=zq1) hi
   obtain ⟨⟨o0,o1⟩,ol,orr⟩:=hok.2 _ (List.getElem_mem hi)
   refine rn ?_;refine z8 rfl (y5 rfl fun b7=> ?_)
   refine rn ?_;refine zhh (u5 h h.evs[a] a)[i].2.length (fun j (x:σ)=>p ((((u5 h h.evs[a] a).take i).flatMap (rwF h h.evs[a] a))++((u5 h h.evs[a] a)[i].2.take j).filterMap (zgk h h.evs[a] (zhq h.evs[a]) a (u5 h h.evs[a] a)[i].1)) x) (fun j x=>⟨[(40,iv j),(0,y),(5,.fn (.func 135) [] [pZ bp,pZ b4,pZ ba]),(7,pZ b7),(31,zjl (u5 h h.evs[a] a)),(32,iv ((u5 h h.evs[a] a).map zq1).length),(33,iv i),(38,zaq (u5 h h.evs[a] a)[i].2),(39,iv ((u5 h h.evs[a] a)[i].2.map zai).length)],.box b7 177 (zq1 (u5 h h.evs[a] a)[i]):: .box b4 60 (evR h.evs[a]):: .box ba 3 [iv (a:Int)]:: .box bp 119 (rwP h rc rl rk rg)::rgR rg M::rkS h rk::zcg h rl::rcR h rc:: .glob 2 156 y3:: .glob 4 305 y4:: .glob 5 308 y2:: .glob 3 246 q7:: .glob 1 175 zcr:: .glob 0 171 [mpv rO]:: .obj rO oK::I ((((u5 h h.evs[a] a).take i).flatMap (rwF h h.evs[a] a))++((u5 h h.evs[a] a)[i].2.take j).filterMap (zgk h h.evs[a] (zhq h.evs[a]) a (u5 h h.evs[a] a)[i].1)) x,[]⟩) x (by simpa using zi) (by simpa using eA) ?_
   intro j x lj zj
   refine rn ?_;refine z7 rfl (fun hc41=> ?_) (fun hc41=> ?_)
   ·have hj:=zay hc41
    have rj:=zae (f:=zai) hj
    obtain ⟨u1,u2⟩:=orr _ (List.getElem_mem hj)
    refine rn ?_;refine qv rfl rfl (y0 rfl rfl (y1.qt (y1.of_acall (fs:= []) (cs:= [pZ bp,pZ b4,pZ ba]) (yqs h (u5 h h.evs[a] a)[i].1 (u5 h h.evs[a] a)[i].2[j] o0 o1 u1 u2 h.evs[a] a bp b4 ba rc rl rk rg M rO oK hK (I ((((u5 h h.evs[a] a).take i).flatMap (rwF h h.evs[a] a))++((u5 h h.evs[a] a)[i].2.take j).filterMap (zgk h h.evs[a] (zhq h.evs[a]) a (u5 h h.evs[a] a)[i].1)) x))) (List.perm_append_comm (l₁:= [_])))) ?_
    refine rn ?_;refine z8 rfl (y5 rfl fun b10=> ?_)
    refine rn ?_;refine w7 (fun hg10_1=> ?_) (fun hg10_1=> ?_)
    ·refine q1 ?_;refine q1 ?_;obtain ⟨rest,hL⟩:=yqz hm hi hj (yle hg10_1)
     refine z8 rfl (v2 rfl rfl (y1.fr3 (hy ((((u5 h h.evs[a] a).take i).flatMap (rwF h h.evs[a] a))++((u5 h h.evs[a] a)[i].2.take j).filterMap (zgk h h.evs[a] (zhq h.evs[a]) a (u5 h h.evs[a] a)[i].1)) _ rest x M hL zj hM)) rfl ?_)
     rintro _ _ ⟨_,rfl,x',⟨rfl,hp',rfl⟩|⟨rfl,hq',rfl⟩⟩
     ·refine rn ?_;refine z7 rfl (fun hc58=> ?_) (fun hc58=> ?_)
      ·first|cases hc58|exact absurd hc58 (by decide)|(exfalso;simp_all;done)
      ·refine rn ?_;first|exact ⟨hj,x',by rw [yt3 hj hg10_1];exact hp',by rw [yt3 hj hg10_1];exact eA⟩|exact ⟨hj,x,by rw [yt4 hj hg10_1];exact zj,by rw [yt4 hj hg10_1];exact eA⟩
     ·refine rn ?_;refine z7 rfl (fun hc58=> ?_) (fun hc58=> ?_)
      ·refine rn ?_;exact zej .nil (.drop [_,_,_] _ _) ⟨x',M,hM,.inr ⟨hq',rfl⟩⟩
      ·first|cases hc58|exact absurd hc58 (by decide)|(exfalso;simp_all;done)
    ·refine rn ?_;refine zdo rfl ?_;refine rn ?_;first|exact ⟨hj,x',by rw [yt3 hj hg10_1];exact hp',by rw [yt3 hj hg10_1];exact eA⟩|exact ⟨hj,x,by rw [yt4 hj hg10_1];exact zj,by rw [yt4 hj hg10_1];exact eA⟩
   ·have qj:=zaz hc41 lj
    refine rn ?_;exact ⟨hi,x,by rw [←yks hi qj];exact zj,by rw [←yks hi qj];exact eA⟩
  ·have qi:=zaz hc34 li
   refine rn ?_;exact zd4 .nil (.drop [_] _ _) ⟨x,M,hM,.inl ⟨by rw [zv2 a hm];rw [qi,List.take_length] at zi;exact zi,by rw [zv2 a hm,qi,List.take_length]⟩⟩
theorem yns {α:Type} (x1 x2 x3 x4 x5 x6 x7 x8 x9 x10 x11 x12 x13 x:α) (l:List α):(x1::x2::x3::x4::x5::x6::x7::x8::x9::x10::x11::x12::x13::x::l).Perm (x::x1::x2::x3::x4::x5::x6::x7::x8::x9::x10::x11::x12::x13::l):=(List.Perm.cons x1 (yu9 x2 x3 x4 x5 x6 x7 x8 x9 x10 x11 x12 x13 x l)).trans (.swap x x1 _)
theorem yxl {α:Type} (x1 x2 x3 x4 x5 x6 x7 x8 x9 x10 x11 x12 x13 x14 x:α) (l:List α):(x1::x2::x3::x4::x5::x6::x7::x8::x9::x10::x11::x12::x13::x14::x::l).Perm (x::x1::x2::x3::x4::x5::x6::x7::x8::x9::x10::x11::x12::x13::x14::l):=(List.Perm.cons x1 (yns x2 x3 x4 x5 x6 x7 x8 x9 x10 x11 x12 x13 x14 x l)).trans (.swap x x1 _)
def cfz:Conf:=⟨0,0,0,0,0,0,0⟩
abbrev gC (c:Conf):AV:= .agg (j3 c)
instance:ZV (.agg #[.int .i64 0,.int .i64 0,.int .i64 0,.int .i64 0,.int .i64 0,.int .i64 0,.int .i64 0]) (gC cfz):=⟨fun w O u h=>by
 rw [h.v_eq]
 refine .agg _ _ rfl fun j h1 h2=> ?_
 match j,h1,h2 with
 |0,_,_=>exact .v _
 |1,_,_=>exact .v _
 |2,_,_=>exact .v _
 |3,_,_=>exact .v _
 |4,_,_=>exact .v _
 |5,_,_=>exact .v _
 |6,_,_=>exact .v _
 |j+7,h1,_=>exact absurd h1 (by show ¬j+7 < 7;omega)⟩
theorem ylr {m:List ((Int×Int)×Conf)} {c:Conf} (h:(!(za6 (c.f,c.t) m).isSome)=true∨decide (zi2 c ((za6 (c.f,c.t) m).getD cfz) < 0)=true):zfu m c=zdy (c.f,c.t) c m:=by
 unfold zfu
 rw [show zmf c=(c.f,c.t) from rfl]
 cases hq:za6 (c.f,c.t) m with
 |none=>rfl
 |some b=>
  rw [hq] at h
  simp only
  rcases h with h|h
  ·simp at h
  ·rw [if_pos (by simpa using h)]
theorem ytj {m:List ((Int×Int)×Conf)} {c:Conf} (h1:(!(za6 (c.f,c.t) m).isSome)=false) (h2:decide (zi2 c ((za6 (c.f,c.t) m).getD cfz) < 0)=false):zfu m c=m:=by
 unfold zfu
 rw [show zmf c=(c.f,c.t) from rfl]
 cases hq:za6 (c.f,c.t) m with
 |none=>rw [hq] at h1;simp at h1
 |some b=>
  rw [hq] at h2
  simp only
  rw [if_neg (by simpa using h2)]
theorem zgm {α β:Type} (f:α→List β) (c:Nat):∀l:List α,(∀a∈l,(f a).length≤c)→(l.flatMap f).length≤l.length * c
 | [],_=>by simp
 |a::l,hf=>by
  have:=zgm f c l fun x hx=>hf x (List.mem_cons_of_mem _ hx)
  have:=hf a (by simp)
  rw [List.flatMap_cons,List.length_append,List.length_cons,Nat.succ_mul];omega
theorem zx9 {h:Hist} (hc:v7 h=0) {a:Nat} (ha:a < h.evs.length):(zid h h.evs[a] a).length≤16000000:=by
 obtain ⟨h1,h2⟩:=seen_ok hc (List.getElem_mem ha) a
 rw [zid]
 split
 ·refine Nat.le_trans (zgm _ 4000 _ fun p hp=>Nat.le_trans (List.length_filterMap_le _ _) (h2 p hp).2.1) ?_
  omega
 ·exact Nat.zero_le _
def yf7 (L:List ((Int×Int)×Conf)) (sn:List Nat):List Conf:=sn.reverse.map fun i=>((L[i]?).map Prod.snd).getD cfz
theorem zxv (L:List ((Int×Int)×Conf)) (sn:List Nat):(yf7 L sn).length=sn.length:=by simp [yf7]
theorem yrn {L:List ((Int×Int)×Conf)} {i:Nat} {sn:List Nat} (hi:i < L.length):yf7 L (i::sn)=yf7 L sn++ [L[i].2]:=by
 simp [yf7,List.getElem?_eq_getElem hi]
theorem zzu (L:List ((Int×Int)×Conf)):(List.range L.length).map (fun i=>((L[i]?).map Prod.snd).getD cfz)=L.map Prod.snd:=by
 refine List.ext_getElem (by simp) fun i h1 h2=> ?_
 simp at h1
 simp [List.getElem?_eq_getElem h1]
theorem yda {L:List ((Int×Int)×Conf)} {sn:List Nat} (hn:sn.Nodup) (hl:∀i∈sn,i < L.length) (ha:∀i,i < L.length→i∈sn):(yf7 L sn).Perm (L.map Prod.snd):=by
 rw [←zzu,yf7]
 refine List.Perm.map _ ((List.reverse_perm sn).trans ?_)
 exact (List.perm_ext_iff_of_nodup hn List.nodup_range).2 fun i=>by rw [List.mem_range];exact ⟨hl i,ha i⟩
theorem yuu (h:Hist) (la:Lim 4611686018427387904 h) (rO:Nat) (oK:Obj):y7 Tryz.prog 87 [.agg (y9 h)] (.glob 2 156 y3:: .glob 4 305 y4:: .glob 5 308 y2:: .glob 3 246 q7:: .glob 1 175 zcr:: .glob 0 171 [mpv rO]:: .obj rO oK:: []) (fun r h'=>(v7 h=0∧∃rc rl rk rg,h'=rgR rg []::rkS h rk::zcg h rl::rcR h rc:: .glob 2 156 y3:: .glob 4 305 y4:: .glob 5 308 y2:: .glob 3 246 q7:: .glob 1 175 zcr:: .glob 0 171 [mpv rO]:: .obj rO oK:: []∧r= .tup [.agg (rwP h rc rl rk rg),iv 0])∨(v7 h≠0∧h'= .glob 2 156 y3:: .glob 4 305 y4:: .glob 5 308 y2:: .glob 3 246 q7:: .glob 1 175 zcr:: .glob 0 171 [mpv rO]:: .obj rO oK:: []∧r= .tup [.agg (zo7++ [nmp,.v (.slice none 0 0),nmp,nmp,nmp]),iv (v7 h)])):=
 ((yxb h la).frame [.glob 1 175 zcr,.glob 0 171 [mpv rO],.obj rO oK]).mono (by
   rintro _ _ ⟨_,rfl,⟨hc,rc,rl,rk,rg,rfl,rfl⟩|⟨hc,rfl,rfl⟩⟩
   ·exact .inl ⟨hc,rc,rl,rk,rg,rfl,rfl⟩
   ·exact .inr ⟨hc,rfl,rfl⟩)
theorem zqq {h:Hist} {F:Ev→Nat→List Conf} {j:Nat} (hj:j < h.evs.length) (hd:zfb h.evs h.evs[j].t 5=true):zaf h F (j+1)=zaf h F j++F h.evs[j] j:=by
 rw [zaf,List.getElem?_eq_getElem hj];simp only;rw [if_pos hd]
theorem zuj {h:Hist} {F:Ev→Nat→List Conf} {j:Nat} (hj:j < h.evs.length) (hd:zfb h.evs h.evs[j].t 5=false):zaf h F (j+1)=zaf h F j:=by
 rw [zaf,List.getElem?_eq_getElem hj];simp only;rw [hd,if_neg (by decide),List.append_nil]
theorem zwz {h:Hist} {F:Ev→Nat→List Conf} {m:Nat}:∀{n},m≤n→∃R,zaf h F n=zaf h F m++R
 |0,hm=>⟨[],by rw [Nat.le_zero.1 hm,List.append_nil]⟩
 |n+1,hm=>by
  by_cases e:m=n+1
  ·exact ⟨[],by rw [e,List.append_nil]⟩
  ·obtain ⟨R,hR⟩:=zwz (h:=h) (F:=F) (m:=m) (n:=n) (by omega)
   exact ⟨_,by rw [zaf,hR,List.append_assoc]⟩
theorem ya5 {h:Hist} {F:Ev→Nat→List Conf} {j:Nat} (hj:j < h.evs.length) (hd:zfb h.evs h.evs[j].t 5=true) {pre rest:List Conf} {d:Conf} (hL:F h.evs[j] j=pre++d::rest):∃R,zaf h F h.evs.length=(zaf h F j++pre)++d::R:=by
 obtain ⟨R,hR⟩:=zwz (h:=h) (F:=F) (m:=j+1) (n:=h.evs.length) hj
 exact ⟨rest++R,by rw [hR,zqq hj hd,hL];simp [List.append_assoc]⟩
def yfz (h:Hist) (each:AV) (g:Nat) (F:Ev→Nat→List Conf) (bl rd rf rk rg:Nat):Prop:=
 (∀(a:Nat) (W:List Res),y1 Tryz.prog each [iv (a:Int)] W (fun r h'=>∃ba bp,h'= .box ba 3 [iv (a:Int)]:: .box bp 147 [pZ bl]::W∧r= .fn (.func g) [] [pZ bp,pZ ba]))∧
 ∀(σ:Type) (a:Nat) (ha:a < h.evs.length) (y:AV) (bp ba:Nat) (M0:List ((Int×Int)×List Int)) (hM0:zf6 h M0) (pP:List Conf→σ→Prop) (qP:σ→Prop) (I:List Conf→σ→List Res) (X:σ→List Res) (x0:σ) (hp0:pP [] x0) (_hy:∀pre d rest x M,(F h.evs[a] a)=pre++d::rest→pP pre x→zf6 h M→y1 Tryz.prog y [.agg (j3 d)] (.box ba 3 [iv (a:Int)]:: .box bp 147 [pZ bl]:: .box bl 202 (wrP h rd rf rk rg)::rgR rg M::rkS h rk::zd0 h rf::rcR h rd:: .glob 2 156 y3:: .glob 4 305 y4:: .glob 5 308 y2:: .glob 3 246 q7::I pre x) (fun r h'=>∃x',(r=bv true∧pP (pre++ [d]) x'∧h'= .box ba 3 [iv (a:Int)]:: .box bp 147 [pZ bl]:: .box bl 202 (wrP h rd rf rk rg)::rgR rg M::rkS h rk::zd0 h rf::rcR h rd:: .glob 2 156 y3:: .glob 4 305 y4:: .glob 5 308 y2:: .glob 3 246 q7::I (pre++ [d]) x')∨(r=bv false∧qP x'∧h'= .box ba 3 [iv (a:Int)]:: .box bp 147 [pZ bl]:: .box bl 202 (wrP h rd rf rk rg)::rgR rg M::rkS h rk::zd0 h rf::rcR h rd:: .glob 2 156 y3:: .glob 4 305 y4:: .glob 5 308 y2:: .glob 3 246 q7::X x'))),
  y7 Tryz.prog g [y,pZ bp,pZ ba] (.box ba 3 [iv (a:Int)]:: .box bp 147 [pZ bl]:: .box bl 202 (wrP h rd rf rk rg)::rgR rg M0::rkS h rk::zd0 h rf::rcR h rd:: .glob 2 156 y3:: .glob 4 305 y4:: .glob 5 308 y2:: .glob 3 246 q7::I [] x0) (fun r h'=>∃x M,zf6 h M∧((pP (F h.evs[a] a) x∧h'= .box ba 3 [iv (a:Int)]:: .box bp 147 [pZ bl]:: .box bl 202 (wrP h rd rf rk rg)::rgR rg M::rkS h rk::zd0 h rf::rcR h rd:: .glob 2 156 y3:: .glob 4 305 y4:: .glob 5 308 y2:: .glob 3 246 q7::I (F h.evs[a] a) x)∨(qP x∧h'= .box ba 3 [iv (a:Int)]:: .box bp 147 [pZ bl]:: .box bl 202 (wrP h rd rf rk rg)::rgR rg M::rkS h rk::zd0 h rf::rcR h rd:: .glob 2 156 y3:: .glob 4 305 y4:: .glob 5 308 y2:: .glob 3 246 q7::X x)))
theorem zph (h:Hist) (la:Lim 4611686018427387904 h) (hc:v7 h=0) (bl rd rf rk rg:Nat):yfz h (.fn (.func 114) [pZ bl] []) 158 (zcy h) bl rd rf rk rg:=
 ⟨fun a W=>y1.of_acall (fs:= [pZ bl]) (cs:= []) (ygn a bl W),fun _ a ha y bp ba M0 hM0 p q I X x0 hp0 hy=>yl6 h la hc a ha y bp ba bl rd rf rk rg M0 hM0 p q I X x0 hp0 hy⟩
theorem zpg (h:Hist) (la:Lim 4611686018427387904 h) (hc:v7 h=0) (bl rd rf rk rg:Nat):yfz h (.fn (.func 115) [pZ bl] []) 160 (zet h) bl rd rf rk rg:=
 ⟨fun a W=>y1.of_acall (fs:= [pZ bl]) (cs:= []) (ygl a bl W),fun _ a ha y bp ba M0 hM0 p q I X x0 hp0 hy=>yl4 h la hc a ha y bp ba bl rd rf rk rg M0 hM0 p q I X x0 hp0 hy⟩
theorem ya6 (bl ee:Nat) (W:List Res):y7 Tryz.prog 113 [pZ bl,(.fn (.func ee) [pZ bl] [])] W (fun r h'=>∃bE bL,h'= .box bE 95 [(.fn (.func ee) [pZ bl] [])]:: .box bL 147 [pZ bl]::W∧r= .fn (.func 157) [] [pZ bL,pZ bE]):=by
 refine z6 Tryz.func113 rfl rfl rfl ?_
 refine rn ?_;refine z8 rfl (w8 rfl rfl rfl fun b2=> ?_)
 refine z8 rfl (w8 rfl rfl rfl fun b3=> ?_)
 refine rn ?_;exact j6 rfl (.refl _ _) ⟨_,_,rfl,rfl⟩
theorem yc3 (q:Nat) (A B:List Res) (dfs:List Nat):(Res.defs q::(A++(B++dfs.map Res.defs))).Perm (A++(B++(q::dfs).map Res.defs)):=by
 rw [←List.append_assoc,←List.append_assoc];exact List.perm_middle.symm
theorem zxu (A B:List Res) (dfs:List Nat):(A++(B++dfs.map Res.defs)).Perm (dfs.map Res.defs++(A++B)):=by
 rw [←List.append_assoc];exact List.perm_append_comm
theorem ykc {σ:Type} (h:Hist) (la:Lim 4611686018427387904 h) (ee g:Nat) [Go.Ab.Enters Tryz.prog g] (F:Ev→Nat→List Conf) (bl rd rf rk rg:Nat) (hT:yfz h (.fn (.func ee) [pZ bl] []) g F bl rd rf rk rg) (y:AV) (hone:y.cellsOf=some [y]) (bL bE:Nat) (M0:List ((Int×Int)×List Int)) (hM0:zf6 h M0) (pP:List Conf→σ→Prop) (qP:σ→Prop) (I:List Conf→σ→List Res) (X:σ→List Res) (x0:σ) (hp0:pP [] x0) (hy:∀pre d rest x M,(zaf h F h.evs.length)=pre++d::rest→pP pre x→zf6 h M→y1 Tryz.prog y [.agg (j3 d)] (.box bE 95 [(.fn (.func ee) [pZ bl] [])]:: .box bL 147 [pZ bl]:: .box bl 202 (wrP h rd rf rk rg)::rgR rg M::rkS h rk::zd0 h rf::rcR h rd:: .glob 2 156 y3:: .glob 4 305 y4:: .glob 5 308 y2:: .glob 3 246 q7::I pre x) (fun r h'=>∃x',(r=bv true∧pP (pre++ [d]) x'∧h'= .box bE 95 [(.fn (.func ee) [pZ bl] [])]:: .box bL 147 [pZ bl]:: .box bl 202 (wrP h rd rf rk rg)::rgR rg M::rkS h rk::zd0 h rf::rcR h rd:: .glob 2 156 y3:: .glob 4 305 y4:: .glob 5 308 y2:: .glob 3 246 q7::I (pre++ [d]) x')∨(r=bv false∧qP x'∧h'= .box bE 95 [(.fn (.func ee) [pZ bl] [])]:: .box bL 147 [pZ bl]:: .box bl 202 (wrP h rd rf rk rg)::rgR rg M::rkS h rk::zd0 h rf::rcR h rd:: .glob 2 156 y3:: .glob 4 305 y4:: .glob 5 308 y2:: .glob 3 246 q7::X x'))):y7 Tryz.prog 157 [y,pZ bL,pZ bE] (.box bE 95 [(.fn (.func ee) [pZ bl] [])]:: .box bL 147 [pZ bl]:: .box bl 202 (wrP h rd rf rk rg)::rgR rg M0::rkS h rk::zd0 h rf::rcR h rd:: .glob 2 156 y3:: .glob 4 305 y4:: .glob 5 308 y2:: .glob 3 246 q7::I [] x0) (fun r h'=>∃x M,zf6 h M∧((pP (zaf h F h.evs.length) x∧h'= .box bE 95 [(.fn (.func ee) [pZ bl] [])]:: .box bL 147 [pZ bl]:: .box bl 202 (wrP h rd rf rk rg)::rgR rg M::rkS h rk::zd0 h rf::rcR h rd:: .glob 2 156 y3:: .glob 4 305 y4:: .glob 5 308 y2:: .glob 3 246 q7::I (zaf h F h.evs.length) x)∨(qP x∧h'= .box bE 95 [(.fn (.func ee) [pZ bl] [])]:: .box bL 147 [pZ bl]:: .box bl 202 (wrP h rd rf rk rg)::rgR rg M::rkS h rk::zd0 h rf::rcR h rd:: .glob 2 156 y3:: .glob 4 305 y4:: .glob 5 308 y2:: .glob 3 246 q7::X x))):=by
 refine z6 Tryz.func157 rfl rfl rfl ?_
 have be:=la.evs
 have hyF:∀pre d rest x M (W:List Res),(zaf h F h.evs.length)=pre++d::rest→pP pre x→zf6 h M→y1 Tryz.prog y [.agg (j3 d)] (.box bE 95 [(.fn (.func ee) [pZ bl] [])]:: .box bL 147 [pZ bl]:: .box bl 202 (wrP h rd rf rk rg)::rgR rg M::rkS h rk::zd0 h rf::rcR h rd:: .glob 2 156 y3:: .glob 4 305 y4:: .glob 5 308 y2:: .glob 3 246 q7::(I pre x++W)) (fun r h'=>∃x',(r=bv true∧pP (pre++ [d]) x'∧h'= .box bE 95 [(.fn (.func ee) [pZ bl] [])]:: .box bL 147 [pZ bl]:: .box bl 202 (wrP h rd rf rk rg)::rgR rg M::rkS h rk::zd0 h rf::rcR h rd:: .glob 2 156 y3:: .glob 4 305 y4:: .glob 5 308 y2:: .glob 3 246 q7::(I (pre++ [d]) x'++W))∨(r=bv false∧qP x'∧h'= .box bE 95 [(.fn (.func ee) [pZ bl] [])]:: .box bL 147 [pZ bl]:: .box bl 202 (wrP h rd rf rk rg)::rgR rg M::rkS h rk::zd0 h rf::rcR h rd:: .glob 2 156 y3:: .glob 4 305 y4:: .glob 5 308 y2:: .glob 3 246 q7::(X x'++W))):=fun pre d rest x M W e hp hM=>((hy pre d rest x M e hp hM).frame W).mono (by
  rintro _ _ ⟨_,rfl,x',⟨rfl,hp',rfl⟩|⟨rfl,hq',rfl⟩⟩
  ·exact ⟨x',.inl ⟨rfl,hp',rfl⟩⟩
  ·exact ⟨x',.inr ⟨rfl,hq',rfl⟩⟩)
 refine rn ?_;refine z8 rfl (w8 rfl hone rfl fun b3=> ?_)
 refine rn ?_;refine zhh h.evs.length (fun j (z:σ×List ((Int×Int)×List Int)×List Nat)=>pP (zaf h F j) z.1∧zf6 h z.2.1) (fun j z=>⟨[(13,iv j),(1,pZ bL),(2,pZ bE),(3,pZ b3),(11,zoc h.evs),(12,iv (h.evs.map evR).length)],.box b3 76 [y]:: .box bE 95 [(.fn (.func ee) [pZ bl] [])]:: .box bL 147 [pZ bl]:: .box bl 202 (wrP h rd rf rk rg)::rgR rg z.2.1::rkS h rk::zd0 h rf::rcR h rd:: .glob 2 156 y3:: .glob 4 305 y4:: .glob 5 308 y2:: .glob 3 246 q7::(I (zaf h F j) z.1++(z.2.2.map Res.defs)),z.2.2⟩) (x0,M0,[]) ⟨hp0,hM0⟩ (by simp only [List.map_nil,List.append_nil];exact es) ?_
 rintro j ⟨x,M,dfs⟩ lj ⟨hx,hM⟩
 have hx:pP (zaf h F j) x:=hx
 have hM:zf6 h M:=hM
 show aw _ _ _ _ _ ⟨[(13,iv j),(1,pZ bL),(2,pZ bE),(3,pZ b3),(11,zoc h.evs),(12,iv (h.evs.map evR).length)],.box b3 76 [y]:: .box bE 95 [(.fn (.func ee) [pZ bl] [])]:: .box bL 147 [pZ bl]:: .box bl 202 (wrP h rd rf rk rg)::rgR rg M::rkS h rk::zd0 h rf::rcR h rd:: .glob 2 156 y3:: .glob 4 305 y4:: .glob 5 308 y2:: .glob 3 246 q7::(I (zaf h F j) x++(dfs.map Res.defs)),dfs⟩
 refine rn ?_;refine z7 rfl (fun hc14=> ?_) (fun hc14=> ?_)
 ·have hj:=zay hc14
  have rj:=zae (f:=evR) hj
  refine rn ?_;refine z8 rfl (y5 rfl fun b5=> ?_)
  refine rn ?_;refine u4 6 rfl ?_
  refine rn2 ?_;refine qq rfl rfl (zbl (enc:=intK) (k:=h.evs[j].t) false rfl rfl) ?_
  refine rn ?_;refine z7 rfl (fun hc25=> ?_) (fun hc25=> ?_)
  ·have hd:zfb h.evs h.evs[j].t 5=false:=by rw [←zga];simpa using hc25
   have hw:zaf h F (j+1)=(zaf h F j):=zuj hj hd
   refine rn ?_;exact ⟨hj,(x,M,dfs),⟨by simp only;rw [hw];exact hx,hM⟩,by simp only;rw [hw];exact eA⟩
  ·have hd:zfb h.evs h.evs[j].t 5=true:=by rw [←zga];simpa using hc25
   have hw:=zqq (F:=F) hj hd
   refine rn ?_;refine z8 rfl (v2 rfl rfl (hT.1 j _) rfl ?_)
   rintro _ _ ⟨ba,bp,rfl,rfl⟩
   refine rn ?_;refine zmh (fun pend h''=>∃x M,zf6 h M∧((pend=none∧pP ((zaf h F j)++(F h.evs[j] j)) x∧h''= .box ba 3 [iv (j:Int)]:: .box bp 147 [pZ bl]:: .box bl 202 (wrP h rd rf rk rg)::rgR rg M::rkS h rk::zd0 h rf::rcR h rd:: .glob 2 156 y3:: .glob 4 305 y4:: .glob 5 308 y2:: .glob 3 246 q7:: .box b5 60 (evR h.evs[j]):: .box b3 76 [y]:: .box bE 95 [(.fn (.func ee) [pZ bl] [])]:: .box bL 147 [pZ bl]::(I ((zaf h F j)++(F h.evs[j] j)) x++(dfs.map Res.defs)))∨(pend=some .ret∧qP x∧h''= .box ba 3 [iv (j:Int)]:: .box bp 147 [pZ bl]:: .box bl 202 (wrP h rd rf rk rg)::rgR rg M::rkS h rk::zd0 h rf::rcR h rd:: .glob 2 156 y3:: .glob 4 305 y4:: .glob 5 308 y2:: .glob 3 246 q7:: .box b5 60 (evR h.evs[j]):: .box b3 76 [y]:: .box bE 95 [(.fn (.func ee) [pZ bl] [])]:: .box bL 147 [pZ bl]::(X x++(dfs.map Res.defs))))) rfl (fun fn l q lp hlp=> ?_) (fun q h'' hK=> ?_) (fun q h'' cc hK=> ?_)
   ·suffices hy2:∀pre d rest x M,(F h.evs[j] j)=pre++d::rest→pP ((zaf h F j)++pre) x→zf6 h M→y1 Tryz.prog (yv l) [.agg (j3 d)] (.box ba 3 [iv (j:Int)]:: .box bp 147 [pZ bl]:: .box bl 202 (wrP h rd rf rk rg)::rgR rg M::rkS h rk::zd0 h rf::rcR h rd:: .glob 2 156 y3:: .glob 4 305 y4:: .glob 5 308 y2:: .glob 3 246 q7::lp .ready none:: .defs q:: .box b5 60 (evR h.evs[j]):: .box b3 76 [y]:: .box bE 95 [(.fn (.func ee) [pZ bl] [])]:: .box bL 147 [pZ bl]::(I ((zaf h F j)++pre) x++(dfs.map Res.defs))) (fun r h'=>∃x',(r=bv true∧pP ((zaf h F j)++(pre++ [d])) x'∧h'= .box ba 3 [iv (j:Int)]:: .box bp 147 [pZ bl]:: .box bl 202 (wrP h rd rf rk rg)::rgR rg M::rkS h rk::zd0 h rf::rcR h rd:: .glob 2 156 y3:: .glob 4 305 y4:: .glob 5 308 y2:: .glob 3 246 q7::lp .ready none:: .defs q:: .box b5 60 (evR h.evs[j]):: .box b3 76 [y]:: .box bE 95 [(.fn (.func ee) [pZ bl] [])]:: .box bL 147 [pZ bl]::(I ((zaf h F j)++(pre++ [d])) x'++(dfs.map Res.defs)))∨(r=bv false∧qP x'∧h'= .box ba 3 [iv (j:Int)]:: .box bp 147 [pZ bl]:: .box bl 202 (wrP h rd rf rk rg)::rgR rg M::rkS h rk::zd0 h rf::rcR h rd:: .glob 2 156 y3:: .glob 4 305 y4:: .glob 5 308 y2:: .glob 3 246 q7::lp .done (some .ret):: .defs q:: .box b5 60 (evR h.evs[j]):: .box b3 76 [y]:: .box bE 95 [(.fn (.func ee) [pZ bl] [])]:: .box bL 147 [pZ bl]::(X x'++(dfs.map Res.defs)))) by
     have hq:=hT.2 σ j hj (yv l) bp ba M hM (fun pre x=>pP ((zaf h F j)++pre) x) qP (fun pre x=>lp .ready none:: .defs q:: .box b5 60 (evR h.evs[j]):: .box b3 76 [y]:: .box bE 95 [(.fn (.func ee) [pZ bl] [])]:: .box bL 147 [pZ bl]::(I ((zaf h F j)++pre) x++(dfs.map Res.defs))) (fun x=>lp .done (some .ret):: .defs q:: .box b5 60 (evR h.evs[j]):: .box b3 76 [y]:: .box bE 95 [(.fn (.func ee) [pZ bl] [])]:: .box bL 147 [pZ bl]::(X x++(dfs.map Res.defs))) x (by rw [List.append_nil];exact hx) hy2
     simp only [List.append_nil] at hq
     refine y7.mono (y7.perm ((pt2 _ _ _ _).trans (.cons _ ((pt2 _ _ _ _).trans (.cons _ ((pt6 _ _ _ _ _ _ _ _).trans (.cons _ ((pt6 _ _ _ _ _ _ _ _).trans (.cons _ ((pt6 _ _ _ _ _ _ _ _).trans (.cons _ ((pt6 _ _ _ _ _ _ _ _).trans (.cons _ ((pt6 _ _ _ _ _ _ _ _).trans (.cons _ ((pt6 _ _ _ _ _ _ _ _).trans (.cons _ ((pt6 _ _ _ _ _ _ _ _).trans (.cons _ ((pt6 _ _ _ _ _ _ _ _).trans (.cons _ (pt6 _ _ _ _ _ _ _ _))))))))))))))))))))) hq) ?_
     rintro _ _ ⟨x,M,hM,⟨hn,rfl⟩|⟨hn,rfl⟩⟩
     ·exact ⟨none,.ready,_,((zxs _ _ _ _ _ _ _ _ _ _ _ _ _).trans (.cons _ (zxs _ _ _ _ _ _ _ _ _ _ _ _ _))),by simp,x,M,hM,.inl ⟨rfl,hn,rfl⟩⟩
     ·exact ⟨some .ret,.done,_,((zxs _ _ _ _ _ _ _ _ _ _ _ _ _).trans (.cons _ (zxs _ _ _ _ _ _ _ _ _ _ _ _ _))),by simp,x,M,hM,.inr ⟨rfl,hn,rfl⟩⟩
    intro pre d rest x M hL hpre hM
    obtain ⟨R,hL2⟩:=ya5 hj hd hL
    refine y1.perm (zxs _ _ _ _ _ _ _ _ _ _ _ _ _) (y1.ventE ?_)
    refine zdn hlp rfl rfl ?_
    refine rn ?_;refine z8 rfl (y5 rfl fun b6=> ?_)
    refine rn ?_;refine ⟨[(6,pZ b6),(3,pZ b3)],.box b6 41 (j3 d):: .box ba 3 [iv (j:Int)]:: .box bp 147 [pZ bl]:: .box bl 202 (wrP h rd rf rk rg)::rgR rg M::rkS h rk::zd0 h rf::rcR h rd:: .glob 2 156 y3:: .glob 4 305 y4:: .glob 5 308 y2:: .glob 3 246 q7:: .defs q:: .box b5 60 (evR h.evs[j]):: .box b3 76 [y]:: .box bE 95 [(.fn (.func ee) [pZ bl] [])]:: .box bL 147 [pZ bl]::(I ((zaf h F j)++pre) x++(dfs.map Res.defs)),v6 (zbb (pt1 _ _ _)) es,?_⟩
    refine zcn ?_;refine w9 (y6 ?_)
    refine q1 ?_;refine q1 ?_;refine z8 rfl (v2 rfl rfl (y1.perm (.cons _ (.cons _ (.cons _ (.cons _ ((pt9 _ _ _ _ _ _ _ _ _ _ _).trans (.cons _ ((pt9 _ _ _ _ _ _ _ _ _ _ _).trans (.cons _ ((pt9 _ _ _ _ _ _ _ _ _ _ _).trans (.cons _ ((pt9 _ _ _ _ _ _ _ _ _ _ _).trans (.cons _ (pt9 _ _ _ _ _ _ _ _ _ _ _))))))))))))) (y1.fr7 (hyF ((zaf h F j)++pre) d R x M (dfs.map Res.defs) hL2 hpre hM))) rfl ?_)
    rintro _ _ ⟨_,rfl,x',⟨rfl,hp',rfl⟩|⟨rfl,hq',rfl⟩⟩
    ·refine rn ?_;refine z7 rfl (fun hc33=> ?_) (fun hc33=> ?_)
     ·first|cases hc33|exact absurd hc33 (by decide)|(exfalso;simp_all;done)
     ·refine rn ?_;exact zdf (.refl _) ⟨_,_,.trans (.perm ((pt1 _ _ _).trans (.cons _ ((pt1 _ _ _).trans (.cons _ ((pt1 _ _ _).trans (.cons _ ((pt6 _ _ _ _ _ _ _ _).trans (.cons _ ((pt6 _ _ _ _ _ _ _ _).trans (.cons _ ((pt6 _ _ _ _ _ _ _ _).trans (.cons _ ((pt6 _ _ _ _ _ _ _ _).trans (.cons _ ((pt6 _ _ _ _ _ _ _ _).trans (.cons _ ((pt6 _ _ _ _ _ _ _ _).trans (.cons _ ((pt6 _ _ _ _ _ _ _ _).trans (.cons _ ((pt6 _ _ _ _ _ _ _ _).trans (.cons _ (pt6 _ _ _ _ _ _ _ _))))))))))))))))))))))) _) (.drop [_] _ _),x',.inl ⟨rfl,by rw [←List.append_assoc];exact hp',by rw [←List.append_assoc]⟩⟩
    ·refine rn ?_;refine z7 rfl (fun hc33=> ?_) (fun hc33=> ?_)
     ·refine rn ?_;exact zq3 (.refl _) ⟨_,_,.trans (.perm ((pt1 _ _ _).trans (.cons _ ((pt1 _ _ _).trans (.cons _ ((pt1 _ _ _).trans (.cons _ ((pt6 _ _ _ _ _ _ _ _).trans (.cons _ ((pt6 _ _ _ _ _ _ _ _).trans (.cons _ ((pt6 _ _ _ _ _ _ _ _).trans (.cons _ ((pt6 _ _ _ _ _ _ _ _).trans (.cons _ ((pt6 _ _ _ _ _ _ _ _).trans (.cons _ ((pt6 _ _ _ _ _ _ _ _).trans (.cons _ ((pt6 _ _ _ _ _ _ _ _).trans (.cons _ ((pt6 _ _ _ _ _ _ _ _).trans (.cons _ (pt6 _ _ _ _ _ _ _ _))))))))))))))))))))))) _) (.drop [_] _ _),x',.inr ⟨rfl,hq',rfl⟩⟩
     ·first|cases hc33|exact absurd hc33 (by decide)|(exfalso;simp_all;done)
   ·obtain ⟨x,M,hM,⟨_,hx,rfl⟩|⟨hc',_⟩⟩:=hK
    rotate_left
    ·cases hc'
    refine rn ?_;exact ⟨hj,(x,M,q::dfs),⟨by simp only;rw [hw];exact hx,hM⟩,by simp only;rw [hw];exact v6 (zbb ((List.Perm.cons _ ((zxs _ _ _ _ _ _ _ _ _ _ _ _ _).trans (.cons _ (.cons _ (.cons _ ((pt9 _ _ _ _ _ _ _ _ _ _ _).trans (.cons _ ((pt9 _ _ _ _ _ _ _ _ _ _ _).trans (.cons _ (pt9 _ _ _ _ _ _ _ _ _ _ _)))))))))).trans (yc3 _ [_,_,_,_,_,_,_,_,_,_,_,_,_,_,_] _ _))) (v6 (zbm (h1:= [_,_,_])) es)⟩
   ·obtain ⟨x,M,hM,⟨hc',_⟩|⟨hc',hx,rfl⟩⟩:=hK
    ·cases hc'
    obtain rfl:cc= .ret:=by simpa using hc'
    refine rn ?_;exact zh3 (.cons _ (zxu [_,_,_,_,_,_,_,_,_,_,_,_,_,_,_] _ dfs)) .nil (.trans (.perm (.cons _ (.cons _ ((pt9 _ _ _ _ _ _ _ _ _ _ _).trans (.cons _ ((pt9 _ _ _ _ _ _ _ _ _ _ _).trans (.cons _ ((pt9 _ _ _ _ _ _ _ _ _ _ _).trans (.cons _ (pt9 _ _ _ _ _ _ _ _ _ _ _))))))))) _) (.drop [_,_,_,_] _ _)) ⟨x,M,hM,.inr ⟨hx,rfl⟩⟩
 ·have qj:=zaz hc14 lj
  subst qj
  refine rn ?_;exact ym9 (zxu [_,_,_,_,_,_,_,_,_,_,_,_] _ dfs) .nil (.drop [_] _ _) ⟨x,M,hM,.inl ⟨hx,rfl⟩⟩
end Go.Proofs
