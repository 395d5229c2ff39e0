/- The walk of what tells wr's reads. Conditions: none. -/
import Derived.Test.YtfmcbdjnmlcacaaGreatDoorWJsJ
set_option maxHeartbeats 4000000
set_option linter.unusedSectionVars false
set_option linter.unusedSimpArgs false
set_option linter.unusedVariables false
set_option maxRecDepth 10000
namespace Go.Proofs
open Go Go.Ab
attribute [local irreducible] QR QV OE zcr aw zdc zdn zbj zcg thn zff zeb jch zfn
open Go.H
theorem ytm {h:Hist} (hs:zar h=true) {e:Ev} (o0:0≤e.o) (o1:e.o < h.os.length) (hn:((za9 (e.o,e.v.t,e.v.k) (rkM h h.os.length)).getD 0==0)=false):∃k,∃hk:k < (za0 h e.o).length,(za9 (e.o,e.v.t,e.v.k) (rkM h h.os.length)).getD 0=(k:Int)+1∧zoh h e.o ((k:Int)+1)=(za0 h e.o)[k]:=by
 cases hq:za9 (e.o,e.v.t,e.v.k) (rkM h h.os.length) with
 |none=>rw [hq] at hn;simp at hn
 |some r=>
  rw [hq] at hn
  obtain ⟨k,hk,e1,_⟩:=yp0 hs o0 o1 (v:=e.v) (r:=r) hq (by simpa using hn)
  refine ⟨k,hk,by rw [e1];rfl,?_⟩
  rw [zoh,show ((k:Int)+1 - 1).toNat=k by omega,List.getElem?_eq_getElem hk];rfl
theorem zwa {h:Hist} {e:Ev} {a:Nat} (h3:e.kind≠3):zc4 h e a= []:=by rw [zc4,if_neg (by simpa using h3)]
theorem zv9 {h:Hist} {e:Ev} {a:Nat} (hn:((za9 (e.o,e.v.t,e.v.k) (rkM h h.os.length)).getD 0==0)=true):zc4 h e a= []:=by
 rw [zc4];split
 ·exact if_pos hn
 ·rfl
theorem zv8 {h:Hist} {e:Ev} {a k:Nat} (hk:k < (za0 h e.o).length) (hr:(za9 (e.o,e.v.t,e.v.k) (rkM h h.os.length)).getD 0=(k:Int)+1) (ea:zoh h e.o ((k:Int)+1)=(za0 h e.o)[k]) (ht:((za0 h e.o)[k]==e.t)=true):zc4 h e a= []:=by
 have hr:(zig h e.o e.v).getD 0=(k:Int)+1:=hr
 rw [zc4];split
 ·rw [hr,ea,ht];split <;> rfl
 ·rfl
theorem yf2 {h:Hist} {e:Ev} {a k:Nat} (h3:e.kind=3) (hk:k < (za0 h e.o).length) (hr:(za9 (e.o,e.v.t,e.v.k) (rkM h h.os.length)).getD 0=(k:Int)+1) (ea:zoh h e.o ((k:Int)+1)=(za0 h e.o)[k]) (ht:((za0 h e.o)[k]==e.t)=false):zc4 h e a= [wrC h e a 1 (za0 h e.o)[k] e.o 0]:=by
 have hr:(zig h e.o e.v).getD 0=(k:Int)+1:=hr
 rw [zc4,if_pos (by simpa using h3),hr,ea,ht,if_neg (by simp;omega),if_neg (by decide)]
theorem yld {σ:Type} (h:Hist) (la:Lim 4611686018427387904 h) (hc:v6 h=0) (a:Nat) (ha:a < h.evs.length) (y:AV) (bp ba:Nat) (bl rd rf rk rg:Nat) (M0:List ((Int×Int)×List Int)) (hM0:zfy h M0) (p:List Conf→σ→Prop) (q:σ→Prop) (I:List Conf→σ→List Res) (X:σ→List Res) (x0:σ) (hp0:p [] x0) (hy:∀pre d rest x M,(zc4 h h.evs[a] a)=pre++d::rest→p pre x→zfy h M→y0 Tryz.prog y [.agg (zaf d)] (.box ba 3 [iv (a:Int)]:: .box bp 147 [pZ bl]:: .box bl 202 (wrP h rd rf rk rg)::rgR rg M::rkS h rk::zdy h rf::rcR h rd:: .glob 2 156 y3:: .glob 4 305 y4:: .glob 5 308 y1:: .glob 3 246 q7::I pre x) (fun r h'=>∃x',(r=bv true∧p (pre++ [d]) x'∧h'= .box ba 3 [iv (a:Int)]:: .box bp 147 [pZ bl]:: .box bl 202 (wrP h rd rf rk rg)::rgR rg M::rkS h rk::zdy h rf::rcR h rd:: .glob 2 156 y3:: .glob 4 305 y4:: .glob 5 308 y1:: .glob 3 246 q7::I (pre++ [d]) x')∨(r=bv false∧q x'∧h'= .box ba 3 [iv (a:Int)]:: .box bp 147 [pZ bl]:: .box bl 202 (wrP h rd rf rk rg)::rgR rg M::rkS h rk::zdy h rf::rcR h rd:: .glob 2 156 y3:: .glob 4 305 y4:: .glob 5 308 y1:: .glob 3 246 q7::X x'))):y7 Tryz.prog 158 [y,pZ bp,pZ ba] (.box ba 3 [iv (a:Int)]:: .box bp 147 [pZ bl]:: .box bl 202 (wrP h rd rf rk rg)::rgR rg M0::rkS h rk::zdy h rf::rcR h rd:: .glob 2 156 y3:: .glob 4 305 y4:: .glob 5 308 y1:: .glob 3 246 q7::I [] x0) (fun r h'=>∃x M,zfy h M∧((p (zc4 h h.evs[a] a) x∧h'= .box ba 3 [iv (a:Int)]:: .box bp 147 [pZ bl]:: .box bl 202 (wrP h rd rf rk rg)::rgR rg M::rkS h rk::zdy h rf::rcR h rd:: .glob 2 156 y3:: .glob 4 305 y4:: .glob 5 308 y1:: .glob 3 246 q7::I (zc4 h h.evs[a] a) x)∨(q x∧h'= .box ba 3 [iv (a:Int)]:: .box bp 147 [pZ bl]:: .box bl 202 (wrP h rd rf rk rg)::rgR rg M::rkS h rk::zdy h rf::rcR h rd:: .glob 2 156 y3:: .glob 4 305 y4:: .glob 5 308 y1:: .glob 3 246 q7::X x))):=by
 refine z6 Tryz.func158 rfl rfl rfl ?_
 have ra:=zag (f:=evR) ha
 refine rn ?_;refine j4 9 rfl ?_
 refine rn ?_;refine zms rfl fun b4=> ?_
 refine rn ?_;refine z7 rfl (fun hc17=> ?_) (fun hc17=> ?_)
 ·have h3:h.evs[a].kind≠3:=by simpa using hc17
  refine rn ?_;exact zef .nil (.drop [_] _ _) ⟨x0,M0,hM0,.inl ⟨by rw [zwa h3];exact hp0,by rw [zwa h3]⟩⟩
 ·have h3:h.evs[a].kind=3:=by simpa using hc17
  obtain ⟨⟨o0,o1⟩, -⟩:=zpd (ze4 (za6.1 hc) _ (List.getElem_mem ha)) h3
  refine rn ?_;refine j4 9 rfl ?_
  refine dq rfl rfl qrA ?_;refine dq rfl rfl qrA ?_;refine dq rfl rfl qrA ?_;refine dq rfl rfl qrA ?_;refine dq rfl rfl qrA ?_;refine dq rfl rfl qrA ?_;refine dq rfl rfl qrA ?_;refine dq rfl rfl qrA ?_;refine dq rfl rfl (j6 (out:= [iv h.evs[a].o,iv h.evs[a].v.t,iv h.evs[a].v.k]) rfl (by rfl)) ?_
  refine rn2 ?_;refine qq rfl rfl (zbm (enc:=zds) (k:=(h.evs[a].o,h.evs[a].v.t,h.evs[a].v.k)) (0:Int) rfl rfl) ?_
  refine rn ?_;refine j4 17 rfl ?_
  refine rn ?_;refine zc0 (fun hg3_2=> ?_) (fun hg3_2=> ?_)
  ·refine rn ?_;refine zfp rfl ?_;have hw:(zc4 h h.evs[a] a)= []:=by
    first
    |exact zv9 hg3_2
    |exact zv8 hk hr ea hc46
   refine rn ?_;exact zef .nil (.drop [_] _ _) ⟨x0,M0,hM0,.inl ⟨by rw [hw];exact hp0,by rw [hw]⟩⟩
  ·obtain ⟨k,hk,hr,ea⟩:=ytm (za6.1 hc) o0 o1 hg3_2
   have hil:=zlt hc o0 o1
   rw [hr]
   have rr:((za0 h h.evs[a].o).map zai)[((k:Int)+1 - 1).toNat]? =some (zai (za0 h h.evs[a].o)[k]):=by rw [show ((k:Int)+1 - 1).toNat=k by omega];exact zag hk
   refine dq rfl rfl qrA ?_;refine dq rfl rfl qrA ?_;refine dq rfl rfl qrA ?_;refine dq rfl rfl qrA ?_;refine dq rfl rfl qrA ?_;refine dq rfl rfl qrA ?_;refine dq rfl rfl (zau rfl rfl o0 (zkd h o0 o1)) ?_
   refine dq rfl rfl qrA ?_;refine dq rfl rfl qrA ?_;refine dq rfl rfl (zci rfl rfl rfl (by omega)) ?_
   refine dq rfl rfl (zau rfl rfl (by omega) rr) ?_
   refine rn ?_;refine z7 rfl (fun hc46=> ?_) (fun hc46=> ?_)
   ·have hw:(zc4 h h.evs[a] a)= []:=by
     first
     |exact zv9 hg3_2
     |exact zv8 hk hr ea hc46
    refine rn ?_;exact zef .nil (.drop [_] _ _) ⟨x0,M0,hM0,.inl ⟨by rw [hw];exact hp0,by rw [hw]⟩⟩
   ·have hw:(zc4 h h.evs[a] a)= [(wrC h h.evs[a] a 1 (za0 h h.evs[a].o)[k] h.evs[a].o 0)]:=yf2 h3 hk hr ea hc46
    refine rn ?_;refine j4 18 rfl ?_
    refine dq rfl rfl qrA ?_;refine dq rfl rfl qrA ?_;refine dq rfl rfl qrA ?_;refine dq rfl rfl qrA ?_;refine dq rfl rfl qrA ?_;refine dq rfl rfl qrA ?_;refine dq rfl rfl qrA ?_;refine dq rfl rfl (zau rfl rfl o0 (zkd h o0 o1)) ?_
    refine dq rfl rfl qrA ?_;refine dq rfl rfl qrA ?_;refine dq rfl rfl (zci rfl rfl rfl (by omega)) ?_
    refine dq rfl rfl (zau rfl rfl (by omega) rr) ?_
    refine rn ?_;refine dv rfl rfl (by exact y2 rfl rfl (y0.qt (y0.of_fun (yji h (za0 h h.evs[a].o)[k] h.evs[a].o a ha o0 o1 (List.getElem_mem hk) bl rd rf rk rg M0 [])) ((pt3 _ _ _ _ _).trans (.cons _ ((pt3 _ _ _ _ _).trans (.cons _ ((pt3 _ _ _ _ _).trans (.cons _ ((pt3 _ _ _ _ _).trans (.cons _ ((pt3 _ _ _ _ _).trans (.cons _ ((pt3 _ _ _ _ _).trans (.cons _ ((pt3 _ _ _ _ _).trans (.cons _ ((pt3 _ _ _ _ _).trans (.cons _ (pt3 _ _ _ _ _))))))))))))))))))) ?_
    refine rn ?_;refine zms rfl fun b6=> ?_
    refine rn2 ?_;first|refine z8 rfl (j5 rfl rfl rfl ?_)|refine z8 rfl (zak rfl rfl rfl rfl (Nat.le_of_ble_eq_true rfl) ?_)
    refine u4 (zac ?_)
    refine w9 (y6 ?_)
    refine q1 ?_;first|refine z8 rfl (j5 rfl rfl rfl ?_)|refine z8 rfl (zak rfl rfl rfl rfl (Nat.le_of_ble_eq_true rfl) ?_)
    refine u4 (zac ?_)
    refine y6 ?_;refine q1 ?_;refine q1 ?_;refine z8 rfl (v2 rfl rfl (y0.fr2 (hy [] (wrC h h.evs[a] a 1 (za0 h h.evs[a].o)[k] h.evs[a].o 0) [] x0 M0 hw hp0 hM0)) rfl ?_)
    rintro _ _ ⟨_,rfl,x',⟨rfl,hp',rfl⟩|⟨rfl,hq',rfl⟩⟩
    ·refine rn ?_;first|exact zd2 .nil (.drop [_,_] _ _) ⟨x',M0,hM0,.inr ⟨hq',rfl⟩⟩|exact zd2 .nil (.drop [_,_] _ _) ⟨x',M0,hM0,.inl ⟨by rw [hw];exact hp',by rw [hw];rfl⟩⟩
    ·refine rn ?_;first|exact zd2 .nil (.drop [_,_] _ _) ⟨x',M0,hM0,.inr ⟨hq',rfl⟩⟩|exact zd2 .nil (.drop [_,_] _ _) ⟨x',M0,hM0,.inl ⟨by rw [hw];exact hp',by rw [hw];rfl⟩⟩
theorem zv7 {h:Hist} {a:Nat} (ha:a < h.evs.length) (hc:v6 h=0) (hs:zed h a≠0):zer h h.evs[a] a= []:=by
 rw [zer];split
 ·rename_i h4;exact absurd (ys9 ha hc (eq_of_beq h4)).1 hs
 ·rfl
theorem yl1 {h:Hist} {a:Nat} (ha:a < h.evs.length) (hc:v6 h=0) (hs:zed h a=0):h.evs[a].kind=4:=by
 by_cases h4:h.evs[a].kind=4
 ·exact h4
 ·have:=(yo1 (n:=(a:Int)) hc (fun q=>h4 (by rw [ztc ha] at q;exact q.2.2))).1
  omega
theorem zqh {h:Hist} {e:Ev} {a:Nat} (h4:e.kind=4):zer h e a=(j8 h e a).flatMap (za8 h e a):=by rw [zer,if_pos (by simpa using h4)]
theorem yl8 {h:Hist} {e:Ev} {a:Nat} {s:Seen} (hn:(!(zig h s.o s.v).isSome)=true):za8 h e a s= []:=by
 rw [za8];cases hq:zig h s.o s.v with
 |none=>rfl
 |some r=>rw [hq] at hn;cases hn
theorem zuk {h:Hist} {e:Ev} {a:Nat} {s:Seen} {r:Int} (hr:zig h s.o s.v=some r):za8 h e a s=((chL h e.p s.o).takeWhile fun k=>decide (k≤r)).filterMap (wrQ h e a s.o):=by rw [za8,hr]
theorem zme {q:Int→Bool}:∀(l:List Int) (j:Nat),((l.take j).all q)=true→l.takeWhile q=l.take j++(l.drop j).takeWhile q
 |_,0,_=>by simp
 | [],j+1,_=>by simp
 |a::l,j+1,h=>by
  rw [List.take_succ_cons,List.all_cons,Bool.and_eq_true] at h
  rw [List.takeWhile_cons,h.1,List.take_succ_cons,List.drop_succ_cons,if_pos rfl,zme l j h.2];rfl
theorem ylo {l:List Int} {r:Int} {j:Nat} (hj:j < l.length) (ha:((l.take j).all fun k=>decide (k≤r))=true) (hg:decide (l[j] > r)=true):(l.takeWhile fun k=>decide (k≤r))=l.take j:=by
 rw [zme l j ha,List.drop_eq_getElem_cons hj,List.takeWhile_cons,if_neg (by have:=oT hg;simpa using this),List.append_nil]
theorem ypk {l:List Int} {r:Int} {j:Nat} (hj:j=l.length) (ha:((l.take j).all fun k=>decide (k≤r))=true):(l.takeWhile fun k=>decide (k≤r))=l.take j:=by
 rw [zme l j ha,hj,List.drop_length];simp
theorem ytx {l:List Int} {r:Int} {j:Nat} (hj:j < l.length) (ha:((l.take j).all fun k=>decide (k≤r))=true) (hg:decide (l[j] > r)=false):((l.take (j+1)).all fun k=>decide (k≤r))=true:=by
 rw [List.take_succ_eq_append_getElem hj,List.all_append,ha]
 have:=oF hg
 simp;omega
theorem ys6 {h:Hist} {e:Ev} {a:Nat} {L:List Seen} {i:Nat} (hi:i < L.length):(L.take (i+1)).flatMap (za8 h e a)=(L.take i).flatMap (za8 h e a)++za8 h e a L[i]:=by
 rw [List.take_succ_eq_append_getElem hi,List.flatMap_append];simp
theorem yo8 {h:Hist} {e:Ev} {a i j:Nat} {r:Int} {d:Conf} (h4:e.kind=4) (hi:i < (j8 h e a).length) (hr:zig h (j8 h e a)[i].o (j8 h e a)[i].v=some r) (hj:j < (chL h e.p (j8 h e a)[i].o).length)
 (ha:(((chL h e.p (j8 h e a)[i].o).take j).all fun k=>decide (k≤r))=true) (hg:decide ((chL h e.p (j8 h e a)[i].o)[j] > r)=false) (hd:wrQ h e a (j8 h e a)[i].o (chL h e.p (j8 h e a)[i].o)[j]=some d):
 ∃rest,zer h e a=(((j8 h e a).take i).flatMap (za8 h e a)++((chL h e.p (j8 h e a)[i].o).take j).filterMap (wrQ h e a (j8 h e a)[i].o))++d::rest:=by
 have hg':=oF hg
 have e1:za8 h e a (j8 h e a)[i]=((chL h e.p (j8 h e a)[i].o).take j).filterMap (wrQ h e a (j8 h e a)[i].o)++d::(((chL h e.p (j8 h e a)[i].o).drop (j+1)).takeWhile fun k=>decide (k≤r)).filterMap (wrQ h e a (j8 h e a)[i].o):=by
  rw [zuk hr,zme _ j ha,List.drop_eq_getElem_cons hj,List.takeWhile_cons,if_pos (by simp;omega),List.filterMap_append,List.filterMap_cons,hd]
 refine ⟨(((chL h e.p (j8 h e a)[i].o).drop (j+1)).takeWhile fun k=>decide (k≤r)).filterMap (wrQ h e a (j8 h e a)[i].o)++((j8 h e a).drop (i+1)).flatMap (za8 h e a),?_⟩
 rw [zqh h4]
 conv=>lhs;rw [←List.take_append_drop i (j8 h e a),List.drop_eq_getElem_cons hi]
 rw [List.flatMap_append,List.flatMap_cons,e1]
 simp [List.append_assoc]
theorem yi5 {h:Hist} (hc:v6 h=0) {p x:Int} {k:Int} (hk:k∈chL h p x):1≤k∧k≤(za0 h x).length:=by
 rw [chL] at hk;split at hk
 ·rename_i ht
  rw [yo6,zmt] at hk
  obtain ⟨j,rfl,j0,j1,_⟩:=hk
  rw [zm8] at j1
  omega
 ·cases hk
theorem yny {h:Hist} {x k:Int} (h1:1≤k) (h2:k≤(za0 h x).length):zoh h x k∈za0 h x∧((za0 h x).map zai)[(k - 1).toNat]? =some (zai (zoh h x k)):=by
 have hl:(k - 1).toNat < (za0 h x).length:=by omega
 rw [zoh,List.getElem?_eq_getElem hl,List.getElem?_map,List.getElem?_eq_getElem hl]
 exact ⟨List.getElem_mem hl,rfl⟩
theorem ypb {h:Hist} {e:Ev} {a:Nat} {x k:Int} (ht:(zoh h x k !=e.t)=false):wrQ h e a x k=none:=by rw [wrQ,if_pos (by simpa using ht)]
theorem yle {h:Hist} {e:Ev} {a:Nat} {x k:Int} (ht:(zoh h x k !=e.t)=true):wrQ h e a x k=some (wrC h e a 2 (zoh h x k) x e.p):=by rw [wrQ,if_neg (by simpa using ht)]
theorem ylb {σ:Type} (h:Hist) (la:Lim 4611686018427387904 h) (hc:v6 h=0) (a:Nat) (ha:a < h.evs.length) (y:AV) (bp ba:Nat) (bl rd rf rk rg:Nat) (M0:List ((Int×Int)×List Int)) (hM0:zfy h M0) (p:List Conf→σ→Prop) (q:σ→Prop) (I:List Conf→σ→List Res) (X:σ→List Res) (x0:σ) (hp0:p [] x0) (hy:∀pre d rest x M,(zer h h.evs[a] a)=pre++d::rest→p pre x→zfy h M→y0 Tryz.prog y [.agg (zaf d)] (.box ba 3 [iv (a:Int)]:: .box bp 147 [pZ bl]:: .box bl 202 (wrP h rd rf rk rg)::rgR rg M::rkS h rk::zdy h rf::rcR h rd:: .glob 2 156 y3:: .glob 4 305 y4:: .glob 5 308 y1:: .glob 3 246 q7::I pre x) (fun r h'=>∃x',(r=bv true∧p (pre++ [d]) x'∧h'= .box ba 3 [iv (a:Int)]:: .box bp 147 [pZ bl]:: .box bl 202 (wrP h rd rf rk rg)::rgR rg M::rkS h rk::zdy h rf::rcR h rd:: .glob 2 156 y3:: .glob 4 305 y4:: .glob 5 308 y1:: .glob 3 246 q7::I (pre++ [d]) x')∨(r=bv false∧q x'∧h'= .box ba 3 [iv (a:Int)]:: .box bp 147 [pZ bl]:: .box bl 202 (wrP h rd rf rk rg)::rgR rg M::rkS h rk::zdy h rf::rcR h rd:: .glob 2 156 y3:: .glob 4 305 y4:: .glob 5 308 y1:: .glob 3 246 q7::X x'))):y7 Tryz.prog 160 [y,pZ bp,pZ ba] (.box ba 3 [iv (a:Int)]:: .box bp 147 [pZ bl]:: .box bl 202 (wrP h rd rf rk rg)::rgR rg M0::rkS h rk::zdy h rf::rcR h rd:: .glob 2 156 y3:: .glob 4 305 y4:: .glob 5 308 y1:: .glob 3 246 q7::I [] x0) (fun r h'=>∃x M,zfy h M∧((p (zer h h.evs[a] a) x∧h'= .box ba 3 [iv (a:Int)]:: .box bp 147 [pZ bl]:: .box bl 202 (wrP h rd rf rk rg)::rgR rg M::rkS h rk::zdy h rf::rcR h rd:: .glob 2 156 y3:: .glob 4 305 y4:: .glob 5 308 y1:: .glob 3 246 q7::I (zer h h.evs[a] a) x)∨(q x∧h'= .box ba 3 [iv (a:Int)]:: .box bp 147 [pZ bl]:: .box bl 202 (wrP h rd rf rk rg)::rgR rg M::rkS h rk::zdy h rf::rcR h rd:: .glob 2 156 y3:: .glob 4 305 y4:: .glob 5 308 y1:: .glob 3 246 q7::X x))):=by
 refine z6 Tryz.func160 rfl rfl rfl ?_
 have ra:=zag (f:=evR) ha
 refine zkm ?_;refine rn ?_;refine j4 9 rfl ?_
 refine rn ?_;refine zms rfl fun b4=> ?_
 refine rn ?_;refine j4 10 rfl ?_
 refine rn ?_;refine dv rfl rfl (by exact y2 rfl rfl (y0.qt (y0.of_fun (ykb h la a)) ((pt8 _ _ _ _ _ _ _ _ _ _).trans (.cons _ ((pt8 _ _ _ _ _ _ _ _ _ _).trans (.cons _ ((pt8 _ _ _ _ _ _ _ _ _ _).trans (.cons _ (pt8 _ _ _ _ _ _ _ _ _ _))))))))) ?_
 refine rn ?_;refine z7 rfl (fun hc33=> ?_) (fun hc33=> ?_)
 ·have hs:=nzT hc33
  refine rn ?_;refine ⟨fun l h=>(by cases h),?_⟩
  exact zef .nil (.drop [_] _ _) ⟨x0,M0,hM0,.inl ⟨by rw [zv7 ha hc hs];exact hp0,by rw [zv7 ha hc hs]⟩⟩
 ·have hs:=nzF hc33
  have h4:=yl1 ha hc hs
  rw [(ys9 ha hc h4).2]
  have hsl:(j8 h h.evs[a] a).length≤3000:=by rw [zi9];exact (zb8 hc).os
  refine rn ?_;refine zha (j8 h h.evs[a] a).length (fun i (z:σ×List ((Int×Int)×List Int))=>p (((j8 h h.evs[a] a).take i).flatMap (za8 h h.evs[a] a)) z.1∧zfy h z.2) (fun i z=>⟨[(36,iv i),(0,y),(1,pZ bp),(2,pZ ba),(4,pZ b4),(34,zee (j8 h h.evs[a] a)),(35,iv ((j8 h h.evs[a] a).map zah).length)],.box b4 60 (evR h.evs[a]):: .box ba 3 [iv (a:Int)]:: .box bp 147 [pZ bl]:: .box bl 202 (wrP h rd rf rk rg)::rgR rg z.2::rkS h rk::zdy h rf::rcR h rd:: .glob 2 156 y3:: .glob 4 305 y4:: .glob 5 308 y1:: .glob 3 246 q7::I (((j8 h h.evs[a] a).take i).flatMap (za8 h h.evs[a] a)) z.1,[]⟩) (x0,M0) ⟨hp0,hM0⟩ es ?_
  rintro i ⟨x,M⟩ li ⟨zi,hM⟩
  have zi:p (((j8 h h.evs[a] a).take i).flatMap (za8 h h.evs[a] a)) x:=zi
  have hM:zfy h M:=hM
  show aw _ _ _ _ _ ⟨[(36,iv i),(0,y),(1,pZ bp),(2,pZ ba),(4,pZ b4),(34,zee (j8 h h.evs[a] a)),(35,iv ((j8 h h.evs[a] a).map zah).length)],.box b4 60 (evR h.evs[a]):: .box ba 3 [iv (a:Int)]:: .box bp 147 [pZ bl]:: .box bl 202 (wrP h rd rf rk rg)::rgR rg M::rkS h rk::zdy h rf::rcR h rd:: .glob 2 156 y3:: .glob 4 305 y4:: .glob 5 308 y1:: .glob 3 246 q7::I (((j8 h h.evs[a] a).take i).flatMap (za8 h h.evs[a] a)) x,[]⟩
  refine rn ?_;refine z7 rfl (fun hc37=> ?_) (fun hc37=> ?_)
  ·have hi:=zay hc37
   have ri:=zag (f:=zah) hi
   obtain ⟨⟨o0,o1⟩, -⟩:=zqq (List.getElem_mem hi)
   have hcl:=zx1 hc h.evs[a].p (j8 h h.evs[a] a)[i].o
   have hil:=zlt hc o0 o1
   refine rn ?_;refine z8 rfl (y5 rfl fun b8=> ?_)
   refine rn ?_;refine j4 10 rfl ?_
   refine dq rfl rfl qrA ?_;refine dq rfl rfl qrA ?_;refine dq rfl rfl qrA ?_;refine dq rfl rfl qrA ?_;refine dq rfl rfl (zor (zjd rfl rfl) (show AV.agg (zah (j8 h h.evs[a] a)[i])=AV.agg [iv (j8 h h.evs[a] a)[i].o,iv (j8 h h.evs[a] a)[i].v.t,iv (j8 h h.evs[a] a)[i].v.k] from rfl)) ?_
   refine dq rfl rfl (zfe (g:=iv) (enc:=zds) (k:=((j8 h h.evs[a] a)[i].o,(j8 h h.evs[a] a)[i].v.t,(j8 h h.evs[a] a)[i].v.k)) (0:Int) rfl rfl rfl) ?_
   refine rn ?_;refine z7 rfl (fun hc50=> ?_) (fun hc50=> ?_)
   ·have hw:za8 h h.evs[a] a (j8 h h.evs[a] a)[i]= []:=yl8 hc50
    refine rn ?_;exact ⟨hi,(x,M),⟨by simp only;rw [ys6 hi,hw,List.append_nil];exact zi,hM⟩,by simp only;rw [ys6 hi,hw,List.append_nil];exact eA⟩
   ·obtain ⟨r0,hr⟩:∃r,(za9 ((j8 h h.evs[a] a)[i].o,(j8 h h.evs[a] a)[i].v.t,(j8 h h.evs[a] a)[i].v.k) (rkM h h.os.length))=some r:=Option.isSome_iff_exists.1 (by simpa using hc50)
    have hr':zig h (j8 h h.evs[a] a)[i].o (j8 h h.evs[a] a)[i].v=some r0:=hr
    rw [hr,Option.getD_some,Option.isSome_some]
    refine rn ?_;refine z8 rfl (v2 rfl rfl (y0.fr4 (y0.of_fun (ytq h la hc h.evs[a].p (j8 h h.evs[a] a)[i].o bl rd rf rk rg M hM (I (((j8 h h.evs[a] a).take i).flatMap (za8 h h.evs[a] a)) x)))) rfl ?_)
    rintro _ _ ⟨_,rfl,M',hM',rfl,rfl⟩
    refine rn ?_;refine zha (chL h h.evs[a].p (j8 h h.evs[a] a)[i].o).length (fun j (x:σ)=>(((chL h h.evs[a].p (j8 h h.evs[a] a)[i].o).take j).all fun k=>decide (k≤r0))=true∧p ((((j8 h h.evs[a] a).take i).flatMap (za8 h h.evs[a] a))++((chL h h.evs[a].p (j8 h h.evs[a] a)[i].o).take j).filterMap (wrQ h h.evs[a] a (j8 h h.evs[a] a)[i].o)) x) (fun j x=>⟨[(58,iv j),(0,y),(1,pZ bp),(2,pZ ba),(4,pZ b4),(8,pZ b8),(9,iv r0),(34,zee (j8 h h.evs[a] a)),(35,iv ((j8 h h.evs[a] a).map zah).length),(36,iv i),(56,zaq (chL h h.evs[a].p (j8 h h.evs[a] a)[i].o)),(57,iv ((chL h h.evs[a].p (j8 h h.evs[a] a)[i].o).map zai).length)],.box b8 70 (zah (j8 h h.evs[a] a)[i]):: .box b4 60 (evR h.evs[a]):: .box ba 3 [iv (a:Int)]:: .box bp 147 [pZ bl]:: .box bl 202 (wrP h rd rf rk rg)::rgR rg M'::rkS h rk::zdy h rf::rcR h rd:: .glob 2 156 y3:: .glob 4 305 y4:: .glob 5 308 y1:: .glob 3 246 q7::I ((((j8 h h.evs[a] a).take i).flatMap (za8 h h.evs[a] a))++((chL h h.evs[a].p (j8 h h.evs[a] a)[i].o).take j).filterMap (wrQ h h.evs[a] a (j8 h h.evs[a] a)[i].o)) x,[]⟩) x ⟨by simp,by simpa using zi⟩ (by simpa using eA) ?_
    intro j x lj zj
    refine rn ?_;refine z7 rfl (fun hc59=> ?_) (fun hc59=> ?_)
    ·have hj:=zay hc59
     have rj:=zag (f:=zai) hj
     obtain ⟨k0,k1⟩:=yi5 hc (List.getElem_mem hj)
     obtain ⟨hmem,rr⟩:=yny k0 k1
     refine rn ?_;refine z7 rfl (fun hc64=> ?_) (fun hc64=> ?_)
     ·have htw:=ylo hj zj.1 hc64
      refine rn ?_;have e1:((((j8 h h.evs[a] a).take i).flatMap (za8 h h.evs[a] a))++((chL h h.evs[a].p (j8 h h.evs[a] a)[i].o).take j).filterMap (wrQ h h.evs[a] a (j8 h h.evs[a] a)[i].o))=(((j8 h h.evs[a] a).take (i+1)).flatMap (za8 h h.evs[a] a)):=by rw [ys6 hi,zuk hr',htw]
      exact ⟨hi,(x,M'),⟨by rw [←e1];exact zj.2,hM'⟩,by simp only;rw [←e1];exact eA⟩
     ·have hon:=ytx hj zj.1 hc64
      refine rn ?_;refine j4 10 rfl ?_
      refine dq rfl rfl qrA ?_;refine dq rfl rfl qrA ?_;refine dq rfl rfl qrA ?_;refine dq rfl rfl qrA ?_;refine dq rfl rfl qrA ?_;refine dq rfl rfl qrA ?_;refine dq rfl rfl (zau rfl rfl o0 (zkd h o0 o1)) ?_
      refine dq rfl rfl qrA ?_;refine dq rfl rfl qrA ?_;refine dq rfl rfl (zci rfl rfl rfl (by omega)) ?_
      refine rn2 ?_;refine qq rfl rfl (zau rfl rfl (by omega) rr) ?_
      refine rn ?_;refine qv rfl rfl (y2 rfl rfl (y0.qt (y0.of_fun (yji h (zoh h (j8 h h.evs[a] a)[i].o (chL h h.evs[a].p (j8 h h.evs[a] a)[i].o)[j]) (j8 h h.evs[a] a)[i].o a ha o0 o1 hmem bl rd rf rk rg M' [])) ((pt4 _ _ _ _ _ _).trans (.cons _ ((pt4 _ _ _ _ _ _).trans (.cons _ ((pt4 _ _ _ _ _ _).trans (.cons _ ((pt4 _ _ _ _ _ _).trans (.cons _ ((pt4 _ _ _ _ _ _).trans (.cons _ ((pt4 _ _ _ _ _ _).trans (.cons _ ((pt4 _ _ _ _ _ _).trans (.cons _ ((pt4 _ _ _ _ _ _).trans (.cons _ (pt4 _ _ _ _ _ _))))))))))))))))))) ?_
      refine z8 rfl (y5 rfl fun b14=> ?_)
      refine rn ?_;refine zc1 4 [(b14,41,_)] rfl (List.perm_append_comm (l₁:= [_])) ?_
      refine rn ?_;refine dw 0 rfl rfl rfl rfl rfl (Nat.le_of_ble_eq_true rfl) ?_
      refine rn2 ?_;show zcr _ _ _ _ _ _ ⟨_,.box b14 41 (zaf ⟨zoh h (j8 h h.evs[a] a)[i].o (chL h h.evs[a].p (j8 h h.evs[a] a)[i].o)[j],h.evs[a].t,2,zc9 h (zoh h (j8 h h.evs[a] a)[i].o (chL h h.evs[a].p (j8 h h.evs[a] a)[i].o)[j]) (j8 h h.evs[a] a)[i].o,a,(j8 h h.evs[a] a)[i].o,0⟩):: .box b8 70 (zah (j8 h h.evs[a] a)[i]):: .box b4 60 (evR h.evs[a]):: .box ba 3 [iv (a:Int)]:: .box bp 147 [pZ bl]:: .box bl 202 (wrP h rd rf rk rg)::rgR rg M'::rkS h rk::zdy h rf::rcR h rd:: .glob 2 156 y3:: .glob 4 305 y4:: .glob 5 308 y1:: .glob 3 246 q7::I ((((j8 h h.evs[a] a).take i).flatMap (za8 h h.evs[a] a))++((chL h h.evs[a].p (j8 h h.evs[a] a)[i].o).take j).filterMap (wrQ h h.evs[a] a (j8 h h.evs[a] a)[i].o)) x,_⟩
      refine rn ?_;refine w7 (fun hg15_4=> ?_) (fun hg15_4=> ?_)
      ·refine q1 ?_;refine q1 ?_;obtain ⟨rest,hL⟩:=yo8 h4 hi hr' hj zj.1 hc64 (yle hg15_4)
       refine z8 rfl (v2 rfl rfl (y0.fr3 (hy ((((j8 h h.evs[a] a).take i).flatMap (za8 h h.evs[a] a))++((chL h h.evs[a].p (j8 h h.evs[a] a)[i].o).take j).filterMap (wrQ h h.evs[a] a (j8 h h.evs[a] a)[i].o)) _ rest x M' hL zj.2 hM')) rfl ?_)
       rintro _ _ ⟨_,rfl,x',⟨rfl,hp',rfl⟩|⟨rfl,hq',rfl⟩⟩
       ·refine rn ?_;refine z7 rfl (fun hc96=> ?_) (fun hc96=> ?_)
        ·first|cases hc96|exact absurd hc96 (by decide)|(exfalso;simp_all;done)
        ·refine rn ?_;exact ⟨hj,x',⟨hon,by rw [yfr hj (yle hg15_4),←List.append_assoc];exact hp'⟩,by rw [yfr hj (yle hg15_4),←List.append_assoc];exact eA⟩
       ·refine rn ?_;refine z7 rfl (fun hc96=> ?_) (fun hc96=> ?_)
        ·refine rn ?_;refine ⟨fun l h=>(by cases h),?_⟩
         exact zef .nil (.drop [_,_,_] _ _) ⟨x',M',hM',.inr ⟨hq',rfl⟩⟩
        ·first|cases hc96|exact absurd hc96 (by decide)|(exfalso;simp_all;done)
      ·refine rn ?_;refine zd9 rfl ?_;refine rn ?_;exact ⟨hj,x,⟨hon,by rw [yfs hj (ypb hg15_4)];exact zj.2⟩,by rw [yfs hj (ypb hg15_4)];exact eA⟩
    ·have qj:=zaz hc59 lj
     refine rn ?_;have htw:=ypk qj zj.1
     have e1:((((j8 h h.evs[a] a).take i).flatMap (za8 h h.evs[a] a))++((chL h h.evs[a].p (j8 h h.evs[a] a)[i].o).take j).filterMap (wrQ h h.evs[a] a (j8 h h.evs[a] a)[i].o))=(((j8 h h.evs[a] a).take (i+1)).flatMap (za8 h h.evs[a] a)):=by rw [ys6 hi,zuk hr',htw]
     exact ⟨hi,(x,M'),⟨by rw [←e1];exact zj.2,hM'⟩,by simp only;rw [←e1];exact eA⟩
  ·have qi:=zaz hc37 li
   refine rn ?_;refine ⟨fun l h=>(by cases h),?_⟩
   exact zd2 .nil (.drop [_] _ _) ⟨x,M,hM,.inl ⟨by rw [zqh h4];rw [qi,List.take_length] at zi;exact zi,by rw [zqh h4,qi,List.take_length]⟩⟩
def zcw:List AV:= [.any,.fn (.func 302) [] [],.fn (.func 302) [] [],.fn (.func 303) [] [],.fn (.func 304) [] [],.fn (.func 302) [] [],.fn (.func 302) [] []]
def ygm (k:Nat):AV:=zcw.getD k .any
theorem ygk {k:Nat} (h2:k≤6):zcw[k]? =some (ygm k):=by
 have:k < zcw.length:=by show k < 7;omega
 rw [ygm,List.getD_eq_getElem?_getD,List.getElem?_eq_getElem this];rfl
def zke (h:Hist) (x r:Int):Int:=((za0 h x)[(r - 1).toNat]?).getD 0
def zzk (h:Hist) (e:Ev) (a:Nat) (x r:Int):Conf:=if r > ((za0 h x).length:Int) then ⟨0,0,0,0,0,0,0⟩ else ⟨e.t,zke h x r,yda e.kind,a,zc9 h (zke h x r) x,x,e.p⟩
def zra (h:Hist) (e:Ev) (x r:Int):Bool:=if r > ((za0 h x).length:Int) then false else zke h x r !=e.t
theorem ykn {h:Hist} {e:Ev} {a:Nat} {x r:Int} (hb:zra h e x r=true):zgd h e (zhh e) a x r=some (zzk h e a x r):=by
 rw [zra] at hb
 split at hb
 ·cases hb
 ·rename_i hr
  have hn:¬(((za0 h x)[(r - 1).toNat]?).getD 0==e.t)=true:=by rw [show ((za0 h x)[(r - 1).toNat]?).getD 0=zke h x r from rfl];simpa using hb
  rw [zgd,if_neg hr,if_neg hn,zzk,if_neg hr];rfl
theorem yrq {h:Hist} {e:Ev} {a:Nat} {x r:Int} (hb:zra h e x r=false):zgd h e (zhh e) a x r=none:=by
 rw [zra] at hb
 rw [zgd]
 split at hb
 ·rename_i hr;rw [if_pos hr]
 ·rename_i hr
  rw [if_neg hr,if_pos (by rw [show ((za0 h x)[(r - 1).toNat]?).getD 0=zke h x r from rfl];simpa using hb)]
theorem seen_ok {h:Hist} (hc:v6 h=0) {e:Ev} (he:e∈h.evs) (a:Nat):(u5 h e a).length≤4000∧∀p∈u5 h e a,(0≤p.1∧p.1 < h.os.length)∧p.2.length≤4000∧∀r∈p.2,1≤r∧r≤5000:=by
 have hs:=za6.1 hc
 have lA:=zb8 hc
 have lO:=lA.os
 rw [u5]
 split
 ·rename_i h3
  obtain ⟨⟨o0,o1⟩,_⟩:=zpd (ze4 hs _ he) h3
  rw [zgu]
  cases hr:zig h e.o e.v with
  |none=>exact ⟨Nat.zero_le _,fun p hp=>by cases hp⟩
  |some r=>
   have:=yp1 hc o0 o1 hr
   refine ⟨by show 1≤4000;decide,fun p hp=> ?_⟩
   rw [List.mem_singleton] at hp
   subst hp
   refine ⟨⟨o0,o1⟩,by show 1≤4000;decide,fun q hq=> ?_⟩
   rw [List.mem_singleton] at hq
   subst hq
   omega
 ·split
  ·rename_i h4
   refine ⟨?_,fun p hp=> ?_⟩
   ·refine Nat.le_trans (List.length_filterMap_le _ _) ?_
    rw [zi9];omega
   ·rw [zqs,List.mem_filterMap] at hp
    obtain ⟨s,hsm,hp⟩:=hp
    obtain ⟨⟨o0,o1⟩,_⟩:=zqq hsm
    unfold zfd at hp
    split at hp
    ·cases hp
    ·split at hp
     ·injection hp with hp
      subst hp
      have hcl:=zx1 hc e.p s.o
      refine ⟨⟨o0,o1⟩,Nat.le_trans (List.dropWhile_sublist _).length_le hcl,fun r hr=> ?_⟩
      have hr':r∈chL h e.p s.o:=(List.dropWhile_sublist _).subset hr
      rw [chL] at hr'
      split at hr'
      ·rename_i ht
       rw [yo6,zmt] at hr'
       obtain ⟨j,rfl,j0,j1,_⟩:=hr'
       rw [zm8] at j1
       have:=zlt hc o0 o1
       omega
      ·cases hr'
     ·cases hp
  ·exact ⟨Nat.zero_le _,fun p hp=>by cases hp⟩
def rwF (h:Hist) (e:Ev) (a:Nat) (p:Int×List Int):List Conf:=p.2.filterMap (zgd h e (zhh e) a p.1)
theorem zvl {h:Hist} {e:Ev} (a:Nat) (hm:ze6 h.evs e.t 5=true):zh3 h e a=(u5 h e a).flatMap (rwF h e a):=by rw [zh3,if_pos hm];rfl
theorem ydr {h:Hist} {e:Ev} (a:Nat) (hm:ze6 h.evs e.t 5=false):zh3 h e a= []:=by rw [zh3,if_neg (by rw [hm];decide)]
theorem ywk {h:Hist} {e:Ev} {a:Nat} {L:List (Int×List Int)} {i:Nat} (hi:i < L.length):(L.take (i+1)).flatMap (rwF h e a)=(L.take i).flatMap (rwF h e a)++rwF h e a L[i]:=by
 rw [List.take_succ_eq_append_getElem hi,List.flatMap_append];simp
theorem yjz {h:Hist} {e:Ev} {a:Nat} {L:List (Int×List Int)} {i j:Nat} (hi:i < L.length) (qj:j=L[i].2.length):(L.take i).flatMap (rwF h e a)++(L[i].2.take j).filterMap (zgd h e (zhh e) a L[i].1)=(L.take (i+1)).flatMap (rwF h e a):=by
 rw [ywk hi,qj,List.take_length];rfl
theorem yp4 {h:Hist} {e:Ev} {a:Nat} {i j:Nat} {d:Conf} (hm:ze6 h.evs e.t 5=true) (hi:i < (u5 h e a).length) (hj:j < (u5 h e a)[i].2.length) (hd:zgd h e (zhh e) a (u5 h e a)[i].1 (u5 h e a)[i].2[j]=some d):
 ∃rest,zh3 h e a=(((u5 h e a).take i).flatMap (rwF h e a)++((u5 h e a)[i].2.take j).filterMap (zgd h e (zhh e) a (u5 h e a)[i].1))++d::rest:=by
 have e1:rwF h e a (u5 h e a)[i]=((u5 h e a)[i].2.take j).filterMap (zgd h e (zhh e) a (u5 h e a)[i].1)++d::((u5 h e a)[i].2.drop (j+1)).filterMap (zgd h e (zhh e) a (u5 h e a)[i].1):=by
  conv=>lhs;rw [rwF,←List.take_append_drop j (u5 h e a)[i].2,List.drop_eq_getElem_cons hj]
  rw [List.filterMap_append,List.filterMap_cons,hd]
 refine ⟨((u5 h e a)[i].2.drop (j+1)).filterMap (zgd h e (zhh e) a (u5 h e a)[i].1)++((u5 h e a).drop (i+1)).flatMap (rwF h e a),?_⟩
 rw [zvl a hm]
 conv=>lhs;rw [←List.take_append_drop i (u5 h e a),List.drop_eq_getElem_cons hi]
 rw [List.flatMap_append,List.flatMap_cons,e1]
 simp [List.append_assoc]
theorem ytb {h:Hist} {e:Ev} {a:Nat} {B:List Conf} {x:Int} {l:List Int} {j:Nat} (hj:j < l.length) (hb:zra h e x l[j]=true):B++(l.take (j+1)).filterMap (zgd h e (zhh e) a x)=B++(l.take j).filterMap (zgd h e (zhh e) a x)++ [zzk h e a x l[j]]:=by
 rw [yfr hj (ykn hb),List.append_assoc]
theorem ytc {h:Hist} {e:Ev} {a:Nat} {B:List Conf} {x:Int} {l:List Int} {j:Nat} (hj:j < l.length) (hb:zra h e x l[j]=false):B++(l.take (j+1)).filterMap (zgd h e (zhh e) a x)=B++(l.take j).filterMap (zgd h e (zhh e) a x):=by
 rw [yfs hj (yrq hb)]
theorem yri {h:Hist} (hc:v6 h=0) {e:Ev} (he:e∈h.evs):∃kn:Nat,1≤kn∧kn≤6∧e.kind=(kn:Int):=by
 obtain ⟨k1,k2,_⟩:=zco (ze4 (za6.1 hc) _ he)
 exact ⟨e.kind.toNat,by omega,by omega,by omega⟩
theorem ypu (h:Hist) (la:Lim 4611686018427387904 h) (hc:v6 h=0) (a:Nat) (ha:a < h.evs.length) (rc rl rk rg:Nat) (M:List ((Int×Int)×List Int)) (hM:zfy h M) (W:List Res) {kn:Nat} (h1:1≤kn) (h6:kn≤6) (hk:h.evs[a].kind=(kn:Int)):y0 Tryz.prog (ygm kn) [.agg (rwP h rc rl rk rg),iv (a:Int)] (rgR rg M::rkS h rk::zch h rl::rcR h rc:: .glob 2 156 y3:: .glob 4 305 y4:: .glob 5 308 y1:: .glob 3 246 q7::W) (fun r h'=>∃M',zfy h M'∧h'=rgR rg M'::rkS h rk::zch h rl::rcR h rc:: .glob 2 156 y3:: .glob 4 305 y4:: .glob 5 308 y1:: .glob 3 246 q7::W∧r=zja (u5 h h.evs[a] a)):=by
 have no:h.evs[a].kind≠3→h.evs[a].kind≠4→y0 Tryz.prog (.fn (.func 302) [] []) [.agg (rwP h rc rl rk rg),iv (a:Int)] (rgR rg M::rkS h rk::zch h rl::rcR h rc:: .glob 2 156 y3:: .glob 4 305 y4:: .glob 5 308 y1:: .glob 3 246 q7::W) (fun r h'=>∃M',zfy h M'∧h'=rgR rg M'::rkS h rk::zch h rl::rcR h rc:: .glob 2 156 y3:: .glob 4 305 y4:: .glob 5 308 y1:: .glob 3 246 q7::W∧r=zja (u5 h h.evs[a] a)):=fun n3 n4=>
  y0.of_fun ((ybe h rc rl rk rg (a:Int) (rgR rg M::rkS h rk::zch h rl::rcR h rc:: .glob 2 156 y3:: .glob 4 305 y4:: .glob 5 308 y1:: .glob 3 246 q7::W)).mono fun _ _ q=>⟨M,hM,q.1,by rw [q.2,u5,if_neg n3,if_neg n4]⟩)
 match kn,h1,h6 with
 |1,_,_=>exact no (by omega) (by omega)
 |2,_,_=>exact no (by omega) (by omega)
 |3,_,_=>exact y0.of_fun ((ypw h la hc a ha hk rc rl rk rg M W).mono fun _ _ q=>⟨M,hM,q.1,by rw [q.2,u5,if_pos (show h.evs[a].kind=3 from hk)]⟩)
 |4,_,_=>exact y0.of_fun ((ypv h la hc a ha hk rc rl rk rg M hM W).mono fun _ _ ⟨M',q1,q2,q3⟩=>⟨M',q1,q2,by rw [q3,u5,if_neg (by omega),if_pos (show h.evs[a].kind=4 from hk)]⟩)
 |5,_,_=>exact no (by omega) (by omega)
 |6,_,_=>exact no (by omega) (by omega)
 |n+7,_,h6=>omega
theorem ypx (h:Hist) (x r:Int) (h0:0≤x) (h1:x < h.os.length) (r1:1≤r) (r2:r≤5000) (e:Ev) (a:Nat) (bp be ba:Nat) (rc rl rk rg:Nat) (M:List ((Int×Int)×List Int)) (rO:Nat) (oK:Obj) (hK:KO oK) (W:List Res):y7 Tryz.prog 135 [iv x,iv r,pZ bp,pZ be,pZ ba] (.box be 60 (evR e):: .box ba 3 [iv (a:Int)]:: .box bp 119 (rwP h rc rl rk rg)::rgR rg M::rkS h rk::zch h rl::rcR h rc:: .glob 2 156 y3:: .glob 4 305 y4:: .glob 5 308 y1:: .glob 3 246 q7:: .glob 1 175 zcw:: .glob 0 171 [mpv rO]:: .obj rO oK::W) (fun r_ h'=>h'= .box be 60 (evR e):: .box ba 3 [iv (a:Int)]:: .box bp 119 (rwP h rc rl rk rg)::rgR rg M::rkS h rk::zch h rl::rcR h rc:: .glob 2 156 y3:: .glob 4 305 y4:: .glob 5 308 y1:: .glob 3 246 q7:: .glob 1 175 zcw:: .glob 0 171 [mpv rO]:: .obj rO oK::W∧r_= .tup [.agg (zaf (zzk h e a x r)),bv (zra h e x r)]):=by
 refine z6 Tryz.func135 rfl rfl rfl ?_
 refine rn ?_;refine z8 rfl (y5 rfl fun b7=> ?_)
 refine q1 ?_;refine u4 (zac ?_)
 refine w9 ?_;refine w9 (y6 ?_)
 refine q1 ?_;refine q1 ?_;refine q1 ?_;refine q1 ?_;refine qq rfl rfl (zau rfl rfl h0 (zkd h h0 h1)) ?_
 refine rn ?_;refine z7 rfl (fun hc17=> ?_) (fun hc17=> ?_)
 ·have hr:r > ((za0 h x).length:Int):=by have q:=oT hc17;rw [oM] at q;exact q
  refine rn ?_;exact zef (.cons _ _ _ _ (.agg _ _ _ _ _ _ _ rfl inferInstance inferInstance inferInstance rfl) (.cons _ _ _ _ (.tmp _ _ rfl) .nil)) (.drop [_] _ _) ⟨rfl,by rw [zzk,zra,if_pos hr,if_pos hr];rfl⟩
 ·have hr:¬r > ((za0 h x).length:Int):=by have q:=oF hc17;rw [oM] at q;exact q
  have hk:(r - 1).toNat < (za0 h x).length:=by omega
  have rr:((za0 h x).map zai)[(r - 1).toNat]? =some (zai (zke h x r)):=by rw [zke,List.getElem?_map,List.getElem?_eq_getElem hk];rfl
  refine za7 ?_;refine zac ?_;refine w9 (y6 ?_)
  refine q1 ?_;refine q1 ?_;refine q1 ?_;refine qq rfl rfl (zau rfl rfl h0 (zkd h h0 h1)) ?_
  refine q1 ?_;refine q1 ?_;refine qq rfl rfl (zci rfl rfl rfl (by omega)) ?_
  refine qq rfl rfl (zau rfl rfl (by omega) rr) ?_
  refine rn ?_;refine zc1 23 [(b7,41,_)] rfl (List.perm_append_comm (l₁:= [_])) ?_
  refine dq rfl rfl qrA ?_;refine dq rfl rfl qrA ?_;refine dq rfl rfl qrA ?_;refine dq rfl rfl qrA ?_;refine dq rfl rfl qrA ?_;refine dq rfl rfl qrA ?_;refine dq rfl rfl (yg9 (k:=e.kind) hK rfl rfl) ?_
  refine dq rfl rfl qrA ?_;refine dq rfl rfl qrA ?_;refine dq rfl rfl qrA ?_;refine dq rfl rfl qrA ?_;refine dq rfl rfl qrA ?_;refine dq rfl rfl (zcm (out:= [iv (zke h x r),iv x]) rfl (by rfl)) ?_
  refine dq rfl rfl (zor (zbm (enc:=za2) (k:=(zke h x r,x)) 0 rfl rfl) (show iv _=iv (zc9 h (zke h x r) x) from congrArg iv (zwe _ _ _))) ?_
  refine dq rfl rfl qrA ?_;refine dq rfl rfl qrA ?_;refine dq rfl rfl qrA ?_;refine dq rfl rfl (j6 (out:=zaf ⟨e.t,zke h x r,yda e.kind,a,zc9 h (zke h x r) x,x,e.p⟩) rfl (by rfl)) ?_
  refine rn ?_;refine dw 0 rfl rfl rfl rfl rfl (Nat.le_of_ble_eq_true rfl) ?_
  refine rn2 ?_;show zcr _ _ _ _ _ _ ⟨_,.box b7 41 (zaf ⟨e.t,zke h x r,yda e.kind,a,zc9 h (zke h x r) x,x,e.p⟩):: .box be 60 (evR e):: .box ba 3 [iv (a:Int)]:: .box bp 119 (rwP h rc rl rk rg)::rgR rg M::rkS h rk::zch h rl::rcR h rc:: .glob 2 156 y3:: .glob 4 305 y4:: .glob 5 308 y1:: .glob 3 246 q7:: .glob 1 175 zcw:: .glob 0 171 [mpv rO]:: .obj rO oK::W,_⟩
  refine rn ?_;exact zef (.cons _ _ _ _ (.agg _ _ _ _ _ _ _ rfl inferInstance inferInstance inferInstance rfl) (.cons _ _ _ _ (.tmp _ _ rfl) .nil)) (.drop [_] _ _) ⟨rfl,by rw [zzk,zra,if_neg hr,if_neg hr];rfl⟩
theorem yjy (h:Hist) (a:Nat) (rc rl rk rg:Nat) (W:List Res):y7 Tryz.prog 88 [.agg (rwP h rc rl rk rg),iv (a:Int)] W (fun r h'=>∃ba bp,h'= .box ba 3 [iv (a:Int)]:: .box bp 119 (rwP h rc rl rk rg)::W∧r= .fn (.func 134) [] [pZ bp,pZ ba]):=by
 refine z6 Tryz.func88 rfl rfl rfl ?_
 refine rn ?_;refine z8 rfl (w8 rfl rfl rfl fun b2=> ?_)
 refine z8 rfl (w8 rfl rfl rfl fun b3=> ?_)
 refine rn ?_;exact j9 rfl (.refl _ _) ⟨_,_,rfl,rfl⟩
theorem yjx {σ:Type} (h:Hist) (la:Lim 4611686018427387904 h) (hc:v6 h=0) (a:Nat) (ha:a < h.evs.length) (y:AV) (bp ba:Nat) (rc rl rk rg:Nat) (M0:List ((Int×Int)×List Int)) (hM0:zfy h M0) (rO:Nat) (oK:Obj) (hK:KO oK) (p:List Conf→σ→Prop) (q:σ→Prop) (I:List Conf→σ→List Res) (X:σ→List Res) (x0:σ) (hp0:p [] x0) (hy:∀pre d rest x M,zh3 h h.evs[a] a=pre++d::rest→p pre x→zfy h M→y0 Tryz.prog y [.agg (zaf d)] (.box ba 3 [iv (a:Int)]:: .box bp 119 (rwP h rc rl rk rg)::rgR rg M::rkS h rk::zch h rl::rcR h rc:: .glob 2 156 y3:: .glob 4 305 y4:: .glob 5 308 y1:: .glob 3 246 q7:: .glob 1 175 zcw:: .glob 0 171 [mpv rO]:: .obj rO oK::I pre x) (fun r h'=>∃x',(r=bv true∧p (pre++ [d]) x'∧h'= .box ba 3 [iv (a:Int)]:: .box bp 119 (rwP h rc rl rk rg)::rgR rg M::rkS h rk::zch h rl::rcR h rc:: .glob 2 156 y3:: .glob 4 305 y4:: .glob 5 308 y1:: .glob 3 246 q7:: .glob 1 175 zcw:: .glob 0 171 [mpv rO]:: .obj rO oK::I (pre++ [d]) x')∨(r=bv false∧q x'∧h'= .box ba 3 [iv (a:Int)]:: .box bp 119 (rwP h rc rl rk rg)::rgR rg M::rkS h rk::zch h rl::rcR h rc:: .glob 2 156 y3:: .glob 4 305 y4:: .glob 5 308 y1:: .glob 3 246 q7:: .glob 1 175 zcw:: .glob 0 171 [mpv rO]:: .obj rO oK::X x'))):y7 Tryz.prog 134 [y,pZ bp,pZ ba] (.box ba 3 [iv (a:Int)]:: .box bp 119 (rwP h rc rl rk rg)::rgR rg M0::rkS h rk::zch h rl::rcR h rc:: .glob 2 156 y3:: .glob 4 305 y4:: .glob 5 308 y1:: .glob 3 246 q7:: .glob 1 175 zcw:: .glob 0 171 [mpv rO]:: .obj rO oK::I [] x0) (fun r h'=>∃x M,zfy h M∧((p (zh3 h h.evs[a] a) x∧h'= .box ba 3 [iv (a:Int)]:: .box bp 119 (rwP h rc rl rk rg)::rgR rg M::rkS h rk::zch h rl::rcR h rc:: .glob 2 156 y3:: .glob 4 305 y4:: .glob 5 308 y1:: .glob 3 246 q7:: .glob 1 175 zcw:: .glob 0 171 [mpv rO]:: .obj rO oK::I (zh3 h h.evs[a] a) x)∨(q x∧h'= .box ba 3 [iv (a:Int)]:: .box bp 119 (rwP h rc rl rk rg)::rgR rg M::rkS h rk::zch h rl::rcR h rc:: .glob 2 156 y3:: .glob 4 305 y4:: .glob 5 308 y1:: .glob 3 246 q7:: .glob 1 175 zcw:: .glob 0 171 [mpv rO]:: .obj rO oK::X x))):=by
 refine z6 Tryz.func134 rfl rfl rfl ?_
 have ra:=zag (f:=evR) ha
 have hok:=seen_ok hc (List.getElem_mem ha) a
 have hol:=hok.1
 obtain ⟨kn,k1,k6,hkn⟩:=yri hc (List.getElem_mem ha)
 refine w9 (y6 ?_)
 refine q1 ?_;refine q1 ?_;refine q1 ?_;refine q1 ?_;refine qq rfl rfl (zb3 rfl rfl ra) ?_
 refine rn ?_;refine z8 rfl (y5 rfl fun b4=> ?_)
 first|refine z8 rfl (j5 rfl rfl rfl ?_)|refine z8 rfl (zak rfl rfl rfl rfl (Nat.le_of_ble_eq_true rfl) ?_)
 refine u4 (zac ?_)
 refine w9 ?_;refine w9 (y6 ?_)
 refine q1 ?_;refine q1 ?_;refine q1 ?_;refine q1 ?_;refine qq rfl rfl (zbm (enc:=intK) (k:=h.evs[a].t) false rfl rfl) ?_
 refine rn ?_;refine z7 rfl (fun hc23=> ?_) (fun hc23=> ?_)
 ·have hm:ze6 h.evs h.evs[a].t 5=false:=by rw [←zf1];simpa using hc23
  refine rn ?_;exact zef .nil (.drop [_] _ _) ⟨x0,M0,hM0,.inl ⟨by rw [ydr a hm];exact hp0,by rw [ydr a hm]⟩⟩
 ·have hm:ze6 h.evs h.evs[a].t 5=true:=by rw [←zf1];simpa using hc23
  refine za7 ?_;refine rn0 ?_;refine w9 (y6 ?_)
  refine rn0 ?_;refine w9 ?_;refine zio 9 [6] [7] (fun he=>∃M,he= .box b4 60 (evR h.evs[a]):: .box ba 3 [iv (a:Int)]:: .box bp 119 (rwP h rc rl rk rg)::rgR rg M::rkS h rk::zch h rl::rcR h rc:: .glob 2 156 y3:: .glob 4 305 y4:: .glob 5 308 y1:: .glob 3 246 q7:: .glob 1 175 zcw:: .glob 0 171 [mpv rO]:: .obj rO oK::I [] x0) rfl rfl ⟨_,rfl⟩ ?_
  refine jq rfl (fun he hC=>by obtain ⟨M,rfl⟩:=hC <;> exact qrA) ?_
  refine jq rfl (fun he hC=>by obtain ⟨M,rfl⟩:=hC <;> exact (by exact zor (zap rfl rfl) (show iv _=iv (kn:Nat) from congrArg iv hkn))) ?_
  refine jq rfl (fun he hC=>by obtain ⟨M,rfl⟩:=hC <;> exact (by exact zav rfl rfl (by show kn < 7;omega))) ?_
  refine jq rfl (fun he hC=>by obtain ⟨M,rfl⟩:=hC <;> exact (by exact zap rfl (show zcw[0+kn * 1]? =some (ygm kn) by rw [Nat.zero_add,Nat.mul_one];exact ygk k6))) ?_
  refine jq rfl (fun he hC=>by obtain ⟨M,rfl⟩:=hC <;> exact qrA) ?_
  refine jq rfl (fun he hC=>by obtain ⟨M,rfl⟩:=hC <;> exact qrA) ?_
  refine je rfl ?_;refine je rfl ?_;refine jq rfl (fun he hC=>by obtain ⟨M,rfl⟩:=hC <;> exact qrA) ?_
  refine ynn ?_;refine jce rfl fun u=> ?_
  refine v2 rfl rfl (y0.fr3 (ypu h la hc a ha rc rl rk rg M0 hM0 (.glob 1 175 zcw:: .glob 0 171 [mpv rO]:: .obj rO oK::I [] x0) k1 k6 hkn)) rfl ?_
  rintro _ _ ⟨_,rfl,M,hM,rfl,rfl⟩
  refine ⟨_,_,rfl,⟨_,rfl⟩,?_⟩
  refine jcn ?_;refine lq rfl rfl (by exact qrA) ?_
  refine ln ?_;refine rn ?_;refine zha (u5 h h.evs[a] a).length (fun i (x:σ)=>p (((u5 h h.evs[a] a).take i).flatMap (rwF h h.evs[a] a)) x) (fun i x=>⟨[(33,iv i),(0,y),(5,.fn (.func 135) [] [pZ bp,pZ b4,pZ ba]),(31,zja (u5 h h.evs[a] a)),(32,iv ((u5 h h.evs[a] a).map zqt).length)],.box b4 60 (evR h.evs[a]):: .box ba 3 [iv (a:Int)]:: .box bp 119 (rwP h rc rl rk rg)::rgR rg M::rkS h rk::zch h rl::rcR h rc:: .glob 2 156 y3:: .glob 4 305 y4:: .glob 5 308 y1:: .glob 3 246 q7:: .glob 1 175 zcw:: .glob 0 171 [mpv rO]:: .obj rO oK::I (((u5 h h.evs[a] a).take i).flatMap (rwF h h.evs[a] a)) x,[]⟩) x0 hp0 es ?_
  intro i x li zi
  refine rn ?_;refine z7 rfl (fun hc34=> ?_) (fun hc34=> ?_)
  ·have hi:=zay hc34
   have ri:=zag (f:=zqt) hi
   obtain ⟨⟨o0,o1⟩,ol,orr⟩:=hok.2 _ (List.getElem_mem hi)
   refine rn ?_;refine z8 rfl (y5 rfl fun b7=> ?_)
   refine rn ?_;refine zha (u5 h h.evs[a] a)[i].2.length (fun j (x:σ)=>p ((((u5 h h.evs[a] a).take i).flatMap (rwF h h.evs[a] a))++((u5 h h.evs[a] a)[i].2.take j).filterMap (zgd h h.evs[a] (zhh h.evs[a]) a (u5 h h.evs[a] a)[i].1)) x) (fun j x=>⟨[(40,iv j),(0,y),(5,.fn (.func 135) [] [pZ bp,pZ b4,pZ ba]),(7,pZ b7),(31,zja (u5 h h.evs[a] a)),(32,iv ((u5 h h.evs[a] a).map zqt).length),(33,iv i),(38,zaq (u5 h h.evs[a] a)[i].2),(39,iv ((u5 h h.evs[a] a)[i].2.map zai).length)],.box b7 177 (zqt (u5 h h.evs[a] a)[i]):: .box b4 60 (evR h.evs[a]):: .box ba 3 [iv (a:Int)]:: .box bp 119 (rwP h rc rl rk rg)::rgR rg M::rkS h rk::zch h rl::rcR h rc:: .glob 2 156 y3:: .glob 4 305 y4:: .glob 5 308 y1:: .glob 3 246 q7:: .glob 1 175 zcw:: .glob 0 171 [mpv rO]:: .obj rO oK::I ((((u5 h h.evs[a] a).take i).flatMap (rwF h h.evs[a] a))++((u5 h h.evs[a] a)[i].2.take j).filterMap (zgd h h.evs[a] (zhh h.evs[a]) a (u5 h h.evs[a] a)[i].1)) x,[]⟩) x (by simpa using zi) (by simpa using eA) ?_
   intro j x lj zj
   refine rn ?_;refine z7 rfl (fun hc41=> ?_) (fun hc41=> ?_)
   ·have hj:=zay hc41
    have rj:=zag (f:=zai) hj
    obtain ⟨u1,u2⟩:=orr _ (List.getElem_mem hj)
    refine rn ?_;refine qv rfl rfl (y2 rfl rfl (y0.qt (y0.of_acall (fs:= []) (cs:= [pZ bp,pZ b4,pZ ba]) (ypx h (u5 h h.evs[a] a)[i].1 (u5 h h.evs[a] a)[i].2[j] o0 o1 u1 u2 h.evs[a] a bp b4 ba rc rl rk rg M rO oK hK (I ((((u5 h h.evs[a] a).take i).flatMap (rwF h h.evs[a] a))++((u5 h h.evs[a] a)[i].2.take j).filterMap (zgd h h.evs[a] (zhh h.evs[a]) a (u5 h h.evs[a] a)[i].1)) x))) (List.perm_append_comm (l₁:= [_])))) ?_
    refine rn ?_;refine z8 rfl (y5 rfl fun b10=> ?_)
    refine rn ?_;refine w7 (fun hg10_1=> ?_) (fun hg10_1=> ?_)
    ·refine q1 ?_;refine q1 ?_;obtain ⟨rest,hL⟩:=yp4 hm hi hj (ykn hg10_1)
     refine z8 rfl (v2 rfl rfl (y0.fr3 (hy ((((u5 h h.evs[a] a).take i).flatMap (rwF h h.evs[a] a))++((u5 h h.evs[a] a)[i].2.take j).filterMap (zgd h h.evs[a] (zhh h.evs[a]) a (u5 h h.evs[a] a)[i].1)) _ rest x M hL zj hM)) rfl ?_)
     rintro _ _ ⟨_,rfl,x',⟨rfl,hp',rfl⟩|⟨rfl,hq',rfl⟩⟩
     ·refine rn ?_;refine z7 rfl (fun hc58=> ?_) (fun hc58=> ?_)
      ·first|cases hc58|exact absurd hc58 (by decide)|(exfalso;simp_all;done)
      ·refine rn ?_;first|exact ⟨hj,x',by rw [ytb hj hg10_1];exact hp',by rw [ytb hj hg10_1];exact eA⟩|exact ⟨hj,x,by rw [ytc hj hg10_1];exact zj,by rw [ytc hj hg10_1];exact eA⟩
     ·refine rn ?_;refine z7 rfl (fun hc58=> ?_) (fun hc58=> ?_)
      ·refine rn ?_;exact zef .nil (.drop [_,_,_] _ _) ⟨x',M,hM,.inr ⟨hq',rfl⟩⟩
      ·first|cases hc58|exact absurd hc58 (by decide)|(exfalso;simp_all;done)
    ·refine rn ?_;refine zd9 rfl ?_;refine rn ?_;first|exact ⟨hj,x',by rw [ytb hj hg10_1];exact hp',by rw [ytb hj hg10_1];exact eA⟩|exact ⟨hj,x,by rw [ytc hj hg10_1];exact zj,by rw [ytc hj hg10_1];exact eA⟩
   ·have qj:=zaz hc41 lj
    refine rn ?_;exact ⟨hi,x,by rw [←yjz hi qj];exact zj,by rw [←yjz hi qj];exact eA⟩
  ·have qi:=zaz hc34 li
   refine rn ?_;exact zd2 .nil (.drop [_] _ _) ⟨x,M,hM,.inl ⟨by rw [zvl a hm];rw [qi,List.take_length] at zi;exact zi,by rw [zvl a hm,qi,List.take_length]⟩⟩
theorem ymy {α:Type} (x1 x2 x3 x4 x5 x6 x7 x8 x9 x10 x11 x12 x13 x:α) (l:List α):(x1::x2::x3::x4::x5::x6::x7::x8::x9::x10::x11::x12::x13::x::l).Perm (x::x1::x2::x3::x4::x5::x6::x7::x8::x9::x10::x11::x12::x13::l):=(List.Perm.cons x1 (yuj x2 x3 x4 x5 x6 x7 x8 x9 x10 x11 x12 x13 x l)).trans (.swap x x1 _)
theorem ywt {α:Type} (x1 x2 x3 x4 x5 x6 x7 x8 x9 x10 x11 x12 x13 x14 x:α) (l:List α):(x1::x2::x3::x4::x5::x6::x7::x8::x9::x10::x11::x12::x13::x14::x::l).Perm (x::x1::x2::x3::x4::x5::x6::x7::x8::x9::x10::x11::x12::x13::x14::l):=(List.Perm.cons x1 (ymy x2 x3 x4 x5 x6 x7 x8 x9 x10 x11 x12 x13 x14 x l)).trans (.swap x x1 _)
def cfz:Conf:=⟨0,0,0,0,0,0,0⟩
abbrev gC (c:Conf):AV:= .agg (zaf c)
instance:ZV (.agg #[.int .i64 0,.int .i64 0,.int .i64 0,.int .i64 0,.int .i64 0,.int .i64 0,.int .i64 0]) (gC cfz):=⟨fun w O u h=>by
 rw [h.v_eq]
 refine .agg _ _ rfl fun j h1 h2=> ?_
 match j,h1,h2 with
 |0,_,_=>exact .v _
 |1,_,_=>exact .v _
 |2,_,_=>exact .v _
 |3,_,_=>exact .v _
 |4,_,_=>exact .v _
 |5,_,_=>exact .v _
 |6,_,_=>exact .v _
 |j+7,h1,_=>exact absurd h1 (by show ¬j+7 < 7;omega)⟩
theorem yky {m:List ((Int×Int)×Conf)} {c:Conf} (h:(!(za9 (c.f,c.t) m).isSome)=true∨decide (zi3 c ((za9 (c.f,c.t) m).getD cfz) < 0)=true):zfo m c=zdw (c.f,c.t) c m:=by
 unfold zfo
 rw [show zl7 c=(c.f,c.t) from rfl]
 cases hq:za9 (c.f,c.t) m with
 |none=>rfl
 |some b=>
  rw [hq] at h
  simp only
  rcases h with h|h
  ·simp at h
  ·rw [if_pos (by simpa using h)]
theorem ysq {m:List ((Int×Int)×Conf)} {c:Conf} (h1:(!(za9 (c.f,c.t) m).isSome)=false) (h2:decide (zi3 c ((za9 (c.f,c.t) m).getD cfz) < 0)=false):zfo m c=m:=by
 unfold zfo
 rw [show zl7 c=(c.f,c.t) from rfl]
 cases hq:za9 (c.f,c.t) m with
 |none=>rw [hq] at h1;simp at h1
 |some b=>
  rw [hq] at h2
  simp only
  rw [if_neg (by simpa using h2)]
theorem zgf {α β:Type} (f:α→List β) (c:Nat):∀l:List α,(∀a∈l,(f a).length≤c)→(l.flatMap f).length≤l.length * c
 | [],_=>by simp
 |a::l,hf=>by
  have:=zgf f c l fun x hx=>hf x (List.mem_cons_of_mem _ hx)
  have:=hf a (by simp)
  rw [List.flatMap_cons,List.length_append,List.length_cons,Nat.succ_mul];omega
theorem zxk {h:Hist} (hc:v6 h=0) {a:Nat} (ha:a < h.evs.length):(zh3 h h.evs[a] a).length≤16000000:=by
 obtain ⟨h1,h2⟩:=seen_ok hc (List.getElem_mem ha) a
 rw [zh3]
 split
 ·refine Nat.le_trans (zgf _ 4000 _ fun p hp=>Nat.le_trans (List.length_filterMap_le _ _) (h2 p hp).2.1) ?_
  omega
 ·exact Nat.zero_le _
def yfm (L:List ((Int×Int)×Conf)) (sn:List Nat):List Conf:=sn.reverse.map fun i=>((L[i]?).map Prod.snd).getD cfz
theorem zw6 (L:List ((Int×Int)×Conf)) (sn:List Nat):(yfm L sn).length=sn.length:=by simp [yfm]
theorem yqs {L:List ((Int×Int)×Conf)} {i:Nat} {sn:List Nat} (hi:i < L.length):yfm L (i::sn)=yfm L sn++ [L[i].2]:=by
 simp [yfm,List.getElem?_eq_getElem hi]
theorem zy4 (L:List ((Int×Int)×Conf)):(List.range L.length).map (fun i=>((L[i]?).map Prod.snd).getD cfz)=L.map Prod.snd:=by
 refine List.ext_getElem (by simp) fun i h1 h2=> ?_
 simp at h1
 simp [List.getElem?_eq_getElem h1]
theorem ych {L:List ((Int×Int)×Conf)} {sn:List Nat} (hn:sn.Nodup) (hl:∀i∈sn,i < L.length) (ha:∀i,i < L.length→i∈sn):(yfm L sn).Perm (L.map Prod.snd):=by
 rw [←zy4,yfm]
 refine List.Perm.map _ ((List.reverse_perm sn).trans ?_)
 exact (List.perm_ext_iff_of_nodup hn List.nodup_range).2 fun i=>by rw [List.mem_range];exact ⟨hl i,ha i⟩
theorem yt3 (h:Hist) (la:Lim 4611686018427387904 h) (rO:Nat) (oK:Obj):y7 Tryz.prog 87 [.agg (y9 h)] (.glob 2 156 y3:: .glob 4 305 y4:: .glob 5 308 y1:: .glob 3 246 q7:: .glob 1 175 zcw:: .glob 0 171 [mpv rO]:: .obj rO oK:: []) (fun r h'=>(v6 h=0∧∃rc rl rk rg,h'=rgR rg []::rkS h rk::zch h rl::rcR h rc:: .glob 2 156 y3:: .glob 4 305 y4:: .glob 5 308 y1:: .glob 3 246 q7:: .glob 1 175 zcw:: .glob 0 171 [mpv rO]:: .obj rO oK:: []∧r= .tup [.agg (rwP h rc rl rk rg),iv 0])∨(v6 h≠0∧h'= .glob 2 156 y3:: .glob 4 305 y4:: .glob 5 308 y1:: .glob 3 246 q7:: .glob 1 175 zcw:: .glob 0 171 [mpv rO]:: .obj rO oK:: []∧r= .tup [.agg (zox++ [nmp,.v (.slice none 0 0),nmp,nmp,nmp]),iv (v6 h)])):=
 ((ywj h la).frame [.glob 1 175 zcw,.glob 0 171 [mpv rO],.obj rO oK]).mono (by
   rintro _ _ ⟨_,rfl,⟨hc,rc,rl,rk,rg,rfl,rfl⟩|⟨hc,rfl,rfl⟩⟩
   ·exact .inl ⟨hc,rc,rl,rk,rg,rfl,rfl⟩
   ·exact .inr ⟨hc,rfl,rfl⟩)
theorem zqi {h:Hist} {F:Ev→Nat→List Conf} {j:Nat} (hj:j < h.evs.length) (hd:ze6 h.evs h.evs[j].t 5=true):zad h F (j+1)=zad h F j++F h.evs[j] j:=by
 rw [zad,List.getElem?_eq_getElem hj];simp only;rw [if_pos hd]
theorem zt9 {h:Hist} {F:Ev→Nat→List Conf} {j:Nat} (hj:j < h.evs.length) (hd:ze6 h.evs h.evs[j].t 5=false):zad h F (j+1)=zad h F j:=by
 rw [zad,List.getElem?_eq_getElem hj];simp only;rw [hd,if_neg (by decide),List.append_nil]
theorem zwc {h:Hist} {F:Ev→Nat→List Conf} {m:Nat}:∀{n},m≤n→∃R,zad h F n=zad h F m++R
 |0,hm=>⟨[],by rw [Nat.le_zero.1 hm,List.append_nil]⟩
 |n+1,hm=>by
  by_cases e:m=n+1
  ·exact ⟨[],by rw [e,List.append_nil]⟩
  ·obtain ⟨R,hR⟩:=zwc (h:=h) (F:=F) (m:=m) (n:=n) (by omega)
   exact ⟨_,by rw [zad,hR,List.append_assoc]⟩
theorem yac {h:Hist} {F:Ev→Nat→List Conf} {j:Nat} (hj:j < h.evs.length) (hd:ze6 h.evs h.evs[j].t 5=true) {pre rest:List Conf} {d:Conf} (hL:F h.evs[j] j=pre++d::rest):∃R,zad h F h.evs.length=(zad h F j++pre)++d::R:=by
 obtain ⟨R,hR⟩:=zwc (h:=h) (F:=F) (m:=j+1) (n:=h.evs.length) hj
 exact ⟨rest++R,by rw [hR,zqi hj hd,hL];simp [List.append_assoc]⟩
def yfe (h:Hist) (each:AV) (g:Nat) (F:Ev→Nat→List Conf) (bl rd rf rk rg:Nat):Prop:=
 (∀(a:Nat) (W:List Res),y0 Tryz.prog each [iv (a:Int)] W (fun r h'=>∃ba bp,h'= .box ba 3 [iv (a:Int)]:: .box bp 147 [pZ bl]::W∧r= .fn (.func g) [] [pZ bp,pZ ba]))∧
 ∀(σ:Type) (a:Nat) (ha:a < h.evs.length) (y:AV) (bp ba:Nat) (M0:List ((Int×Int)×List Int)) (hM0:zfy h M0) (pP:List Conf→σ→Prop) (qP:σ→Prop) (I:List Conf→σ→List Res) (X:σ→List Res) (x0:σ) (hp0:pP [] x0) (_hy:∀pre d rest x M,(F h.evs[a] a)=pre++d::rest→pP pre x→zfy h M→y0 Tryz.prog y [.agg (zaf d)] (.box ba 3 [iv (a:Int)]:: .box bp 147 [pZ bl]:: .box bl 202 (wrP h rd rf rk rg)::rgR rg M::rkS h rk::zdy h rf::rcR h rd:: .glob 2 156 y3:: .glob 4 305 y4:: .glob 5 308 y1:: .glob 3 246 q7::I pre x) (fun r h'=>∃x',(r=bv true∧pP (pre++ [d]) x'∧h'= .box ba 3 [iv (a:Int)]:: .box bp 147 [pZ bl]:: .box bl 202 (wrP h rd rf rk rg)::rgR rg M::rkS h rk::zdy h rf::rcR h rd:: .glob 2 156 y3:: .glob 4 305 y4:: .glob 5 308 y1:: .glob 3 246 q7::I (pre++ [d]) x')∨(r=bv false∧qP x'∧h'= .box ba 3 [iv (a:Int)]:: .box bp 147 [pZ bl]:: .box bl 202 (wrP h rd rf rk rg)::rgR rg M::rkS h rk::zdy h rf::rcR h rd:: .glob 2 156 y3:: .glob 4 305 y4:: .glob 5 308 y1:: .glob 3 246 q7::X x'))),
  y7 Tryz.prog g [y,pZ bp,pZ ba] (.box ba 3 [iv (a:Int)]:: .box bp 147 [pZ bl]:: .box bl 202 (wrP h rd rf rk rg)::rgR rg M0::rkS h rk::zdy h rf::rcR h rd:: .glob 2 156 y3:: .glob 4 305 y4:: .glob 5 308 y1:: .glob 3 246 q7::I [] x0) (fun r h'=>∃x M,zfy h M∧((pP (F h.evs[a] a) x∧h'= .box ba 3 [iv (a:Int)]:: .box bp 147 [pZ bl]:: .box bl 202 (wrP h rd rf rk rg)::rgR rg M::rkS h rk::zdy h rf::rcR h rd:: .glob 2 156 y3:: .glob 4 305 y4:: .glob 5 308 y1:: .glob 3 246 q7::I (F h.evs[a] a) x)∨(qP x∧h'= .box ba 3 [iv (a:Int)]:: .box bp 147 [pZ bl]:: .box bl 202 (wrP h rd rf rk rg)::rgR rg M::rkS h rk::zdy h rf::rcR h rd:: .glob 2 156 y3:: .glob 4 305 y4:: .glob 5 308 y1:: .glob 3 246 q7::X x)))
theorem zo4 (h:Hist) (la:Lim 4611686018427387904 h) (hc:v6 h=0) (bl rd rf rk rg:Nat):yfe h (.fn (.func 114) [pZ bl] []) 158 (zc4 h) bl rd rf rk rg:=
 ⟨fun a W=>y0.of_acall (fs:= [pZ bl]) (cs:= []) (yf1 a bl W),fun _ a ha y bp ba M0 hM0 p q I X x0 hp0 hy=>yld h la hc a ha y bp ba bl rd rf rk rg M0 hM0 p q I X x0 hp0 hy⟩
theorem zo3 (h:Hist) (la:Lim 4611686018427387904 h) (hc:v6 h=0) (bl rd rf rk rg:Nat):yfe h (.fn (.func 115) [pZ bl] []) 160 (zer h) bl rd rf rk rg:=
 ⟨fun a W=>y0.of_acall (fs:= [pZ bl]) (cs:= []) (yf0 a bl W),fun _ a ha y bp ba M0 hM0 p q I X x0 hp0 hy=>ylb h la hc a ha y bp ba bl rd rf rk rg M0 hM0 p q I X x0 hp0 hy⟩
theorem yad (bl ee:Nat) (W:List Res):y7 Tryz.prog 113 [pZ bl,(.fn (.func ee) [pZ bl] [])] W (fun r h'=>∃bE bL,h'= .box bE 95 [(.fn (.func ee) [pZ bl] [])]:: .box bL 147 [pZ bl]::W∧r= .fn (.func 157) [] [pZ bL,pZ bE]):=by
 refine z6 Tryz.func113 rfl rfl rfl ?_
 refine rn ?_;refine z8 rfl (w8 rfl rfl rfl fun b2=> ?_)
 refine z8 rfl (w8 rfl rfl rfl fun b3=> ?_)
 refine rn ?_;exact j9 rfl (.refl _ _) ⟨_,_,rfl,rfl⟩
theorem yca (q:Nat) (A B:List Res) (dfs:List Nat):(Res.defs q::(A++(B++dfs.map Res.defs))).Perm (A++(B++(q::dfs).map Res.defs)):=by
 rw [←List.append_assoc,←List.append_assoc];exact List.perm_middle.symm
theorem zw5 (A B:List Res) (dfs:List Nat):(A++(B++dfs.map Res.defs)).Perm (dfs.map Res.defs++(A++B)):=by
 rw [←List.append_assoc];exact List.perm_append_comm
theorem yjj {σ:Type} (h:Hist) (la:Lim 4611686018427387904 h) (ee g:Nat) [Go.Ab.Enters Tryz.prog g] (F:Ev→Nat→List Conf) (bl rd rf rk rg:Nat) (hT:yfe h (.fn (.func ee) [pZ bl] []) g F bl rd rf rk rg) (y:AV) (hone:y.cellsOf=some [y]) (bL bE:Nat) (M0:List ((Int×Int)×List Int)) (hM0:zfy h M0) (pP:List Conf→σ→Prop) (qP:σ→Prop) (I:List Conf→σ→List Res) (X:σ→List Res) (x0:σ) (hp0:pP [] x0) (hy:∀pre d rest x M,(zad h F h.evs.length)=pre++d::rest→pP pre x→zfy h M→y0 Tryz.prog y [.agg (zaf d)] (.box bE 95 [(.fn (.func ee) [pZ bl] [])]:: .box bL 147 [pZ bl]:: .box bl 202 (wrP h rd rf rk rg)::rgR rg M::rkS h rk::zdy h rf::rcR h rd:: .glob 2 156 y3:: .glob 4 305 y4:: .glob 5 308 y1:: .glob 3 246 q7::I pre x) (fun r h'=>∃x',(r=bv true∧pP (pre++ [d]) x'∧h'= .box bE 95 [(.fn (.func ee) [pZ bl] [])]:: .box bL 147 [pZ bl]:: .box bl 202 (wrP h rd rf rk rg)::rgR rg M::rkS h rk::zdy h rf::rcR h rd:: .glob 2 156 y3:: .glob 4 305 y4:: .glob 5 308 y1:: .glob 3 246 q7::I (pre++ [d]) x')∨(r=bv false∧qP x'∧h'= .box bE 95 [(.fn (.func ee) [pZ bl] [])]:: .box bL 147 [pZ bl]:: .box bl 202 (wrP h rd rf rk rg)::rgR rg M::rkS h rk::zdy h rf::rcR h rd:: .glob 2 156 y3:: .glob 4 305 y4:: .glob 5 308 y1:: .glob 3 246 q7::X x'))):y7 Tryz.prog 157 [y,pZ bL,pZ bE] (.box bE 95 [(.fn (.func ee) [pZ bl] [])]:: .box bL 147 [pZ bl]:: .box bl 202 (wrP h rd rf rk rg)::rgR rg M0::rkS h rk::zdy h rf::rcR h rd:: .glob 2 156 y3:: .glob 4 305 y4:: .glob 5 308 y1:: .glob 3 246 q7::I [] x0) (fun r h'=>∃x M,zfy h M∧((pP (zad h F h.evs.length) x∧h'= .box bE 95 [(.fn (.func ee) [pZ bl] [])]:: .box bL 147 [pZ bl]:: .box bl 202 (wrP h rd rf rk rg)::rgR rg M::rkS h rk::zdy h rf::rcR h rd:: .glob 2 156 y3:: .glob 4 305 y4:: .glob 5 308 y1:: .glob 3 246 q7::I (zad h F h.evs.length) x)∨(qP x∧h'= .box bE 95 [(.fn (.func ee) [pZ bl] [])]:: .box bL 147 [pZ bl]:: .box bl 202 (wrP h rd rf rk rg)::rgR rg M::rkS h rk::zdy h rf::rcR h rd:: .glob 2 156 y3:: .glob 4 305 y4:: .glob 5 308 y1:: .glob 3 246 q7::X x))):=by
 refine z6 Tryz.func157 rfl rfl rfl ?_
 have be:=la.evs
 have hyF:∀pre d rest x M (W:List Res),(zad h F h.evs.length)=pre++d::rest→pP pre x→zfy h M→y0 Tryz.prog y [.agg (zaf d)] (.box bE 95 [(.fn (.func ee) [pZ bl] [])]:: .box bL 147 [pZ bl]:: .box bl 202 (wrP h rd rf rk rg)::rgR rg M::rkS h rk::zdy h rf::rcR h rd:: .glob 2 156 y3:: .glob 4 305 y4:: .glob 5 308 y1:: .glob 3 246 q7::(I pre x++W)) (fun r h'=>∃x',(r=bv true∧pP (pre++ [d]) x'∧h'= .box bE 95 [(.fn (.func ee) [pZ bl] [])]:: .box bL 147 [pZ bl]:: .box bl 202 (wrP h rd rf rk rg)::rgR rg M::rkS h rk::zdy h rf::rcR h rd:: .glob 2 156 y3:: .glob 4 305 y4:: .glob 5 308 y1:: .glob 3 246 q7::(I (pre++ [d]) x'++W))∨(r=bv false∧qP x'∧h'= .box bE 95 [(.fn (.func ee) [pZ bl] [])]:: .box bL 147 [pZ bl]:: .box bl 202 (wrP h rd rf rk rg)::rgR rg M::rkS h rk::zdy h rf::rcR h rd:: .glob 2 156 y3:: .glob 4 305 y4:: .glob 5 308 y1:: .glob 3 246 q7::(X x'++W))):=fun pre d rest x M W e hp hM=>((hy pre d rest x M e hp hM).frame W).mono (by
  rintro _ _ ⟨_,rfl,x',⟨rfl,hp',rfl⟩|⟨rfl,hq',rfl⟩⟩
  ·exact ⟨x',.inl ⟨rfl,hp',rfl⟩⟩
  ·exact ⟨x',.inr ⟨rfl,hq',rfl⟩⟩)
 refine rn ?_;refine z8 rfl (w8 rfl hone rfl fun b3=> ?_)
 refine rn ?_;refine zha h.evs.length (fun j (z:σ×List ((Int×Int)×List Int)×List Nat)=>pP (zad h F j) z.1∧zfy h z.2.1) (fun j z=>⟨[(13,iv j),(1,pZ bL),(2,pZ bE),(3,pZ b3),(11,znz h.evs),(12,iv (h.evs.map evR).length)],.box b3 76 [y]:: .box bE 95 [(.fn (.func ee) [pZ bl] [])]:: .box bL 147 [pZ bl]:: .box bl 202 (wrP h rd rf rk rg)::rgR rg z.2.1::rkS h rk::zdy h rf::rcR h rd:: .glob 2 156 y3:: .glob 4 305 y4:: .glob 5 308 y1:: .glob 3 246 q7::(I (zad h F j) z.1++(z.2.2.map Res.defs)),z.2.2⟩) (x0,M0,[]) ⟨hp0,hM0⟩ (by simp only [List.map_nil,List.append_nil];exact es) ?_
 rintro j ⟨x,M,dfs⟩ lj ⟨hx,hM⟩
 have hx:pP (zad h F j) x:=hx
 have hM:zfy h M:=hM
 show aw _ _ _ _ _ ⟨[(13,iv j),(1,pZ bL),(2,pZ bE),(3,pZ b3),(11,znz h.evs),(12,iv (h.evs.map evR).length)],.box b3 76 [y]:: .box bE 95 [(.fn (.func ee) [pZ bl] [])]:: .box bL 147 [pZ bl]:: .box bl 202 (wrP h rd rf rk rg)::rgR rg M::rkS h rk::zdy h rf::rcR h rd:: .glob 2 156 y3:: .glob 4 305 y4:: .glob 5 308 y1:: .glob 3 246 q7::(I (zad h F j) x++(dfs.map Res.defs)),dfs⟩
 refine rn ?_;refine z7 rfl (fun hc14=> ?_) (fun hc14=> ?_)
 ·have hj:=zay hc14
  have rj:=zag (f:=evR) hj
  refine rn ?_;refine z8 rfl (y5 rfl fun b5=> ?_)
  refine rn ?_;refine j4 6 rfl ?_
  refine rn2 ?_;refine qq rfl rfl (zbm (enc:=intK) (k:=h.evs[j].t) false rfl rfl) ?_
  refine rn ?_;refine z7 rfl (fun hc25=> ?_) (fun hc25=> ?_)
  ·have hd:ze6 h.evs h.evs[j].t 5=false:=by rw [←zf1];simpa using hc25
   have hw:zad h F (j+1)=(zad h F j):=zt9 hj hd
   refine rn ?_;exact ⟨hj,(x,M,dfs),⟨by simp only;rw [hw];exact hx,hM⟩,by simp only;rw [hw];exact eA⟩
  ·have hd:ze6 h.evs h.evs[j].t 5=true:=by rw [←zf1];simpa using hc25
   have hw:=zqi (F:=F) hj hd
   refine rn ?_;refine z8 rfl (v2 rfl rfl (hT.1 j _) rfl ?_)
   rintro _ _ ⟨ba,bp,rfl,rfl⟩
   refine rn ?_;refine zl9 (fun pend h''=>∃x M,zfy h M∧((pend=none∧pP ((zad h F j)++(F h.evs[j] j)) x∧h''= .box ba 3 [iv (j:Int)]:: .box bp 147 [pZ bl]:: .box bl 202 (wrP h rd rf rk rg)::rgR rg M::rkS h rk::zdy h rf::rcR h rd:: .glob 2 156 y3:: .glob 4 305 y4:: .glob 5 308 y1:: .glob 3 246 q7:: .box b5 60 (evR h.evs[j]):: .box b3 76 [y]:: .box bE 95 [(.fn (.func ee) [pZ bl] [])]:: .box bL 147 [pZ bl]::(I ((zad h F j)++(F h.evs[j] j)) x++(dfs.map Res.defs)))∨(pend=some .ret∧qP x∧h''= .box ba 3 [iv (j:Int)]:: .box bp 147 [pZ bl]:: .box bl 202 (wrP h rd rf rk rg)::rgR rg M::rkS h rk::zdy h rf::rcR h rd:: .glob 2 156 y3:: .glob 4 305 y4:: .glob 5 308 y1:: .glob 3 246 q7:: .box b5 60 (evR h.evs[j]):: .box b3 76 [y]:: .box bE 95 [(.fn (.func ee) [pZ bl] [])]:: .box bL 147 [pZ bl]::(X x++(dfs.map Res.defs))))) rfl (fun fn l q lp hlp=> ?_) (fun q h'' hK=> ?_) (fun q h'' cc hK=> ?_)
   ·suffices hy2:∀pre d rest x M,(F h.evs[j] j)=pre++d::rest→pP ((zad h F j)++pre) x→zfy h M→y0 Tryz.prog (yv l) [.agg (zaf d)] (.box ba 3 [iv (j:Int)]:: .box bp 147 [pZ bl]:: .box bl 202 (wrP h rd rf rk rg)::rgR rg M::rkS h rk::zdy h rf::rcR h rd:: .glob 2 156 y3:: .glob 4 305 y4:: .glob 5 308 y1:: .glob 3 246 q7::lp .ready none:: .defs q:: .box b5 60 (evR h.evs[j]):: .box b3 76 [y]:: .box bE 95 [(.fn (.func ee) [pZ bl] [])]:: .box bL 147 [pZ bl]::(I ((zad h F j)++pre) x++(dfs.map Res.defs))) (fun r h'=>∃x',(r=bv true∧pP ((zad h F j)++(pre++ [d])) x'∧h'= .box ba 3 [iv (j:Int)]:: .box bp 147 [pZ bl]:: .box bl 202 (wrP h rd rf rk rg)::rgR rg M::rkS h rk::zdy h rf::rcR h rd:: .glob 2 156 y3:: .glob 4 305 y4:: .glob 5 308 y1:: .glob 3 246 q7::lp .ready none:: .defs q:: .box b5 60 (evR h.evs[j]):: .box b3 76 [y]:: .box bE 95 [(.fn (.func ee) [pZ bl] [])]:: .box bL 147 [pZ bl]::(I ((zad h F j)++(pre++ [d])) x'++(dfs.map Res.defs)))∨(r=bv false∧qP x'∧h'= .box ba 3 [iv (j:Int)]:: .box bp 147 [pZ bl]:: .box bl 202 (wrP h rd rf rk rg)::rgR rg M::rkS h rk::zdy h rf::rcR h rd:: .glob 2 156 y3:: .glob 4 305 y4:: .glob 5 308 y1:: .glob 3 246 q7::lp .done (some .ret):: .defs q:: .box b5 60 (evR h.evs[j]):: .box b3 76 [y]:: .box bE 95 [(.fn (.func ee) [pZ bl] [])]:: .box bL 147 [pZ bl]::(X x'++(dfs.map Res.defs)))) by
     have hq:=hT.2 σ j hj (yv l) bp ba M hM (fun pre x=>pP ((zad h F j)++pre) x) qP (fun pre x=>lp .ready none:: .defs q:: .box b5 60 (evR h.evs[j]):: .box b3 76 [y]:: .box bE 95 [(.fn (.func ee) [pZ bl] [])]:: .box bL 147 [pZ bl]::(I ((zad h F j)++pre) x++(dfs.map Res.defs))) (fun x=>lp .done (some .ret):: .defs q:: .box b5 60 (evR h.evs[j]):: .box b3 76 [y]:: .box bE 95 [(.fn (.func ee) [pZ bl] [])]:: .box bL 147 [pZ bl]::(X x++(dfs.map Res.defs))) x (by rw [List.append_nil];exact hx) hy2
     simp only [List.append_nil] at hq
     refine y7.mono (y7.perm ((pt2 _ _ _ _).trans (.cons _ ((pt2 _ _ _ _).trans (.cons _ ((pt6 _ _ _ _ _ _ _ _).trans (.cons _ ((pt6 _ _ _ _ _ _ _ _).trans (.cons _ ((pt6 _ _ _ _ _ _ _ _).trans (.cons _ ((pt6 _ _ _ _ _ _ _ _).trans (.cons _ ((pt6 _ _ _ _ _ _ _ _).trans (.cons _ ((pt6 _ _ _ _ _ _ _ _).trans (.cons _ ((pt6 _ _ _ _ _ _ _ _).trans (.cons _ ((pt6 _ _ _ _ _ _ _ _).trans (.cons _ (pt6 _ _ _ _ _ _ _ _))))))))))))))))))))) hq) ?_
     rintro _ _ ⟨x,M,hM,⟨hn,rfl⟩|⟨hn,rfl⟩⟩
     ·exact ⟨none,.ready,_,((zw3 _ _ _ _ _ _ _ _ _ _ _ _ _).trans (.cons _ (zw3 _ _ _ _ _ _ _ _ _ _ _ _ _))),by simp,x,M,hM,.inl ⟨rfl,hn,rfl⟩⟩
     ·exact ⟨some .ret,.done,_,((zw3 _ _ _ _ _ _ _ _ _ _ _ _ _).trans (.cons _ (zw3 _ _ _ _ _ _ _ _ _ _ _ _ _))),by simp,x,M,hM,.inr ⟨rfl,hn,rfl⟩⟩
    intro pre d rest x M hL hpre hM
    obtain ⟨R,hL2⟩:=yac hj hd hL
    refine y0.perm (zw3 _ _ _ _ _ _ _ _ _ _ _ _ _) (y0.ventE ?_)
    refine zdm hlp rfl rfl ?_
    refine rn ?_;refine z8 rfl (y5 rfl fun b6=> ?_)
    refine rn ?_;refine ⟨[(6,pZ b6),(3,pZ b3)],.box b6 41 (zaf d):: .box ba 3 [iv (j:Int)]:: .box bp 147 [pZ bl]:: .box bl 202 (wrP h rd rf rk rg)::rgR rg M::rkS h rk::zdy h rf::rcR h rd:: .glob 2 156 y3:: .glob 4 305 y4:: .glob 5 308 y1:: .glob 3 246 q7:: .defs q:: .box b5 60 (evR h.evs[j]):: .box b3 76 [y]:: .box bE 95 [(.fn (.func ee) [pZ bl] [])]:: .box bL 147 [pZ bl]::(I ((zad h F j)++pre) x++(dfs.map Res.defs)),v8 (zbd (pt1 _ _ _)) es,?_⟩
    refine zb9 ?_;refine w9 (y6 ?_)
    refine q1 ?_;refine q1 ?_;refine z8 rfl (v2 rfl rfl (y0.perm (.cons _ (.cons _ (.cons _ (.cons _ ((pt9 _ _ _ _ _ _ _ _ _ _ _).trans (.cons _ ((pt9 _ _ _ _ _ _ _ _ _ _ _).trans (.cons _ ((pt9 _ _ _ _ _ _ _ _ _ _ _).trans (.cons _ ((pt9 _ _ _ _ _ _ _ _ _ _ _).trans (.cons _ (pt9 _ _ _ _ _ _ _ _ _ _ _))))))))))))) (y0.fr7 (hyF ((zad h F j)++pre) d R x M (dfs.map Res.defs) hL2 hpre hM))) rfl ?_)
    rintro _ _ ⟨_,rfl,x',⟨rfl,hp',rfl⟩|⟨rfl,hq',rfl⟩⟩
    ·refine rn ?_;refine z7 rfl (fun hc33=> ?_) (fun hc33=> ?_)
     ·first|cases hc33|exact absurd hc33 (by decide)|(exfalso;simp_all;done)
     ·refine rn ?_;exact zdg (.refl _) ⟨_,_,.trans (.perm ((pt1 _ _ _).trans (.cons _ ((pt1 _ _ _).trans (.cons _ ((pt1 _ _ _).trans (.cons _ ((pt6 _ _ _ _ _ _ _ _).trans (.cons _ ((pt6 _ _ _ _ _ _ _ _).trans (.cons _ ((pt6 _ _ _ _ _ _ _ _).trans (.cons _ ((pt6 _ _ _ _ _ _ _ _).trans (.cons _ ((pt6 _ _ _ _ _ _ _ _).trans (.cons _ ((pt6 _ _ _ _ _ _ _ _).trans (.cons _ ((pt6 _ _ _ _ _ _ _ _).trans (.cons _ ((pt6 _ _ _ _ _ _ _ _).trans (.cons _ (pt6 _ _ _ _ _ _ _ _))))))))))))))))))))))) _) (.drop [_] _ _),x',.inl ⟨rfl,by rw [←List.append_assoc];exact hp',by rw [←List.append_assoc]⟩⟩
    ·refine rn ?_;refine z7 rfl (fun hc33=> ?_) (fun hc33=> ?_)
     ·refine rn ?_;exact zqu (.refl _) ⟨_,_,.trans (.perm ((pt1 _ _ _).trans (.cons _ ((pt1 _ _ _).trans (.cons _ ((pt1 _ _ _).trans (.cons _ ((pt6 _ _ _ _ _ _ _ _).trans (.cons _ ((pt6 _ _ _ _ _ _ _ _).trans (.cons _ ((pt6 _ _ _ _ _ _ _ _).trans (.cons _ ((pt6 _ _ _ _ _ _ _ _).trans (.cons _ ((pt6 _ _ _ _ _ _ _ _).trans (.cons _ ((pt6 _ _ _ _ _ _ _ _).trans (.cons _ ((pt6 _ _ _ _ _ _ _ _).trans (.cons _ ((pt6 _ _ _ _ _ _ _ _).trans (.cons _ (pt6 _ _ _ _ _ _ _ _))))))))))))))))))))))) _) (.drop [_] _ _),x',.inr ⟨rfl,hq',rfl⟩⟩
     ·first|cases hc33|exact absurd hc33 (by decide)|(exfalso;simp_all;done)
   ·obtain ⟨x,M,hM,⟨_,hx,rfl⟩|⟨hc',_⟩⟩:=hK
    rotate_left
    ·cases hc'
    refine rn ?_;exact ⟨hj,(x,M,q::dfs),⟨by simp only;rw [hw];exact hx,hM⟩,by simp only;rw [hw];exact v8 (zbd ((List.Perm.cons _ ((zw3 _ _ _ _ _ _ _ _ _ _ _ _ _).trans (.cons _ (.cons _ (.cons _ ((pt9 _ _ _ _ _ _ _ _ _ _ _).trans (.cons _ ((pt9 _ _ _ _ _ _ _ _ _ _ _).trans (.cons _ (pt9 _ _ _ _ _ _ _ _ _ _ _)))))))))).trans (yca _ [_,_,_,_,_,_,_,_,_,_,_,_,_,_,_] _ _))) (v8 (zcp (h1:= [_,_,_])) es)⟩
   ·obtain ⟨x,M,hM,⟨hc',_⟩|⟨hc',hx,rfl⟩⟩:=hK
    ·cases hc'
    obtain rfl:cc= .ret:=by simpa using hc'
    refine rn ?_;exact zhu (.cons _ (zw5 [_,_,_,_,_,_,_,_,_,_,_,_,_,_,_] _ dfs)) .nil (.trans (.perm (.cons _ (.cons _ ((pt9 _ _ _ _ _ _ _ _ _ _ _).trans (.cons _ ((pt9 _ _ _ _ _ _ _ _ _ _ _).trans (.cons _ ((pt9 _ _ _ _ _ _ _ _ _ _ _).trans (.cons _ (pt9 _ _ _ _ _ _ _ _ _ _ _))))))))) _) (.drop [_,_,_,_] _ _)) ⟨x,M,hM,.inr ⟨hx,rfl⟩⟩
 ·have qj:=zaz hc14 lj
  subst qj
  refine rn ?_;exact ymg (zw5 [_,_,_,_,_,_,_,_,_,_,_,_] _ dfs) .nil (.drop [_] _ _) ⟨x,M,hM,.inl ⟨hx,rfl⟩⟩
end Go.Proofs
