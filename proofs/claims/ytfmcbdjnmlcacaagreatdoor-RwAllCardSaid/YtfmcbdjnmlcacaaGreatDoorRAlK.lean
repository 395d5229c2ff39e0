/- The walks of rw's from. Conditions: none. -/
import Derived.Test.YtfmcbdjnmlcacaaGreatDoorRAlJ
set_option maxHeartbeats 4000000
set_option linter.unusedSectionVars false
set_option linter.unusedSimpArgs false
set_option linter.unusedVariables false
set_option maxRecDepth 10000
namespace Go.Proofs
open Go Go.Ab
attribute [local irreducible] QR QV OE zcr aw zdf zcf zbm za3 thn zfo zd2 jch zfe
open Go.H
def zag:List AV:= [.any,.fn (.func 302) [] [],.fn (.func 302) [] [],.fn (.func 303) [] [],.fn (.func 304) [] [],.fn (.func 302) [] [],.fn (.func 302) [] []]
def ygx (k:Nat):AV:=zag.getD k .any
theorem ygv {k:Nat} (h2:k≤6):zag[k]? =some (ygx k):=by
 have:k < zag.length:=by show k < 7;omega
 rw [ygx,List.getD_eq_getElem?_getD,List.getElem?_eq_getElem this];rfl
def zkc (h:Hist) (x r:Int):Int:=((zb6 h x)[(r - 1).toNat]?).getD 0
def yab (h:Hist) (e:Ev) (a:Nat) (x r:Int):Conf:=if r > ((zb6 h x).length:Int) then ⟨0,0,0,0,0,0,0⟩ else ⟨e.t,zkc h x r,zvy e.kind,a,zek h (zkc h x r) x,x,e.p⟩
def zq8 (h:Hist) (e:Ev) (x r:Int):Bool:=if r > ((zb6 h x).length:Int) then false else zkc h x r !=e.t
theorem yky {h:Hist} {e:Ev} {a:Nat} {x r:Int} (hb:zq8 h e x r=true):zet h e (zgd e) a x r=some (yab h e a x r):=by
 rw [zq8] at hb
 split at hb
 ·cases hb
 ·rename_i hr
  have hn:¬(((zb6 h x)[(r - 1).toNat]?).getD 0==e.t)=true:=by rw [show ((zb6 h x)[(r - 1).toNat]?).getD 0=zkc h x r from rfl];simpa using hb
  rw [zet,if_neg hr,if_neg hn,yab,if_neg hr];rfl
theorem ysr {h:Hist} {e:Ev} {a:Nat} {x r:Int} (hb:zq8 h e x r=false):zet h e (zgd e) a x r=none:=by
 rw [zq8] at hb
 rw [zet]
 split at hb
 ·rename_i hr;rw [if_pos hr]
 ·rename_i hr
  rw [if_neg hr,if_pos (by rw [show ((zb6 h x)[(r - 1).toNat]?).getD 0=zkc h x r from rfl];simpa using hb)]
theorem seen_ok {h:Hist} (hc:u6 h=0) {e:Ev} (he:e∈h.evs) (a:Nat):(j3 h e a).length≤4000∧∀p∈j3 h e a,(0≤p.1∧p.1 < h.os.length)∧p.2.length≤4000∧∀r∈p.2,1≤r∧r≤5000:=by
 have hs:=zbh.1 hc
 have lA:=zfg hc
 have lO:=lA.os
 rw [j3]
 split
 ·rename_i h3
  obtain ⟨⟨o0,o1⟩,_⟩:=zsy (ze3 hs _ he) h3
  rw [ze5]
  cases hr:zmb h e.o e.v with
  |none=>exact ⟨Nat.zero_le _,fun p hp=>by cases hp⟩
  |some r=>
   have:=yqy hc o0 o1 hr
   refine ⟨by show 1≤4000;decide,fun p hp=> ?_⟩
   rw [List.mem_singleton] at hp
   subst hp
   refine ⟨⟨o0,o1⟩,by show 1≤4000;decide,fun q hq=> ?_⟩
   rw [List.mem_singleton] at hq
   subst hq
   omega
 ·split
  ·rename_i h4
   refine ⟨?_,fun p hp=> ?_⟩
   ·refine Nat.le_trans (List.length_filterMap_le _ _) ?_
    rw [zm6];omega
   ·rw [zii,List.mem_filterMap] at hp
    obtain ⟨s,hsm,hp⟩:=hp
    obtain ⟨⟨o0,o1⟩,_⟩:=zqm hsm
    unfold zdz at hp
    split at hp
    ·cases hp
    ·split at hp
     ·injection hp with hp
      subst hp
      have hcl:=yk9 hc e.p s.o
      refine ⟨⟨o0,o1⟩,Nat.le_trans (List.dropWhile_sublist _).length_le hcl,fun r hr=> ?_⟩
      have hr':r∈chL h e.p s.o:=(List.dropWhile_sublist _).subset hr
      rw [chL] at hr'
      split at hr'
      ·rename_i ht
       rw [yp1,zmu] at hr'
       obtain ⟨j,rfl,j0,j1,_⟩:=hr'
       rw [zm2] at j1
       have:=ztk hc o0 o1
       omega
      ·cases hr'
     ·cases hp
  ·exact ⟨Nat.zero_le _,fun p hp=>by cases hp⟩
def rwF (h:Hist) (e:Ev) (a:Nat) (p:Int×List Int):List Conf:=p.2.filterMap (zet h e (zgd e) a p.1)
theorem zv4 {h:Hist} {e:Ev} (a:Nat) (hm:zgf h.evs e.t 5=true):zcg h e a=(j3 h e a).flatMap (rwF h e a):=by rw [zcg,if_pos hm];rfl
theorem yd3 {h:Hist} {e:Ev} (a:Nat) (hm:zgf h.evs e.t 5=false):zcg h e a= []:=by rw [zcg,if_neg (by rw [hm];decide)]
theorem ywx {h:Hist} {e:Ev} {a:Nat} {L:List (Int×List Int)} {i:Nat} (hi:i < L.length):(L.take (i+1)).flatMap (rwF h e a)=(L.take i).flatMap (rwF h e a)++rwF h e a L[i]:=by
 rw [List.take_succ_eq_append_getElem hi,List.flatMap_append];simp
theorem ykc {h:Hist} {e:Ev} {a:Nat} {L:List (Int×List Int)} {i j:Nat} (hi:i < L.length) (qj:j=L[i].2.length):(L.take i).flatMap (rwF h e a)++(L[i].2.take j).filterMap (zet h e (zgd e) a L[i].1)=(L.take (i+1)).flatMap (rwF h e a):=by
 rw [ywx hi,qj,List.take_length];rfl
theorem yq0 {h:Hist} {e:Ev} {a:Nat} {i j:Nat} {d:Conf} (hm:zgf h.evs e.t 5=true) (hi:i < (j3 h e a).length) (hj:j < (j3 h e a)[i].2.length) (hd:zet h e (zgd e) a (j3 h e a)[i].1 (j3 h e a)[i].2[j]=some d):
 ∃rest,zcg h e a=(((j3 h e a).take i).flatMap (rwF h e a)++((j3 h e a)[i].2.take j).filterMap (zet h e (zgd e) a (j3 h e a)[i].1))++d::rest:=by
 have e1:rwF h e a (j3 h e a)[i]=((j3 h e a)[i].2.take j).filterMap (zet h e (zgd e) a (j3 h e a)[i].1)++d::((j3 h e a)[i].2.drop (j+1)).filterMap (zet h e (zgd e) a (j3 h e a)[i].1):=by
  conv=>lhs;rw [rwF,←List.take_append_drop j (j3 h e a)[i].2,List.drop_eq_getElem_cons hj]
  rw [List.filterMap_append,List.filterMap_cons,hd]
 refine ⟨((j3 h e a)[i].2.drop (j+1)).filterMap (zet h e (zgd e) a (j3 h e a)[i].1)++((j3 h e a).drop (i+1)).flatMap (rwF h e a),?_⟩
 rw [zv4 a hm]
 conv=>lhs;rw [←List.take_append_drop i (j3 h e a),List.drop_eq_getElem_cons hi]
 rw [List.flatMap_append,List.flatMap_cons,e1]
 simp [List.append_assoc]
theorem yt8 {h:Hist} {e:Ev} {a:Nat} {B:List Conf} {x:Int} {l:List Int} {j:Nat} (hj:j < l.length) (hb:zq8 h e x l[j]=true):B++(l.take (j+1)).filterMap (zet h e (zgd e) a x)=B++(l.take j).filterMap (zet h e (zgd e) a x)++ [yab h e a x l[j]]:=by
 rw [ys8 hj (yky hb),List.append_assoc]
theorem yt9 {h:Hist} {e:Ev} {a:Nat} {B:List Conf} {x:Int} {l:List Int} {j:Nat} (hj:j < l.length) (hb:zq8 h e x l[j]=false):B++(l.take (j+1)).filterMap (zet h e (zgd e) a x)=B++(l.take j).filterMap (zet h e (zgd e) a x):=by
 rw [yox hj (ysr hb)]
theorem ysk {h:Hist} (hc:u6 h=0) {e:Ev} (he:e∈h.evs):∃kn:Nat,1≤kn∧kn≤6∧e.kind=(kn:Int):=by
 obtain ⟨k1,k2,_⟩:=zcd (ze3 (zbh.1 hc) _ he)
 exact ⟨e.kind.toNat,by omega,by omega,by omega⟩
theorem yqn (h:Hist) (la:Lim 4611686018427387904 h) (hc:u6 h=0) (a:Nat) (ha:a < h.evs.length) (rc rl rk rg:Nat) (M:List ((Int×Int)×List Int)) (hM:zoq h M) (W:List Res) {kn:Nat} (h1:1≤kn) (h6:kn≤6) (hk:h.evs[a].kind=(kn:Int)):y0 Tryz.prog (ygx kn) [.agg (rwP h rc rl rk rg),iv (a:Int)] (rgR rg M::rkS h rk::zbf h rl::rcR h rc:: .glob 2 156 y5:: .glob 4 305 y7:: .glob 5 308 y2:: .glob 3 246 u5::W) (fun r h'=>∃M',zoq h M'∧h'=rgR rg M'::rkS h rk::zbf h rl::rcR h rc:: .glob 2 156 y5:: .glob 4 305 y7:: .glob 5 308 y2:: .glob 3 246 u5::W∧r=zi8 (j3 h h.evs[a] a)):=by
 have no:h.evs[a].kind≠3→h.evs[a].kind≠4→y0 Tryz.prog (.fn (.func 302) [] []) [.agg (rwP h rc rl rk rg),iv (a:Int)] (rgR rg M::rkS h rk::zbf h rl::rcR h rc:: .glob 2 156 y5:: .glob 4 305 y7:: .glob 5 308 y2:: .glob 3 246 u5::W) (fun r h'=>∃M',zoq h M'∧h'=rgR rg M'::rkS h rk::zbf h rl::rcR h rc:: .glob 2 156 y5:: .glob 4 305 y7:: .glob 5 308 y2:: .glob 3 246 u5::W∧r=zi8 (j3 h h.evs[a] a)):=fun n3 n4=>
  y0.of_fun ((ybv h rc rl rk rg (a:Int) (rgR rg M::rkS h rk::zbf h rl::rcR h rc:: .glob 2 156 y5:: .glob 4 305 y7:: .glob 5 308 y2:: .glob 3 246 u5::W)).mono fun _ _ q=>⟨M,hM,q.1,by rw [q.2,j3,if_neg n3,if_neg n4]⟩)
 match kn,h1,h6 with
 |1,_,_=>exact no (by omega) (by omega)
 |2,_,_=>exact no (by omega) (by omega)
 |3,_,_=>exact y0.of_fun ((yqp h la hc a ha hk rc rl rk rg M W).mono fun _ _ q=>⟨M,hM,q.1,by rw [q.2,j3,if_pos (show h.evs[a].kind=3 from hk)]⟩)
 |4,_,_=>exact y0.of_fun ((yqo h la hc a ha hk rc rl rk rg M hM W).mono fun _ _ ⟨M',q1,q2,q3⟩=>⟨M',q1,q2,by rw [q3,j3,if_neg (by omega),if_pos (show h.evs[a].kind=4 from hk)]⟩)
 |5,_,_=>exact no (by omega) (by omega)
 |6,_,_=>exact no (by omega) (by omega)
 |n+7,_,h6=>omega
theorem yqt (h:Hist) (x r:Int) (h0:0≤x) (h1:x < h.os.length) (r1:1≤r) (r2:r≤5000) (e:Ev) (a:Nat) (bp be ba:Nat) (rc rl rk rg:Nat) (M:List ((Int×Int)×List Int)) (rO:Nat) (oK:Obj) (hK:KO oK) (W:List Res):y8 Tryz.prog 135 [iv x,iv r,pZ bp,pZ be,pZ ba] (.box be 60 (evR e):: .box ba 3 [iv (a:Int)]:: .box bp 119 (rwP h rc rl rk rg)::rgR rg M::rkS h rk::zbf h rl::rcR h rc:: .glob 2 156 y5:: .glob 4 305 y7:: .glob 5 308 y2:: .glob 3 246 u5:: .glob 1 175 zag:: .glob 0 171 [mpv rO]:: .obj rO oK::W) (fun r_ h'=>h'= .box be 60 (evR e):: .box ba 3 [iv (a:Int)]:: .box bp 119 (rwP h rc rl rk rg)::rgR rg M::rkS h rk::zbf h rl::rcR h rc:: .glob 2 156 y5:: .glob 4 305 y7:: .glob 5 308 y2:: .glob 3 246 u5:: .glob 1 175 zag:: .glob 0 171 [mpv rO]:: .obj rO oK::W∧r_= .tup [.agg (u0 (yab h e a x r)),bv (zq8 h e x r)]):=by
 refine z6 Tryz.func135 rfl rfl rfl ?_
 refine rn ?_;refine z8 rfl (y3 rfl fun b7=> ?_)
 refine q1 ?_;refine j4 (zac ?_)
 refine w8 ?_;refine w8 (y4 ?_)
 refine q1 ?_;refine q1 ?_;refine q1 ?_;refine q1 ?_;refine qq rfl rfl (zaw rfl rfl h0 (zx0 h h0 h1)) ?_
 refine rn ?_;refine z7 rfl (fun hc17=> ?_) (fun hc17=> ?_)
 ·have hr:r > ((zb6 h x).length:Int):=by have q:=oT hc17;rw [oM] at q;exact q
  refine rn ?_;exact ze9 (.cons _ _ _ _ (.agg _ _ _ _ _ _ _ rfl inferInstance inferInstance inferInstance rfl) (.cons _ _ _ _ (.tmp _ _ rfl) .nil)) (.drop [_] _ _) ⟨rfl,by rw [yab,zq8,if_pos hr,if_pos hr];rfl⟩
 ·have hr:¬r > ((zb6 h x).length:Int):=by have q:=oF hc17;rw [oM] at q;exact q
  have hk:(r - 1).toNat < (zb6 h x).length:=by omega
  have rr:((zb6 h x).map zal)[(r - 1).toNat]? =some (zal (zkc h x r)):=by rw [zkc,List.getElem?_map,List.getElem?_eq_getElem hk];rfl
  refine zar ?_;refine zac ?_;refine w8 (y4 ?_)
  refine q1 ?_;refine q1 ?_;refine q1 ?_;refine qq rfl rfl (zaw rfl rfl h0 (zx0 h h0 h1)) ?_
  refine q1 ?_;refine q1 ?_;refine qq rfl rfl (zca rfl rfl rfl (by omega)) ?_
  refine qq rfl rfl (zaw rfl rfl (by omega) rr) ?_
  refine rn ?_;refine zeq 23 [(b7,41,_)] rfl (List.perm_append_comm (l₁:= [_])) ?_
  refine dq rfl rfl qrA ?_;refine dq rfl rfl qrA ?_;refine dq rfl rfl qrA ?_;refine dq rfl rfl qrA ?_;refine dq rfl rfl qrA ?_;refine dq rfl rfl qrA ?_;refine dq rfl rfl (yhm (k:=e.kind) hK rfl rfl) ?_
  refine dq rfl rfl qrA ?_;refine dq rfl rfl qrA ?_;refine dq rfl rfl qrA ?_;refine dq rfl rfl qrA ?_;refine dq rfl rfl qrA ?_;refine dq rfl rfl (zdb (out:= [iv (zkc h x r),iv x]) rfl (by rfl)) ?_
  refine dq rfl rfl (zj3 (zch (enc:=zbg) (k:=(zkc h x r,x)) 0 rfl rfl) (show iv _=iv (zek h (zkc h x r) x) from congrArg iv (zwq _ _ _))) ?_
  refine dq rfl rfl qrA ?_;refine dq rfl rfl qrA ?_;refine dq rfl rfl qrA ?_;refine dq rfl rfl (zaf (out:=u0 ⟨e.t,zkc h x r,zvy e.kind,a,zek h (zkc h x r) x,x,e.p⟩) rfl (by rfl)) ?_
  refine rn ?_;refine dw 0 rfl rfl rfl rfl rfl (Nat.le_of_ble_eq_true rfl) ?_
  refine rn2 ?_;show zcr _ _ _ _ _ _ ⟨_,.box b7 41 (u0 ⟨e.t,zkc h x r,zvy e.kind,a,zek h (zkc h x r) x,x,e.p⟩):: .box be 60 (evR e):: .box ba 3 [iv (a:Int)]:: .box bp 119 (rwP h rc rl rk rg)::rgR rg M::rkS h rk::zbf h rl::rcR h rc:: .glob 2 156 y5:: .glob 4 305 y7:: .glob 5 308 y2:: .glob 3 246 u5:: .glob 1 175 zag:: .glob 0 171 [mpv rO]:: .obj rO oK::W,_⟩
  refine rn ?_;exact ze9 (.cons _ _ _ _ (.agg _ _ _ _ _ _ _ rfl inferInstance inferInstance inferInstance rfl) (.cons _ _ _ _ (.tmp _ _ rfl) .nil)) (.drop [_] _ _) ⟨rfl,by rw [yab,zq8,if_neg hr,if_neg hr];rfl⟩
theorem zxa (h:Hist) (a:Nat) (rc rl rk rg:Nat) (W:List Res):y8 Tryz.prog 88 [.agg (rwP h rc rl rk rg),iv (a:Int)] W (fun r h'=>∃ba bp,h'= .box ba 3 [iv (a:Int)]:: .box bp 119 (rwP h rc rl rk rg)::W∧r= .fn (.func 134) [] [pZ bp,pZ ba]):=by
 refine z6 Tryz.func88 rfl rfl rfl ?_
 refine rn ?_;refine z8 rfl (q6 rfl rfl rfl fun b2=> ?_)
 refine z8 rfl (q6 rfl rfl rfl fun b3=> ?_)
 refine rn ?_;exact k7 rfl (.refl _ _) ⟨_,_,rfl,rfl⟩
theorem zw9 {σ:Type} (h:Hist) (la:Lim 4611686018427387904 h) (hc:u6 h=0) (a:Nat) (ha:a < h.evs.length) (y:AV) (bp ba:Nat) (rc rl rk rg:Nat) (M0:List ((Int×Int)×List Int)) (hM0:zoq h M0) (rO:Nat) (oK:Obj) (hK:KO oK) (p:List Conf→σ→Prop) (q:σ→Prop) (I:List Conf→σ→List Res) (X:σ→List Res) (x0:σ) (hp0:p [] x0) (hy:∀pre d rest x M,zcg h h.evs[a] a=pre++d::rest→p pre x→zoq h M→y0 Tryz.prog y [.agg (u0 d)] (.box ba 3 [iv (a:Int)]:: .box bp 119 (rwP h rc rl rk rg)::rgR rg M::rkS h rk::zbf h rl::rcR h rc:: .glob 2 156 y5:: .glob 4 305 y7:: .glob 5 308 y2:: .glob 3 246 u5:: .glob 1 175 zag:: .glob 0 171 [mpv rO]:: .obj rO oK::I pre x) (fun r h'=>∃x',(r=bv true∧p (pre++ [d]) x'∧h'= .box ba 3 [iv (a:Int)]:: .box bp 119 (rwP h rc rl rk rg)::rgR rg M::rkS h rk::zbf h rl::rcR h rc:: .glob 2 156 y5:: .glob 4 305 y7:: .glob 5 308 y2:: .glob 3 246 u5:: .glob 1 175 zag:: .glob 0 171 [mpv rO]:: .obj rO oK::I (pre++ [d]) x')∨(r=bv false∧q x'∧h'= .box ba 3 [iv (a:Int)]:: .box bp 119 (rwP h rc rl rk rg)::rgR rg M::rkS h rk::zbf h rl::rcR h rc:: .glob 2 156 y5:: .glob 4 305 y7:: .glob 5 308 y2:: .glob 3 246 u5:: .glob 1 175 zag:: .glob 0 171 [mpv rO]:: .obj rO oK::X x'))):y8 Tryz.prog 134 [y,pZ bp,pZ ba] (.box ba 3 [iv (a:Int)]:: .box bp 119 (rwP h rc rl rk rg)::rgR rg M0::rkS h rk::zbf h rl::rcR h rc:: .glob 2 156 y5:: .glob 4 305 y7:: .glob 5 308 y2:: .glob 3 246 u5:: .glob 1 175 zag:: .glob 0 171 [mpv rO]:: .obj rO oK::I [] x0) (fun r h'=>∃x M,zoq h M∧((p (zcg h h.evs[a] a) x∧h'= .box ba 3 [iv (a:Int)]:: .box bp 119 (rwP h rc rl rk rg)::rgR rg M::rkS h rk::zbf h rl::rcR h rc:: .glob 2 156 y5:: .glob 4 305 y7:: .glob 5 308 y2:: .glob 3 246 u5:: .glob 1 175 zag:: .glob 0 171 [mpv rO]:: .obj rO oK::I (zcg h h.evs[a] a) x)∨(q x∧h'= .box ba 3 [iv (a:Int)]:: .box bp 119 (rwP h rc rl rk rg)::rgR rg M::rkS h rk::zbf h rl::rcR h rc:: .glob 2 156 y5:: .glob 4 305 y7:: .glob 5 308 y2:: .glob 3 246 u5:: .glob 1 175 zag:: .glob 0 171 [mpv rO]:: .obj rO oK::X x))):=by
 refine z6 Tryz.func134 rfl rfl rfl ?_
 have ra:=zak (f:=evR) ha
 have hok:=seen_ok hc (List.getElem_mem ha) a
 have hol:=hok.1
 obtain ⟨kn,k1,k6,hkn⟩:=ysk hc (List.getElem_mem ha)
 refine w8 (y4 ?_)
 refine q1 ?_;refine q1 ?_;refine q1 ?_;refine q1 ?_;refine qq rfl rfl (zdj rfl rfl ra) ?_
 refine rn ?_;refine z8 rfl (y3 rfl fun b4=> ?_)
 first|refine z8 rfl (k8 rfl rfl rfl ?_)|refine z8 rfl (zaq rfl rfl rfl rfl (Nat.le_of_ble_eq_true rfl) ?_)
 refine j4 (zac ?_)
 refine w8 ?_;refine w8 (y4 ?_)
 refine q1 ?_;refine q1 ?_;refine q1 ?_;refine q1 ?_;refine qq rfl rfl (zch (enc:=intK) (k:=h.evs[a].t) false rfl rfl) ?_
 refine rn ?_;refine z7 rfl (fun hc23=> ?_) (fun hc23=> ?_)
 ·have hm:zgf h.evs h.evs[a].t 5=false:=by rw [←zh9];simpa using hc23
  refine rn ?_;exact ze9 .nil (.drop [_] _ _) ⟨x0,M0,hM0,.inl ⟨by rw [yd3 a hm];exact hp0,by rw [yd3 a hm]⟩⟩
 ·have hm:zgf h.evs h.evs[a].t 5=true:=by rw [←zh9];simpa using hc23
  refine zar ?_;refine rn0 ?_;refine w8 (y4 ?_)
  refine rn0 ?_;refine w8 ?_;refine ze8 9 [6] [7] (fun he=>∃M,he= .box b4 60 (evR h.evs[a]):: .box ba 3 [iv (a:Int)]:: .box bp 119 (rwP h rc rl rk rg)::rgR rg M::rkS h rk::zbf h rl::rcR h rc:: .glob 2 156 y5:: .glob 4 305 y7:: .glob 5 308 y2:: .glob 3 246 u5:: .glob 1 175 zag:: .glob 0 171 [mpv rO]:: .obj rO oK::I [] x0) rfl rfl ⟨_,rfl⟩ ?_
  refine jq rfl (fun he hC=>by obtain ⟨M,rfl⟩:=hC <;> exact qrA) ?_
  refine jq rfl (fun he hC=>by obtain ⟨M,rfl⟩:=hC <;> exact (by exact zj3 (zae rfl rfl) (show iv _=iv (kn:Nat) from congrArg iv hkn))) ?_
  refine jq rfl (fun he hC=>by obtain ⟨M,rfl⟩:=hC <;> exact (by exact zai rfl rfl (by show kn < 7;omega))) ?_
  refine jq rfl (fun he hC=>by obtain ⟨M,rfl⟩:=hC <;> exact (by exact zae rfl (show zag[0+kn * 1]? =some (ygx kn) by rw [Nat.zero_add,Nat.mul_one];exact ygv k6))) ?_
  refine jq rfl (fun he hC=>by obtain ⟨M,rfl⟩:=hC <;> exact qrA) ?_
  refine jq rfl (fun he hC=>by obtain ⟨M,rfl⟩:=hC <;> exact qrA) ?_
  refine je rfl ?_;refine je rfl ?_;refine jq rfl (fun he hC=>by obtain ⟨M,rfl⟩:=hC <;> exact qrA) ?_
  refine yaa ?_;refine jce rfl fun u=> ?_
  refine u3 rfl rfl (y0.fr3 (yqn h la hc a ha rc rl rk rg M0 hM0 (.glob 1 175 zag:: .glob 0 171 [mpv rO]:: .obj rO oK::I [] x0) k1 k6 hkn)) rfl ?_
  rintro _ _ ⟨_,rfl,M,hM,rfl,rfl⟩
  refine ⟨_,_,rfl,⟨_,rfl⟩,?_⟩
  refine jcn ?_;refine lq rfl rfl (by exact qrA) ?_
  refine ln ?_;refine rn ?_;refine zie (j3 h h.evs[a] a).length (fun i (x:σ)=>p (((j3 h h.evs[a] a).take i).flatMap (rwF h h.evs[a] a)) x) (fun i x=>⟨[(33,iv i),(0,y),(5,.fn (.func 135) [] [pZ bp,pZ b4,pZ ba]),(31,zi8 (j3 h h.evs[a] a)),(32,iv ((j3 h h.evs[a] a).map zqo).length)],.box b4 60 (evR h.evs[a]):: .box ba 3 [iv (a:Int)]:: .box bp 119 (rwP h rc rl rk rg)::rgR rg M::rkS h rk::zbf h rl::rcR h rc:: .glob 2 156 y5:: .glob 4 305 y7:: .glob 5 308 y2:: .glob 3 246 u5:: .glob 1 175 zag:: .glob 0 171 [mpv rO]:: .obj rO oK::I (((j3 h h.evs[a] a).take i).flatMap (rwF h h.evs[a] a)) x,[]⟩) x0 hp0 es ?_
  intro i x li zi
  refine rn ?_;refine z7 rfl (fun hc34=> ?_) (fun hc34=> ?_)
  ·have hi:=za4 hc34
   have ri:=zak (f:=zqo) hi
   obtain ⟨⟨o0,o1⟩,ol,orr⟩:=hok.2 _ (List.getElem_mem hi)
   refine rn ?_;refine z8 rfl (y3 rfl fun b7=> ?_)
   refine rn ?_;refine zie (j3 h h.evs[a] a)[i].2.length (fun j (x:σ)=>p ((((j3 h h.evs[a] a).take i).flatMap (rwF h h.evs[a] a))++((j3 h h.evs[a] a)[i].2.take j).filterMap (zet h h.evs[a] (zgd h.evs[a]) a (j3 h h.evs[a] a)[i].1)) x) (fun j x=>⟨[(40,iv j),(0,y),(5,.fn (.func 135) [] [pZ bp,pZ b4,pZ ba]),(7,pZ b7),(31,zi8 (j3 h h.evs[a] a)),(32,iv ((j3 h h.evs[a] a).map zqo).length),(33,iv i),(38,zbc (j3 h h.evs[a] a)[i].2),(39,iv ((j3 h h.evs[a] a)[i].2.map zal).length)],.box b7 177 (zqo (j3 h h.evs[a] a)[i]):: .box b4 60 (evR h.evs[a]):: .box ba 3 [iv (a:Int)]:: .box bp 119 (rwP h rc rl rk rg)::rgR rg M::rkS h rk::zbf h rl::rcR h rc:: .glob 2 156 y5:: .glob 4 305 y7:: .glob 5 308 y2:: .glob 3 246 u5:: .glob 1 175 zag:: .glob 0 171 [mpv rO]:: .obj rO oK::I ((((j3 h h.evs[a] a).take i).flatMap (rwF h h.evs[a] a))++((j3 h h.evs[a] a)[i].2.take j).filterMap (zet h h.evs[a] (zgd h.evs[a]) a (j3 h h.evs[a] a)[i].1)) x,[]⟩) x (by simpa using zi) (by simpa using eA) ?_
   intro j x lj zj
   refine rn ?_;refine z7 rfl (fun hc41=> ?_) (fun hc41=> ?_)
   ·have hj:=za4 hc41
    have rj:=zak (f:=zal) hj
    obtain ⟨u1,u2⟩:=orr _ (List.getElem_mem hj)
    refine rn ?_;refine qv rfl rfl (y1 rfl rfl (y0.qt (y0.of_acall (fs:= []) (cs:= [pZ bp,pZ b4,pZ ba]) (yqt h (j3 h h.evs[a] a)[i].1 (j3 h h.evs[a] a)[i].2[j] o0 o1 u1 u2 h.evs[a] a bp b4 ba rc rl rk rg M rO oK hK (I ((((j3 h h.evs[a] a).take i).flatMap (rwF h h.evs[a] a))++((j3 h h.evs[a] a)[i].2.take j).filterMap (zet h h.evs[a] (zgd h.evs[a]) a (j3 h h.evs[a] a)[i].1)) x))) (List.perm_append_comm (l₁:= [_])))) ?_
    refine rn ?_;refine z8 rfl (y3 rfl fun b10=> ?_)
    refine rn ?_;refine w6 (fun hg10_1=> ?_) (fun hg10_1=> ?_)
    ·refine q1 ?_;refine q1 ?_;obtain ⟨rest,hL⟩:=yq0 hm hi hj (yky hg10_1)
     refine z8 rfl (u3 rfl rfl (y0.fr3 (hy ((((j3 h h.evs[a] a).take i).flatMap (rwF h h.evs[a] a))++((j3 h h.evs[a] a)[i].2.take j).filterMap (zet h h.evs[a] (zgd h.evs[a]) a (j3 h h.evs[a] a)[i].1)) _ rest x M hL zj hM)) rfl ?_)
     rintro _ _ ⟨_,rfl,x',⟨rfl,hp',rfl⟩|⟨rfl,hq',rfl⟩⟩
     ·refine rn ?_;refine z7 rfl (fun hc58=> ?_) (fun hc58=> ?_)
      ·first|cases hc58|exact absurd hc58 (by decide)|(exfalso;simp_all;done)
      ·refine rn ?_;first|exact ⟨hj,x',by rw [yt8 hj hg10_1];exact hp',by rw [yt8 hj hg10_1];exact eA⟩|exact ⟨hj,x,by rw [yt9 hj hg10_1];exact zj,by rw [yt9 hj hg10_1];exact eA⟩
     ·refine rn ?_;refine z7 rfl (fun hc58=> ?_) (fun hc58=> ?_)
      ·refine rn ?_;exact ze9 .nil (.drop [_,_,_] _ _) ⟨x',M,hM,.inr ⟨hq',rfl⟩⟩
      ·first|cases hc58|exact absurd hc58 (by decide)|(exfalso;simp_all;done)
    ·refine rn ?_;refine zfh rfl ?_;refine rn ?_;first|exact ⟨hj,x',by rw [yt8 hj hg10_1];exact hp',by rw [yt8 hj hg10_1];exact eA⟩|exact ⟨hj,x,by rw [yt9 hj hg10_1];exact zj,by rw [yt9 hj hg10_1];exact eA⟩
   ·have qj:=za5 hc41 lj
    refine rn ?_;exact ⟨hi,x,by rw [←ykc hi qj];exact zj,by rw [←ykc hi qj];exact eA⟩
  ·have qi:=za5 hc34 li
   refine rn ?_;exact zf7 .nil (.drop [_] _ _) ⟨x,M,hM,.inl ⟨by rw [zv4 a hm];rw [qi,List.take_length] at zi;exact zi,by rw [zv4 a hm,qi,List.take_length]⟩⟩
end Go.Proofs
set_option maxRecDepth 100000
namespace Go.Proofs.YtfmcbdjnmlcacaaGreatDoor
open Go Go.Ab Go.H Go.ChangeShapes Go.WideShapes Go.ChangeAt Go.RowKit
inductive Solid:AV→Prop
 |any:Solid .any
 |v (x:Value):Solid (.v x)
 |fn (f:Fn):Solid (.fn f [] [])
 |list (full:Bool) (sz:Nat) (rows:List (List AV)):0 < sz→(∀r∈rows,∀a∈r,Solid a)→Solid (.list full sz rows)
 |agg (cells:List AV):(∀a∈cells,Solid a)→Solid (.agg cells)
theorem zsr {w:World} {O:Nat→Prop} {a:AV} {v:Value} (h:Rel w noX a v) (hs:Solid a) (hO:∀b,O b→∀c T fr,w.heap[b]? ≠some (.cells c T fr)):Rel w O a v:=by
 induction h with
 |any x=>exact .any x
 |v x=>exact .v x
 |lnil full sz a cap h=>exact .lnil full sz a cap h
 |list full sz rows b off cap g h1 h2 h3 h4 h5 h6 h7 ih=>
  cases hs with
  |list _ _ _ hsz hr=>
   cases rows with
   |nil=>exact .lnil _ _ _ _ (fun q=>by simpa using h1 q)
   |cons r0 rs=>
    have hb:¬O b:=fun hb=>by
     have h0:=h6 0 (by simp) 0 (by rw [h5 0 (by simp)];exact hsz)
     unfold World.cell? at h0
     split at h0
     ·rename_i hh;exact hO b hb _ _ _ hh
     ·cases h0
    exact .list full sz _ b off cap g h1 h2 hb h4 h5 h6 (fun i hi j hj=>ih i hi j hj (hr _ (List.getElem_mem hi) _ (List.getElem_mem hj)))
 |pp cells b off g h3 h4 h6 _ ih=>cases hs
 |rp a len cap sz i off=>cases hs
 |agg cells cs h1 h2 ih=>cases hs with|agg _ hc=>exact .agg _ _ h1 fun j a b=>ih j a b (hc _ (List.getElem_mem a))
 |tup cells cs h1 h2 ih=>cases hs
 |fn f fs cs fa ca h1 h2 h3 h4 ih1 ih2=>cases hs;exact .fn f [] [] fa ca h1 h2 (fun j h=>absurd h (Nat.not_lt_zero _)) (fun j h=>absurd h (Nat.not_lt_zero _))
theorem zed {α:Type} {R:α→List AV} {f:Bool} {sz:Nat} (hsz:0 < sz) (h:∀x,∀a∈R x,Solid a) (l:List α):Solid (.list f sz (l.map R)):= .list _ _ _ hsz fun r hr a ha=>by
 obtain ⟨x,_,rfl⟩:=List.mem_map.1 hr
 exact h x a ha
theorem ybe:∀x,∀a∈zal x,Solid a:=by
 intro x a ha
 simp only [zal,List.mem_cons,List.not_mem_nil,or_false] at ha
 rcases ha with rfl
 ·exact .v _
theorem zql:∀x,∀a∈zf5 x,Solid a:=by
 intro x a ha
 simp only [zf5,List.mem_cons,List.not_mem_nil,or_false] at ha
 rcases ha with rfl
 ·exact .v _
theorem ygq:∀x,∀a∈zap x,Solid a:=by
 intro x a ha
 simp only [zap,List.mem_cons,List.not_mem_nil,or_false] at ha
 rcases ha with rfl|rfl|rfl
 ·exact .v _
 ·exact .v _
 ·exact .v _
theorem yqg:∀x,∀a∈evR x,Solid a:=by
 intro x a ha
 simp only [evR,List.mem_cons,List.not_mem_nil,or_false] at ha
 rcases ha with rfl|rfl|rfl|rfl|rfl|rfl|rfl|rfl|rfl
 ·exact .v _
 ·exact .v _
 ·exact .v _
 ·exact .v _
 ·exact .v _
 ·exact .v _
 ·exact .v _
 ·exact .v _
 ·exact zed (by decide) ygq _
theorem yl3:∀x,∀a∈zer x,Solid a:=by
 intro x a ha
 simp only [zer,List.mem_cons,List.not_mem_nil,or_false] at ha
 rcases ha with rfl|rfl
 ·exact .v _
 ·exact zed (by decide) ybe _
theorem yl4:∀x,∀a∈zd9 x,Solid a:=by
 intro x a ha
 simp only [zd9,List.mem_cons,List.not_mem_nil,or_false] at ha
 rcases ha with rfl|rfl|rfl|rfl
 ·exact .v _
 ·exact .v _
 ·exact .v _
 ·exact zed (by decide) ybe _
theorem yl2:∀x,∀a∈zf3 x,Solid a:=by
 intro x a ha
 simp only [zf3,List.mem_cons,List.not_mem_nil,or_false] at ha
 rcases ha with rfl|rfl
 ·exact .v _
 ·exact .v _
theorem ygr (x:Hist):Solid (.agg (w7 x)):= .agg _ fun a ha=>by
 simp only [w7,List.mem_cons,List.not_mem_nil,or_false] at ha
 rcases ha with rfl|rfl|rfl|rfl|rfl|rfl|rfl|rfl
 ·exact zed (by decide) zql _
 ·exact zed (by decide) zql _
 ·exact zed (by decide) zql _
 ·exact zed (by decide) zql _
 ·exact zed (by decide) yqg _
 ·exact zed (by decide) yl3 _
 ·exact zed (by decide) yl4 _
 ·exact zed (by decide) yl2 _
def zq5:List (String×DataW Unit):= [("unicode/utf8.acceptRanges",Rows.laid_unicode_utf8_acceptRanges),("yardarm/history.limits",Rows.laid_yardarm_history_limits),("yardarm/rules.asks",Rows.laid_yardarm_rules_asks),("yardarm/rw.sees",Rows.laid_yardarm_rw_sees),("yardarm/rw.kinds",Rows.laid_yardarm_rw_kinds),("unicode/utf8.first",Rows.laid_unicode_utf8_first)]
def yiv:List (String×DataW Unit):= [("unicode/utf8.acceptRanges",Rows.laid_unicode_utf8_acceptRanges),("yardarm/history.limits",Rows.laid_yardarm_history_limits),("yardarm/rw.kinds",Rows.laid_yardarm_rw_kinds),("unicode/utf8.first",Rows.laid_unicode_utf8_first)]
theorem zxw:(zq5.filter fun x=>x.2.handleName?.isNone)=yiv:=by kernel_rfl
theorem yiu {W:World} (h:laidMetH Tryz.prog zq5 W):laidMet Tryz.prog yiv W:=by
 have:=(laidMetH_iff.1 h).1
 rw [zxw] at this
 exact this
theorem ysv {w:World} (h:laidMetH Tryz.prog zq5 w):(Res.glob 3 246 u5).holds w noX:=by
 obtain ⟨g,t,cs,fuel,p,hg,ht,hv,hd⟩:=h.funcs (n:= "yardarm/rules.asks") (d:=ypf) (.tail _ (.tail _ (.head _)))
 obtain rfl:=Option.some.inj ((show Tryz.prog.globalNamed "yardarm/rules.asks" =some 3 by kernel_rfl).symm.trans hg)
 obtain rfl:=Option.some.inj ((show (Tryz.prog.globals[3]?).map (·.type)=some 246 by kernel_rfl).symm.trans ht)
 rw [yfd] at hd
 have c1:Tryz.prog.cellsOf 245=1:=by kernel_rfl
 have c11:Tryz.prog.cellsOf 246=11:=by kernel_rfl
 have hlen:cs.toList.length=11:=by
  obtain ⟨_,_,_,_,hl,_⟩:=DataW.trod_array Tryz.underlying246 hd
  rw [hl,c11]
 unfold World.var? at hv
 rw [hg] at hv
 simp only [Option.bind_some] at hv
 split at hv
 ·rename_i c T0 fr hh
  cases hv
  refine zrb hh (by rw [show u5.length=11 from rfl];simpa using hlen.symm) fun j h1 h2=> ?_
  cases j with
  |zero=>exact .any _
  |succ k=>
   have hk:k < 10:=by have:u5.length=11:=rfl;omega
   obtain ⟨b,r,hn,hone,ha⟩:=yjs k hk
   obtain ⟨f',d,q,e1,e2⟩:=Lib.array_elem Tryz.underlying246 hd (k+1) (by omega)
   have e1':d= .held (b::r):=by
    rw [List.getElem?_cons_succ,List.getElem?_map,List.getElem?_drop,Nat.add_comm 1 k,hn] at e1
    exact (Option.some.inj e1).symm
   subst e1'
   rw [c1,Nat.mul_one,List.drop_eq_getElem_cons (by simpa using h2),List.take_succ_cons,List.take_zero] at e2
   have:=func_of_trod (f0:=fnA.getD k 0) Tryz.underlying245 hone e2
   rw [Array.getElem_toList] at this
   rw [this,show u5[k+1]= .fn (.func (fnA.getD k 0)) [] [] from Option.some.inj ((List.getElem?_eq_getElem h1).symm.trans ha)]
   exact yk1 _ _
 ·cases hv
def yma:DataW Unit:=match (Rows.laid_yardarm_rw_sees:DataW Unit) with| .iface _ d=>d|d=>d
def yc6:List (List UInt8):=match yma with| .agg ds=>ds.map (fun d=>match d with| .iface _ (.lit (.string b))=>b|_=> [])|_=> []
def nmS (k:Nat):List UInt8:=yc6.getD (k+1) []
theorem ybl:yma.funcsOut= .agg (.nil::(yc6.drop 1).map .held):=by kernel_rfl
def fnS:List Nat:= [302,302,303,304,302,302]
theorem ygu (k:Nat) (hk:k < 6):∃b r,yc6[k+1]? =some (b::r)∧((List.range Tryz.prog.funcs.size).filter fun f=>(Tryz.prog.funcs[f]?).any (·.name.toUTF8.data.toList==b::r))= [fnS.getD k 0]∧zag[k+1]? =some (.fn (.func (fnS.getD k 0)) [] []):=by
 match k,hk with
 |0,_=>exact ⟨(nmS 0).headD 0,(nmS 0).tail,by kernel_rfl,by kernel_rfl,by kernel_rfl⟩
 |1,_=>exact ⟨(nmS 1).headD 0,(nmS 1).tail,by kernel_rfl,by kernel_rfl,by kernel_rfl⟩
 |2,_=>exact ⟨(nmS 2).headD 0,(nmS 2).tail,by kernel_rfl,by kernel_rfl,by kernel_rfl⟩
 |3,_=>exact ⟨(nmS 3).headD 0,(nmS 3).tail,by kernel_rfl,by kernel_rfl,by kernel_rfl⟩
 |4,_=>exact ⟨(nmS 4).headD 0,(nmS 4).tail,by kernel_rfl,by kernel_rfl,by kernel_rfl⟩
 |5,_=>exact ⟨(nmS 5).headD 0,(nmS 5).tail,by kernel_rfl,by kernel_rfl,by kernel_rfl⟩
theorem yvf {w:World} (h:laidMetH Tryz.prog zq5 w):(Res.glob 1 175 zag).holds w noX:=by
 obtain ⟨g,t,cs,fuel,p,hg,ht,hv,hd⟩:=h.funcs (n:= "yardarm/rw.sees") (d:=yma) (.tail _ (.tail _ (.tail _ (.head _))))
 obtain rfl:=Option.some.inj ((show Tryz.prog.globalNamed "yardarm/rw.sees" =some 1 by kernel_rfl).symm.trans hg)
 obtain rfl:=Option.some.inj ((show (Tryz.prog.globals[1]?).map (·.type)=some 175 by kernel_rfl).symm.trans ht)
 rw [ybl] at hd
 have c1:Tryz.prog.cellsOf 174=1:=by kernel_rfl
 have c7:Tryz.prog.cellsOf 175=7:=by kernel_rfl
 have hlen:cs.toList.length=7:=by
  obtain ⟨_,_,_,_,hl,_⟩:=DataW.trod_array Tryz.underlying175 hd
  rw [hl,c7]
 unfold World.var? at hv
 rw [hg] at hv
 simp only [Option.bind_some] at hv
 split at hv
 ·rename_i c T0 fr hh
  cases hv
  refine zrb hh (by rw [show zag.length=7 from rfl];simpa using hlen.symm) fun j h1 h2=> ?_
  cases j with
  |zero=>exact .any _
  |succ k=>
   have hk:k < 6:=by have:zag.length=7:=rfl;omega
   obtain ⟨b,r,hn,hone,ha⟩:=ygu k hk
   obtain ⟨f',d,q,e1,e2⟩:=Lib.array_elem Tryz.underlying175 hd (k+1) (by omega)
   have e1':d= .held (b::r):=by
    rw [List.getElem?_cons_succ,List.getElem?_map,List.getElem?_drop,Nat.add_comm 1 k,hn] at e1
    exact (Option.some.inj e1).symm
   subst e1'
   rw [c1,Nat.mul_one,List.drop_eq_getElem_cons (by simpa using h2),List.take_succ_cons,List.take_zero] at e2
   have:=func_of_trod (f0:=fnS.getD k 0) Tryz.underlying174 hone e2
   rw [Array.getElem_toList] at this
   rw [this,show zag[k+1]= .fn (.func (fnS.getD k 0)) [] [] from Option.some.inj ((List.getElem?_eq_getElem h1).symm.trans ha)]
   exact yk1 _ _
 ·cases hv
theorem zx1 {H:Type} (x:Lit×DataW H):∀l:List (Lit×DataW H),(DataW.insert x l).Perm (x::l)
 | []=> .refl _
 |y::l=>by
  rw [DataW.insert]
  split
  ·exact .refl _
  ·exact ((zx1 x l).cons y).trans (.swap x y l)
theorem zr9 {H:Type}:∀l:List (Lit×DataW H),(l.foldr DataW.insert []).Perm l
 | []=> .refl _
 |x::l=>(zx1 x _).trans ((zr9 l).cons x)
theorem zyb {x:MapEntry} {n:Int} {F:∀y∈ [x],∃z,WideMaps.rd (H:=Unit) Tryz.prog 3 .i64 y=some z} (h:WideMaps.rg Unit Tryz.prog 3 .i64 x=(.int .i64 n,.lit (.int .i64 n))):x.key= .int .i64 n∧x.val= .int .i64 n:=by
 obtain ⟨y,hy⟩:=F x (by simp)
 rw [WideMaps.rg_of hy] at h
 subst h
 have hk:=WideMaps.rd_key hy
 obtain ⟨m,e1,e2,_⟩:=WideMaps.rd_val hy
 refine ⟨?_,?_⟩
 ·unfold keyOf mapKey at hk
  rw [Tryz.underlying3] at hk
  simp only at hk
  split at hk <;> simp_all
 ·rw [e1];simp at e2;rw [e2]
theorem yiw {w:World} (h:Lib.VarReads Tryz.prog w "yardarm/rw.kinds" Rows.laid_yardarm_rw_kinds):∃rO oK,KO oK∧w.heap[rO]? =some oK∧(∃ents clock,oK= .map ents clock)∧(Res.glob 0 171 [mpv rO]).holds w noX:=by
 obtain ⟨g',t',cs,fuel,p,h1,h2,h3,h4⟩:=h
 obtain rfl:=Option.some.inj ((show Tryz.prog.globalNamed "yardarm/rw.kinds" =some 0 by kernel_rfl).symm.trans h1)
 obtain rfl:=Option.some.inj ((show (Tryz.prog.globals[0]?).map (·.type)=some 171 by kernel_rfl).symm.trans h2)
 rcases WideMaps.open_map Tryz.underlying171 Tryz.underlying3 h4 with ⟨_,e⟩|⟨b,es,clock,hcs,hb,_,F,e⟩
 ·cases e
 ·have hE:(es.toList.map (WideMaps.rg Unit Tryz.prog 3 .i64)).foldr DataW.insert []= [(.int .i64 3,.lit (.int .i64 3)),(.int .i64 4,.lit (.int .i64 4))]:=by
   have e1:=congrArg Prod.fst e
   have e2:(Rows.laid_yardarm_rw_kinds:DataW Unit)= .map [(.int .i64 3,.lit (.int .i64 3)),(.int .i64 4,.lit (.int .i64 4))]:=rfl
   rw [e2] at e1
   exact (DataW.map.inj e1).symm
  have hp:=zr9 (es.toList.map (WideMaps.rg Unit Tryz.prog 3 .i64))
  rw [hE] at hp
  have hlen:=hp.length_eq
  simp only [List.length_cons,List.length_nil,oM,Array.length_toList] at hlen
  obtain ⟨x1,x2,rfl⟩:∃x1 x2,es= #[x1,x2]:=by
   obtain ⟨l⟩:=es
   match l,hlen with
   | [a,b],_=>exact ⟨a,b,rfl⟩
  have hF:∀x∈ [x1,x2],∀y∈ [x],∃z,WideMaps.rd (H:=Unit) Tryz.prog 3 .i64 y=some z:=fun x hx y hy=>by
   rw [List.mem_singleton] at hy;subst hy;exact F.reads y hx
  have hko:KO (.map #[x1,x2] clock):=by
   have hp': [(Lit.int .i64 3,DataW.lit (H:=Unit) (.int .i64 3)),(.int .i64 4,.lit (.int .i64 4))].Perm [WideMaps.rg Unit Tryz.prog 3 .i64 x1,WideMaps.rg Unit Tryz.prog 3 .i64 x2]:=hp
   have hc:(WideMaps.rg Unit Tryz.prog 3 .i64 x1=(.int .i64 3,.lit (.int .i64 3))∧WideMaps.rg Unit Tryz.prog 3 .i64 x2=(.int .i64 4,.lit (.int .i64 4)))∨(WideMaps.rg Unit Tryz.prog 3 .i64 x1=(.int .i64 4,.lit (.int .i64 4))∧WideMaps.rg Unit Tryz.prog 3 .i64 x2=(.int .i64 3,.lit (.int .i64 3))):=by
    have m1:=hp'.mem_iff (a:=WideMaps.rg Unit Tryz.prog 3 .i64 x1)
    have m2:=hp'.mem_iff (a:=WideMaps.rg Unit Tryz.prog 3 .i64 x2)
    have m3:=hp'.mem_iff (a:=(Lit.int .i64 3,DataW.lit (H:=Unit) (.int .i64 3)))
    have m4:=hp'.mem_iff (a:=(Lit.int .i64 4,DataW.lit (H:=Unit) (.int .i64 4)))
    simp only [List.mem_cons,List.not_mem_nil,or_false,true_or,or_true,iff_true,true_iff] at m1 m2 m3 m4
    have hne:(Lit.int .i64 3,DataW.lit (H:=Unit) (.int .i64 3))≠(Lit.int .i64 4,DataW.lit (H:=Unit) (.int .i64 4)):=fun q=>by cases congrArg Prod.fst q
    rcases m1 with q1|q1 <;> rcases m2 with q2|q2
    ·rw [q1,q2] at m4;rcases m4 with q|q <;> exact absurd q.symm hne
    ·exact .inl ⟨q1,q2⟩
    ·exact .inr ⟨q1,q2⟩
    ·rw [q1,q2] at m3;rcases m3 with q|q <;> exact absurd q hne
   rcases hc with ⟨q1,q2⟩|⟨q1,q2⟩
   ·obtain ⟨k1,v1⟩:=zyb (F:=hF x1 (by simp)) q1
    obtain ⟨k2,v2⟩:=zyb (F:=hF x2 (by simp)) q2
    refine ⟨#[x1,x2],clock,[(3,3),(4,4)],rfl,by simp [k1,k2,intK],fun i h1 h2=> ?_,rfl,fun k=> ?_⟩
    ·match i,h1 with
     |0,_=>exact v1
     |1,_=>exact v2
    ·simp only [zbt,zvy]
     by_cases a:(3:Int)=k
     ·subst a;rfl
     ·by_cases b:(4:Int)=k
      ·subst b;rfl
      ·rw [if_neg a,if_neg b,if_neg (fun q=>a q.symm),if_neg (fun q=>b q.symm)];rfl
   ·obtain ⟨k1,v1⟩:=zyb (F:=hF x1 (by simp)) q1
    obtain ⟨k2,v2⟩:=zyb (F:=hF x2 (by simp)) q2
    refine ⟨#[x1,x2],clock,[(4,4),(3,3)],rfl,by simp [k1,k2,intK],fun i h1 h2=> ?_,rfl,fun k=> ?_⟩
    ·match i,h1 with
     |0,_=>exact v1
     |1,_=>exact v2
    ·simp only [zbt,zvy]
     by_cases b:(4:Int)=k
     ·subst b;rfl
     ·by_cases a:(3:Int)=k
      ·subst a;rfl
      ·rw [if_neg b,if_neg a,if_neg (fun q=>a q.symm),if_neg (fun q=>b q.symm)];rfl
  refine ⟨b,_,hko,hb,⟨_,_,rfl⟩,?_⟩
  unfold World.var? at h3
  rw [h1] at h3
  simp only [Option.bind_some] at h3
  split at h3
  ·rename_i c T0 fr hh
   cases h3
   have hcl:cs= #[Value.map (some b)]:=Array.toList_inj.1 hcs
   subst hcl
   refine zrb hh rfl fun j j1 j2=> ?_
   match j,j1 with
   |0,_=>exact .v _
  ·cases h3
theorem zin {w:World} {g:Nat} {T:TypeId} {vs:List AV} {O:Nat→Prop} (h:(Res.glob g T vs).holds w noX) (hs:∀a∈vs,Solid a) (hO:∀b,O b→∀c T fr,w.heap[b]? ≠some (.cells c T fr)):(Res.glob g T vs).holds w O:=by
 obtain ⟨_,hlt,c,T0,fr,hh,hl,hr⟩:=h
 exact ⟨fun hb=>hO g hb _ _ _ hh,hlt,c,T0,fr,hh,hl,fun j j1 j2=>zsr (hr j j1 j2) (hs _ (List.getElem_mem j1)) hO⟩
theorem ywj (rO:Nat) (oK:Obj):OO [.glob 2 156 y5,.glob 4 305 y7,.glob 5 308 y2,.glob 3 246 u5,.glob 1 175 zag,.glob 0 171 [mpv rO],.obj rO oK] noX=fun b=>b=rO:=by funext b;simp [OO,j9,noX,Res.own]
theorem zkt {vs:List AV} (h:(vs.all fun a=>match a with| .any=>true| .v _=>true| .fn _ [] []=>true|_=>false)=true):∀a∈vs,Solid a:=fun a ha=>by
 have:=List.all_eq_true.1 h a ha
 split at this
 ·exact .any
 ·exact .v _
 ·exact .fn _
 ·cases this
theorem zz8 {W:World} (h:laidMetH Tryz.prog zq5 W):∃rO oK,KO oK∧HRel noX W [.glob 2 156 y5,.glob 4 305 y7,.glob 5 308 y2,.glob 3 246 u5,.glob 1 175 zag,.glob 0 171 [mpv rO],.obj rO oK]∧∀b,b=rO→∀c T fr,W.heap[b]? ≠some (.cells c T fr):=by
 have hm:=yiu h
 obtain ⟨rO,oK,hK,hb,⟨ents,clock,rfl⟩,hgk⟩:=yiw (Lib.laidMet.reads hm (.tail _ (.tail _ (.head _))))
 have hO:∀b,b=rO→∀c T fr,W.heap[b]? ≠some (.cells c T fr):=fun b e c T fr q=>by subst e;rw [hb] at q;cases q
 have k1:=yvi (Lib.laidMet.reads hm (.tail _ (.head _)))
 have k2:=yvh (Lib.laidMet.reads hm (.tail _ (.tail _ (.tail _ (.head _)))))
 have k3:=yvg (Lib.laidMet.reads hm (.head _))
 refine ⟨rO,_,hK,⟨by simp [j9,Res.own],fun b hb'=> ?_,fun b hb=>hb.elim,fun r hr=> ?_⟩,hO⟩
 ·simp [j9,Res.own] at hb'
  subst hb'
  exact ⟨(Array.getElem?_eq_some_iff.1 hb).1,fun q=>q⟩
 ·rw [ywj]
  simp only [List.mem_cons,List.not_mem_nil,or_false] at hr
  rcases hr with rfl|rfl|rfl|rfl|rfl|rfl|rfl
  ·exact zin k1 (zkt (by rfl)) hO
  ·exact zin k2 (zkt (by kernel_rfl)) hO
  ·exact zin k3 (zkt (by kernel_rfl)) hO
  ·exact zin (ysv h) (zkt (by rfl)) hO
  ·exact zin (yvf h) (zkt (by rfl)) hO
  ·exact zin hgk (zkt (by rfl)) hO
  ·exact ⟨hb,fun c T f q=>by cases q⟩
theorem yix {W W':World} {rO:Nat} {oK:Obj} (h1:HRel noX W [.glob 2 156 y5,.glob 4 305 y7,.glob 5 308 y2,.glob 3 246 u5,.glob 1 175 zag,.glob 0 171 [mpv rO],.obj rO oK]) (h2:HRel noX W' [.glob 2 156 y5,.glob 4 305 y7,.glob 5 308 y2,.glob 3 246 u5,.glob 1 175 zag,.glob 0 171 [mpv rO],.obj rO oK]) (hk:Keep (j9 [.glob 2 156 y5,.glob 4 305 y7,.glob 5 308 y2,.glob 3 246 u5,.glob 1 175 zag,.glob 0 171 [mpv rO],.obj rO oK]) W (j9 [.glob 2 156 y5,.glob 4 305 y7,.glob 5 308 y2,.glob 3 246 u5,.glob 1 175 zag,.glob 0 171 [mpv rO],.obj rO oK]) W'):Keep [] W [] W':=by
 have a1:=(h1.holds (.obj rO oK) (by simp)).1
 have a2:=(h2.holds (.obj rO oK) (by simp)).1
 refine ⟨hk.size,fun b hb _=>⟨?_,by simp⟩,hk.env⟩
 by_cases e:b=rO
 ·subst e;rw [a1,a2]
 ·exact (hk.same b hb (by simpa [j9,Res.own] using e)).1
def yob:List (String×DataW Unit):= [("unicode/utf8.acceptRanges",Rows.laid_unicode_utf8_acceptRanges),("yardarm/history.limits",Rows.laid_yardarm_history_limits),("unicode/utf8.first",Rows.laid_unicode_utf8_first)]
def yum:List Value:= .nilFunc::fnS.map fun f=> .func (.func f) #[] #[]
noncomputable def wit60 (os:Os):World:={World.holding Tryz.prog os ⟨#[], #[],[]⟩ with heap:=((((World.holding Tryz.prog os ⟨#[], #[],[]⟩).heap.modify 3 (Lay.setRow yvy)).modify 1 (Lay.setRow yum)).modify 0 (Lay.setRow [.map (some 11)])).push (.map #[⟨.int .i64 3,.int .i64 3,0⟩,⟨.int .i64 4,.int .i64 4,1⟩] 2)}
noncomputable def wit6 (os:Os):World:=(wit60 os).layVars Tryz.prog yob
theorem ylm (os:Os):(wit6 os).os=os:=World.layVars_os _ _ _
theorem yf6 (os:Os) (args:Array Value):laidMetH Tryz.prog zq5 ((wit6 os).forCall (fun _ _=>0) ⟨#[],args,[]⟩).memory:=by
 refine laidMetH_of_parts3 (fuel:=8) ?_ (by kernel_rfl) (by kernel_rfl)
 rw [zxw]
 have h:laidMet Tryz.prog yiv (wit6 os):=laidMet_layVars (w0:=wit60 os) (yob.map (·.1)) [0,11] (by kernel_rfl) (by kernel_rfl) (by kernel_rfl) (by
  rw [show (yiv.filter fun x=> !(yob.map (·.1)).contains x.1)= [("yardarm/rw.kinds",Rows.laid_yardarm_rw_kinds)] by kernel_rfl];exact LaidIn.of_run [0,11] 8 (by kernel_rfl) (by kernel_rfl) (by kernel_rfl) (by kernel_rfl))
 exact h.of_heap (by simp [World.memory,World.forCall,Input.heap])
end Go.Proofs.YtfmcbdjnmlcacaaGreatDoor
set_option maxRecDepth 10000
namespace Go.Proofs
open Go Go.Ab
attribute [local irreducible] QR QV OE zcr aw zdf zcf zbm za3 thn zfo zd2 jch zfe
open Go.H
theorem zxj {α:Type} (x1 x2 x3 x4 x5 x6 x7 x8 x9 x10 x11 x12 x13 x:α) (l:List α):(x1::x2::x3::x4::x5::x6::x7::x8::x9::x10::x11::x12::x13::x::l).Perm (x::x1::x2::x3::x4::x5::x6::x7::x8::x9::x10::x11::x12::x13::l):=(List.Perm.cons x1 (ypv x2 x3 x4 x5 x6 x7 x8 x9 x10 x11 x12 x13 x l)).trans (.swap x x1 _)
def cfz:Conf:=⟨0,0,0,0,0,0,0⟩
abbrev gC (c:Conf):AV:= .agg (u0 c)
instance:ZV (.agg #[.int .i64 0,.int .i64 0,.int .i64 0,.int .i64 0,.int .i64 0,.int .i64 0,.int .i64 0]) (gC cfz):=⟨fun w O u h=>by
 rw [h.v_eq]
 refine .agg _ _ rfl fun j h1 h2=> ?_
 match j,h1,h2 with
 |0,_,_=>exact .v _
 |1,_,_=>exact .v _
 |2,_,_=>exact .v _
 |3,_,_=>exact .v _
 |4,_,_=>exact .v _
 |5,_,_=>exact .v _
 |6,_,_=>exact .v _
 |j+7,h1,_=>exact absurd h1 (by show ¬j+7 < 7;omega)⟩
theorem yv3 {n:Int} (h:n≠0):bv (n !=0)=bv true:=congrArg bv (by simpa using h)
theorem yv4:bv ((0:Int) !=0)=bv false:=rfl
theorem zyn {m:List ((Int×Int)×Conf)} {c:Conf} (h:(!(zbt (c.f,c.t) m).isSome)=true∨decide (zec c ((zbt (c.f,c.t) m).getD cfz) < 0)=true):ziw m c=ze0 (c.f,c.t) c m:=by
 unfold ziw
 rw [show zhb c=(c.f,c.t) from rfl]
 cases hq:zbt (c.f,c.t) m with
 |none=>rfl
 |some b=>
  rw [hq] at h
  simp only
  rcases h with h|h
  ·simp at h
  ·rw [if_pos (by simpa using h)]
theorem ytt {m:List ((Int×Int)×Conf)} {c:Conf} (h1:(!(zbt (c.f,c.t) m).isSome)=false) (h2:decide (zec c ((zbt (c.f,c.t) m).getD cfz) < 0)=false):ziw m c=m:=by
 unfold ziw
 rw [show zhb c=(c.f,c.t) from rfl]
 cases hq:zbt (c.f,c.t) m with
 |none=>rw [hq] at h1;simp at h1
 |some b=>
  rw [hq] at h2
  simp only
  rw [if_neg (by simpa using h2)]
theorem ymn {h:Hist} {kd:Int} {j:Nat} (hj:j < h.evs.length) (hk:h.evs[j].kind=kd):zb5 h kd (j+1)=zb5 h kd j++zcg h h.evs[j] j:=by
 rw [zb5,List.getElem?_eq_getElem hj];simp only;rw [if_pos (by simpa using hk)]
theorem ymo {h:Hist} {kd:Int} {j:Nat} (hj:j < h.evs.length) (hk:h.evs[j].kind≠kd):zb5 h kd (j+1)=zb5 h kd j:=by
 rw [zb5,List.getElem?_eq_getElem hj];simp only;rw [if_neg (by simpa using hk),List.append_nil]
theorem ynj {a b n:Nat} (ha:a < n) (hb:b < n):a * n+b < n * n:=by
 have:(a+1) * n≤n * n:=Nat.mul_le_mul_right n ha
 rw [Nat.succ_mul] at this;omega
theorem yhw {a b c d n:Nat} (hb:b < n) (hd:d < n) (e:a * n+b=c * n+d):a=c∧b=d:=by
 have hn:0 < n:=by omega
 have h1:(a * n+b) / n=a:=by rw [Nat.add_comm,Nat.add_mul_div_right _ _ hn,Nat.div_eq_of_lt hb,Nat.zero_add]
 have h2:(c * n+d) / n=c:=by rw [Nat.add_comm,Nat.add_mul_div_right _ _ hn,Nat.div_eq_of_lt hd,Nat.zero_add]
 have:a=c:=by rw [←h1,←h2,e]
 subst this
 exact ⟨rfl,by omega⟩
theorem ycv {l:List (Int×Int)} {n:Nat} (hn:l.Nodup) (hb:∀p∈l,(0≤p.1∧p.1 < n)∧(0≤p.2∧p.2 < n)):l.length≤n * n:=by
 have h1:(l.map fun p=>p.1.toNat * n+p.2.toNat).Nodup:=by
  rw [List.Nodup,List.pairwise_map]
  refine List.Pairwise.imp_of_mem (fun {p q} hp hq hne e=>hne ?_) hn
  obtain ⟨⟨a0,a1⟩,b0,b1⟩:=hb p hp
  obtain ⟨⟨c0,c1⟩,d0,d1⟩:=hb q hq
  obtain ⟨e1,e2⟩:=yhw (by omega) (by omega) e
  exact Prod.ext (by omega) (by omega)
 have h2:=zmh (N:=n * n) h1 fun m hm=>by
  obtain ⟨p,hp,rfl⟩:=List.mem_map.1 hm
  obtain ⟨⟨a0,a1⟩,b0,b1⟩:=hb p hp
  exact ynj (by omega) (by omega)
 rw [oM] at h2;exact h2
theorem ys7 {h:Hist} (hs:za2 h=true) {i:Nat} (hi:i < h.evs.length) {z:Conf} (hz:z∈zcg h h.evs[i] i):z.f=h.evs[i].t:=by
 by_cases h3:h.evs[i].kind=3
 ·obtain ⟨_,_,_,_,_,e,_⟩:=zsz hs hi h3 hz;exact e
 ·by_cases h4:h.evs[i].kind=4
  ·obtain ⟨_,_,_,_,e,_⟩:=zsh hs hi h4 hz;exact e
  ·rw [zlu h3 h4] at hz;cases hz
theorem yan (l:List Conf):∀p∈zcp l,∃c∈l,p.1=zhb c:=fun p hp=>by
 have hg:=(zkd (k:=p.1) (v:=p.2) (zf1 l)).2 hp
 have:=zyp l p.1
 rw [hg] at this
 exact ⟨p.2,this.2.1,this.1.symm⟩
theorem zyo {h:Hist} (hc:u6 h=0) (kd:Int):(zcp (zb5 h kd h.evs.length)).length≤9000000:=by
 have hs:=zbh.1 hc
 have hT:=(zfg hc).ts
 have h1:=ycv (n:=h.ts.length) (zf1 (zb5 h kd h.evs.length)) fun p hp=>by
  obtain ⟨q,hq,rfl⟩:=List.mem_map.1 hp
  obtain ⟨c,hc',e⟩:=yan _ q hq
  obtain ⟨j,hj,_,_,hf⟩:=(zsm (Nat.le_refl _)).1 hc'
  rw [e]
  have ht:=(zbn _ _).1 (zcd (ze3 hs _ (List.getElem_mem hj))).2.2.1
  exact ⟨by show 0≤c.f∧c.f < _;rw [ys7 hs hj hf];exact ht,ys6 hs hj hf⟩
 rw [oM] at h1
 exact Nat.le_trans h1 (Nat.mul_le_mul hT hT)
theorem zla {α β:Type} (f:α→List β) (c:Nat):∀l:List α,(∀a∈l,(f a).length≤c)→(l.flatMap f).length≤l.length * c
 | [],_=>by simp
 |a::l,hf=>by
  have:=zla f c l fun x hx=>hf x (List.mem_cons_of_mem _ hx)
  have:=hf a (by simp)
  rw [List.flatMap_cons,List.length_append,List.length_cons,Nat.succ_mul];omega
theorem zre {h:Hist} (hc:u6 h=0) {a:Nat} (ha:a < h.evs.length):(zcg h h.evs[a] a).length≤16000000:=by
 obtain ⟨h1,h2⟩:=seen_ok hc (List.getElem_mem ha) a
 rw [zcg]
 split
 ·refine Nat.le_trans (zla _ 4000 _ fun p hp=>Nat.le_trans (List.length_filterMap_le _ _) (h2 p hp).2.1) ?_
  omega
 ·exact Nat.zero_le _
def yfv (L:List ((Int×Int)×Conf)) (sn:List Nat):List Conf:=sn.reverse.map fun i=>((L[i]?).map Prod.snd).getD cfz
theorem zxl (L:List ((Int×Int)×Conf)) (sn:List Nat):(yfv L sn).length=sn.length:=by simp [yfv]
theorem yrt {L:List ((Int×Int)×Conf)} {i:Nat} {sn:List Nat} (hi:i < L.length):yfv L (i::sn)=yfv L sn++ [L[i].2]:=by
 simp [yfv,List.getElem?_eq_getElem hi]
theorem zzr (L:List ((Int×Int)×Conf)):(List.range L.length).map (fun i=>((L[i]?).map Prod.snd).getD cfz)=L.map Prod.snd:=by
 refine List.ext_getElem (by simp) fun i h1 h2=> ?_
 simp at h1
 simp [List.getElem?_eq_getElem h1]
theorem yc2 {L:List ((Int×Int)×Conf)} {sn:List Nat} (hn:sn.Nodup) (hl:∀i∈sn,i < L.length) (ha:∀i,i < L.length→i∈sn):(yfv L sn).Perm (L.map Prod.snd):=by
 rw [←zzr,yfv]
 refine List.Perm.map _ ((List.reverse_perm sn).trans ?_)
 exact (List.perm_ext_iff_of_nodup hn List.nodup_range).2 fun i=>by rw [List.mem_range];exact ⟨hl i,ha i⟩
def zrx (h:Hist) (kd:Int):List Conf:=if u6 h=0 then zjw h kd else []
theorem zsl {h:Hist} {kd:Int} (hc:u6 h=0):zrx h kd=zjw h kd:=by rw [zrx,if_pos hc]
theorem zpc {h:Hist} {kd:Int} (hc:u6 h≠0):zrx h kd= []:=by rw [zrx,if_neg hc]
theorem yoz {h:Hist} (hc:u6 h=0) {kd:Int} (hk:kd=3∨kd=4) {sn:List Nat} (hn:sn.Nodup) (hl:∀i∈sn,i < (zcp (zb5 h kd h.evs.length)).length) (ha:∀i,i < (zcp (zb5 h kd h.evs.length)).length→i∈sn):
 zks zec (yfv (zcp (zb5 h kd h.evs.length)) sn)=zrx h kd:=by
 rw [zsl hc]
 exact (zjv (zbh.1 hc) hk (yc2 hn hl ha)).trans (zjv (zbh.1 hc) hk (.refl _)).symm
theorem yml (h:Hist) (la:Lim 4611686018427387904 h) (rO:Nat) (oK:Obj):y8 Tryz.prog 87 [.agg (w7 h)] (.glob 2 156 y5:: .glob 4 305 y7:: .glob 5 308 y2:: .glob 3 246 u5:: .glob 1 175 zag:: .glob 0 171 [mpv rO]:: .obj rO oK:: []) (fun r h'=>(u6 h=0∧∃rc rl rk rg,h'=rgR rg []::rkS h rk::zbf h rl::rcR h rc:: .glob 2 156 y5:: .glob 4 305 y7:: .glob 5 308 y2:: .glob 3 246 u5:: .glob 1 175 zag:: .glob 0 171 [mpv rO]:: .obj rO oK:: []∧r= .tup [.agg (rwP h rc rl rk rg),iv 0])∨(u6 h≠0∧h'= .glob 2 156 y5:: .glob 4 305 y7:: .glob 5 308 y2:: .glob 3 246 u5:: .glob 1 175 zag:: .glob 0 171 [mpv rO]:: .obj rO oK:: []∧r= .tup [.agg (ztn++ [nmp,.v (.slice none 0 0),nmp,nmp,nmp]),iv (u6 h)])):=
 ((ywu h la).frame [.glob 1 175 zag,.glob 0 171 [mpv rO],.obj rO oK]).mono (by
   rintro _ _ ⟨_,rfl,⟨hc,rc,rl,rk,rg,rfl,rfl⟩|⟨hc,rfl,rfl⟩⟩
   ·exact .inl ⟨hc,rc,rl,rk,rg,rfl,rfl⟩
   ·exact .inr ⟨hc,rfl,rfl⟩)
theorem zsk (h:Hist) (la:Lim 4611686018427387904 h) (rO:Nat) (oK:Obj) (hK:KO oK) (kd:Int) (hkk:kd=3∨kd=4):y8 Tryz.prog 86 [.agg (w7 h),iv kd] (.glob 2 156 y5:: .glob 4 305 y7:: .glob 5 308 y2:: .glob 3 246 u5:: .glob 1 175 zag:: .glob 0 171 [mpv rO]:: .obj rO oK:: []) (fun r h'=>∃s:SV,h'= .row s.v 7 41 ((zrx h kd).map u0):: .glob 2 156 y5:: .glob 4 305 y7:: .glob 5 308 y2:: .glob 3 246 u5:: .glob 1 175 zag:: .glob 0 171 [mpv rO]:: .obj rO oK:: []∧r= .tup [.v s.v,iv (u6 h)]):=by
 refine z6 Tryz.func86 rfl rfl rfl ?_
 have be:=la.evs
 refine rn ?_;refine z8 rfl (q6 rfl rfl rfl fun b2=> ?_)
 refine q1 ?_;refine q1 ?_;refine j4 (zac ?_)
 refine w8 (y4 ?_)
 refine q1 ?_;refine z8 rfl (u3 rfl rfl (y0.fr1 (y0.of_fun (yml h la rO oK))) rfl ?_)
 rintro _ _ ⟨_,rfl,⟨hc,rc,rl,rk,rg,rfl,rfl⟩|⟨hc,rfl,rfl⟩⟩
 ·refine rn ?_;refine z8 rfl (y3 rfl fun b6=> ?_)
  refine rn ?_;refine z7 rfl (fun hc24=> ?_) (fun hc24=> ?_)
  ·first|cases hc24|exact absurd hc24 (by decide)|(exfalso;simp_all;done)
  ·refine rn ?_;refine z8 rfl (zbb (enc:=zbg) rfl fun bm=> ?_)
   refine z8 rfl (y3 rfl fun b8=> ?_)
   first|refine z8 rfl (k8 rfl rfl rfl ?_)|refine z8 rfl (zaq rfl rfl rfl rfl (Nat.le_of_ble_eq_true rfl) ?_)
   refine j4 (zac ?_)
   refine w8 ?_;refine w8 (y4 ?_)
   show zcr _ _ _ _ _ _ ⟨_,_:: .map bm (zas zbg (zbw gC (zcp (zb5 h kd 0))))::_,_⟩
   refine rn ?_;refine zie h.evs.length (fun _ (z:List ((Int×Int)×List Int)×List Nat)=>zoq h z.1) (fun j z=>⟨[(31,iv j),(1,iv kd),(6,pZ b6),(8,pZ b8),(29,zri h.evs),(30,iv (h.evs.map evR).length)],.map bm (zas zbg (zbw gC (zcp (zb5 h kd j)))):: .box b8 166 [mpv bm]:: .box b6 119 (rwP h rc rl rk rg):: .box b2 28 (w7 h)::rgR rg z.1::rkS h rk::zbf h rl::rcR h rc:: .glob 2 156 y5:: .glob 4 305 y7:: .glob 5 308 y2:: .glob 3 246 u5:: .glob 1 175 zag:: .glob 0 171 [mpv rO]:: .obj rO oK::(z.2.map Res.defs),z.2⟩) ([],[]) (zmv h) (v7 (zao (pt1 _ _ _)) es) ?_
   rintro j ⟨M,dfs⟩ lj hM
   have hM:zoq h M:=hM
   show aw _ _ _ _ _ ⟨[(31,iv j),(1,iv kd),(6,pZ b6),(8,pZ b8),(29,zri h.evs),(30,iv (h.evs.map evR).length)],.map bm (zas zbg (zbw gC (zcp (zb5 h kd j)))):: .box b8 166 [mpv bm]:: .box b6 119 (rwP h rc rl rk rg):: .box b2 28 (w7 h)::rgR rg M::rkS h rk::zbf h rl::rcR h rc:: .glob 2 156 y5:: .glob 4 305 y7:: .glob 5 308 y2:: .glob 3 246 u5:: .glob 1 175 zag:: .glob 0 171 [mpv rO]:: .obj rO oK::(dfs.map Res.defs),dfs⟩
   refine rn ?_;refine z7 rfl (fun hc32=> ?_) (fun hc32=> ?_)
   ·have hj:=za4 hc32
    have rj:=zak (f:=evR) hj
    refine rn ?_;refine z8 rfl (y3 rfl fun b10=> ?_)
    refine rn ?_;refine z7 rfl (fun hc39=> ?_) (fun hc39=> ?_)
    ·have hw:zb5 h kd (j+1)=zb5 h kd j:=ymo hj (by simpa using hc39)
     refine rn ?_;exact ⟨hj,(M,dfs),hM,by simp only;rw [hw];exact eA⟩
    ·have hkd:h.evs[j].kind=kd:=by simpa using hc39
     have hw:=ymn hj hkd
     refine rn ?_;refine z8 rfl (u3 rfl rfl (y0.of_fun (zxa h j rc rl rk rg _)) rfl ?_)
     rintro _ _ ⟨ba,bp,rfl,rfl⟩
     refine rn ?_;refine zo4 (fun pend h''=>pend=none∧∃M,zoq h M∧h''= .box ba 3 [iv (j:Nat)]:: .box bp 119 (rwP h rc rl rk rg)::rgR rg M::rkS h rk::zbf h rl::rcR h rc:: .glob 2 156 y5:: .glob 4 305 y7:: .glob 5 308 y2:: .glob 3 246 u5:: .glob 1 175 zag:: .glob 0 171 [mpv rO]:: .obj rO oK:: .box b10 60 (evR h.evs[j]):: .map bm (zas zbg (zbw gC (zcp ((zb5 h kd j)++zcg h h.evs[j] j)))):: .box b8 166 [mpv bm]:: .box b6 119 (rwP h rc rl rk rg):: .box b2 28 (w7 h)::(dfs.map Res.defs)) rfl (fun fn l q lp hlp=> ?_) (fun q h'' hK=> ?_) (fun q h'' c hK=> ?_)
     ·suffices hy:∀pre d rest (x:Unit) M,zcg h h.evs[j] j=pre++d::rest→True→zoq h M→y0 Tryz.prog (yv l) [.agg (u0 d)] (.box ba 3 [iv (j:Nat)]:: .box bp 119 (rwP h rc rl rk rg)::rgR rg M::rkS h rk::zbf h rl::rcR h rc:: .glob 2 156 y5:: .glob 4 305 y7:: .glob 5 308 y2:: .glob 3 246 u5:: .glob 1 175 zag:: .glob 0 171 [mpv rO]:: .obj rO oK::lp .ready none:: .defs q:: .box b10 60 (evR h.evs[j]):: .map bm (zas zbg (zbw gC (zcp ((zb5 h kd j)++pre)))):: .box b8 166 [mpv bm]:: .box b6 119 (rwP h rc rl rk rg):: .box b2 28 (w7 h)::(dfs.map Res.defs)) (fun r h'=>∃x':Unit,(r=bv true∧True∧h'= .box ba 3 [iv (j:Nat)]:: .box bp 119 (rwP h rc rl rk rg)::rgR rg M::rkS h rk::zbf h rl::rcR h rc:: .glob 2 156 y5:: .glob 4 305 y7:: .glob 5 308 y2:: .glob 3 246 u5:: .glob 1 175 zag:: .glob 0 171 [mpv rO]:: .obj rO oK::lp .ready none:: .defs q:: .box b10 60 (evR h.evs[j]):: .map bm (zas zbg (zbw gC (zcp ((zb5 h kd j)++(pre++ [d]))))):: .box b8 166 [mpv bm]:: .box b6 119 (rwP h rc rl rk rg):: .box b2 28 (w7 h)::(dfs.map Res.defs))∨(r=bv false∧False∧h'= .box ba 3 [iv (j:Nat)]:: .box bp 119 (rwP h rc rl rk rg)::rgR rg M::rkS h rk::zbf h rl::rcR h rc:: .glob 2 156 y5:: .glob 4 305 y7:: .glob 5 308 y2:: .glob 3 246 u5:: .glob 1 175 zag:: .glob 0 171 [mpv rO]:: .obj rO oK:: [])) by
       have hq:=zw9 h la hc j hj (yv l) bp ba rc rl rk rg M hM rO oK hK (fun _ (_:Unit)=>True) (fun _=>False) (fun pre _=>lp .ready none:: .defs q:: .box b10 60 (evR h.evs[j]):: .map bm (zas zbg (zbw gC (zcp ((zb5 h kd j)++pre)))):: .box b8 166 [mpv bm]:: .box b6 119 (rwP h rc rl rk rg):: .box b2 28 (w7 h)::(dfs.map Res.defs)) (fun _=> []) () trivial hy
       simp only [List.append_nil] at hq
       refine y8.mono (y8.perm ((pt2 _ _ _ _).trans (.cons _ ((pt2 _ _ _ _).trans (.cons _ ((pt7 _ _ _ _ _ _ _ _ _).trans (.cons _ ((pt7 _ _ _ _ _ _ _ _ _).trans (.cons _ ((pt7 _ _ _ _ _ _ _ _ _).trans (.cons _ ((pt7 _ _ _ _ _ _ _ _ _).trans (.cons _ ((pt7 _ _ _ _ _ _ _ _ _).trans (.cons _ ((pt7 _ _ _ _ _ _ _ _ _).trans (.cons _ ((pt7 _ _ _ _ _ _ _ _ _).trans (.cons _ ((pt7 _ _ _ _ _ _ _ _ _).trans (.cons _ ((pt7 _ _ _ _ _ _ _ _ _).trans (.cons _ ((pt7 _ _ _ _ _ _ _ _ _).trans (.cons _ (pt7 _ _ _ _ _ _ _ _ _))))))))))))))))))))))))) hq) ?_
       rintro _ _ ⟨x,M',hM',⟨-,rfl⟩|⟨hF,_⟩⟩
       ·exact ⟨none,.ready,_,((zxj _ _ _ _ _ _ _ _ _ _ _ _ _ _ _).trans (.cons _ (zxj _ _ _ _ _ _ _ _ _ _ _ _ _ _ _))),by simp,rfl,M',hM',rfl⟩
       ·exact hF.elim
      intro pre d rest x M hL _ hM
      refine y0.perm (zxj _ _ _ _ _ _ _ _ _ _ _ _ _ _ _) (y0.ventE ?_)
      refine zfb hlp rfl rfl ?_
      refine rn ?_;refine z8 rfl (y3 rfl fun b11=> ?_)
      refine rn ?_;refine ⟨[(11,pZ b11),(8,pZ b8)],.box b11 41 (u0 d):: .box ba 3 [iv (j:Nat)]:: .box bp 119 (rwP h rc rl rk rg)::rgR rg M::rkS h rk::zbf h rl::rcR h rc:: .glob 2 156 y5:: .glob 4 305 y7:: .glob 5 308 y2:: .glob 3 246 u5:: .glob 1 175 zag:: .glob 0 171 [mpv rO]:: .obj rO oK:: .defs q:: .box b10 60 (evR h.evs[j]):: .map bm (zas zbg (zbw gC (zcp ((zb5 h kd j)++pre)))):: .box b8 166 [mpv bm]:: .box b6 119 (rwP h rc rl rk rg):: .box b2 28 (w7 h)::(dfs.map Res.defs),v7 (zao (pt1 _ _ _)) es,?_⟩
      refine zcx ?_;refine w8 (y4 ?_)
      refine q1 ?_;refine q1 ?_;refine q1 ?_;refine q1 ?_;refine qq rfl rfl (zdb (out:= [iv d.f,iv d.t]) rfl (by rfl)) ?_
      refine z8 rfl (y3 rfl fun b12=> ?_)
      first|refine z8 rfl (k8 rfl rfl rfl ?_)|refine z8 rfl (zaq rfl rfl rfl rfl (Nat.le_of_ble_eq_true rfl) ?_)
      refine j4 (zac ?_)
      refine w8 (y4 ?_)
      refine q1 ?_;refine q1 ?_;refine qq rfl rfl (zh1 (g:=gC) (enc:=zbg) (k:=(d.f,d.t)) cfz rfl rfl rfl) ?_
      refine rn ?_;refine z8 rfl (y3 rfl fun b13=> ?_)
      refine rn ?_;refine w6 (fun hg13_2=> ?_) (fun hg13_2=> ?_)
      ·refine rn ?_;refine z7 rfl (fun hc62=> ?_) (fun hc62=> ?_)
       ·have hb:ziw (zcp ((zb5 h kd j)++pre)) d=ze0 (d.f,d.t) d (zcp ((zb5 h kd j)++pre)):=by first|exact zyn (.inl hg13_2)|exact zyn (.inr hc62)
        refine rn ?_;refine z8 rfl (za6 (g:=gC) (enc:=zbg) (k:=(d.f,d.t)) (v:=d) rfl rfl rfl ?_)
        refine rn ?_;exact zey (pt2 _ _ _ _) ⟨_,_,.trans (.perm ((pt1 _ _ _).trans (.cons _ ((pt1 _ _ _).trans (.cons _ ((pt1 _ _ _).trans (.cons _ ((pt1 _ _ _).trans (.cons _ ((pt1 _ _ _).trans (.cons _ ((pt1 _ _ _).trans (.cons _ ((pt1 _ _ _).trans (.cons _ ((pt1 _ _ _).trans (.cons _ ((pt1 _ _ _).trans (.cons _ ((pt1 _ _ _).trans (.cons _ ((pt1 _ _ _).trans (.cons _ ((pt1 _ _ _).trans (.cons _ ((pt1 _ _ _).trans (.cons _ ((pt1 _ _ _).trans (.cons _ ((pt1 _ _ _).trans (.cons _ (pt1 _ _ _))))))))))))))))))))))))))))))) _) (.drop [_,_,_] _ _),(),.inl ⟨rfl,trivial,by rw [←List.append_assoc,zwh,hb]⟩⟩
       ·first|cases hc62|exact absurd hc62 (by decide)|(exfalso;simp_all;done)
      ·refine rn ?_;refine qv rfl rfl (y1 rfl rfl (u7 (zrz _ _) (Sbs.refl _))) ?_
       refine rn ?_;refine z7 rfl (fun hc62=> ?_) (fun hc62=> ?_)
       ·have hb:ziw (zcp ((zb5 h kd j)++pre)) d=ze0 (d.f,d.t) d (zcp ((zb5 h kd j)++pre)):=by first|exact zyn (.inl hg13_2)|exact zyn (.inr hc62)
        refine rn ?_;refine z8 rfl (za6 (g:=gC) (enc:=zbg) (k:=(d.f,d.t)) (v:=d) rfl rfl rfl ?_)
        refine rn ?_;exact zey (pt2 _ _ _ _) ⟨_,_,.trans (.perm ((pt1 _ _ _).trans (.cons _ ((pt1 _ _ _).trans (.cons _ ((pt1 _ _ _).trans (.cons _ ((pt1 _ _ _).trans (.cons _ ((pt1 _ _ _).trans (.cons _ ((pt1 _ _ _).trans (.cons _ ((pt1 _ _ _).trans (.cons _ ((pt1 _ _ _).trans (.cons _ ((pt1 _ _ _).trans (.cons _ ((pt1 _ _ _).trans (.cons _ ((pt1 _ _ _).trans (.cons _ ((pt1 _ _ _).trans (.cons _ ((pt1 _ _ _).trans (.cons _ ((pt1 _ _ _).trans (.cons _ ((pt1 _ _ _).trans (.cons _ (pt1 _ _ _))))))))))))))))))))))))))))))) _) (.drop [_,_,_] _ _),(),.inl ⟨rfl,trivial,by rw [←List.append_assoc,zwh,hb]⟩⟩
       ·have hb:ziw (zcp ((zb5 h kd j)++pre)) d=(zcp ((zb5 h kd j)++pre)):=ytt hg13_2 hc62
        refine rn ?_;exact zey (pt2 _ _ _ _) ⟨_,_,.trans (.perm ((pt1 _ _ _).trans (.cons _ ((pt1 _ _ _).trans (.cons _ ((pt1 _ _ _).trans (.cons _ ((pt1 _ _ _).trans (.cons _ ((pt1 _ _ _).trans (.cons _ ((pt1 _ _ _).trans (.cons _ ((pt1 _ _ _).trans (.cons _ ((pt1 _ _ _).trans (.cons _ ((pt1 _ _ _).trans (.cons _ ((pt1 _ _ _).trans (.cons _ ((pt1 _ _ _).trans (.cons _ ((pt1 _ _ _).trans (.cons _ ((pt1 _ _ _).trans (.cons _ ((pt1 _ _ _).trans (.cons _ ((pt1 _ _ _).trans (.cons _ (pt1 _ _ _))))))))))))))))))))))))))))))) _) (.drop [_,_,_] _ _),(),.inl ⟨rfl,trivial,by rw [←List.append_assoc,zwh,hb]⟩⟩
     ·obtain ⟨_,M',hM',rfl⟩:=hK
      refine rn ?_;exact ⟨hj,(M',q::dfs),hM',by simp only;rw [hw];exact v7 (zao ((pt1 _ _ _).trans (.cons _ ((pt1 _ _ _).trans (.cons _ ((ypv _ _ _ _ _ _ _ _ _ _ _ _ _ _).trans (.cons _ ((ypv _ _ _ _ _ _ _ _ _ _ _ _ _ _).trans (.cons _ ((ypv _ _ _ _ _ _ _ _ _ _ _ _ _ _).trans (.cons _ ((ypv _ _ _ _ _ _ _ _ _ _ _ _ _ _).trans (.cons _ ((ypv _ _ _ _ _ _ _ _ _ _ _ _ _ _).trans (.cons _ ((pt1 _ _ _).trans (.cons _ ((pt1 _ _ _).trans (.cons _ ((pt1 _ _ _).trans (.cons _ ((pt1 _ _ _).trans (.cons _ ((pt1 _ _ _).trans (.cons _ ((pt1 _ _ _).trans (.cons _ ((pt1 _ _ _).trans (.cons _ ((pt1 _ _ _).trans (.cons _ ((pt1 _ _ _).trans (.cons _ ((pt1 _ _ _).trans (.cons _ (pt1 _ _ _)))))))))))))))))))))))))))))))))))) (v7 (zc7 (h1:= [_,_,_])) es)⟩
     ·obtain ⟨hc',_⟩:=hK
      exact absurd hc' (by simp)
   ·have qj:=za5 hc32 lj
    subst qj
    refine rn ?_;have hbl:=zyo hc kd
    refine rn ?_;refine z8 rfl (zs8 rfl rfl fun b68=> ?_)
    refine rn ?_;refine zaa (fun x:List Nat×SV=>x.1.Nodup∧∀i∈x.1,i < (zcp (zb5 h kd h.evs.length)).length) (fun x=>⟨[(68,pZ b68),(15,.v x.2.v)],.mapr bm (zas zbg (zbw gC (zcp (zb5 h kd h.evs.length)))) b68 x.1:: .row x.2.v 7 41 ((yfv (zcp (zb5 h kd h.evs.length)) x.1).map u0):: .box b8 166 [mpv bm]:: .box b6 119 (rwP h rc rl rk rg):: .box b2 28 (w7 h)::rgR rg M::rkS h rk::zbf h rl::rcR h rc:: .glob 2 156 y5:: .glob 4 305 y7:: .glob 5 308 y2:: .glob 3 246 u5:: .glob 1 175 zag:: .glob 0 171 [mpv rO]:: .obj rO oK::(dfs.map Res.defs),dfs⟩) (fun x=>(zcp (zb5 h kd h.evs.length)).length - x.1.length) ([],⟨none,0,0⟩) ⟨.nil,fun i hi=>(by cases hi)⟩ (v7 (zam 7 41) (v7 (zao (pt1 _ _ _)) es)) ?_
    rintro ⟨sn,s⟩ ⟨hsn,hsl⟩
    simp only at hsn hsl
    refine w8 (y4 ?_)
    refine z8 rfl (zvk rfl rfl (fun hall=> ?_) (fun i hi hni=> ?_))
    ·refine rn ?_;refine z7 rfl (fun hc70=> ?_) (fun hc70=> ?_)
     ·first|cases hc70|exact absurd hc70 (by decide)|(exfalso;simp_all;done)
     ·refine rn ?_;have hsb:=zqn hsn hsl
      refine rn ?_;refine z8 rfl (u3 rfl rfl (y0.lendG (y0.of_fun (ygp (yfv (zcp (zb5 h kd h.evs.length)) sn) (.fn (.func 39) [] []) rfl zec (fun x y=>y0.of_fun (zrz x y)) (by rw [zxl];omega))) (by rintro _ _ ⟨s,rfl,rfl⟩;exact ⟨.v _,fun x hx=>by rw [List.mem_singleton.1 hx];exact zw7 (zw8 _)⟩) (BLe.refl _ _) (by exact ⟨zll,BLe.refl _ _,trivial⟩)) rfl ?_)
      rintro _ _ ⟨_,rfl,s2,rfl,rfl⟩
      refine rn ?_;exact zja (List.perm_append_comm (l₁:= [_,_,_,_,_,_,_,_,_,_,_,_,_,_,_,_,_]) (l₂:=(dfs.map Res.defs))) (.cons _ _ _ _ (.tmp _ _ rfl) (.cons _ _ _ _ (.tmp _ _ rfl) .nil)) (.trans (.perm ((pt1 _ _ _).trans (.cons _ ((pt1 _ _ _).trans (.cons _ ((pt1 _ _ _).trans (.cons _ ((pt1 _ _ _).trans (.cons _ ((pt1 _ _ _).trans (.cons _ ((pt1 _ _ _).trans (.cons _ ((pt1 _ _ _).trans (.cons _ ((pt1 _ _ _).trans (.cons _ (pt1 _ _ _))))))))))))))))) _) (.drop [_,_,_,_,_,_,_,_,_] _ _)) ⟨s2,by rw [yoz hc hkk hsn hsl (fun i hi=>hall i (by simpa [zas,zbw] using hi))],by rw [hc];rfl⟩
    ·refine rn ?_;refine z7 rfl (fun hc70=> ?_) (fun hc70=> ?_)
     ·refine zar ?_;refine zac ?_;refine zcx ?_;refine w8 (y4 ?_)
      have hi2:i < (zcp (zb5 h kd h.evs.length)).length:=by simpa [zas,zbw] using hi
      refine qq rfl rfl (ycp (k:=zbg (zcp (zb5 h kd h.evs.length))[i].1) (a:=gC (zcp (zb5 h kd h.evs.length))[i].2) hi (by simp [zas,zbw]) (by simp [zas,zbw]) rfl) ?_
      refine rn ?_;refine z8 rfl (y3 rfl fun b17=> ?_)
      refine rn ?_;refine qv rfl rfl (w9 rfl rfl) ?_
      refine z8 rfl (q7 rfl rfl (by have:=zqn hsn hsl;simp only [oM,zxl,List.length_cons,List.length_nil];omega) rfl (fun s76=> ?_) (za0 [(zcp (zb5 h kd h.evs.length))[i].2]))
      refine u9 s76 fun sv hsv=> ?_
      subst hsv
      refine rn ?_;have hnd:(i::sn).Nodup:=List.nodup_cons.2 ⟨hni,hsn⟩
      have hal:∀j∈i::sn,j < (zcp (zb5 h kd h.evs.length)).length:=fun j hj=>(List.mem_cons.1 hj).elim (fun q=>q ▸ hi2) (hsl j)
      have hlen:=zqn hnd hal
      exact ⟨(i::sn,sv),⟨hnd,hal⟩,by simp only;rw [yrt hi2,List.map_append];exact eA,by simp only [List.length_cons] at hlen ⊢;omega⟩
     ·first|cases hc70|exact absurd hc70 (by decide)|(exfalso;simp_all;done)
 ·refine rn ?_;refine z8 rfl (y3 rfl fun b6=> ?_)
  refine rn ?_;refine z7 rfl (fun hc24=> ?_) (fun hc24=> ?_)
  ·refine rn ?_;exact zb9 rfl rfl (.trans (.drop [_,_] _ _) (zaj 7 41 _)) ⟨⟨none,0,0⟩,by rw [zpc hc];rfl,rfl⟩
  ·first|cases hc24|exact absurd hc24 (by decide)|(exfalso;simp_all;done)
theorem yww (h:Hist) (la:Lim 4611686018427387904 h) (rO:Nat) (oK:Obj) (hK:KO oK):y8 Tryz.prog 86 [.agg (w7 h),iv 3] (.glob 2 156 y5:: .glob 4 305 y7:: .glob 5 308 y2:: .glob 3 246 u5:: .glob 1 175 zag:: .glob 0 171 [mpv rO]:: .obj rO oK:: []) (fun r h'=>h'= .glob 2 156 y5:: .glob 4 305 y7:: .glob 5 308 y2:: .glob 3 246 u5:: .glob 1 175 zag:: .glob 0 171 [mpv rO]:: .obj rO oK:: []∧r= .tup [zen (zrx h 3),iv (u6 h)]):=(zsk h la rO oK hK 3 (by decide)).ventR (by rintro _ _ ⟨s,rfl,rfl⟩;exact ⟨_,_,zbj [] [_],rfl,rfl⟩)
theorem ykb (h:Hist) (la:Lim 4611686018427387904 h) (rO:Nat) (oK:Obj) (hK:KO oK):y8 Tryz.prog 32 [.agg (w7 h)] (.glob 2 156 y5:: .glob 4 305 y7:: .glob 5 308 y2:: .glob 3 246 u5:: .glob 1 175 zag:: .glob 0 171 [mpv rO]:: .obj rO oK:: []) (fun r h'=>h'= .glob 2 156 y5:: .glob 4 305 y7:: .glob 5 308 y2:: .glob 3 246 u5:: .glob 1 175 zag:: .glob 0 171 [mpv rO]:: .obj rO oK:: []∧r= .tup [zen (zrx h 3),iv (u6 h)]):=by
 refine z6 Tryz.func32 rfl rfl rfl ?_
 refine rn ?_;refine z8 rfl (q6 rfl rfl rfl fun b1=> ?_)
 refine rn ?_;refine qv rfl rfl (y1 rfl rfl (y0.qt (y0.of_fun (yww h la rO oK hK)) ((pt1 _ _ _).trans (.cons _ ((pt1 _ _ _).trans (.cons _ ((pt1 _ _ _).trans (.cons _ ((pt1 _ _ _).trans (.cons _ ((pt1 _ _ _).trans (.cons _ ((pt1 _ _ _).trans (.cons _ (pt1 _ _ _))))))))))))))) ?_
 refine rn ?_;exact zb9 rfl rfl (.drop [_] _ _) ⟨rfl,rfl⟩
theorem ywv (h:Hist) (la:Lim 4611686018427387904 h) (rO:Nat) (oK:Obj) (hK:KO oK):y8 Tryz.prog 86 [.agg (w7 h),iv 4] (.glob 2 156 y5:: .glob 4 305 y7:: .glob 5 308 y2:: .glob 3 246 u5:: .glob 1 175 zag:: .glob 0 171 [mpv rO]:: .obj rO oK:: []) (fun r h'=>h'= .glob 2 156 y5:: .glob 4 305 y7:: .glob 5 308 y2:: .glob 3 246 u5:: .glob 1 175 zag:: .glob 0 171 [mpv rO]:: .obj rO oK:: []∧r= .tup [zen (zrx h 4),iv (u6 h)]):=(zsk h la rO oK hK 4 (by decide)).ventR (by rintro _ _ ⟨s,rfl,rfl⟩;exact ⟨_,_,zbj [] [_],rfl,rfl⟩)
theorem ybr (h:Hist) (la:Lim 4611686018427387904 h) (rO:Nat) (oK:Obj) (hK:KO oK):y8 Tryz.prog 33 [.agg (w7 h)] (.glob 2 156 y5:: .glob 4 305 y7:: .glob 5 308 y2:: .glob 3 246 u5:: .glob 1 175 zag:: .glob 0 171 [mpv rO]:: .obj rO oK:: []) (fun r h'=>h'= .glob 2 156 y5:: .glob 4 305 y7:: .glob 5 308 y2:: .glob 3 246 u5:: .glob 1 175 zag:: .glob 0 171 [mpv rO]:: .obj rO oK:: []∧r= .tup [zen (zrx h 4),iv (u6 h)]):=by
 refine z6 Tryz.func33 rfl rfl rfl ?_
 refine rn ?_;refine z8 rfl (q6 rfl rfl rfl fun b1=> ?_)
 refine rn ?_;refine qv rfl rfl (y1 rfl rfl (y0.qt (y0.of_fun (ywv h la rO oK hK)) ((pt1 _ _ _).trans (.cons _ ((pt1 _ _ _).trans (.cons _ ((pt1 _ _ _).trans (.cons _ ((pt1 _ _ _).trans (.cons _ ((pt1 _ _ _).trans (.cons _ ((pt1 _ _ _).trans (.cons _ (pt1 _ _ _))))))))))))))) ?_
 refine rn ?_;exact zb9 rfl rfl (.drop [_] _ _) ⟨rfl,rfl⟩
theorem ask_c {h:Hist} {x n:Int} (hc:u6 h≠0):zho h x n=u6 h:=by rw [zho,if_neg hc]
theorem zj2 {f g:Bool} (l m:List ByteArray) (hl:l.length≤4611686018427387904) (hm:m.length≤4611686018427387904):y8 Tryz.prog 78 [.list f 1 (l.map zf5),.list g 1 (m.map zf5)] [] (fun r h'=>h'= []∧r=bv (decide (l=m))):=
 (yg9 l m hl hm).mono (fun r h' q=>⟨q.1,by rw [q.2,zhl zwz]⟩)
theorem znd {f g:Bool} (l m:List Int) (hl:l.length≤4611686018427387904) (hm:m.length≤4611686018427387904):y8 Tryz.prog 80 [.list f 1 (l.map zal),.list g 1 (m.map zal)] [] (fun r h'=>h'= []∧r=bv (decide (l=m))):=
 (zzg l m hl hm).mono (fun r h' q=>⟨q.1,by rw [q.2,zhl zq7]⟩)
theorem ycc (a b:Ev) (ha:a.scan.length≤4611686018427387904) (hb:b.scan.length≤4611686018427387904):y8 Tryz.prog 79 [.agg (evR a),.agg (evR b)] [] (fun r h'=>h'= []∧r=bv (decide (a=b))):=
 (zf8 a b ha hb).mono (fun r h' q=>⟨q.1,by rw [q.2,zv7]⟩)
theorem zdl {a b:Hist} (h:a≠b):zu0 a b=false:=by
 cases q:zu0 a b with
 |false=>rfl
 |true=>exact absurd ((zm9 a b).1 q) h
theorem ymi {a b:Hist} (h:a=b):zu0 a b=true:=(zm9 a b).2 h
theorem ymy (a b:Hist) (la:Lim 4611686018427387904 a) (lb:Lim 4611686018427387904 b):y8 Tryz.prog 26 [.agg (w7 a),.agg (w7 b)] [] (fun r h'=>h'= []∧r=bv (zu0 a b)):=by
 refine z6 Tryz.func26 rfl rfl rfl ?_
 refine rn ?_;refine z8 rfl (q6 rfl rfl rfl fun b2=> ?_)
 refine z8 rfl (q6 rfl rfl rfl fun b3=> ?_)
 refine rn ?_;refine qv rfl rfl (y1 rfl rfl (u7 (zj2 a.ts b.ts la.ts lb.ts) (Sbs.refl _))) ?_
 refine rn ?_;refine w6 (fun hg1_6=> ?_) (fun hg1_6=> ?_)
 ·refine rn ?_;refine zcw rfl ?_;refine rn ?_;exact k7 rfl (.drop [_,_] _ _) ⟨rfl,congrArg bv (Eq.symm (zdl fun q=>by subst q;simp_all))⟩
 ·refine rn ?_;refine qv rfl rfl (y1 rfl rfl (u7 (zj2 a.ss b.ss la.ss lb.ss) (Sbs.refl _))) ?_
  refine rn ?_;refine w6 (fun hg1_14=> ?_) (fun hg1_14=> ?_)
  ·refine rn ?_;refine zcw rfl ?_;refine rn ?_;exact k7 rfl (.drop [_,_] _ _) ⟨rfl,congrArg bv (Eq.symm (zdl fun q=>by subst q;simp_all))⟩
  ·refine rn ?_;refine qv rfl rfl (y1 rfl rfl (u7 (zj2 a.os b.os la.os lb.os) (Sbs.refl _))) ?_
   refine rn ?_;refine w6 (fun hg1_22=> ?_) (fun hg1_22=> ?_)
   ·refine rn ?_;refine zcw rfl ?_;refine rn ?_;exact k7 rfl (.drop [_,_] _ _) ⟨rfl,congrArg bv (Eq.symm (zdl fun q=>by subst q;simp_all))⟩
   ·refine rn ?_;refine qv rfl rfl (y1 rfl rfl (u7 (zj2 a.ps b.ps la.ps lb.ps) (Sbs.refl _))) ?_
    refine rn ?_;refine w6 (fun hg1_30=> ?_) (fun hg1_30=> ?_)
    ·refine rn ?_;refine zcw rfl ?_;refine rn ?_;exact k7 rfl (.drop [_,_] _ _) ⟨rfl,congrArg bv (Eq.symm (zdl fun q=>by subst q;simp_all))⟩
    ·refine rn ?_;refine w6 (fun hg1_39=> ?_) (fun hg1_39=> ?_)
     ·refine rn ?_;refine zcw rfl ?_;refine rn ?_;exact k7 rfl (.drop [_,_] _ _) ⟨rfl,congrArg bv (Eq.symm (zdl fun q=>by subst q;simp_all))⟩
     ·refine rn ?_;refine w6 (fun hg1_48=> ?_) (fun hg1_48=> ?_)
      ·refine rn ?_;refine zcw rfl ?_;refine rn ?_;exact k7 rfl (.drop [_,_] _ _) ⟨rfl,congrArg bv (Eq.symm (zdl fun q=>by subst q;simp_all))⟩
      ·refine rn ?_;refine w6 (fun hg1_57=> ?_) (fun hg1_57=> ?_)
       ·refine rn ?_;refine zcw rfl ?_;refine rn ?_;exact k7 rfl (.drop [_,_] _ _) ⟨rfl,congrArg bv (Eq.symm (zdl fun q=>by subst q;simp_all))⟩
       ·refine rn ?_;refine z7 rfl (fun hc78=> ?_) (fun hc78=> ?_)
        ·refine rn ?_;exact k7 rfl (.drop [_,_] _ _) ⟨rfl,congrArg bv (Eq.symm (zdl fun q=>by subst q;simp_all))⟩
        ·have Ets:a.ts=b.ts:=by simp_all
         have Ess:a.ss=b.ss:=by simp_all
         have Eos:a.os=b.os:=by simp_all
         have Eps:a.ps=b.ps:=by simp_all
         have Levs:a.evs.length=b.evs.length:=by simp at *;omega
         have Lords:a.ords.length=b.ords.length:=by simp at *;omega
         have Lmats:a.mats.length=b.mats.length:=by simp at *;omega
         have Lwants:a.wants.length=b.wants.length:=by simp at *;omega
         refine rn ?_;refine zaa (fun k:Nat=>k≤a.evs.length∧a.evs.take k=b.evs.take k) (fun k=>⟨[(82,iv k),(81,iv (a.evs.map evR).length),(2,pZ b2),(3,pZ b3)],[.box b3 28 (w7 b),.box b2 28 (w7 a)],[]⟩) (fun k=>a.evs.length - k) 0 ⟨Nat.zero_le _,by simp⟩
          (v8 (.cons _ _ _ rfl (.cons _ _ _ rfl (.cons _ _ _ rfl (.cons _ _ _ rfl (.nil)))))) ?_
         rintro k ⟨hk,ht⟩
         refine rn ?_;refine z7 rfl (fun hc83=> ?_) (fun hc83=> ?_)
         ·have hbig:=la.evs
          have hk2:k < a.evs.length:=by simpa using hc83
          have hk3:k < b.evs.length:=by omega
          obtain ⟨x,hx0⟩:∃x,x=a.evs[k]:=⟨_,rfl⟩
          obtain ⟨y,hy0⟩:∃y,y=b.evs[k]:=⟨_,rfl⟩
          have hrow1:(a.evs.map evR)[k]? =some (evR x):=by rw [hx0];simp [hk2]
          have hrow2:(b.evs.map evR)[k]? =some (evR y):=by rw [hy0];simp [hk3]
          refine rn ?_;refine k9 10 rfl ?_
          refine rn ?_;refine qv rfl rfl (y1 rfl rfl (u7 (ycc x y (la.scans _ (by rw [hx0];exact List.getElem_mem _)) (lb.scans _ (by rw [hy0];exact List.getElem_mem _))) (Sbs.refl _))) ?_
          refine rn ?_;refine z7 rfl (fun hc96=> ?_) (fun hc96=> ?_)
          ·have hne:x≠y:=by clear hx0 hy0 hrow1 hrow2 ht;intro q;subst q;simp_all
           refine rn ?_;exact k7 rfl (.drop [_,_] _ _) ⟨rfl,congrArg bv (Eq.symm (zdl fun q=>by subst q;exact hne (hx0.trans hy0.symm)))⟩
          ·have hxy:x=y:=by simpa using hc96
           refine rn ?_;exact ⟨k+1,⟨by omega,by rw [List.take_succ_eq_append_getElem hk2,List.take_succ_eq_append_getElem hk3,ht,←hx0,←hy0,hxy]⟩,(v8 (.cons _ _ _ rfl (.cons _ _ _ rfl (.cons _ _ _ rfl (.cons _ _ _ rfl (.nil)))))),by omega⟩
         ·have hk2:¬k < a.evs.length:=by simpa using hc83
          have Eevs:a.evs=b.evs:=by
           have hk3:k=a.evs.length:=by omega
           rw [hk3,List.take_length] at ht
           rw [ht,Levs,List.take_length]
          clear ht hk
          refine rn ?_;refine zaa (fun k:Nat=>k≤a.ords.length∧a.ords.take k=b.ords.take k) (fun k=>⟨[(101,iv k),(100,iv (a.ords.map zer).length),(99,zz2 a.ords),(2,pZ b2),(3,pZ b3)],[.box b3 28 (w7 b),.box b2 28 (w7 a)],[]⟩) (fun k=>a.ords.length - k) 0 ⟨Nat.zero_le _,by simp⟩
           (v8 (.cons _ _ _ rfl (.cons _ _ _ rfl (.cons _ _ _ rfl (.cons _ _ _ rfl (.cons _ _ _ rfl (.nil))))))) ?_
          rintro k ⟨hk,ht⟩
          refine rn ?_;refine z7 rfl (fun hc102=> ?_) (fun hc102=> ?_)
          ·have hbig:=la.ords
           have hk2:k < a.ords.length:=by simpa using hc102
           have hk3:k < b.ords.length:=by omega
           obtain ⟨x,hx0⟩:∃x,x=a.ords[k]:=⟨_,rfl⟩
           obtain ⟨y,hy0⟩:∃y,y=b.ords[k]:=⟨_,rfl⟩
           have hrow1:(a.ords.map zer)[k]? =some (zer x):=by rw [hx0];simp [hk2]
           have hrow2:(b.ords.map zer)[k]? =some (zer y):=by rw [hy0];simp [hk3]
           refine rn ?_;refine z8 rfl (y3 rfl fun b7=> ?_)
           refine rn ?_;refine z8 rfl (y3 rfl fun b8=> ?_)
           refine rn ?_;refine w6 (fun hg13_5=> ?_) (fun hg13_5=> ?_)
           ·refine rn ?_;refine zcw rfl ?_;have hne:x≠y:=by clear hx0 hy0 hrow1 hrow2 ht;intro q;subst q;simp_all
            refine rn ?_;exact k7 rfl (.drop [_,_,_,_] _ _) ⟨rfl,congrArg bv (Eq.symm (zdl fun q=>by subst q;exact hne (hx0.trans hy0.symm)))⟩
           ·refine rn ?_;refine qv rfl rfl (y1 rfl rfl (u7 (znd x.ts y.ts (la.ordts _ (by rw [hx0];exact List.getElem_mem _)) (lb.ordts _ (by rw [hy0];exact List.getElem_mem _))) (Sbs.refl _))) ?_
            refine rn ?_;refine z7 rfl (fun hc123=> ?_) (fun hc123=> ?_)
            ·have hne:x≠y:=by clear hx0 hy0 hrow1 hrow2 ht;intro q;subst q;simp_all
             refine rn ?_;exact k7 rfl (.drop [_,_,_,_] _ _) ⟨rfl,congrArg bv (Eq.symm (zdl fun q=>by subst q;exact hne (hx0.trans hy0.symm)))⟩
            ·have hxy:x=y:=by clear hx0 hy0 hrow1 hrow2 ht;cases x;cases y;simp_all
             refine rn ?_;exact ⟨k+1,⟨by omega,by rw [List.take_succ_eq_append_getElem hk2,List.take_succ_eq_append_getElem hk3,ht,←hx0,←hy0,hxy]⟩,(v7 (zc7 (h1:= [_,_])) (v8 (.cons _ _ _ rfl (.cons _ _ _ rfl (.cons _ _ _ rfl (.cons _ _ _ rfl (.cons _ _ _ rfl (.nil)))))))),by omega⟩
          ·have hk2:¬k < a.ords.length:=by simpa using hc102
           have Eords:a.ords=b.ords:=by
            have hk3:k=a.ords.length:=by omega
            rw [hk3,List.take_length] at ht
            rw [ht,Lords,List.take_length]
           clear ht hk
           refine rn ?_;refine zaa (fun k:Nat=>k≤a.mats.length∧a.mats.take k=b.mats.take k) (fun k=>⟨[(128,iv k),(127,iv (a.mats.map zd9).length),(126,zvr a.mats),(2,pZ b2),(3,pZ b3)],[.box b3 28 (w7 b),.box b2 28 (w7 a)],[]⟩) (fun k=>a.mats.length - k) 0 ⟨Nat.zero_le _,by simp⟩
            (v8 (.cons _ _ _ rfl (.cons _ _ _ rfl (.cons _ _ _ rfl (.cons _ _ _ rfl (.cons _ _ _ rfl (.nil))))))) ?_
           rintro k ⟨hk,ht⟩
           refine rn ?_;refine z7 rfl (fun hc129=> ?_) (fun hc129=> ?_)
           ·have hbig:=la.mats
            have hk2:k < a.mats.length:=by simpa using hc129
            have hk3:k < b.mats.length:=by omega
            obtain ⟨x,hx0⟩:∃x,x=a.mats[k]:=⟨_,rfl⟩
            obtain ⟨y,hy0⟩:∃y,y=b.mats[k]:=⟨_,rfl⟩
            have hrow1:(a.mats.map zd9)[k]? =some (zd9 x):=by rw [hx0];simp [hk2]
            have hrow2:(b.mats.map zd9)[k]? =some (zd9 y):=by rw [hy0];simp [hk3]
            refine rn ?_;refine z8 rfl (y3 rfl fun b10=> ?_)
            refine rn ?_;refine z8 rfl (y3 rfl fun b11=> ?_)
            refine rn ?_;refine w6 (fun hg20_5=> ?_) (fun hg20_5=> ?_)
            ·refine rn ?_;refine zcw rfl ?_;have hne:x≠y:=by clear hx0 hy0 hrow1 hrow2 ht;intro q;subst q;simp_all
             refine rn ?_;exact k7 rfl (.drop [_,_,_,_] _ _) ⟨rfl,congrArg bv (Eq.symm (zdl fun q=>by subst q;exact hne (hx0.trans hy0.symm)))⟩
            ·refine rn ?_;refine w6 (fun hg20_12=> ?_) (fun hg20_12=> ?_)
             ·refine rn ?_;refine zcw rfl ?_;have hne:x≠y:=by clear hx0 hy0 hrow1 hrow2 ht;intro q;subst q;simp_all
              refine rn ?_;exact k7 rfl (.drop [_,_,_,_] _ _) ⟨rfl,congrArg bv (Eq.symm (zdl fun q=>by subst q;exact hne (hx0.trans hy0.symm)))⟩
             ·refine rn ?_;refine w6 (fun hg20_19=> ?_) (fun hg20_19=> ?_)
              ·refine rn ?_;refine zcw rfl ?_;have hne:x≠y:=by clear hx0 hy0 hrow1 hrow2 ht;intro q;subst q;simp_all
               refine rn ?_;exact k7 rfl (.drop [_,_,_,_] _ _) ⟨rfl,congrArg bv (Eq.symm (zdl fun q=>by subst q;exact hne (hx0.trans hy0.symm)))⟩
              ·refine rn ?_;refine qv rfl rfl (y1 rfl rfl (u7 (znd x.ts y.ts (la.matts _ (by rw [hx0];exact List.getElem_mem _)) (lb.matts _ (by rw [hy0];exact List.getElem_mem _))) (Sbs.refl _))) ?_
               refine rn ?_;refine z7 rfl (fun hc164=> ?_) (fun hc164=> ?_)
               ·have hne:x≠y:=by clear hx0 hy0 hrow1 hrow2 ht;intro q;subst q;simp_all
                refine rn ?_;exact k7 rfl (.drop [_,_,_,_] _ _) ⟨rfl,congrArg bv (Eq.symm (zdl fun q=>by subst q;exact hne (hx0.trans hy0.symm)))⟩
               ·have hxy:x=y:=by clear hx0 hy0 hrow1 hrow2 ht;cases x;cases y;simp_all
                refine rn ?_;exact ⟨k+1,⟨by omega,by rw [List.take_succ_eq_append_getElem hk2,List.take_succ_eq_append_getElem hk3,ht,←hx0,←hy0,hxy]⟩,(v7 (zc7 (h1:= [_,_])) (v8 (.cons _ _ _ rfl (.cons _ _ _ rfl (.cons _ _ _ rfl (.cons _ _ _ rfl (.cons _ _ _ rfl (.nil)))))))),by omega⟩
           ·have hk2:¬k < a.mats.length:=by simpa using hc129
            have Emats:a.mats=b.mats:=by
             have hk3:k=a.mats.length:=by omega
             rw [hk3,List.take_length] at ht
             rw [ht,Lmats,List.take_length]
            clear ht hk
            refine rn ?_;refine zaa (fun k:Nat=>k≤a.wants.length∧a.wants.take k=b.wants.take k) (fun k=>⟨[(169,iv k),(168,iv (a.wants.map zf3).length),(2,pZ b2),(3,pZ b3)],[.box b3 28 (w7 b),.box b2 28 (w7 a)],[]⟩) (fun k=>a.wants.length - k) 0 ⟨Nat.zero_le _,by simp⟩
             (v8 (.cons _ _ _ rfl (.cons _ _ _ rfl (.cons _ _ _ rfl (.cons _ _ _ rfl (.nil)))))) ?_
            rintro k ⟨hk,ht⟩
            refine rn ?_;refine z7 rfl (fun hc170=> ?_) (fun hc170=> ?_)
            ·have hbig:=la.wants
             have hk2:k < a.wants.length:=by simpa using hc170
             have hk3:k < b.wants.length:=by omega
             obtain ⟨x,hx0⟩:∃x,x=a.wants[k]:=⟨_,rfl⟩
             obtain ⟨y,hy0⟩:∃y,y=b.wants[k]:=⟨_,rfl⟩
             have hrow1:(a.wants.map zf3)[k]? =some (zf3 x):=by rw [hx0];simp [hk2]
             have hrow2:(b.wants.map zf3)[k]? =some (zf3 y):=by rw [hy0];simp [hk3]
             refine rn ?_;refine k9 10 rfl ?_
             refine rn ?_;refine z7 rfl (fun hc182=> ?_) (fun hc182=> ?_)
             ·have hne:x≠y:=by clear hx0 hy0 hrow1 hrow2 ht;intro q;subst q;simp_all
              refine rn ?_;exact k7 rfl (.drop [_,_] _ _) ⟨rfl,congrArg bv (Eq.symm (zdl fun q=>by subst q;exact hne (hx0.trans hy0.symm)))⟩
             ·have hxy:x=y:=by clear hx0 hy0 hrow1 hrow2 ht;cases x;cases y;simp_all
              refine rn ?_;exact ⟨k+1,⟨by omega,by rw [List.take_succ_eq_append_getElem hk2,List.take_succ_eq_append_getElem hk3,ht,←hx0,←hy0,hxy]⟩,(v8 (.cons _ _ _ rfl (.cons _ _ _ rfl (.cons _ _ _ rfl (.cons _ _ _ rfl (.nil)))))),by omega⟩
            ·have hk2:¬k < a.wants.length:=by simpa using hc170
             have Ewants:a.wants=b.wants:=by
              have hk3:k=a.wants.length:=by omega
              rw [hk3,List.take_length] at ht
              rw [ht,Lwants,List.take_length]
             clear ht hk
             refine rn ?_;exact k7 rfl (.drop [_,_] _ _) ⟨rfl,congrArg bv (Eq.symm (ymi (by cases a;cases b;simp_all)))⟩
theorem yeg {f g:Bool} (l m:List Conf) (hl:l.length≤4611686018427387904) (hm:m.length≤4611686018427387904):y8 Tryz.prog 19 [.list f 7 (l.map u0),.list g 7 (m.map u0)] [] (fun r h'=>h'= []∧r=bv (eqF zgr l m)):=by
 refine z6 Tryz.func19 rfl rfl rfl ?_
 refine rn ?_;refine z7 rfl (fun hc10=> ?_) (fun hc10=> ?_)
 ·refine rn ?_;have hne:(l.length==m.length)=false:=beq_eq_false_iff_ne.2 fun q=>by simp [q] at hc10
  exact k7 rfl (.refl _ _) ⟨rfl,by rw [eqF,hne,Bool.false_and];rfl⟩
 ·have hlm:l.length=m.length:=by simp at hc10;omega
  refine rn ?_;refine zaa (fun k:Nat=>k≤l.length∧zma zgr l m=zma zgr (l.drop k) (m.drop k)) (fun k=>⟨[(13,iv k),(0,.list f 7 (l.map u0)),(1,.list g 7 (m.map u0)),(12,iv (l.map u0).length)],[],[]⟩) (fun k=>l.length - k) 0 ⟨Nat.zero_le _,by simp⟩
   (v8 (.cons _ _ _ rfl (.cons _ _ _ rfl (.cons _ _ _ rfl (.cons _ _ _ rfl (.nil)))))) ?_
  rintro k ⟨hk,hz⟩
  refine rn ?_;refine z7 rfl (fun hc14=> ?_) (fun hc14=> ?_)
  ·have hk2:k < l.length:=by simpa using hc14
   have hk3:k < m.length:=by omega
   have hrow1:(l.map u0)[k]? =some (u0 l[k]):=by simp [hk2]
   have hrow2:(m.map u0)[k]? =some (u0 m[k]):=by simp [hk3]
   have hd1:=List.drop_eq_getElem_cons hk2
   have hd2:=List.drop_eq_getElem_cons hk3
   refine rn ?_;refine k9 8 rfl ?_
   refine rn ?_;refine z7 rfl (fun hc24=> ?_) (fun hc24=> ?_)
   ·refine rn ?_;exact k7 rfl (.refl _ _) ⟨rfl,by rw [eqF,hz,hd1,hd2,zma,show zgr l[k] m[k]=false from zvm hc24,Bool.false_and,Bool.and_false];rfl⟩
   ·refine rn ?_;exact ⟨k+1,⟨by omega,by rw [hz,hd1,hd2,zma,show zgr l[k] m[k]=true from zvn hc24,Bool.true_and]⟩,(v8 (.cons _ _ _ rfl (.cons _ _ _ rfl (.cons _ _ _ rfl (.cons _ _ _ rfl (.nil)))))),by omega⟩
  ·have hk3:k=l.length:=by
    have:l.length≤k:=by simpa using hc14
    omega
   refine rn ?_;exact k7 rfl (.refl _ _) ⟨rfl,by rw [eqF,hz,hk3,List.drop_length,zjp,hlm,beq_self_eq_true];rfl⟩
theorem yeh {f g:Bool} (l:List Conf) (hl:l.length≤4611686018427387904):y8 Tryz.prog 19 [.list f 7 (l.map u0),.list g 7 (l.map u0)] [] (fun r h'=>h'= []∧r=bv true):=(yeg l l hl hl).mono fun _ _ q=>⟨q.1,by rw [q.2,zhl zdu];simp⟩
def RwJ (h:Hist) (c:Conf):Prop:=u6 h=0∧∃a:Nat,c.a=(a:Int)∧∃ha:a < h.evs.length,c∈zcg h h.evs[a] a
theorem ymm {h:Hist} {c:Conf} (hc:u6 h≠0):¬RwJ h c:=fun q=>hc q.1
theorem zza {h:Hist} {c:Conf} (hn:c.a < 0∨(h.evs.length:Int)≤c.a):¬RwJ h c:=fun ⟨_,a,e,ha,_⟩=>by omega
theorem yuo {h:Hist} {c:Conf} {a:Nat} (e:c.a=(a:Int)) (ha:a < h.evs.length) (hm:¬c∈zcg h h.evs[a] a):¬RwJ h c:=fun ⟨_,b,e2,hb,hq⟩=>by
 have:b=a:=by omega
 subst this;exact hm hq
theorem yqr {h:Hist} {c:Conf} {a:Nat} (hc:u6 h=0) (e:c.a=(a:Int)) (ha:a < h.evs.length) (hm:c∈zcg h h.evs[a] a):RwJ h c:=⟨hc,a,e,ha,hm⟩
def rwJ (h:Hist) (c:Conf):Bool:=decide (u6 h=0) && (decide (0≤c.a) && match h.evs[c.a.toNat]? with
 |some e=>decide (c∈zcg h e c.a.toNat)
 |none=>false)
theorem ybw {h:Hist} {c:Conf}:rwJ h c=true ↔ RwJ h c:=by
 rw [rwJ,Bool.and_eq_true,Bool.and_eq_true,decide_eq_true_iff,decide_eq_true_iff]
 constructor
 ·rintro ⟨h1,h2,h3⟩
  split at h3
  ·rename_i e he
   obtain ⟨hl,rfl⟩:=List.getElem?_eq_some_iff.1 he
   exact ⟨h1,c.a.toNat,by omega,hl,oT h3⟩
  ·cases h3
 ·rintro ⟨h1,a,e,ha,hm⟩
  refine ⟨h1,by omega,?_⟩
  rw [show c.a.toNat=a by omega,List.getElem?_eq_getElem ha]
  exact decide_eq_true hm
theorem yqs {h:Hist} {c:Conf} (q:RwJ h c):rwJ h c=true:=ybw.2 q
theorem zor {h:Hist} {c:Conf} (q:¬RwJ h c):rwJ h c=false:=Bool.eq_false_iff.2 fun e=>q (ybw.1 e)
def OvB (h:Hist) (n:Int):Prop:=∃a:Nat,n=(a:Int)∧∃ha:a < h.evs.length,zgf h.evs h.evs[a].t 5=true∧(h.evs[a].kind=3∨h.evs[a].kind=4)
theorem yh1 {h:Hist} {n:Int} (q:n < 0):¬OvB h n:=fun ⟨a,e,_⟩=>by omega
theorem yh0 {h:Hist} {n:Int} (q:(h.evs.length:Int)≤n):¬OvB h n:=fun ⟨a,e,ha,_⟩=>by omega
theorem yhz {h:Hist} {a:Nat} (ha:a < h.evs.length) (q:zgf h.evs h.evs[a].t 5=false):¬OvB h (a:Int):=fun ⟨b,e,hb,q1,_⟩=>by
 have:b=a:=by omega
 subst this;rw [q] at q1;cases q1
theorem yhy {h:Hist} {a:Nat} (ha:a < h.evs.length) (q3:h.evs[a].kind≠3) (q4:h.evs[a].kind≠4):¬OvB h (a:Int):=fun ⟨b,e,hb,_,q1⟩=>by
 have:b=a:=by omega
 subst this;exact q1.elim q3 q4
def ovB (h:Hist) (n:Int):Bool:=decide (0≤n) && match h.evs[n.toNat]? with
 |some e=>zgf h.evs e.t 5 && (e.kind==3||e.kind==4)
 |none=>false
theorem yc1 {h:Hist} {n:Int}:ovB h n=true ↔ OvB h n:=by
 rw [ovB,Bool.and_eq_true,decide_eq_true_iff]
 constructor
 ·rintro ⟨h2,h3⟩
  split at h3
  ·rename_i e he
   obtain ⟨hl,rfl⟩:=List.getElem?_eq_some_iff.1 he
   rw [Bool.and_eq_true,Bool.or_eq_true,beq_iff_eq,beq_iff_eq] at h3
   exact ⟨n.toNat,by omega,hl,h3.1,h3.2⟩
  ·cases h3
 ·rintro ⟨a,e,ha,hm,hk⟩
  refine ⟨by omega,?_⟩
  rw [show n.toNat=a by omega,List.getElem?_eq_getElem ha]
  simp only
  rw [hm,Bool.true_and,Bool.or_eq_true,beq_iff_eq,beq_iff_eq];exact hk
def ovC (h:Hist) (n:Int):Int:=if u6 h=0 then (if ovB h n=true then 0 else 2) else u6 h
def ovO (h:Hist) (n:Int):List Int:=if ovC h n=0 then (match h.evs[n.toNat]? with|some e=>yrs h e n.toNat|none=> []) else []
theorem yv9 {h:Hist} {n:Int} (hc:u6 h≠0):ovC h n=u6 h∧ovO h n= []:=by
 have e:ovC h n=u6 h:=by rw [ovC,if_neg hc]
 exact ⟨e,by rw [ovO,e,if_neg hc]⟩
theorem ykk {h:Hist} {n:Int} (hc:u6 h=0) (hn:¬OvB h n):ovC h n=2∧ovO h n= []:=by
 have e:ovC h n=2:=by rw [ovC,if_pos hc,if_neg fun q=>hn (yc1.1 q)]
 exact ⟨e,by rw [ovO,e];rfl⟩
theorem yua {h:Hist} {a:Nat} (hc:u6 h=0) (ha:a < h.evs.length) (hn:OvB h (a:Int)):ovC h (a:Int)=0∧ovO h (a:Int)=yrs h h.evs[a] a:=by
 have e:ovC h (a:Int)=0:=by rw [ovC,if_pos hc,if_pos (yc1.2 hn)]
 refine ⟨e,?_⟩
 rw [ovO,if_pos e,show ((a:Nat):Int).toNat=a from rfl,List.getElem?_eq_getElem ha]
theorem yvu {d c:Conf} (q:zgr d c=true):d=c:=by rw [zdu] at q;exact oT q
theorem yvt {d c:Conf} (q:zgr d c=false):¬d=c:=by rw [zdu] at q;exact oF q
theorem yqq (h:Hist) (la:Lim 4611686018427387904 h) (rO:Nat) (oK:Obj) (hK:KO oK) (c:Conf):y8 Tryz.prog 40 [.agg (w7 h),.agg (u0 c)] (.glob 2 156 y5:: .glob 4 305 y7:: .glob 5 308 y2:: .glob 3 246 u5:: .glob 1 175 zag:: .glob 0 171 [mpv rO]:: .obj rO oK:: []) (fun r h'=>h'= .glob 2 156 y5:: .glob 4 305 y7:: .glob 5 308 y2:: .glob 3 246 u5:: .glob 1 175 zag:: .glob 0 171 [mpv rO]:: .obj rO oK:: []∧r=bv (rwJ h c)):=by
 refine z6 Tryz.func40 rfl rfl rfl ?_
 refine rn ?_;refine z8 rfl (q6 rfl rfl rfl fun b2=> ?_)
 refine z8 rfl (q6 rfl rfl rfl fun b3=> ?_)
 refine z8 rfl (y3 rfl fun b4=> ?_)
 refine j4 (zac ?_)
 refine w8 (y4 ?_)
 refine q1 ?_;refine z8 rfl (u3 rfl rfl (y0.fr3 (y0.of_fun (yml h la rO oK))) rfl ?_)
 rintro _ _ ⟨_,rfl,⟨hc,rc,rl,rk,rg,rfl,rfl⟩|⟨hc,rfl,rfl⟩⟩
 ·refine rn ?_;refine z8 rfl (y3 rfl fun b5=> ?_)
  first|refine z8 rfl (k8 rfl rfl rfl ?_)|refine z8 rfl (zaq rfl rfl rfl rfl (Nat.le_of_ble_eq_true rfl) ?_)
  refine q1 ?_;refine j4 (zac ?_)
  refine w8 ?_;refine w8 (y4 ?_)
  refine q1 ?_;first|refine qq rfl rfl (zj3 (zc2 rfl rfl rfl) (yv3 hc)) ?_|refine qq rfl rfl (zj3 (zc2 rfl rfl rfl) yv4) ?_
  refine rn ?_;refine w6 (fun hg2_7=> ?_) (fun hg2_7=> ?_)
  ·refine rn ?_;refine z7 rfl (fun hc27=> ?_) (fun hc27=> ?_)
   ·try have hge:(h.evs.length:Int)≤c.a:=by have q:=oT hc27;rw [oM] at q;omega
    refine rn ?_;first|exact ze9 (.cons _ _ _ _ (.one _ _ _ _ _ _ _ rfl inferInstance inferInstance rfl) .nil) (.drop [_,_,_,_] _ _) ⟨rfl,congrArg bv (zor (ymm hc)).symm⟩|exact ze9 (.cons _ _ _ _ (.one _ _ _ _ _ _ _ rfl inferInstance inferInstance rfl) .nil) (.drop [_,_,_,_,_,_,_,_] _ _) ⟨rfl,congrArg bv (zor (zza (.inl (oT hg2_7)))).symm⟩|exact ze9 (.cons _ _ _ _ (.one _ _ _ _ _ _ _ rfl inferInstance inferInstance rfl) .nil) (.drop [_,_,_,_,_,_,_,_] _ _) ⟨rfl,congrArg bv (zor (zza (.inr hge))).symm⟩
   ·first|cases hc27|exact absurd hc27 (by decide)|(exfalso;simp_all;done)
  ·refine rn ?_;refine z7 rfl (fun hc27=> ?_) (fun hc27=> ?_)
   ·try have hge:(h.evs.length:Int)≤c.a:=by have q:=oT hc27;rw [oM] at q;omega
    refine rn ?_;first|exact ze9 (.cons _ _ _ _ (.one _ _ _ _ _ _ _ rfl inferInstance inferInstance rfl) .nil) (.drop [_,_,_,_] _ _) ⟨rfl,congrArg bv (zor (ymm hc)).symm⟩|exact ze9 (.cons _ _ _ _ (.one _ _ _ _ _ _ _ rfl inferInstance inferInstance rfl) .nil) (.drop [_,_,_,_,_,_,_,_] _ _) ⟨rfl,congrArg bv (zor (zza (.inl (oT hg2_7)))).symm⟩|exact ze9 (.cons _ _ _ _ (.one _ _ _ _ _ _ _ rfl inferInstance inferInstance rfl) .nil) (.drop [_,_,_,_,_,_,_,_] _ _) ⟨rfl,congrArg bv (zor (zza (.inr hge))).symm⟩
   ·have h0:0≤c.a:=by have q:=oF hg2_7;omega
    have h1:c.a < h.evs.length:=by have q:=oF hc27;rw [oM] at q;omega
    obtain ⟨a,hca⟩:∃a:Nat,c.a=(a:Int):=⟨c.a.toNat,by omega⟩
    have ha:a < h.evs.length:=by omega
    refine zar ?_;refine zac ?_;refine w8 ?_;refine w8 (y4 ?_)
    refine q1 ?_;refine q1 ?_;refine qq rfl rfl (zj3 (zae rfl rfl) (show iv _=iv (a:Nat) from congrArg iv hca)) ?_
    refine z8 rfl (u3 rfl rfl (y0.of_fun (zxa h a rc rl rk rg _)) rfl ?_)
    rintro _ _ ⟨ba,bp,rfl,rfl⟩
    refine rn ?_;refine zo4 (fun pend h''=>(pend=none∧(¬c∈(zcg h h.evs[a] a))∧∃M,h''= .box ba 3 [iv (a:Nat)]:: .box bp 119 (rwP h rc rl rk rg)::rgR rg M::rkS h rk::zbf h rl::rcR h rc:: .glob 2 156 y5:: .glob 4 305 y7:: .glob 5 308 y2:: .glob 3 246 u5:: .glob 1 175 zag:: .glob 0 171 [mpv rO]:: .obj rO oK:: .box b5 119 (rwP h rc rl rk rg):: .box b4 4 [bv false]:: .box b3 41 (u0 c):: .box b2 28 (w7 h):: [])∨(pend=some .ret∧c∈(zcg h h.evs[a] a)∧∃M,h''= .box ba 3 [iv (a:Nat)]:: .box bp 119 (rwP h rc rl rk rg)::rgR rg M::rkS h rk::zbf h rl::rcR h rc:: .glob 2 156 y5:: .glob 4 305 y7:: .glob 5 308 y2:: .glob 3 246 u5:: .glob 1 175 zag:: .glob 0 171 [mpv rO]:: .obj rO oK:: .box b5 119 (rwP h rc rl rk rg):: .box b4 4 [bv true]:: .box b3 41 (u0 c):: .box b2 28 (w7 h):: [])) rfl (fun fn l q lp hlp=> ?_) (fun q h'' hK'=> ?_) (fun q h'' cc hK'=> ?_)
    ·suffices hy:∀pre d rest (x:Unit) M,zcg h h.evs[a] a=pre++d::rest→(¬c∈pre)→zoq h M→y0 Tryz.prog (yv l) [.agg (u0 d)] (.box ba 3 [iv (a:Nat)]:: .box bp 119 (rwP h rc rl rk rg)::rgR rg M::rkS h rk::zbf h rl::rcR h rc:: .glob 2 156 y5:: .glob 4 305 y7:: .glob 5 308 y2:: .glob 3 246 u5:: .glob 1 175 zag:: .glob 0 171 [mpv rO]:: .obj rO oK::lp .ready none:: .defs q:: .box b5 119 (rwP h rc rl rk rg):: .box b4 4 [bv false]:: .box b3 41 (u0 c):: .box b2 28 (w7 h):: []) (fun r h'=>∃x':Unit,(r=bv true∧(¬c∈pre++ [d])∧h'= .box ba 3 [iv (a:Nat)]:: .box bp 119 (rwP h rc rl rk rg)::rgR rg M::rkS h rk::zbf h rl::rcR h rc:: .glob 2 156 y5:: .glob 4 305 y7:: .glob 5 308 y2:: .glob 3 246 u5:: .glob 1 175 zag:: .glob 0 171 [mpv rO]:: .obj rO oK::lp .ready none:: .defs q:: .box b5 119 (rwP h rc rl rk rg):: .box b4 4 [bv false]:: .box b3 41 (u0 c):: .box b2 28 (w7 h):: [])∨(r=bv false∧c∈(zcg h h.evs[a] a)∧h'= .box ba 3 [iv (a:Nat)]:: .box bp 119 (rwP h rc rl rk rg)::rgR rg M::rkS h rk::zbf h rl::rcR h rc:: .glob 2 156 y5:: .glob 4 305 y7:: .glob 5 308 y2:: .glob 3 246 u5:: .glob 1 175 zag:: .glob 0 171 [mpv rO]:: .obj rO oK::lp .done (some .ret):: .defs q:: .box b5 119 (rwP h rc rl rk rg):: .box b4 4 [bv true]:: .box b3 41 (u0 c):: .box b2 28 (w7 h):: [])) by
      refine y8.mono (y8.perm ((pt2 _ _ _ _).trans (.cons _ ((pt2 _ _ _ _).trans (.cons _ ((pt6 _ _ _ _ _ _ _ _).trans (.cons _ ((pt6 _ _ _ _ _ _ _ _).trans (.cons _ ((pt6 _ _ _ _ _ _ _ _).trans (.cons _ ((pt6 _ _ _ _ _ _ _ _).trans (.cons _ ((pt6 _ _ _ _ _ _ _ _).trans (.cons _ ((pt6 _ _ _ _ _ _ _ _).trans (.cons _ ((pt6 _ _ _ _ _ _ _ _).trans (.cons _ ((pt6 _ _ _ _ _ _ _ _).trans (.cons _ ((pt6 _ _ _ _ _ _ _ _).trans (.cons _ ((pt6 _ _ _ _ _ _ _ _).trans (.cons _ (pt6 _ _ _ _ _ _ _ _))))))))))))))))))))))))) (zw9 h la hc a ha (yv l) bp ba rc rl rk rg [] (zmv h) rO oK hK (fun pre (_:Unit)=>¬c∈pre) (fun _=>c∈(zcg h h.evs[a] a)) (fun _ _=>lp .ready none:: .defs q:: .box b5 119 (rwP h rc rl rk rg):: .box b4 4 [bv false]:: .box b3 41 (u0 c):: .box b2 28 (w7 h):: []) (fun _=>lp .done (some .ret):: .defs q:: .box b5 119 (rwP h rc rl rk rg):: .box b4 4 [bv true]:: .box b3 41 (u0 c):: .box b2 28 (w7 h):: []) () (by simp) hy)) ?_
      rintro _ _ ⟨x,M,hM,⟨hn,rfl⟩|⟨hn,rfl⟩⟩
      ·exact ⟨none,.ready,_,((zxj _ _ _ _ _ _ _ _ _ _ _ _ _ _ _).trans (.cons _ (zxj _ _ _ _ _ _ _ _ _ _ _ _ _ _ _))),by simp,.inl ⟨rfl,hn,M,rfl⟩⟩
      ·exact ⟨some .ret,.done,_,((zxj _ _ _ _ _ _ _ _ _ _ _ _ _ _ _).trans (.cons _ (zxj _ _ _ _ _ _ _ _ _ _ _ _ _ _ _))),by simp,.inr ⟨rfl,hn,M,rfl⟩⟩
     intro pre d rest x M hL hpre hM
     refine y0.perm (zxj _ _ _ _ _ _ _ _ _ _ _ _ _ _ _) (y0.ventE ?_)
     refine zfb hlp rfl rfl ?_
     refine rn ?_;refine z8 rfl (y3 rfl fun b7=> ?_)
     refine rn ?_;refine ⟨[(7,pZ b7),(3,pZ b3),(4,pZ b4)],.box b7 41 (u0 d):: .box ba 3 [iv (a:Nat)]:: .box bp 119 (rwP h rc rl rk rg)::rgR rg M::rkS h rk::zbf h rl::rcR h rc:: .glob 2 156 y5:: .glob 4 305 y7:: .glob 5 308 y2:: .glob 3 246 u5:: .glob 1 175 zag:: .glob 0 171 [mpv rO]:: .obj rO oK:: .defs q:: .box b5 119 (rwP h rc rl rk rg):: .box b4 4 [bv false]:: .box b3 41 (u0 c):: .box b2 28 (w7 h):: [],v7 (zao (pt1 _ _ _)) es,?_⟩
     refine rn ?_;refine z7 rfl (fun hc35=> ?_) (fun hc35=> ?_)
     ·have hz:d=c:=yvu hc35
      refine rn ?_;exact zu4 (.refl _) ⟨_,_,.trans (.perm ((pt1 _ _ _).trans (.cons _ ((pt1 _ _ _).trans (.cons _ ((pt1 _ _ _).trans (.cons _ ((pt1 _ _ _).trans (.cons _ ((pt1 _ _ _).trans (.cons _ ((pt1 _ _ _).trans (.cons _ ((pt1 _ _ _).trans (.cons _ ((pt1 _ _ _).trans (.cons _ ((pt1 _ _ _).trans (.cons _ ((pt1 _ _ _).trans (.cons _ ((pt1 _ _ _).trans (.cons _ ((pt1 _ _ _).trans (.cons _ ((pt1 _ _ _).trans (.cons _ (pt1 _ _ _))))))))))))))))))))))))))) _) (.drop [_] _ _),(),.inr ⟨rfl,by rw [hL,←hz];simp,rfl⟩⟩
     ·have hz:¬d=c:=yvt hc35
      refine rn ?_;exact zey (.refl _) ⟨_,_,.trans (.perm ((pt1 _ _ _).trans (.cons _ ((pt1 _ _ _).trans (.cons _ ((pt1 _ _ _).trans (.cons _ ((pt1 _ _ _).trans (.cons _ ((pt1 _ _ _).trans (.cons _ ((pt1 _ _ _).trans (.cons _ ((pt1 _ _ _).trans (.cons _ ((pt1 _ _ _).trans (.cons _ ((pt1 _ _ _).trans (.cons _ ((pt1 _ _ _).trans (.cons _ ((pt1 _ _ _).trans (.cons _ ((pt1 _ _ _).trans (.cons _ ((pt1 _ _ _).trans (.cons _ (pt1 _ _ _))))))))))))))))))))))))))) _) (.drop [_] _ _),(),.inl ⟨rfl,by simp [hpre,Ne.symm hz],rfl⟩⟩
    ·obtain ⟨_,hn,M,rfl⟩|⟨hc',_⟩:=hK'
     rotate_left
     ·cases hc'
     refine rn ?_;exact zja (.refl _) (.cons _ _ _ _ (.one _ _ _ _ _ _ _ rfl inferInstance inferInstance rfl) .nil) (.trans (.perm (.cons _ (.cons _ (.cons _ (.cons _ (.cons _ (.cons _ ((pt7 _ _ _ _ _ _ _ _ _).trans (.cons _ ((pt7 _ _ _ _ _ _ _ _ _).trans (.cons _ ((pt7 _ _ _ _ _ _ _ _ _).trans (.cons _ (pt7 _ _ _ _ _ _ _ _ _))))))))))))) _) (.drop [_,_,_,_,_,_,_,_,_,_] _ _)) ⟨rfl,congrArg bv (zor (yuo hca ha hn)).symm⟩
    ·obtain ⟨hc',_⟩|⟨hc',hn,M,rfl⟩:=hK'
     ·cases hc'
     obtain rfl:cc= .ret:=by simpa using hc'
     refine rn ?_;exact zja (.refl _) (.cons _ _ _ _ (.one _ _ _ _ _ _ _ rfl inferInstance inferInstance rfl) .nil) (.trans (.perm (.cons _ (.cons _ (.cons _ (.cons _ (.cons _ (.cons _ ((pt7 _ _ _ _ _ _ _ _ _).trans (.cons _ ((pt7 _ _ _ _ _ _ _ _ _).trans (.cons _ ((pt7 _ _ _ _ _ _ _ _ _).trans (.cons _ (pt7 _ _ _ _ _ _ _ _ _))))))))))))) _) (.drop [_,_,_,_,_,_,_,_,_,_] _ _)) ⟨rfl,congrArg bv (yqs (yqr hc hca ha hn)).symm⟩
 ·refine rn ?_;refine z8 rfl (y3 rfl fun b5=> ?_)
  first|refine z8 rfl (k8 rfl rfl rfl ?_)|refine z8 rfl (zaq rfl rfl rfl rfl (Nat.le_of_ble_eq_true rfl) ?_)
  refine q1 ?_;refine j4 (zac ?_)
  refine w8 ?_;refine w8 (y4 ?_)
  refine q1 ?_;first|refine qq rfl rfl (zj3 (zc2 rfl rfl rfl) (yv3 hc)) ?_|refine qq rfl rfl (zj3 (zc2 rfl rfl rfl) yv4) ?_
  refine rn ?_;refine z7 rfl (fun hc27=> ?_) (fun hc27=> ?_)
  ·try have hge:(h.evs.length:Int)≤c.a:=by have q:=oT hc27;rw [oM] at q;omega
   refine rn ?_;first|exact ze9 (.cons _ _ _ _ (.one _ _ _ _ _ _ _ rfl inferInstance inferInstance rfl) .nil) (.drop [_,_,_,_] _ _) ⟨rfl,congrArg bv (zor (ymm hc)).symm⟩|exact ze9 (.cons _ _ _ _ (.one _ _ _ _ _ _ _ rfl inferInstance inferInstance rfl) .nil) (.drop [_,_,_,_,_,_,_,_] _ _) ⟨rfl,congrArg bv (zor (zza (.inl (oT hg2_7)))).symm⟩|exact ze9 (.cons _ _ _ _ (.one _ _ _ _ _ _ _ rfl inferInstance inferInstance rfl) .nil) (.drop [_,_,_,_,_,_,_,_] _ _) ⟨rfl,congrArg bv (zor (zza (.inr hge))).symm⟩
  ·first|cases hc27|exact absurd hc27 (by decide)|(exfalso;simp_all;done)
theorem ymk (h:Hist) (la:Lim 4611686018427387904 h) (rO:Nat) (oK:Obj) (hK:KO oK) (n:Int):y8 Tryz.prog 35 [.agg (w7 h),iv n] (.glob 2 156 y5:: .glob 4 305 y7:: .glob 5 308 y2:: .glob 3 246 u5:: .glob 1 175 zag:: .glob 0 171 [mpv rO]:: .obj rO oK:: []) (fun r h'=>∃s:SV,h'= .row s.v 1 3 ((ovO h n).map zal):: .glob 2 156 y5:: .glob 4 305 y7:: .glob 5 308 y2:: .glob 3 246 u5:: .glob 1 175 zag:: .glob 0 171 [mpv rO]:: .obj rO oK:: []∧r= .tup [.v s.v,iv (ovC h n)]):=by
 refine z6 Tryz.func35 rfl rfl rfl ?_
 refine rn ?_;refine z8 rfl (q6 rfl rfl rfl fun b2=> ?_)
 refine q1 ?_;refine q1 ?_;refine j4 (zac ?_)
 refine w8 (y4 ?_)
 refine q1 ?_;refine z8 rfl (u3 rfl rfl (y0.fr1 (y0.of_fun (yml h la rO oK))) rfl ?_)
 rintro _ _ ⟨_,rfl,⟨hc,rc,rl,rk,rg,rfl,rfl⟩|⟨hc,rfl,rfl⟩⟩
 ·refine rn ?_;refine z8 rfl (y3 rfl fun b6=> ?_)
  refine rn ?_;refine z7 rfl (fun hc16=> ?_) (fun hc16=> ?_)
  ·first|cases hc16|exact absurd hc16 (by decide)|(exfalso;simp_all;done)
  ·refine rn ?_;refine k9 33 rfl ?_
   refine rn ?_;refine zcq (fun hg4_2=> ?_) (fun hg4_2=> ?_)
   ·refine rn ?_;refine z7 rfl (fun hc56=> ?_) (fun hc56=> ?_)
    ·first
     |have hn:=yh1 (h:=h) (oT hg4_2)
     |(have q:=oT hg4_9;rw [oM] at q;have hn:=yh0 (h:=h) q)
     |(have q:zgf h.evs h.evs[a].t 5=false:=(by rw [←zh9];simpa using hg4_21);have hn:=yhz ha q)
     |(have q3:h.evs[a].kind≠3:=(by simpa using hg4_29);have q4:h.evs[a].kind≠4:=(by simpa using hc56);have hn:=yhy ha q3 q4)
     refine rn ?_;exact zb9 rfl rfl (.trans (.drop [_,_,_,_,_,_] _ _) (zaj 1 3 _)) ⟨⟨none,0,0⟩,by rw [(ykk hc hn).2];rfl,by rw [(ykk hc hn).1];rfl⟩
    ·first|cases hc56|exact absurd hc56 (by decide)|(exfalso;simp_all;done)
   ·refine rn ?_;refine zcq (fun hg4_9=> ?_) (fun hg4_9=> ?_)
    ·refine rn ?_;refine z7 rfl (fun hc56=> ?_) (fun hc56=> ?_)
     ·first
      |have hn:=yh1 (h:=h) (oT hg4_2)
      |(have q:=oT hg4_9;rw [oM] at q;have hn:=yh0 (h:=h) q)
      |(have q:zgf h.evs h.evs[a].t 5=false:=(by rw [←zh9];simpa using hg4_21);have hn:=yhz ha q)
      |(have q3:h.evs[a].kind≠3:=(by simpa using hg4_29);have q4:h.evs[a].kind≠4:=(by simpa using hc56);have hn:=yhy ha q3 q4)
      refine rn ?_;exact zb9 rfl rfl (.trans (.drop [_,_,_,_,_,_] _ _) (zaj 1 3 _)) ⟨⟨none,0,0⟩,by rw [(ykk hc hn).2];rfl,by rw [(ykk hc hn).1];rfl⟩
     ·first|cases hc56|exact absurd hc56 (by decide)|(exfalso;simp_all;done)
    ·have h0:0≤n:=by have q:=oF hg4_2;omega
     have h1:n < h.evs.length:=by have q:=oF hg4_9;rw [oM] at q;omega
     obtain ⟨a,rfl⟩:∃a:Nat,n=(a:Int):=⟨n.toNat,by omega⟩
     have ha:a < h.evs.length:=by omega
     have ra:=zak (f:=evR) ha
     refine dq rfl rfl qrA ?_;refine dq rfl rfl qrA ?_;refine dq rfl rfl qrA ?_;refine dq rfl rfl qrA ?_;refine dq rfl rfl qrA ?_;refine dq rfl rfl qrA ?_;refine dq rfl rfl qrA ?_;refine dq rfl rfl qrA ?_;refine dq rfl rfl (zch (enc:=intK) (k:=h.evs[a].t) false rfl rfl) ?_
     refine rn ?_;refine zcq (fun hg4_21=> ?_) (fun hg4_21=> ?_)
     ·refine rn ?_;refine z7 rfl (fun hc56=> ?_) (fun hc56=> ?_)
      ·first
       |have hn:=yh1 (h:=h) (oT hg4_2)
       |(have q:=oT hg4_9;rw [oM] at q;have hn:=yh0 (h:=h) q)
       |(have q:zgf h.evs h.evs[a].t 5=false:=(by rw [←zh9];simpa using hg4_21);have hn:=yhz ha q)
       |(have q3:h.evs[a].kind≠3:=(by simpa using hg4_29);have q4:h.evs[a].kind≠4:=(by simpa using hc56);have hn:=yhy ha q3 q4)
       refine rn ?_;exact zb9 rfl rfl (.trans (.drop [_,_,_,_,_,_] _ _) (zaj 1 3 _)) ⟨⟨none,0,0⟩,by rw [(ykk hc hn).2];rfl,by rw [(ykk hc hn).1];rfl⟩
      ·first|cases hc56|exact absurd hc56 (by decide)|(exfalso;simp_all;done)
     ·refine rn ?_;refine zcq (fun hg4_29=> ?_) (fun hg4_29=> ?_)
      ·refine rn ?_;refine z7 rfl (fun hc56=> ?_) (fun hc56=> ?_)
       ·first
        |have hn:=yh1 (h:=h) (oT hg4_2)
        |(have q:=oT hg4_9;rw [oM] at q;have hn:=yh0 (h:=h) q)
        |(have q:zgf h.evs h.evs[a].t 5=false:=(by rw [←zh9];simpa using hg4_21);have hn:=yhz ha q)
        |(have q3:h.evs[a].kind≠3:=(by simpa using hg4_29);have q4:h.evs[a].kind≠4:=(by simpa using hc56);have hn:=yhy ha q3 q4)
        refine rn ?_;exact zb9 rfl rfl (.trans (.drop [_,_,_,_,_,_] _ _) (zaj 1 3 _)) ⟨⟨none,0,0⟩,by rw [(ykk hc hn).2];rfl,by rw [(ykk hc hn).1];rfl⟩
       ·have hm:zgf h.evs h.evs[a].t 5=true:=by rw [←zh9];simpa using hg4_21
        have hkd:h.evs[a].kind=3∨h.evs[a].kind=4:=by
         first
         |(have q:h.evs[a].kind=3:=(by simpa using hg4_29);exact .inl q)
         |(have q:h.evs[a].kind=4:=(by simpa using hc56);exact .inr q)
        have hn:OvB h (a:Int):=⟨a,rfl,ha,hm,hkd⟩
        have hfl:=zre hc ha
        refine rn ?_;refine z8 rfl (y3 rfl fun b8=> ?_)
        refine rn ?_;refine z8 rfl (u3 rfl rfl (y0.of_fun (zxa h a rc rl rk rg _)) rfl ?_)
        rintro _ _ ⟨ba,bp,rfl,rfl⟩
        refine rn ?_;refine zfd (s':=⟨[(59,.fn (.func 134) [] [pZ bp,pZ ba]),(8,pZ b8)],.box ba 3 [iv (a:Nat)]:: .box bp 119 (rwP h rc rl rk rg):: .box b8 29 [.v (⟨none,0,0⟩:SV).v]:: .row (⟨none,0,0⟩:SV).v 1 3 ((([]:List Conf).map Conf.t).map zal):: .box b6 119 (rwP h rc rl rk rg):: .box b2 28 (w7 h)::rgR rg []::rkS h rk::zbf h rl::rcR h rc:: .glob 2 156 y5:: .glob 4 305 y7:: .glob 5 308 y2:: .glob 3 246 u5:: .glob 1 175 zag:: .glob 0 171 [mpv rO]:: .obj rO oK:: [],[]⟩) (v7 (zam 1 3) (v7 (zao ((pt1 _ _ _).trans (.cons _ ((pt1 _ _ _).trans (.cons _ (pt1 _ _ _)))))) es)) ?_
        refine zo4 (fun pend h''=>pend=none∧∃(s:SV) (M:List ((Int×Int)×List Int)),h''= .box ba 3 [iv (a:Nat)]:: .box bp 119 (rwP h rc rl rk rg)::rgR rg M::rkS h rk::zbf h rl::rcR h rc:: .glob 2 156 y5:: .glob 4 305 y7:: .glob 5 308 y2:: .glob 3 246 u5:: .glob 1 175 zag:: .glob 0 171 [mpv rO]:: .obj rO oK:: .box b8 29 [.v s.v]:: .row s.v 1 3 (((zcg h h.evs[a] a).map Conf.t).map zal):: .box b6 119 (rwP h rc rl rk rg):: .box b2 28 (w7 h):: []) rfl (fun fn l q lp hlp=> ?_) (fun q h'' hK'=> ?_) (fun q h'' cc hK'=> ?_)
        ·suffices hy:∀pre d rest (s:SV) M,zcg h h.evs[a] a=pre++d::rest→True→zoq h M→y0 Tryz.prog (yv l) [.agg (u0 d)] (.box ba 3 [iv (a:Nat)]:: .box bp 119 (rwP h rc rl rk rg)::rgR rg M::rkS h rk::zbf h rl::rcR h rc:: .glob 2 156 y5:: .glob 4 305 y7:: .glob 5 308 y2:: .glob 3 246 u5:: .glob 1 175 zag:: .glob 0 171 [mpv rO]:: .obj rO oK::lp .ready none:: .defs q:: .box b8 29 [.v s.v]:: .row s.v 1 3 ((pre.map Conf.t).map zal):: .box b6 119 (rwP h rc rl rk rg):: .box b2 28 (w7 h):: []) (fun r h'=>∃s':SV,(r=bv true∧True∧h'= .box ba 3 [iv (a:Nat)]:: .box bp 119 (rwP h rc rl rk rg)::rgR rg M::rkS h rk::zbf h rl::rcR h rc:: .glob 2 156 y5:: .glob 4 305 y7:: .glob 5 308 y2:: .glob 3 246 u5:: .glob 1 175 zag:: .glob 0 171 [mpv rO]:: .obj rO oK::lp .ready none:: .defs q:: .box b8 29 [.v s'.v]:: .row s'.v 1 3 (((pre++ [d]).map Conf.t).map zal):: .box b6 119 (rwP h rc rl rk rg):: .box b2 28 (w7 h):: [])∨(r=bv false∧False∧h'= .box ba 3 [iv (a:Nat)]:: .box bp 119 (rwP h rc rl rk rg)::rgR rg M::rkS h rk::zbf h rl::rcR h rc:: .glob 2 156 y5:: .glob 4 305 y7:: .glob 5 308 y2:: .glob 3 246 u5:: .glob 1 175 zag:: .glob 0 171 [mpv rO]:: .obj rO oK:: [])) by
          refine y8.mono (y8.perm ((pt2 _ _ _ _).trans (.cons _ ((pt2 _ _ _ _).trans (.cons _ ((pt6 _ _ _ _ _ _ _ _).trans (.cons _ ((pt6 _ _ _ _ _ _ _ _).trans (.cons _ ((pt6 _ _ _ _ _ _ _ _).trans (.cons _ ((pt6 _ _ _ _ _ _ _ _).trans (.cons _ ((pt6 _ _ _ _ _ _ _ _).trans (.cons _ ((pt6 _ _ _ _ _ _ _ _).trans (.cons _ ((pt6 _ _ _ _ _ _ _ _).trans (.cons _ ((pt6 _ _ _ _ _ _ _ _).trans (.cons _ ((pt6 _ _ _ _ _ _ _ _).trans (.cons _ ((pt6 _ _ _ _ _ _ _ _).trans (.cons _ (pt6 _ _ _ _ _ _ _ _))))))))))))))))))))))))) (zw9 h la hc a ha (yv l) bp ba rc rl rk rg [] (zmv h) rO oK hK (fun _ (_:SV)=>True) (fun _=>False) (fun pre (s:SV)=>lp .ready none:: .defs q:: .box b8 29 [.v s.v]:: .row s.v 1 3 ((pre.map Conf.t).map zal):: .box b6 119 (rwP h rc rl rk rg):: .box b2 28 (w7 h):: []) (fun _=> []) ⟨none,0,0⟩ trivial hy)) ?_
          rintro _ _ ⟨s,M,hM,⟨-,rfl⟩|⟨hF,_⟩⟩
          ·exact ⟨none,.ready,_,((zxj _ _ _ _ _ _ _ _ _ _ _ _ _ _ _).trans (.cons _ (zxj _ _ _ _ _ _ _ _ _ _ _ _ _ _ _))),by simp,rfl,s,M,rfl⟩
          ·exact hF.elim
         intro pre d rest s M hL _ hM
         have hlen:pre.length < (zcg h h.evs[a] a).length:=by rw [hL,List.length_append,List.length_cons];omega
         refine y0.perm (zxj _ _ _ _ _ _ _ _ _ _ _ _ _ _ _) (y0.ventE ?_)
         refine zfb hlp rfl rfl ?_
         refine rn ?_;refine z8 rfl (y3 rfl fun b9=> ?_)
         refine rn ?_;refine ⟨[(9,pZ b9),(8,pZ b8)],.box b9 41 (u0 d):: .box ba 3 [iv (a:Nat)]:: .box bp 119 (rwP h rc rl rk rg)::rgR rg M::rkS h rk::zbf h rl::rcR h rc:: .glob 2 156 y5:: .glob 4 305 y7:: .glob 5 308 y2:: .glob 3 246 u5:: .glob 1 175 zag:: .glob 0 171 [mpv rO]:: .obj rO oK:: .defs q:: .box b8 29 [.v s.v]:: .row s.v 1 3 ((pre.map Conf.t).map zal):: .box b6 119 (rwP h rc rl rk rg):: .box b2 28 (w7 h):: [],v7 (zao (pt1 _ _ _)) es,?_⟩
         refine rn ?_;refine qv rfl rfl (w9 rfl rfl) ?_
         refine z8 rfl (q7 rfl rfl (by simp only [oM,List.length_cons,List.length_nil];omega) rfl (fun s65=> ?_) (zh5 [d.t]))
         refine u9 s65 fun sv hsv=> ?_
         subst hsv
         refine rn ?_;exact zey (.refl _) ⟨_,_,.trans (.perm ((pt1 _ _ _).trans (.cons _ ((pt1 _ _ _).trans (.cons _ ((pt1 _ _ _).trans (.cons _ ((pt1 _ _ _).trans (.cons _ ((pt1 _ _ _).trans (.cons _ ((pt1 _ _ _).trans (.cons _ ((pt1 _ _ _).trans (.cons _ ((pt1 _ _ _).trans (.cons _ ((pt1 _ _ _).trans (.cons _ ((pt1 _ _ _).trans (.cons _ ((pt1 _ _ _).trans (.cons _ ((pt1 _ _ _).trans (.cons _ ((pt1 _ _ _).trans (.cons _ (pt1 _ _ _))))))))))))))))))))))))))) _) (.drop [_] _ _),sv,.inl ⟨rfl,trivial,by rw [List.map_append,List.map_append];rfl⟩⟩
        ·obtain ⟨_,s,M,rfl⟩:=hK'
         refine rn ?_;refine z8 rfl (u3 rfl rfl (zgq (y0.of_fun (ybd s _ (by rw [oM];omega)))) rfl ?_)
         rintro _ _ ⟨rfl,rfl⟩
         refine rn ?_;refine z8 rfl (u3 rfl rfl (zay (y0.of_fun (yet s _ (by rw [(zdi _).length_eq,oM];omega)))) rfl ?_)
         rintro _ _ ⟨s',rfl,rfl⟩
         refine rn ?_;exact zja (.refl _) (.cons _ _ _ _ (.tmp _ _ rfl) (.cons _ _ _ _ (.tmp _ _ rfl) .nil)) (.trans (.perm (.cons _ (.cons _ (.cons _ (.cons _ (.cons _ (.cons _ ((pt7 _ _ _ _ _ _ _ _ _).trans (.cons _ ((pt8 _ _ _ _ _ _ _ _ _ _).trans (.cons _ ((pt8 _ _ _ _ _ _ _ _ _ _).trans (.cons _ (pt7 _ _ _ _ _ _ _ _ _))))))))))))) _) (.drop [_,_,_,_,_,_,_,_,_] _ _)) ⟨s',by rw [(yua hc ha hn).2];rfl,by rw [(yua hc ha hn).1];rfl⟩
        ·obtain ⟨hc',_⟩:=hK'
         exact absurd hc' (by simp)
      ·refine rn ?_;refine z7 rfl (fun hc56=> ?_) (fun hc56=> ?_)
       ·first|cases hc56|exact absurd hc56 (by decide)|(exfalso;simp_all;done)
       ·have hm:zgf h.evs h.evs[a].t 5=true:=by rw [←zh9];simpa using hg4_21
        have hkd:h.evs[a].kind=3∨h.evs[a].kind=4:=by
         first
         |(have q:h.evs[a].kind=3:=(by simpa using hg4_29);exact .inl q)
         |(have q:h.evs[a].kind=4:=(by simpa using hc56);exact .inr q)
        have hn:OvB h (a:Int):=⟨a,rfl,ha,hm,hkd⟩
        have hfl:=zre hc ha
        refine rn ?_;refine z8 rfl (y3 rfl fun b8=> ?_)
        refine rn ?_;refine z8 rfl (u3 rfl rfl (y0.of_fun (zxa h a rc rl rk rg _)) rfl ?_)
        rintro _ _ ⟨ba,bp,rfl,rfl⟩
        refine rn ?_;refine zfd (s':=⟨[(59,.fn (.func 134) [] [pZ bp,pZ ba]),(8,pZ b8)],.box ba 3 [iv (a:Nat)]:: .box bp 119 (rwP h rc rl rk rg):: .box b8 29 [.v (⟨none,0,0⟩:SV).v]:: .row (⟨none,0,0⟩:SV).v 1 3 ((([]:List Conf).map Conf.t).map zal):: .box b6 119 (rwP h rc rl rk rg):: .box b2 28 (w7 h)::rgR rg []::rkS h rk::zbf h rl::rcR h rc:: .glob 2 156 y5:: .glob 4 305 y7:: .glob 5 308 y2:: .glob 3 246 u5:: .glob 1 175 zag:: .glob 0 171 [mpv rO]:: .obj rO oK:: [],[]⟩) (v7 (zam 1 3) (v7 (zao ((pt1 _ _ _).trans (.cons _ ((pt1 _ _ _).trans (.cons _ (pt1 _ _ _)))))) es)) ?_
        refine zo4 (fun pend h''=>pend=none∧∃(s:SV) (M:List ((Int×Int)×List Int)),h''= .box ba 3 [iv (a:Nat)]:: .box bp 119 (rwP h rc rl rk rg)::rgR rg M::rkS h rk::zbf h rl::rcR h rc:: .glob 2 156 y5:: .glob 4 305 y7:: .glob 5 308 y2:: .glob 3 246 u5:: .glob 1 175 zag:: .glob 0 171 [mpv rO]:: .obj rO oK:: .box b8 29 [.v s.v]:: .row s.v 1 3 (((zcg h h.evs[a] a).map Conf.t).map zal):: .box b6 119 (rwP h rc rl rk rg):: .box b2 28 (w7 h):: []) rfl (fun fn l q lp hlp=> ?_) (fun q h'' hK'=> ?_) (fun q h'' cc hK'=> ?_)
        ·suffices hy:∀pre d rest (s:SV) M,zcg h h.evs[a] a=pre++d::rest→True→zoq h M→y0 Tryz.prog (yv l) [.agg (u0 d)] (.box ba 3 [iv (a:Nat)]:: .box bp 119 (rwP h rc rl rk rg)::rgR rg M::rkS h rk::zbf h rl::rcR h rc:: .glob 2 156 y5:: .glob 4 305 y7:: .glob 5 308 y2:: .glob 3 246 u5:: .glob 1 175 zag:: .glob 0 171 [mpv rO]:: .obj rO oK::lp .ready none:: .defs q:: .box b8 29 [.v s.v]:: .row s.v 1 3 ((pre.map Conf.t).map zal):: .box b6 119 (rwP h rc rl rk rg):: .box b2 28 (w7 h):: []) (fun r h'=>∃s':SV,(r=bv true∧True∧h'= .box ba 3 [iv (a:Nat)]:: .box bp 119 (rwP h rc rl rk rg)::rgR rg M::rkS h rk::zbf h rl::rcR h rc:: .glob 2 156 y5:: .glob 4 305 y7:: .glob 5 308 y2:: .glob 3 246 u5:: .glob 1 175 zag:: .glob 0 171 [mpv rO]:: .obj rO oK::lp .ready none:: .defs q:: .box b8 29 [.v s'.v]:: .row s'.v 1 3 (((pre++ [d]).map Conf.t).map zal):: .box b6 119 (rwP h rc rl rk rg):: .box b2 28 (w7 h):: [])∨(r=bv false∧False∧h'= .box ba 3 [iv (a:Nat)]:: .box bp 119 (rwP h rc rl rk rg)::rgR rg M::rkS h rk::zbf h rl::rcR h rc:: .glob 2 156 y5:: .glob 4 305 y7:: .glob 5 308 y2:: .glob 3 246 u5:: .glob 1 175 zag:: .glob 0 171 [mpv rO]:: .obj rO oK:: [])) by
          refine y8.mono (y8.perm ((pt2 _ _ _ _).trans (.cons _ ((pt2 _ _ _ _).trans (.cons _ ((pt6 _ _ _ _ _ _ _ _).trans (.cons _ ((pt6 _ _ _ _ _ _ _ _).trans (.cons _ ((pt6 _ _ _ _ _ _ _ _).trans (.cons _ ((pt6 _ _ _ _ _ _ _ _).trans (.cons _ ((pt6 _ _ _ _ _ _ _ _).trans (.cons _ ((pt6 _ _ _ _ _ _ _ _).trans (.cons _ ((pt6 _ _ _ _ _ _ _ _).trans (.cons _ ((pt6 _ _ _ _ _ _ _ _).trans (.cons _ ((pt6 _ _ _ _ _ _ _ _).trans (.cons _ ((pt6 _ _ _ _ _ _ _ _).trans (.cons _ (pt6 _ _ _ _ _ _ _ _))))))))))))))))))))))))) (zw9 h la hc a ha (yv l) bp ba rc rl rk rg [] (zmv h) rO oK hK (fun _ (_:SV)=>True) (fun _=>False) (fun pre (s:SV)=>lp .ready none:: .defs q:: .box b8 29 [.v s.v]:: .row s.v 1 3 ((pre.map Conf.t).map zal):: .box b6 119 (rwP h rc rl rk rg):: .box b2 28 (w7 h):: []) (fun _=> []) ⟨none,0,0⟩ trivial hy)) ?_
          rintro _ _ ⟨s,M,hM,⟨-,rfl⟩|⟨hF,_⟩⟩
          ·exact ⟨none,.ready,_,((zxj _ _ _ _ _ _ _ _ _ _ _ _ _ _ _).trans (.cons _ (zxj _ _ _ _ _ _ _ _ _ _ _ _ _ _ _))),by simp,rfl,s,M,rfl⟩
          ·exact hF.elim
         intro pre d rest s M hL _ hM
         have hlen:pre.length < (zcg h h.evs[a] a).length:=by rw [hL,List.length_append,List.length_cons];omega
         refine y0.perm (zxj _ _ _ _ _ _ _ _ _ _ _ _ _ _ _) (y0.ventE ?_)
         refine zfb hlp rfl rfl ?_
         refine rn ?_;refine z8 rfl (y3 rfl fun b9=> ?_)
         refine rn ?_;refine ⟨[(9,pZ b9),(8,pZ b8)],.box b9 41 (u0 d):: .box ba 3 [iv (a:Nat)]:: .box bp 119 (rwP h rc rl rk rg)::rgR rg M::rkS h rk::zbf h rl::rcR h rc:: .glob 2 156 y5:: .glob 4 305 y7:: .glob 5 308 y2:: .glob 3 246 u5:: .glob 1 175 zag:: .glob 0 171 [mpv rO]:: .obj rO oK:: .defs q:: .box b8 29 [.v s.v]:: .row s.v 1 3 ((pre.map Conf.t).map zal):: .box b6 119 (rwP h rc rl rk rg):: .box b2 28 (w7 h):: [],v7 (zao (pt1 _ _ _)) es,?_⟩
         refine rn ?_;refine qv rfl rfl (w9 rfl rfl) ?_
         refine z8 rfl (q7 rfl rfl (by simp only [oM,List.length_cons,List.length_nil];omega) rfl (fun s65=> ?_) (zh5 [d.t]))
         refine u9 s65 fun sv hsv=> ?_
         subst hsv
         refine rn ?_;exact zey (.refl _) ⟨_,_,.trans (.perm ((pt1 _ _ _).trans (.cons _ ((pt1 _ _ _).trans (.cons _ ((pt1 _ _ _).trans (.cons _ ((pt1 _ _ _).trans (.cons _ ((pt1 _ _ _).trans (.cons _ ((pt1 _ _ _).trans (.cons _ ((pt1 _ _ _).trans (.cons _ ((pt1 _ _ _).trans (.cons _ ((pt1 _ _ _).trans (.cons _ ((pt1 _ _ _).trans (.cons _ ((pt1 _ _ _).trans (.cons _ ((pt1 _ _ _).trans (.cons _ ((pt1 _ _ _).trans (.cons _ (pt1 _ _ _))))))))))))))))))))))))))) _) (.drop [_] _ _),sv,.inl ⟨rfl,trivial,by rw [List.map_append,List.map_append];rfl⟩⟩
        ·obtain ⟨_,s,M,rfl⟩:=hK'
         refine rn ?_;refine z8 rfl (u3 rfl rfl (zgq (y0.of_fun (ybd s _ (by rw [oM];omega)))) rfl ?_)
         rintro _ _ ⟨rfl,rfl⟩
         refine rn ?_;refine z8 rfl (u3 rfl rfl (zay (y0.of_fun (yet s _ (by rw [(zdi _).length_eq,oM];omega)))) rfl ?_)
         rintro _ _ ⟨s',rfl,rfl⟩
         refine rn ?_;exact zja (.refl _) (.cons _ _ _ _ (.tmp _ _ rfl) (.cons _ _ _ _ (.tmp _ _ rfl) .nil)) (.trans (.perm (.cons _ (.cons _ (.cons _ (.cons _ (.cons _ (.cons _ ((pt7 _ _ _ _ _ _ _ _ _).trans (.cons _ ((pt8 _ _ _ _ _ _ _ _ _ _).trans (.cons _ ((pt8 _ _ _ _ _ _ _ _ _ _).trans (.cons _ (pt7 _ _ _ _ _ _ _ _ _))))))))))))) _) (.drop [_,_,_,_,_,_,_,_,_] _ _)) ⟨s',by rw [(yua hc ha hn).2];rfl,by rw [(yua hc ha hn).1];rfl⟩
        ·obtain ⟨hc',_⟩:=hK'
         exact absurd hc' (by simp)
 ·refine rn ?_;refine z8 rfl (y3 rfl fun b6=> ?_)
  refine rn ?_;refine z7 rfl (fun hc16=> ?_) (fun hc16=> ?_)
  ·refine rn ?_;exact zb9 rfl rfl (.trans (.drop [_,_] _ _) (zaj 1 3 _)) ⟨⟨none,0,0⟩,by rw [(yv9 hc).2];rfl,by rw [(yv9 hc).1];rfl⟩
  ·first|cases hc16|exact absurd hc16 (by decide)|(exfalso;simp_all;done)
theorem rwOver (h:Hist) (la:Lim 4611686018427387904 h) (rO:Nat) (oK:Obj) (hK:KO oK) (n:Int):y8 Tryz.prog 35 [.agg (w7 h),iv n] (.glob 2 156 y5:: .glob 4 305 y7:: .glob 5 308 y2:: .glob 3 246 u5:: .glob 1 175 zag:: .glob 0 171 [mpv rO]:: .obj rO oK:: []) (fun r h'=>h'= .glob 2 156 y5:: .glob 4 305 y7:: .glob 5 308 y2:: .glob 3 246 u5:: .glob 1 175 zag:: .glob 0 171 [mpv rO]:: .obj rO oK:: []∧r= .tup [zbc (ovO h n),iv (ovC h n)]):=(ymk h la rO oK hK n).ventR (by rintro _ _ ⟨s,rfl,rfl⟩;exact ⟨_,_,zbj [] [_],rfl,rfl⟩)
theorem ytv (n:Int) (l:List Int):decide (atI n 0 l ≥ 0)=l.contains n:=by
 have:=yfc n l
 cases hc:l.contains n with
 |true=>rw [hc] at this;have:=oF this;exact decide_eq_true (by omega)
 |false=>rw [hc] at this;have:=oT this;exact decide_eq_false (by omega)
theorem yr5 {p x:Int} {m:Mat} (h:(m.p !=p)=true):zq1 p x m=false:=by
 have:(m.p==p)=false:=by simpa using h
 rw [zq1,this];rfl
theorem yr4 {p x:Int} {m:Mat} (h:(m.o !=x)=true):zq1 p x m=false:=by
 have:(m.o==x)=false:=by simpa using h
 rw [zq1,this,Bool.and_false]
theorem yxb {p x:Int} {m:Mat} (h1:(m.p !=p)=false) (h2:(m.o !=x)=false):zq1 p x m=true:=by
 rw [zq1,Bool.and_eq_true];exact ⟨by simpa using h1,by simpa using h2⟩
theorem yr6 {h:Hist} {p x:Int} {k:Nat} (hk:k < h.mats.length) (hq:zq1 p x h.mats[k]=true) (hz:((h.mats.take k).all fun m=> !zq1 p x m)=true):ykr h p x=some h.mats[k]:=by
 rw [ykr,List.find?_eq_some_iff_getElem]
 exact ⟨hq,k,hk,rfl,fun j hj=>by have:=List.all_eq_true.1 hz h.mats[j] (zje (by omega) hj);exact this⟩
theorem yva {h:Hist} {p x:Int} (hz:(h.mats.all fun m=> !zq1 p x m)=true):ykr h p x=none:=by
 rw [ykr,List.find?_eq_none];intro s hs q
 have:=List.all_eq_true.1 hz s hs
 rw [q] at this;cases this
theorem ytq {f:Nat→Bool} {k:Nat} (h:(f (k+1) !=f k)=true):chR f (k+1)=chR f k++ [((k+1:Nat):Int)]:=by rw [chR,if_pos (by simpa using h)]
theorem ytr {f:Nat→Bool} {k:Nat} (h:(f (k+1) !=f k)=false):chR f (k+1)=chR f k:=by rw [chR,if_neg (by simpa using h)];simp
def yc0 (l:List Ev) (t:Int) (n:Nat) (scan:List Seen) (j:Nat) (x:Int):Ver:=match zuz (scan.take j) x with
 |some v=>v
 |none=>zr1 (zd1 l t x n)
theorem yki {l:List Ev} {t x:Int} {n j:Nat} {scan:List Seen} (hj:j < scan.length) (h:(scan[j].o==x)=true):yc0 l t n scan (j+1) x=scan[j].v:=by rw [yc0,ybo hj,if_pos h]
theorem ykj {l:List Ev} {t x:Int} {n j:Nat} {scan:List Seen} (hj:j < scan.length) (h:(scan[j].o==x)=false):yc0 l t n scan (j+1) x=yc0 l t n scan j x:=by rw [yc0,ybo hj,if_neg (by rw [h];decide),yc0]
theorem yrp (l:List Ev) (t x:Int) (n:Nat) (scan:List Seen):yc0 l t n scan 0 x=zr1 (zd1 l t x n):=rfl
theorem yro (l:List Ev) (t x:Int) (n:Nat) (scan:List Seen):yc0 l t n scan scan.length x=yft l t n scan x:=by rw [yc0,List.take_length];rfl
theorem yqi {s:Seen} {x:Int} (h:(s.o==x)=true):zap s= [iv x,iv s.v.t,iv s.v.k]:=by rw [zap,eq_of_beq h]
theorem zlq (h:Hist) (la:Lim 1000000 h) (p x n:Int) (h0:0≤n) (h1:n≤(zdn h x).length):y8 Tryz.prog 162 [.agg (w7 h),iv p,iv x,iv n] [] (fun r h'=>h'= []∧r=bv (zuk h p x n)):=by
 refine z6 Tryz.func162 rfl rfl rfl ?_
 have lm:=la.mats
 have lI:=znw la x
 refine rn ?_;refine z8 rfl (q6 rfl rfl rfl fun b4=> ?_)
 refine rn ?_;refine zdg (h.mats.length) (fun k:Nat=>((h.mats.take k).all fun m=> !zq1 p x m)=true) (fun k=> [(14,iv k)]) [(1,_),(2,_),(3,_),(4,_),(12,_),(13,_)] rfl ?_
 intro k lk zk
 refine rn ?_;refine z7 rfl (fun hc15=> ?_) (fun hc15=> ?_)
 ·have hk:=za4 hc15
  have rk:=zak (f:=zd9) hk
  have lT:=la.matts h.mats[k] (List.getElem_mem hk)
  refine rn ?_;refine z8 rfl (y3 rfl fun b10=> ?_)
  refine rn ?_;refine w6 (fun hg4_4=> ?_) (fun hg4_4=> ?_)
  ·refine rn ?_;refine zcw rfl ?_;have hq:zq1 p x h.mats[k]=false:=by first|exact yr5 hg4_4|exact yr4 hc27
   refine rn ?_;exact ⟨hk,by rw [zmx hk,zk,hq];rfl,eA⟩
  ·refine rn ?_;refine z7 rfl (fun hc27=> ?_) (fun hc27=> ?_)
   ·have hq:zq1 p x h.mats[k]=false:=by first|exact yr5 hg4_4|exact yr4 hc27
    refine rn ?_;exact ⟨hk,by rw [zmx hk,zk,hq];rfl,eA⟩
   ·have hq:zq1 p x h.mats[k]=true:=yxb hg4_4 hc27
    have hf:=yr6 hk hq zk
    refine rn ?_;refine z7 rfl (fun hc29=> ?_) (fun hc29=> ?_)
    ·have hn:n=0:=eq_of_beq hc29
     refine rn ?_;refine rq 2 ?_
     exact ⟨rfl,congrArg bv (by rw [zuk,hf,mtM,if_pos hn])⟩
    ·have hn:n≠0:=beq_eq_false_iff_ne.1 hc29
     obtain ⟨a,ha,ea⟩:∃a:Nat,a < (zdn h x).length∧n=(a:Int)+1:=⟨(n - 1).toNat,by omega,by omega⟩
     subst ea
     have ra:=zak (f:=zal) ha
     refine rn ?_;refine k9 9 rfl ?_
     refine rn ?_;refine dv rfl rfl (by exact y1 rfl rfl (u7 (zh0 h la x) (Sbs.refl _))) ?_
     refine dq rfl rfl qrA ?_;refine dq rfl rfl (zj3 (zca rfl rfl rfl (by omega)) (show iv ((a:Int)+1 - 1)=iv (a:Int) by rw [Int.add_sub_cancel])) ?_
     refine rn ?_;refine qv rfl rfl (y1 rfl rfl (u7 (yhb h.mats[k].ts (zdn h x)[a] (Nat.le_trans lT (by decide))) (Sbs.refl _))) ?_
     refine rn ?_;refine rq 2 ?_
     exact ⟨rfl,congrArg bv (by rw [ytv,zuk,hf,mtM,if_neg (by omega),Int.add_sub_cancel,Int.toNat_natCast,List.getElem?_eq_getElem ha];rfl)⟩
 ·have qk:=za5 hc15 lk
  rw [qk,List.take_length] at zk
  refine rn ?_;refine rq 1 ?_
  exact ⟨rfl,congrArg bv (by rw [zuk,yva zk];rfl)⟩
theorem zsw (h:Hist) (la:Lim 1000000 h) (p x:Int):y8 Tryz.prog 120 [.agg (w7 h),iv p,iv x] [] (fun r h'=>h'= []∧r=zbc (chR (fun k:Nat=>zuk h p x (k:Int)) (zdn h x).length)):=by
 refine z6 Tryz.func120 rfl rfl rfl ?_
 have lI:=znw la x
 refine rn ?_;refine z8 rfl (q6 rfl rfl rfl fun b3=> ?_)
 refine rn ?_;refine zep (zdn h x).length (fun k s=>⟨[(8,iv ((k:Int)+1)),(7,.v s.v),(1,iv p),(2,iv x),(3,pZ b3)],.row s.v 1 3 ((chR (fun k:Nat=>zuk h p x (k:Int)) k).map zal):: .box b3 28 (w7 h):: [],[]⟩) ⟨none,0,0⟩ (v7 (zam 1 3) es) ?_
 intro k s lk
 refine rn ?_;refine qv rfl rfl (y1 rfl rfl (u7 (zh0 h la x) (Sbs.refl _))) ?_
 refine rn ?_;refine z7 rfl (fun hc14=> ?_) (fun hc14=> ?_)
 ·have hk:k < (zdn h x).length:=by have q:=oT hc14;rw [oM] at q;omega
  have hcs:((k+1:Nat):Int)=(k:Int)+1:=by omega
  refine rn ?_;refine k9 10 rfl ?_
  refine rn ?_;refine dv rfl rfl (by exact y1 rfl rfl (u7 (zlq h la p x ((k:Int)+1) (by omega) (by omega)) (Sbs.refl _))) ?_
  refine dq rfl rfl qrA ?_;refine dq rfl rfl qrA ?_;refine dq rfl rfl qrA ?_;refine dq rfl rfl qrA ?_;refine dq rfl rfl (zj3 (zca rfl rfl rfl (by omega)) (show iv ((k:Int)+1 - 1)=iv (k:Int) by rw [Int.add_sub_cancel])) ?_
  refine rn ?_;refine qv rfl rfl (y1 rfl rfl (u7 (zlq h la p x (k:Int) (by omega) (by omega)) (Sbs.refl _))) ?_
  refine qq rfl rfl (zng rfl rfl) ?_
  refine rn ?_;refine z7 rfl (fun hc28=> ?_) (fun hc28=> ?_)
  ·refine rn ?_;refine qv rfl rfl (w9 rfl rfl) ?_
   refine z8 rfl (q7 rfl rfl (by simp only [oM,List.length_cons,List.length_nil];have:=chR_len (fun k:Nat=>zuk h p x (k:Int)) k;omega) rfl (fun s32=> ?_) (zh5 [(k:Int)+1]))
   refine u9 s32 fun sv hsv=> ?_
   subst hsv
   refine q1 ?_;refine j4 ?_;refine zjh ?_;refine zac ?_;refine y4 ?_;refine q1 ?_;refine qq rfl rfl (zca rfl rfl rfl (by omega)) ?_
   refine rn ?_;first|exact ⟨hk,sv,by rw [ytq (f:=fun k:Nat=>zuk h p x (k:Int)) (by rw [hcs];exact hc28),List.map_append,hcs];exact eA⟩|exact ⟨hk,s,by rw [ytr (f:=fun k:Nat=>zuk h p x (k:Int)) (by rw [hcs];exact hc28),hcs];exact eA⟩
  ·refine zar ?_;refine zjh ?_;refine zac ?_;refine y4 ?_;refine q1 ?_;refine qq rfl rfl (zca rfl rfl rfl (by omega)) ?_
   refine rn ?_;first|exact ⟨hk,sv,by rw [ytq (f:=fun k:Nat=>zuk h p x (k:Int)) (by rw [hcs];exact hc28),List.map_append,hcs];exact eA⟩|exact ⟨hk,s,by rw [ytr (f:=fun k:Nat=>zuk h p x (k:Int)) (by rw [hcs];exact hc28),hcs];exact eA⟩
 ·have qk:k=(zdn h x).length:=by have q:=oF hc14;rw [oM] at q;omega
  refine rn ?_;exact k7 rfl (.trans zct (.drop [_] _ _)) ⟨rfl,by rw [qk];rfl⟩
theorem yg5 (h:Hist) (la:Lim 1000000 h) (a:Nat) (ha:a < h.evs.length):y8 Tryz.prog 118 [.agg (w7 h),iv (a:Int)] [] (fun r h'=>h'= []∧r=zft (zau h h.evs[a] a)):=by
 refine z6 Tryz.func118 rfl rfl rfl ?_
 have be:=la.evs
 have bo:=la.os
 have bs:=la.scans h.evs[a] (List.getElem_mem ha)
 refine rn ?_;refine z8 rfl (q6 rfl rfl rfl fun b2=> ?_)
 refine q1 ?_;refine j4 (zac ?_)
 refine w8 (y4 ?_)
 refine q1 ?_;refine j4 (zac ?_)
 refine w8 (y4 ?_)
 refine q1 ?_;refine q1 ?_;refine q1 ?_;refine qq rfl rfl (zaw rfl rfl (Int.natCast_nonneg a) (by rw [Int.toNat_natCast];exact zak (f:=evR) ha)) ?_
 refine rn ?_;refine z8 rfl (y3 rfl fun b6=> ?_)
 refine rn ?_;refine zep h.os.length (fun k s=>⟨[(21,iv k),(5,.v s.v),(1,iv (a:Int)),(2,pZ b2),(6,pZ b6),(20,iv (h.os.map zf5).length)],.row s.v 3 70 (((upR k).map fun x:Int=>(⟨x,yft h.evs h.evs[a].t a h.evs[a].scan x⟩:Seen)).map zap):: .box b6 60 (evR h.evs[a]):: .box b2 28 (w7 h):: [],[]⟩) ⟨none,0,0⟩ (v7 (zam 3 70) es) ?_
 intro k s lk
 refine rn ?_;refine z7 rfl (fun hc22=> ?_) (fun hc22=> ?_)
 ·have hk:k < h.os.length:=by have q:=oT hc22;rw [oM] at q;omega
  refine zar ?_;refine zac ?_;refine w8 ?_;refine zcx ?_;refine w8 (y4 ?_)
  refine q1 ?_;refine q1 ?_;refine j4 (zac ?_)
  refine w8 (y4 ?_)
  refine q1 ?_;refine qq rfl rfl (zaf (out:= [iv (k:Int),iv 0,iv 0]) rfl (by rfl)) ?_
  refine z8 rfl (y3 rfl fun b8=> ?_)
  first|refine z8 rfl (k8 rfl rfl rfl ?_)|refine z8 rfl (zaq rfl rfl rfl rfl (Nat.le_of_ble_eq_true rfl) ?_)
  refine j4 (zac ?_)
  refine w8 ?_;refine w8 (y4 ?_)
  refine q1 ?_;refine q1 ?_;refine q1 ?_;refine qq rfl rfl (znf (k:=a) (rows':=(h.evs.take a).map evR) rfl rfl (by rw [oM];omega) List.map_take.symm) ?_
  refine rn ?_;refine zcv (h.evs.take a).length (fun _=>True) (fun j=>⟨[(31,iv j),(1,iv (a:Int)),(2,pZ b2),(5,.v s.v),(6,pZ b6),(7,iv (k:Int)),(8,pZ b8),(20,iv (h.os.map zf5).length),(21,iv k),(29,zri (h.evs.take a)),(30,iv ((h.evs.take a).map evR).length)],.box b8 70 [iv (k:Int),iv (zr1 (zd1 (h.evs.take a) h.evs[a].t (k:Int) j)).t,iv (zr1 (zd1 (h.evs.take a) h.evs[a].t (k:Int) j)).k]:: .row s.v 3 70 (((upR k).map fun x:Int=>(⟨x,yft h.evs h.evs[a].t a h.evs[a].scan x⟩:Seen)).map zap):: .box b6 60 (evR h.evs[a]):: .box b2 28 (w7 h):: [],[]⟩) trivial eA ?_
  intro j lj _
  refine rn ?_;refine z7 rfl (fun hc32=> ?_) (fun hc32=> ?_)
  ·have hj:=za4 hc32
   have rj:=zak (f:=evR) hj
   have bj:=hj
   rw [List.length_take] at bj
   refine rn ?_;refine z8 rfl (y3 rfl fun b10=> ?_)
   refine rn ?_;refine w6 (fun hg10_5=> ?_) (fun hg10_5=> ?_)
   ·refine rn ?_;refine w6 (fun hg10_10=> ?_) (fun hg10_10=> ?_)
    ·refine rn ?_;refine z7 rfl (fun hc50=> ?_) (fun hc50=> ?_)
     ·have hw:zat h.evs[a].t (k:Int) (h.evs.take a)[j]=true:=by rw [zat,Bool.and_comm ((h.evs.take a)[j].kind==2)];first|(rw [hg10_5,hg10_10,hc50];rfl)|(rw [hg10_5,hg10_10];rfl)|(rw [hg10_5];rfl)|(rw [hg10_5,hc50];rfl)
      refine rn ?_;first|exact ⟨hj,trivial,by rw [zpn hj hw];exact eA⟩|exact ⟨hj,trivial,by rw [zg9 hj hw];exact eA⟩
     ·have hw:zat h.evs[a].t (k:Int) (h.evs.take a)[j]=false:=by rw [zat,Bool.and_comm ((h.evs.take a)[j].kind==2)];first|(rw [hg10_5,hg10_10,hc50];rfl)|(rw [hg10_5,hg10_10];rfl)|(rw [hg10_5];rfl)|(rw [hg10_5,hc50];rfl)
      refine rn ?_;first|exact ⟨hj,trivial,by rw [zpn hj hw];exact eA⟩|exact ⟨hj,trivial,by rw [zg9 hj hw];exact eA⟩
    ·refine rn ?_;refine zfh rfl ?_;have hw:zat h.evs[a].t (k:Int) (h.evs.take a)[j]=false:=by rw [zat,Bool.and_comm ((h.evs.take a)[j].kind==2)];first|(rw [hg10_5,hg10_10,hc50];rfl)|(rw [hg10_5,hg10_10];rfl)|(rw [hg10_5];rfl)|(rw [hg10_5,hc50];rfl)
     refine rn ?_;first|exact ⟨hj,trivial,by rw [zpn hj hw];exact eA⟩|exact ⟨hj,trivial,by rw [zg9 hj hw];exact eA⟩
   ·refine rn ?_;refine zfh rfl ?_;have hw:zat h.evs[a].t (k:Int) (h.evs.take a)[j]=false:=by rw [zat,Bool.and_comm ((h.evs.take a)[j].kind==2)];first|(rw [hg10_5,hg10_10,hc50];rfl)|(rw [hg10_5,hg10_10];rfl)|(rw [hg10_5];rfl)|(rw [hg10_5,hc50];rfl)
    refine rn ?_;first|exact ⟨hj,trivial,by rw [zpn hj hw];exact eA⟩|exact ⟨hj,trivial,by rw [zg9 hj hw];exact eA⟩
  ·have qj:=za5 hc32 lj
   rw [qj,←zpx,←ygw ha,←yrp h.evs h.evs[a].t (k:Int) a h.evs[a].scan]
   refine rn ?_;refine zcv h.evs[a].scan.length (fun _=>True) (fun u=>⟨[(58,iv u),(1,iv (a:Int)),(2,pZ b2),(5,.v s.v),(6,pZ b6),(7,iv (k:Int)),(8,pZ b8),(20,iv (h.os.map zf5).length),(21,iv k),(56,zft h.evs[a].scan),(57,iv (h.evs[a].scan.map zap).length)],.box b8 70 [iv (k:Int),iv (yc0 h.evs h.evs[a].t a h.evs[a].scan u (k:Int)).t,iv (yc0 h.evs h.evs[a].t a h.evs[a].scan u (k:Int)).k]:: .row s.v 3 70 (((upR k).map fun x:Int=>(⟨x,yft h.evs h.evs[a].t a h.evs[a].scan x⟩:Seen)).map zap):: .box b6 60 (evR h.evs[a]):: .box b2 28 (w7 h):: [],[]⟩) trivial eA ?_
   intro u lu _
   refine rn ?_;refine z7 rfl (fun hc59=> ?_) (fun hc59=> ?_)
   ·have hu:=za4 hc59
    have ru:=zak (f:=zap) hu
    refine rn ?_;refine z8 rfl (y3 rfl fun b12=> ?_)
    refine rn ?_;refine z7 rfl (fun hc65=> ?_) (fun hc65=> ?_)
    ·have ho:=yqi hc65
     refine rn ?_;first|exact ⟨hu,trivial,by rw [ho,yki hu hc65];exact eA⟩|exact ⟨hu,trivial,by rw [ykj hu hc65];exact eA⟩
    ·refine rn ?_;first|exact ⟨hu,trivial,by rw [ho,yki hu hc65];exact eA⟩|exact ⟨hu,trivial,by rw [ykj hu hc65];exact eA⟩
   ·have qu:=za5 hc59 lu
    rw [qu,yro]
    refine rn ?_;refine qv rfl rfl (w9 rfl rfl) ?_
    refine z8 rfl (q7 rfl rfl (by simp only [oM,upR,List.length_range,List.length_cons,List.length_nil];omega) rfl (fun s71=> ?_) (by exact zil [(⟨(k:Int),yft h.evs h.evs[a].t a h.evs[a].scan (k:Int)⟩:Seen)]))
    refine u9 s71 fun sv hsv=> ?_
    subst hsv
    refine rn ?_;exact ⟨hk,sv,by rw [zy1,List.map_append,List.map_append,List.map_singleton,List.map_singleton];exact eA⟩
 ·have qk:k=h.os.length:=by have q:=oF hc22;rw [oM] at q;omega
  subst qk
  refine rn ?_;exact k7 rfl (.trans zct (.drop [_,_] _ _)) ⟨rfl,rfl⟩
theorem zk7 {α:Type} {q:α→α→Bool} (c:α):∀(l:List α) (k:α),zhc q k (l++ [c])=zhc q k l++if q c (((zhc q k l).getLast?).getD k)=true then [] else [c]
 | [],k=>by
   simp only [List.nil_append,zhc,List.getLast?_nil,Option.getD_none]
   by_cases h:q c k=true <;> simp [h]
 |y::l,k=>by
  rw [List.cons_append,zhc,zhc]
  split
  ·exact zk7 c l k
  ·rw [zk7 c l y,List.cons_append]
   congr 3
   cases zhc q y l with
   |nil=>rfl
   |cons a r=>simp [List.getLast?_cons]
theorem zk8 {α:Type} {q:α→α→Bool} (l:List α) (c:α):zc8 q (l++ [c])=zc8 q l++match (zc8 q l).getLast? with
 |some p=>if q c p=true then [] else [c]
 |none=> [c]:=by
 cases l with
 |nil=>rfl
 |cons x r=>
  rw [List.cons_append,zc8,zc8,zk7,List.cons_append]
  cases h:zhc q x r with
  |nil=>rfl
  |cons a t=>rw [List.getLast?_cons_cons];simp [List.getLast?_cons]
theorem zxy {l:List Conf} {c:Conf} (h:(zc8 za1 l).length=0):zc8 za1 (l++ [c])=zc8 za1 l++ [c]:=by
 rw [zk8,List.length_eq_zero_iff.1 h];rfl
theorem zxx {l:List Conf} {c p:Conf} (hp:(zc8 za1 l).getLast? =some p) (h:za1 c p=false):zc8 za1 (l++ [c])=zc8 za1 l++ [c]:=by
 rw [zk8,hp];simp [h]
theorem ysl {l:List Conf} {c p:Conf} (hp:(zc8 za1 l).getLast? =some p) (h:za1 c p=true):zc8 za1 (l++ [c])=zc8 za1 l:=by
 rw [zk8,hp];simp [h]
theorem znv {α:Type} {q:α→α→Bool}:∀(l:List α) (k:α),(zhc q k l).length≤l.length
 | [],_=>Nat.le_refl _
 |y::l,k=>by
  rw [zhc];split
  ·exact Nat.le_succ_of_le (znv l k)
  ·exact Nat.succ_le_succ (znv l y)
theorem yds {α:Type} {q:α→α→Bool}:∀l:List α,(zc8 q l).length≤l.length
 | []=>Nat.le_refl _
 |x::r=>Nat.succ_le_succ (znv r x)
theorem zm8 (a b:Conf):za1 a b=(b.f==a.f && b.t==a.t && b.k==a.k):=by rw [za1,Bool.beq_comm (a:=a.f),Bool.beq_comm (a:=a.t),Bool.beq_comm (a:=a.k)]
theorem yoa {L:List Conf} (h:L.length≠0):∃p,L.getLast? =some p∧(L.map u0)[(((L.map u0).length:Int) - 1).toNat]? =some (u0 p):=by
 have hl:L.length - 1 < L.length:=by omega
 refine ⟨L[L.length - 1],by rw [List.getLast?_eq_getElem?,List.getElem?_eq_getElem hl],?_⟩
 rw [show (((L.map u0).length:Int) - 1).toNat=L.length - 1 by rw [oM];omega,List.getElem?_map,List.getElem?_eq_getElem hl];rfl
theorem ydo {L:List Conf} (hq:(((L.map u0).length:Int)==0)=false):∃p,L.getLast? =some p∧(L.map u0)[(((L.map u0).length:Int) - 1).toNat]? =some (u0 p)∧0≤(((L.map u0).length:Int) - 1)∧(((L.map u0).length:Int) - 1).toNat < (L.map u0).length:=by
 have hz:L.length≠0:=by rw [oM] at hq;simpa using hq
 obtain ⟨p,h1,h2⟩:=yoa hz
 exact ⟨p,h1,h2,by rw [oM];omega,by rw [oM];omega⟩
theorem yss {h:Hist} (hc:u6 h=0) {x:Int} (h0:0≤x) (h1:x < h.os.length):(zdn h x).length≤3000:=by
 rw [←zpr (zbh.1 hc) h0 h1];exact ztk hc h0 h1
theorem zpj (l:List Conf):∀out:List Conf,(zew out l).length≤out.length+l.length:=by
 induction l with
 |nil=>intro out;exact Nat.le_refl _
 |cons c r ih=>
  intro out
  have h1:=ih (zi1 zec out c)
  have h2:=yhr out c
  rw [show zew out (c::r)=zew (zi1 zec out c) r from rfl,List.length_cons];omega
def chR (h:Hist) (f t:Int) (k:Nat):List Int:=(upR k).filter fun x=>decide (atI f 0 (zdn h x) ≥ 0) && decide (atI t 0 (zdn h x) > atI f 0 (zdn h x))
theorem chR_len (h:Hist) (f t:Int) (k:Nat):(chR h f t k).length≤k:=by
 refine Nat.le_trans (List.length_filter_le _ _) ?_
 rw [upR,oM,List.length_range];exact Nat.le_refl _
theorem zzi {f:Bool} (l:List Conf) (hl:l.length≤1000000000):y8 Tryz.prog 73 [.list f 7 (l.map u0)] [] (fun r h'=>h'= []∧r=zen (yo0 l)):=by
 refine z6 Tryz.func73 rfl rfl rfl ?_
 refine rn ?_;refine zep l.length (fun k s=>⟨[(9,iv k),(3,.v s.v),(7,.list f 7 (l.map u0)),(8,iv (l.map u0).length)],.row s.v 7 41 ((zc8 za1 (l.take k)).map u0):: [],[]⟩) ⟨none,0,0⟩ (v7 (zam 7 41) es) ?_
 intro k s lk
 refine rn ?_;refine z7 rfl (fun hc10=> ?_) (fun hc10=> ?_)
 ·have hk:=za4 hc10
  have rk:=zak (f:=u0) hk
  have bK:(zc8 za1 (l.take k)).length≤k:=Nat.le_trans (yds _) (List.length_take_le _ _)
  refine rn ?_;refine z8 rfl (y3 rfl fun b5=> ?_)
  refine rn ?_;refine k9 33 rfl ?_
  refine rn ?_;refine zcq (fun hg6_2=> ?_) (fun hg6_2=> ?_)
  ·first|(obtain ⟨p,hp1,hp2,hp0,hpi⟩:=ydo hg6_2)|skip
   refine rn ?_;refine zcw rfl ?_;have hw:zc8 za1 (l.take k++ [l[k]])=(zc8 za1 (l.take k))++ [l[k]]:=by first|exact zxy (by have q:((((zc8 za1 (l.take k)).map u0).length:Int)==0)=true:=hg6_2;rw [oM] at q;simpa using q)|exact zxx hp1 (by rw [zm8];simp_all)
   refine rn ?_;refine qv rfl rfl (w9 rfl rfl) ?_
   refine z8 rfl (q7 rfl rfl (by simp only [oM,List.length_cons,List.length_nil];omega) rfl (fun s53=> ?_) (za0 [l[k]]))
   refine u9 s53 fun sv hsv=> ?_
   subst hsv
   refine rn ?_;first|exact ⟨hk,sv,by rw [List.take_succ_eq_append_getElem hk,hw,List.map_append];exact eA⟩|exact ⟨hk,s,by rw [List.take_succ_eq_append_getElem hk,hw];exact eA⟩
  ·first|(obtain ⟨p,hp1,hp2,hp0,hpi⟩:=ydo hg6_2)|skip
   refine dq rfl rfl qrA ?_;refine dq rfl rfl qrA ?_;refine dq rfl rfl (zca rfl rfl rfl (by rw [oM];omega)) ?_
   refine dq rfl rfl (zg4 rfl rfl hp0 hpi) ?_
   refine dq rfl rfl (zdx rfl (by decide)) ?_
   refine dq rfl rfl (zbd rfl hp2 rfl) ?_
   refine rn ?_;refine zcq (fun hg6_13=> ?_) (fun hg6_13=> ?_)
   ·refine rn ?_;refine zcw rfl ?_;have hw:zc8 za1 (l.take k++ [l[k]])=(zc8 za1 (l.take k))++ [l[k]]:=by first|exact zxy (by have q:((((zc8 za1 (l.take k)).map u0).length:Int)==0)=true:=hg6_2;rw [oM] at q;simpa using q)|exact zxx hp1 (by rw [zm8];simp_all)
    refine rn ?_;refine qv rfl rfl (w9 rfl rfl) ?_
    refine z8 rfl (q7 rfl rfl (by simp only [oM,List.length_cons,List.length_nil];omega) rfl (fun s53=> ?_) (za0 [l[k]]))
    refine u9 s53 fun sv hsv=> ?_
    subst hsv
    refine rn ?_;first|exact ⟨hk,sv,by rw [List.take_succ_eq_append_getElem hk,hw,List.map_append];exact eA⟩|exact ⟨hk,s,by rw [List.take_succ_eq_append_getElem hk,hw];exact eA⟩
   ·refine dq rfl rfl qrA ?_;refine dq rfl rfl qrA ?_;refine dq rfl rfl (zca rfl rfl rfl (by rw [oM];omega)) ?_
    refine dq rfl rfl (zg4 rfl rfl hp0 hpi) ?_
    refine dq rfl rfl (zdx rfl (by decide)) ?_
    refine dq rfl rfl (zbd rfl hp2 rfl) ?_
    refine rn ?_;refine zcq (fun hg6_24=> ?_) (fun hg6_24=> ?_)
    ·refine rn ?_;refine zcw rfl ?_;have hw:zc8 za1 (l.take k++ [l[k]])=(zc8 za1 (l.take k))++ [l[k]]:=by first|exact zxy (by have q:((((zc8 za1 (l.take k)).map u0).length:Int)==0)=true:=hg6_2;rw [oM] at q;simpa using q)|exact zxx hp1 (by rw [zm8];simp_all)
     refine rn ?_;refine qv rfl rfl (w9 rfl rfl) ?_
     refine z8 rfl (q7 rfl rfl (by simp only [oM,List.length_cons,List.length_nil];omega) rfl (fun s53=> ?_) (za0 [l[k]]))
     refine u9 s53 fun sv hsv=> ?_
     subst hsv
     refine rn ?_;first|exact ⟨hk,sv,by rw [List.take_succ_eq_append_getElem hk,hw,List.map_append];exact eA⟩|exact ⟨hk,s,by rw [List.take_succ_eq_append_getElem hk,hw];exact eA⟩
    ·refine dq rfl rfl qrA ?_;refine dq rfl rfl qrA ?_;refine dq rfl rfl (zca rfl rfl rfl (by rw [oM];omega)) ?_
     refine dq rfl rfl (zg4 rfl rfl hp0 hpi) ?_
     refine dq rfl rfl (zdx rfl (by decide)) ?_
     refine dq rfl rfl (zbd rfl hp2 rfl) ?_
     refine rn ?_;refine z7 rfl (fun hc49=> ?_) (fun hc49=> ?_)
     ·have hw:zc8 za1 (l.take k++ [l[k]])=(zc8 za1 (l.take k))++ [l[k]]:=by first|exact zxy (by have q:((((zc8 za1 (l.take k)).map u0).length:Int)==0)=true:=hg6_2;rw [oM] at q;simpa using q)|exact zxx hp1 (by rw [zm8];simp_all)
      refine rn ?_;refine qv rfl rfl (w9 rfl rfl) ?_
      refine z8 rfl (q7 rfl rfl (by simp only [oM,List.length_cons,List.length_nil];omega) rfl (fun s53=> ?_) (za0 [l[k]]))
      refine u9 s53 fun sv hsv=> ?_
      subst hsv
      refine rn ?_;first|exact ⟨hk,sv,by rw [List.take_succ_eq_append_getElem hk,hw,List.map_append];exact eA⟩|exact ⟨hk,s,by rw [List.take_succ_eq_append_getElem hk,hw];exact eA⟩
     ·have hw:zc8 za1 (l.take k++ [l[k]])=(zc8 za1 (l.take k)):=ysl hp1 (by rw [zm8];simp_all)
      refine rn ?_;first|exact ⟨hk,sv,by rw [List.take_succ_eq_append_getElem hk,hw,List.map_append];exact eA⟩|exact ⟨hk,s,by rw [List.take_succ_eq_append_getElem hk,hw];exact eA⟩
 ·have qk:=za5 hc10 lk
  refine rn ?_;exact k7 rfl zct ⟨rfl,by rw [qk,List.take_length];rfl⟩
theorem zqr (h:Hist) (x:Int) (v:Ver):zcl h x v=((rkR h x v).getD 0,(rkR h x v).isSome):=by
 rw [zcl,rkR]
 by_cases hv:v=⟨0,0⟩
 ·rw [if_pos hv,if_pos hv];rfl
 ·rw [if_neg hv,if_neg hv]
  by_cases hf:zbx (fun t=>zlc h x t==v) 0 (zdn h x) ≥ 0
  ·rw [if_pos hf,if_pos (show zbx (rkQ h x v) 0 (zdn h x) ≥ 0 from hf)];rfl
  ·rw [if_neg hf,if_neg (show ¬zbx (rkQ h x v) 0 (zdn h x) ≥ 0 from hf)];rfl
theorem ym1 {h:Hist} {e:Ev} {a:Nat} (h1:(!(zcl h e.o e.v).2)=true):zhq h e a= []:=by
 rw [zqr] at h1
 rw [zhq]
 cases hr:rkR h e.o e.v with
 |none=>rfl
 |some r=>rw [hr] at h1;simp at h1
theorem ypt {h:Hist} {x:Int} {v:Ver} (h1:(!(zcl h x v).2)=false):∃r,rkR h x v=some r∧(zcl h x v).1=r∧0≤r:=by
 rw [zqr] at h1
 cases hr:rkR h x v with
 |none=>rw [hr] at h1;simp at h1
 |some r=>exact ⟨r,rfl,by rw [zqr,hr];rfl,yb1 hr⟩
theorem ym0 {h:Hist} {e:Ev} {a:Nat} (h1:(!(zcl h e.o e.v).2)=false) (h2:(!(zej h e.o (zcl h e.o e.v).1).isSome)=true):zhq h e a= []:=by
 obtain ⟨r,hr,e1,r0⟩:=ypt h1
 rw [e1,zej,if_pos r0] at h2
 rw [zhq,hr]
 simp only
 cases hq:(zdn h e.o)[r.toNat]? with
 |none=>rfl
 |some t=>rw [hq] at h2;simp at h2
theorem ymz {h:Hist} {e:Ev} {a:Nat} (h1:(!(zcl h e.o e.v).2)=false) (h2:(!(zej h e.o (zcl h e.o e.v).1).isSome)=false) (h3:((zej h e.o (zcl h e.o e.v).1).getD 0==e.t)=true):zhq h e a= []:=by
 obtain ⟨r,hr,e1,r0⟩:=ypt h1
 rw [e1,zej,if_pos r0] at h2 h3
 rw [zhq,hr]
 simp only
 cases hq:(zdn h e.o)[r.toNat]? with
 |none=>rfl
 |some t=>rw [hq] at h3;simp only;exact if_pos h3
theorem ywz {h:Hist} {e:Ev} {a:Nat} (h1:(!(zcl h e.o e.v).2)=false) (h2:(!(zej h e.o (zcl h e.o e.v).1).isSome)=false) (h3:((zej h e.o (zcl h e.o e.v).1).getD 0==e.t)=false):
 zhq h e a= [⟨e.t,(zej h e.o (zcl h e.o e.v).1).getD 0,3,a,zek h ((zej h e.o (zcl h e.o e.v).1).getD 0) e.o,e.o,0⟩]:=by
 obtain ⟨r,hr,e1,r0⟩:=ypt h1
 rw [e1,zej,if_pos r0] at h2 h3 ⊢
 rw [zhq,hr]
 simp only
 cases hq:(zdn h e.o)[r.toNat]? with
 |none=>rw [hq] at h2;simp at h2
 |some t=>
  rw [hq] at h3
  simp only
  rw [if_neg (by rw [show (t==e.t)=false from h3];decide)];rfl
def scT (h:Hist) (s:Seen) (k:Int):Int:=((zdn h s.o)[(k - 1).toNat]?).getD 0
theorem ymf {h:Hist} {e:Ev} {a:Nat} {s:Seen} {k:Int} (h1:(!(zcl h s.o s.v).2)=true):zfl h e a s k=none:=by
 rw [zqr] at h1
 rw [zfl]
 cases hr:rkR h s.o s.v with
 |none=>rfl
 |some r=>rw [hr] at h1;simp at h1
theorem yme {h:Hist} {e:Ev} {a:Nat} {s:Seen} {k:Int} (h1:(!(zcl h s.o s.v).2)=false) (h2:decide (k≤(zcl h s.o s.v).1)=true):zfl h e a s k=none:=by
 obtain ⟨r,hr,e1,r0⟩:=ypt h1
 rw [e1] at h2
 rw [zfl,hr];simp only;rw [if_pos (oT h2)]
theorem ymd {h:Hist} {e:Ev} {a:Nat} {s:Seen} {k:Int} (h1:(!(zcl h s.o s.v).2)=false) (h2:decide (k≤(zcl h s.o s.v).1)=false) (h3:(scT h s k==e.t)=true):zfl h e a s k=none:=by
 obtain ⟨r,hr,e1,r0⟩:=ypt h1
 rw [e1] at h2
 rw [zfl,hr];simp only;rw [if_neg (oF h2)];exact if_pos h3
theorem ywt {h:Hist} {e:Ev} {a:Nat} {s:Seen} {k:Int} (h1:(!(zcl h s.o s.v).2)=false) (h2:decide (k≤(zcl h s.o s.v).1)=false) (h3:(scT h s k==e.t)=false):zfl h e a s k=some ⟨e.t,scT h s k,4,a,zek h (scT h s k) s.o,s.o,e.p⟩:=by
 obtain ⟨r,hr,e1,r0⟩:=ypt h1
 rw [e1] at h2
 rw [zfl,hr];simp only;rw [if_neg (oF h2),if_neg (by rw [show (((zdn h s.o)[(k - 1).toNat]?).getD 0==e.t)=false from h3];decide)];rfl
theorem yey {h:Hist} (hc:u6 h=0) {x:Int} (h0:0≤x) (h1:x < h.os.length) (p:Int):(zir h p x).length≤3000:=by
 rw [zir]
 exact Nat.le_trans (H.chR_len _ _) (yss hc h0 h1)
theorem zyi {f:Nat→Bool} {k:Int}:∀{n:Nat},k∈H.chR f n→1≤k∧k≤n
 |0,hk=>by simp [H.chR] at hk
 |n+1,hk=>by
  rw [H.chR,List.mem_append] at hk
  rcases hk with hk|hk
  ·have:=zyi hk;omega
  ·split at hk
   ·rw [List.mem_singleton] at hk;omega
   ·cases hk
def scP (h:Hist) (e:Ev) (a i:Nat):List Conf:=((zau h e a).take i).flatMap fun s=>(zir h e.p s.o).filterMap (zfl h e a s)
theorem yun {h:Hist} {e:Ev} {a i:Nat} (hi:i < (zau h e a).length):scP h e a (i+1)=scP h e a i++(zir h e.p (zau h e a)[i].o).filterMap (zfl h e a (zau h e a)[i]):=by
 rw [scP,List.take_succ_eq_append_getElem hi,List.flatMap_append];simp [scP]
theorem ymh {h:Hist} {e:Ev} {a:Nat}:scP h e a (zau h e a).length=zsi h e a:=by rw [scP,List.take_length];rfl
theorem ymg {h:Hist} (hc:u6 h=0) (e:Ev) (a i:Nat):(scP h e a i).length≤9000000:=by
 have lO:=(zfg hc).os
 have h1:=zla (fun s=>(zir h e.p s.o).filterMap (zfl h e a s)) 3000 ((zau h e a).take i) fun s hs=>by
  obtain ⟨⟨o0,o1⟩,_⟩:=zqm (List.mem_of_mem_take hs)
  exact Nat.le_trans (List.length_filterMap_le _ _) (yey hc o0 o1 _)
 have h2:((zau h e a).take i).length≤3000:=Nat.le_trans (List.length_take_le' _ _) (by rw [zm6];omega)
 rw [scP];omega
theorem ztq {h:Hist} (hc:u6 h=0) {a:Nat} (ha:a < h.evs.length):(zeb h h.evs[a] a).length≤16000000:=by rw [←yd1 (zbh.1 hc) (List.getElem_mem ha)];exact zre hc ha
theorem yel {h:Hist} {kd:Int} {i:Nat} (hi:i < h.evs.length):zeu h kd (i+1)=zew (zeu h kd i) ((zeb h h.evs[i] i).filter fun x=>x.k==kd):=by
 rw [zeu,List.getElem?_eq_getElem hi]
theorem zn1 {h:Hist} (hc:u6 h=0) (kd:Int):∀k:Nat,k≤h.evs.length→(zeu h kd k).length≤k * 16000000
 |0,_=>Nat.zero_le _
 |k+1,hk=>by
  have h1:=zn1 hc kd k (by omega)
  have h2:=ztq hc (a:=k) hk
  have h3:=zpj ((zeb h h.evs[k] k).filter fun x=>x.k==kd) (zeu h kd k)
  have h4:=List.length_filter_le (fun x:Conf=>x.k==kd) (zeb h h.evs[k] k)
  rw [yel hk,Nat.succ_mul];omega
theorem zx4 {l:List Conf} {q:Conf→Bool} {j:Nat} (hj:j < l.length):(l.take (j+1)).filter q=(l.take j).filter q++if q l[j]=true then [l[j]] else []:=by
 rw [List.take_succ_eq_append_getElem hj,List.filter_append]
 by_cases h:q l[j]=true <;> simp [h]
theorem yke {out l:List Conf} {kd:Int} {j:Nat} (hj:j < l.length) (h:(l[j].k==kd)=true):zew out ((l.take (j+1)).filter fun x=>x.k==kd)=zi1 zec (zew out ((l.take j).filter fun x=>x.k==kd)) l[j]:=by
 rw [zx4 hj,if_pos h,zew,List.foldl_append];rfl
theorem ykf {out l:List Conf} {kd:Int} {j:Nat} (hj:j < l.length) (h:(l[j].k==kd)=false):zew out ((l.take (j+1)).filter fun x=>x.k==kd)=zew out ((l.take j).filter fun x=>x.k==kd):=by
 rw [zx4 hj,if_neg (by rw [h];decide),List.append_nil]
theorem yhq {h:Hist} {kd:Int} {i j:Nat} (hi:i < h.evs.length) (qj:j=(zeb h h.evs[i] i).length):zew (zeu h kd i) (((zeb h h.evs[i] i).take j).filter fun x=>x.k==kd)=zeu h kd (i+1):=by
 rw [qj,List.take_length,yel hi]
theorem yb9 (h:Hist) (la:Lim 1000000 h) (a:Nat) (ha:a < h.evs.length):y8 Tryz.prog 138 [.agg (w7 h),iv (a:Int)] [] (fun r h'=>h'= []∧r=zen (zhq h h.evs[a] a)):=by
 refine z6 Tryz.func138 rfl rfl rfl ?_
 have ra:=zak (f:=evR) ha
 refine rn ?_;refine z8 rfl (q6 rfl rfl rfl fun b2=> ?_)
 refine rn ?_;refine z8 rfl (y3 rfl fun b5=> ?_)
 refine rn ?_;refine qv rfl rfl (y1 rfl rfl (u7 (zst h la h.evs[a].o h.evs[a].v) (Sbs.refl _))) ?_
 refine rn ?_;refine qv rfl rfl (y1 rfl rfl (u7 (yca h la h.evs[a].o (zcl h h.evs[a].o h.evs[a].v).1) (Sbs.refl _))) ?_
 refine rn ?_;refine w6 (fun hg4_2=> ?_) (fun hg4_2=> ?_)
 ·refine rn ?_;refine zcw rfl ?_;have hw:zhq h h.evs[a] a= []:=by
   first
   |exact ym1 hg4_2
   |exact ym0 hg4_2 hg4_6
   |exact ymz hg4_2 hg4_6 hc46
  refine rn ?_;exact k7 rfl (.trans (.drop [_,_] _ _) (.le (Sb.nil false 7).le)) ⟨rfl,by rw [hw];rfl⟩
 ·refine rn ?_;refine w6 (fun hg4_6=> ?_) (fun hg4_6=> ?_)
  ·refine rn ?_;refine zcw rfl ?_;have hw:zhq h h.evs[a] a= []:=by
    first
    |exact ym1 hg4_2
    |exact ym0 hg4_2 hg4_6
    |exact ymz hg4_2 hg4_6 hc46
   refine rn ?_;exact k7 rfl (.trans (.drop [_,_] _ _) (.le (Sb.nil false 7).le)) ⟨rfl,by rw [hw];rfl⟩
  ·refine rn ?_;refine z7 rfl (fun hc46=> ?_) (fun hc46=> ?_)
   ·have hw:zhq h h.evs[a] a= []:=by
     first
     |exact ym1 hg4_2
     |exact ym0 hg4_2 hg4_6
     |exact ymz hg4_2 hg4_6 hc46
    refine rn ?_;exact k7 rfl (.trans (.drop [_,_] _ _) (.le (Sb.nil false 7).le)) ⟨rfl,by rw [hw];rfl⟩
   ·have hw:zhq h h.evs[a] a= [⟨h.evs[a].t,((zej h h.evs[a].o (zcl h h.evs[a].o h.evs[a].v).1).getD 0),3,a,zek h ((zej h h.evs[a].o (zcl h h.evs[a].o h.evs[a].v).1).getD 0) h.evs[a].o,h.evs[a].o,0⟩]:=ywz hg4_2 hg4_6 hc46
    refine rn ?_;refine qv rfl rfl (y1 rfl rfl (u7 (zkz h la.evs ((zej h h.evs[a].o (zcl h h.evs[a].o h.evs[a].v).1).getD 0) h.evs[a].o) (Sbs.refl _))) ?_
    refine rn ?_;refine z8 rfl (y3 rfl fun b10=> ?_)
    first|refine z8 rfl (k8 rfl rfl rfl ?_)|refine z8 rfl (zaq rfl rfl rfl rfl (Nat.le_of_ble_eq_true rfl) ?_)
    refine q1 ?_;refine q1 ?_;refine j4 (zac ?_)
    refine w8 (y4 ?_)
    refine q1 ?_;refine q1 ?_;refine q1 ?_;refine q1 ?_;refine q1 ?_;refine q1 ?_;refine q1 ?_;refine qq rfl rfl (zaf (out:=u0 ⟨h.evs[a].t,((zej h h.evs[a].o (zcl h h.evs[a].o h.evs[a].v).1).getD 0),3,a,zek h ((zej h h.evs[a].o (zcl h h.evs[a].o h.evs[a].v).1).getD 0) h.evs[a].o,h.evs[a].o,0⟩) rfl (by rfl)) ?_
    refine qv rfl rfl (w9 rfl rfl) ?_
    refine rn ?_;exact k7 rfl (.trans (.drop [_,_,_] _ _) (.le (Sb.lists (rows:= [u0 ⟨h.evs[a].t,((zej h h.evs[a].o (zcl h h.evs[a].o h.evs[a].v).1).getD 0),3,a,zek h ((zej h h.evs[a].o (zcl h h.evs[a].o h.evs[a].v).1).getD 0) h.evs[a].o,h.evs[a].o,0⟩]) (rows':= [u0 ⟨h.evs[a].t,((zej h h.evs[a].o (zcl h h.evs[a].o h.evs[a].v).1).getD 0),3,a,zek h ((zej h h.evs[a].o (zcl h h.evs[a].o h.evs[a].v).1).getD 0) h.evs[a].o,h.evs[a].o,0⟩]) (by simp) ⟨⟨.refl _,.refl _,.refl _,.refl _,.refl _,.refl _,.refl _,trivial⟩,trivial⟩).le)) ⟨rfl,by rw [hw];rfl⟩
theorem zze (h:Hist) (la:Lim 1000000 h) (hc:u6 h=0) (a:Nat) (ha:a < h.evs.length):y8 Tryz.prog 139 [.agg (w7 h),iv (a:Int)] [] (fun r h'=>∃s:SV,h'= [.row s.v 7 41 ((zsi h h.evs[a] a).map u0)]∧r= .v s.v):=by
 refine z6 Tryz.func139 rfl rfl rfl ?_
 have ra:=zak (f:=evR) ha
 have hsl:(zau h h.evs[a] a).length≤3000:=by rw [zm6];have:=(zfg hc).os;omega
 refine rn ?_;refine z8 rfl (q6 rfl rfl rfl fun b2=> ?_)
 refine rn ?_;refine z8 rfl (y3 rfl fun b6=> ?_)
 refine rn ?_;refine qv rfl rfl (y1 rfl rfl (u7 (yg5 h la a ha) (Sbs.refl _))) ?_
 refine rn ?_;refine zep (zau h h.evs[a] a).length (fun i s=>⟨[(26,iv i),(5,.v s.v),(1,iv (a:Int)),(2,pZ b2),(6,pZ b6),(24,zft (zau h h.evs[a] a)),(25,iv ((zau h h.evs[a] a).map zap).length)],.row s.v 7 41 ((scP h h.evs[a] a i).map u0):: .box b6 60 (evR h.evs[a]):: .box b2 28 (w7 h):: [],[]⟩) ⟨none,0,0⟩ (v7 (zam 7 41) es) ?_
 intro i s li
 refine rn ?_;refine z7 rfl (fun hc27=> ?_) (fun hc27=> ?_)
 ·have hi:=za4 hc27
  have ri:=zak (f:=zap) hi
  obtain ⟨⟨o0,o1⟩,_⟩:=zqm (List.getElem_mem hi)
  have hgl:=yey hc o0 o1 h.evs[a].p
  have hil:=yss hc o0 o1
  have hpl:=ymg hc h.evs[a] a i
  refine rn ?_;refine z8 rfl (y3 rfl fun b8=> ?_)
  refine rn ?_;refine qv rfl rfl (y1 rfl rfl (u7 (zst h la (zau h h.evs[a] a)[i].o (zau h h.evs[a] a)[i].v) (Sbs.refl _))) ?_
  refine rn ?_;refine qv rfl rfl (y1 rfl rfl (y0.pure (R:=fun r=>r=zbc (zir h h.evs[a].p (zau h h.evs[a] a)[i].o)) (y0.of_fun (zsw h la h.evs[a].p (zau h h.evs[a] a)[i].o)))) ?_
  refine rn ?_;refine zep (zir h h.evs[a].p (zau h h.evs[a] a)[i].o).length (fun j s=>⟨[(46,iv j),(5,.v s.v),(1,iv (a:Int)),(2,pZ b2),(6,pZ b6),(8,pZ b8),(9,iv (zcl h (zau h h.evs[a] a)[i].o (zau h h.evs[a] a)[i].v).1),(10,bv (zcl h (zau h h.evs[a] a)[i].o (zau h h.evs[a] a)[i].v).2),(24,zft (zau h h.evs[a] a)),(25,iv ((zau h h.evs[a] a).map zap).length),(26,iv i),(44,zbc (zir h h.evs[a].p (zau h h.evs[a] a)[i].o)),(45,iv ((zir h h.evs[a].p (zau h h.evs[a] a)[i].o).map zal).length)],.box b8 70 (zap (zau h h.evs[a] a)[i]):: .row s.v 7 41 ((scP h h.evs[a] a i++((zir h h.evs[a].p (zau h h.evs[a] a)[i].o).take j).filterMap (zfl h h.evs[a] a (zau h h.evs[a] a)[i])).map u0):: .box b6 60 (evR h.evs[a]):: .box b2 28 (w7 h):: [],[]⟩) s (by rw [List.take_zero,List.filterMap_nil,List.append_nil];exact es) ?_
  intro j s lj
  refine rn ?_;refine z7 rfl (fun hc47=> ?_) (fun hc47=> ?_)
  ·have hj:=za4 hc47
   have rj:=zak (f:=zal) hj
   obtain ⟨k0,k1⟩:=zyi (List.getElem_mem hj:(zir h h.evs[a].p (zau h h.evs[a] a)[i].o)[j]∈H.chR _ _)
   have hkl:((zir h h.evs[a].p (zau h h.evs[a] a)[i].o)[j] - 1).toNat < ((zdn h (zau h h.evs[a] a)[i].o).map zal).length:=by rw [oM];omega
   have rkk:((zdn h (zau h h.evs[a] a)[i].o).map zal)[((zir h h.evs[a].p (zau h h.evs[a] a)[i].o)[j] - 1).toNat]? =some (zal (scT h (zau h h.evs[a] a)[i] (zir h h.evs[a].p (zau h h.evs[a] a)[i].o)[j])):=by rw [List.getElem?_map,scT,List.getElem?_eq_getElem (by rw [oM] at hkl;exact hkl)];rfl
   have hfl:=Nat.le_trans (List.length_filterMap_le (zfl h h.evs[a] a (zau h h.evs[a] a)[i]) ((zir h h.evs[a].p (zau h h.evs[a] a)[i].o).take j)) (List.length_take_le _ _)
   refine rn ?_;refine qv rfl rfl (y1 rfl rfl (u7 (zh0 h la (zau h h.evs[a] a)[i].o) (Sbs.refl _))) ?_
   refine q1 ?_;refine qq rfl rfl (zca rfl rfl rfl (by omega)) ?_
   refine qq rfl rfl (zaw rfl rfl (by omega) rkk) ?_
   refine rn ?_;refine w6 (fun hg11_2=> ?_) (fun hg11_2=> ?_)
   ·refine rn ?_;refine zcw rfl ?_;have hw:zfl h h.evs[a] a (zau h h.evs[a] a)[i] (zir h h.evs[a].p (zau h h.evs[a] a)[i].o)[j]=none:=by
     first
     |exact ymf hg11_2
     |exact yme hg11_2 hg11_7
     |exact ymd hg11_2 hg11_7 hc70
    refine rn ?_;exact ⟨hj,s,by rw [yox hj hw];exact eA⟩
   ·refine rn ?_;refine w6 (fun hg11_7=> ?_) (fun hg11_7=> ?_)
    ·refine rn ?_;refine zcw rfl ?_;have hw:zfl h h.evs[a] a (zau h h.evs[a] a)[i] (zir h h.evs[a].p (zau h h.evs[a] a)[i].o)[j]=none:=by
      first
      |exact ymf hg11_2
      |exact yme hg11_2 hg11_7
      |exact ymd hg11_2 hg11_7 hc70
     refine rn ?_;exact ⟨hj,s,by rw [yox hj hw];exact eA⟩
    ·refine rn ?_;refine z7 rfl (fun hc70=> ?_) (fun hc70=> ?_)
     ·have hw:zfl h h.evs[a] a (zau h h.evs[a] a)[i] (zir h h.evs[a].p (zau h h.evs[a] a)[i].o)[j]=none:=by
       first
       |exact ymf hg11_2
       |exact yme hg11_2 hg11_7
       |exact ymd hg11_2 hg11_7 hc70
      refine rn ?_;exact ⟨hj,s,by rw [yox hj hw];exact eA⟩
     ·have hw:zfl h h.evs[a] a (zau h h.evs[a] a)[i] (zir h h.evs[a].p (zau h h.evs[a] a)[i].o)[j]=some ⟨h.evs[a].t,(scT h (zau h h.evs[a] a)[i] (zir h h.evs[a].p (zau h h.evs[a] a)[i].o)[j]),4,a,zek h (scT h (zau h h.evs[a] a)[i] (zir h h.evs[a].p (zau h h.evs[a] a)[i].o)[j]) (zau h h.evs[a] a)[i].o,(zau h h.evs[a] a)[i].o,h.evs[a].p⟩:=ywt hg11_2 hg11_7 hc70
      refine rn ?_;refine qv rfl rfl (y1 rfl rfl (u7 (zkz h la.evs (scT h (zau h h.evs[a] a)[i] (zir h h.evs[a].p (zau h h.evs[a] a)[i].o)[j]) (zau h h.evs[a] a)[i].o) (Sbs.refl _))) ?_
      refine rn ?_;refine z8 rfl (y3 rfl fun b14=> ?_)
      first|refine z8 rfl (k8 rfl rfl rfl ?_)|refine z8 rfl (zaq rfl rfl rfl rfl (Nat.le_of_ble_eq_true rfl) ?_)
      refine q1 ?_;refine q1 ?_;refine j4 (zac ?_)
      refine y4 ?_;refine q1 ?_;refine q1 ?_;refine q1 ?_;refine q1 ?_;refine q1 ?_;refine q1 ?_;refine q1 ?_;refine q1 ?_;refine q1 ?_;refine q1 ?_;refine qq rfl rfl (zaf (out:=u0 ⟨h.evs[a].t,(scT h (zau h h.evs[a] a)[i] (zir h h.evs[a].p (zau h h.evs[a] a)[i].o)[j]),4,a,zek h (scT h (zau h h.evs[a] a)[i] (zir h h.evs[a].p (zau h h.evs[a] a)[i].o)[j]) (zau h h.evs[a] a)[i].o,(zau h h.evs[a] a)[i].o,h.evs[a].p⟩) rfl (by rfl)) ?_
      refine qv rfl rfl (w9 rfl rfl) ?_
      refine z8 rfl (q7 rfl rfl (by simp only [oM,List.length_append,List.length_cons,List.length_nil];omega) rfl (fun s92=> ?_) (za0 [⟨h.evs[a].t,(scT h (zau h h.evs[a] a)[i] (zir h h.evs[a].p (zau h h.evs[a] a)[i].o)[j]),4,a,zek h (scT h (zau h h.evs[a] a)[i] (zir h h.evs[a].p (zau h h.evs[a] a)[i].o)[j]) (zau h h.evs[a] a)[i].o,(zau h h.evs[a] a)[i].o,h.evs[a].p⟩]))
      refine u9 s92 fun sv hsv=> ?_
      subst hsv
      refine rn ?_;exact ⟨hj,sv,by rw [ys8 hj hw,←List.append_assoc,List.map_append (l₁:=(scP h h.evs[a] a i++((zir h h.evs[a].p (zau h h.evs[a] a)[i].o).take j).filterMap (zfl h h.evs[a] a (zau h h.evs[a] a)[i])))];exact eA⟩
  ·have qj:=za5 hc47 lj
   refine rn ?_;exact ⟨hi,s,by rw [yun hi];rw [qj,List.take_length];exact eA⟩
 ·have qi:=za5 hc27 li
  refine rn ?_;exact k7 rfl (.trans (.perm ((pt1 _ _ _).trans (.cons _ (pt1 _ _ _))) _) (.drop [_,_] _ _)) ⟨s,by rw [qi,ymh],rfl⟩
theorem yb8 (h:Hist) (la:Lim 1000000 h) (hc:u6 h=0) (a:Nat) (ha:a < h.evs.length):y8 Tryz.prog 139 [.agg (w7 h),iv (a:Int)] [] (fun r h'=>h'= []∧r=zen (zsi h h.evs[a] a)):=(zze h la hc a ha).ventR (by rintro _ _ ⟨s,rfl,rfl⟩;exact ⟨_,_,zct,rfl,rfl⟩)
theorem yot {h:Hist} {e:Ev} {a:Nat} (hm:zgf h.evs e.t 5=false):zeb h e a= []:=by rw [zeb,if_neg (by rw [hm];decide)]
theorem yos {h:Hist} {e:Ev} {a:Nat} (hm:zgf h.evs e.t 5=true) (h3:e.kind=3):zeb h e a=zhq h e a:=by rw [zeb,if_pos hm,if_pos h3]
theorem yor {h:Hist} {e:Ev} {a:Nat} (hm:zgf h.evs e.t 5=true) (h3:e.kind≠3) (h4:e.kind=4):zeb h e a=zsi h e a:=by rw [zeb,if_pos hm,if_neg h3,if_pos h4]
theorem yoq {h:Hist} {e:Ev} {a:Nat} (hm:zgf h.evs e.t 5=true) (h3:e.kind≠3) (h4:e.kind≠4):zeb h e a= []:=by rw [zeb,if_pos hm,if_neg h3,if_neg h4]
theorem ycb (h:Hist) (la:Lim 1000000 h) (hc:u6 h=0) (a:Nat) (ha:a < h.evs.length):y8 Tryz.prog 92 [.agg (w7 h),iv (a:Int)] [] (fun r h'=>h'= []∧r=zen (zeb h h.evs[a] a)):=by
 refine z6 Tryz.func92 rfl rfl rfl ?_
 have ra:=zak (f:=evR) ha
 refine rn ?_;refine z8 rfl (q6 rfl rfl rfl fun b2=> ?_)
 refine rn ?_;refine z8 rfl (y3 rfl fun b5=> ?_)
 refine rn ?_;refine qv rfl rfl (y1 rfl rfl (u7 (yce h h.evs[a].t (la.mono (by decide):Lim 4611686018427387904 h)) (Sbs.refl _))) ?_
 refine rn ?_;refine z7 rfl (fun hc11=> ?_) (fun hc11=> ?_)
 ·have hm:zgf h.evs h.evs[a].t 5=false:=by simpa using hc11
  refine rn ?_;exact k7 rfl (.trans (.drop [_,_] _ _) (.le (Sb.nil false 7).le)) ⟨rfl,by rw [yot hm];rfl⟩
 ·have hm:zgf h.evs h.evs[a].t 5=true:=by simpa using hc11
  refine rn ?_;refine z7 rfl (fun hc17=> ?_) (fun hc17=> ?_)
  ·have h3:h.evs[a].kind=3:=by simpa using hc17
   refine rn ?_;refine qv rfl rfl (y1 rfl rfl (u7 (yb9 h la a ha) (Sbs.refl _))) ?_
   refine rn ?_;exact k7 rfl (.drop [_,_] _ _) ⟨rfl,by rw [yos hm h3];rfl⟩
  ·have h3:h.evs[a].kind≠3:=by simpa using hc17
   refine rn ?_;refine z7 rfl (fun hc24=> ?_) (fun hc24=> ?_)
   ·have h4:h.evs[a].kind=4:=by simpa using hc24
    refine rn ?_;refine qv rfl rfl (y1 rfl rfl (u7 (yb8 h la hc a ha) (Sbs.refl _))) ?_
    refine rn ?_;exact k7 rfl (.drop [_,_] _ _) ⟨rfl,by rw [yor hm h3 h4];rfl⟩
   ·have h4:h.evs[a].kind≠4:=by simpa using hc24
    refine rn ?_;exact k7 rfl (.trans (.drop [_,_] _ _) (.le (Sb.nil false 7).le)) ⟨rfl,by rw [yoq hm h3 h4];rfl⟩
theorem zzl (h:Hist) (la:Lim 1000000 h) (hc:u6 h=0) (h60:h.evs.length≤60) (kd:Int):y8 Tryz.prog 46 [.agg (w7 h),iv kd] [] (fun r h'=>∃s:SV,h'= [.row s.v 7 41 ((zeu h kd h.evs.length).map u0)]∧r= .v s.v):=by
 refine z6 Tryz.func46 rfl rfl rfl ?_
 refine rn ?_;refine z8 rfl (q6 rfl rfl rfl fun b2=> ?_)
 refine rn ?_;refine zep h.evs.length (fun i s=>⟨[(12,iv i),(5,.v s.v),(1,iv kd),(2,pZ b2),(11,iv (h.evs.map evR).length)],.row s.v 7 41 ((zeu h kd i).map u0):: .box b2 28 (w7 h):: [],[]⟩) ⟨none,0,0⟩ (v7 (zam 7 41) es) ?_
 intro i s li
 refine rn ?_;refine z7 rfl (fun hc13=> ?_) (fun hc13=> ?_)
 ·have hi:i < h.evs.length:=by have q:=oT hc13;rw [oM] at q;omega
  have he1:=zn1 hc kd i (by omega)
  have he2:=ztq hc hi
  refine rn ?_;refine qv rfl rfl (y1 rfl rfl (u7 (ycb h la hc i hi) (Sbs.refl _))) ?_
  refine rn ?_;refine zep (zeb h h.evs[i] i).length (fun j s=>⟨[(19,iv j),(5,.v s.v),(1,iv kd),(2,pZ b2),(11,iv (h.evs.map evR).length),(12,iv i),(17,zen (zeb h h.evs[i] i)),(18,iv ((zeb h h.evs[i] i).map u0).length)],.row s.v 7 41 ((zew (zeu h kd i) (((zeb h h.evs[i] i).take j).filter fun x=>x.k==kd)).map u0):: .box b2 28 (w7 h):: [],[]⟩) s es ?_
  intro j s lj
  refine rn ?_;refine z7 rfl (fun hc20=> ?_) (fun hc20=> ?_)
  ·have hj:=za4 hc20
   have rj:=zak (f:=u0) hj
   have he3:=zpj (((zeb h h.evs[i] i).take j).filter fun x=>x.k==kd) (zeu h kd i)
   have he4:=Nat.le_trans (List.length_filter_le (fun x:Conf=>x.k==kd) ((zeb h h.evs[i] i).take j)) (List.length_take_le _ _)
   refine rn ?_;refine z8 rfl (y3 rfl fun b8=> ?_)
   refine rn ?_;refine z7 rfl (fun hc26=> ?_) (fun hc26=> ?_)
   ·refine rn ?_;refine z8 rfl (u3 rfl rfl (y0.fr (y0.of_fun (yq2 (zew (zeu h kd i) (((zeb h h.evs[i] i).take j).filter fun x=>x.k==kd)) s (zeb h h.evs[i] i)[j] (by omega))) (pt1 _ _ _)) rfl ?_)
    rintro _ _ ⟨_,rfl,s2,rfl,rfl⟩
    refine rn ?_;first|exact ⟨hj,s2,by rw [yke hj hc26];exact v7 (zao (pt1 _ _ _)) (v7 (zc7 (h1:= [_])) es)⟩|exact ⟨hj,s,by rw [ykf hj hc26];exact eA⟩
   ·refine rn ?_;first|exact ⟨hj,s2,by rw [yke hj hc26];exact v7 (zao (pt1 _ _ _)) (v7 (zc7 (h1:= [_])) es)⟩|exact ⟨hj,s,by rw [ykf hj hc26];exact eA⟩
  ·have qj:=za5 hc20 lj
   refine rn ?_;exact ⟨hi,s,by rw [←yhq hi qj];exact eA⟩
 ·have qi:i=h.evs.length:=by have q:=oF hc13;rw [oM] at q;omega
  refine rn ?_;exact k7 rfl (.trans (.perm (za9 [_] [_]) _) (.drop [_] _ _)) ⟨s,by rw [qi],rfl⟩
theorem ycd (h:Hist) (la:Lim 1000000 h) (hc:u6 h=0) (h60:h.evs.length≤60) (kd:Int):y8 Tryz.prog 46 [.agg (w7 h),iv kd] [] (fun r h'=>h'= []∧r=zen (zeu h kd h.evs.length)):=(zzl h la hc h60 kd).ventR (by rintro _ _ ⟨s,rfl,rfl⟩;exact ⟨_,_,zct,rfl,rfl⟩)
theorem zxg (h:Hist) (la:Lim 1000000 h) (hc:u6 h=0) (h60:h.evs.length≤60) (kd:Int):y8 Tryz.prog 34 [.agg (w7 h),iv kd] [] (fun r h'=>h'= []∧r=zen (yo0 (zeu h kd h.evs.length))):=by
 refine z6 Tryz.func34 rfl rfl rfl ?_
 have he:=zn1 hc kd h.evs.length (Nat.le_refl _)
 refine rn ?_;refine z8 rfl (q6 rfl rfl rfl fun b2=> ?_)
 refine rn ?_;refine qv rfl rfl (y1 rfl rfl (u7 (ycd h la hc h60 kd) (Sbs.refl _))) ?_
 refine qv rfl rfl (y1 rfl rfl (u7 (zzi (zeu h kd h.evs.length) (by omega)) (Sbs.refl _))) ?_
 refine rn ?_;refine rq 1 ?_
 exact ⟨rfl,rfl⟩
end Go.Proofs
