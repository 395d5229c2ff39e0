/- The walks of rw's from. Conditions: none. -/
import Derived.Test.YtfmcbdjnmlcacaaGreatDoorRJuJ
set_option maxHeartbeats 4000000
set_option linter.unusedSectionVars false
set_option linter.unusedSimpArgs false
set_option linter.unusedVariables false
set_option maxRecDepth 10000
namespace Go.Proofs
open Go Go.Ab
attribute [local irreducible] QR QV OE zct aw zdf zch zbm za3 thn zfl zd0 jch zfc
open Go.H
def zag:List AV:= [.any,.fn (.func 302) [] [],.fn (.func 302) [] [],.fn (.func 303) [] [],.fn (.func 304) [] [],.fn (.func 302) [] [],.fn (.func 302) [] []]
def ygo (k:Nat):AV:=zag.getD k .any
theorem ygm {k:Nat} (h2:k≤6):zag[k]? =some (ygo k):=by
 have:k < zag.length:=by show k < 7;omega
 rw [ygo,List.getD_eq_getElem?_getD,List.getElem?_eq_getElem this];rfl
def zj5 (h:Hist) (x r:Int):Int:=((zb6 h x)[(r - 1).toNat]?).getD 0
def zzt (h:Hist) (e:Ev) (a:Nat) (x r:Int):Conf:=if r > ((zb6 h x).length:Int) then ⟨0,0,0,0,0,0,0⟩ else ⟨e.t,zj5 h x r,zvq e.kind,a,zeg h (zj5 h x r) x,x,e.p⟩
def zq3 (h:Hist) (e:Ev) (x r:Int):Bool:=if r > ((zb6 h x).length:Int) then false else zj5 h x r !=e.t
theorem yko {h:Hist} {e:Ev} {a:Nat} {x r:Int} (hb:zq3 h e x r=true):zep h e (zf8 e) a x r=some (zzt h e a x r):=by
 rw [zq3] at hb
 split at hb
 ·cases hb
 ·rename_i hr
  have hn:¬(((zb6 h x)[(r - 1).toNat]?).getD 0==e.t)=true:=by rw [show ((zb6 h x)[(r - 1).toNat]?).getD 0=zj5 h x r from rfl];simpa using hb
  rw [zep,if_neg hr,if_neg hn,zzt,if_neg hr];rfl
theorem ysf {h:Hist} {e:Ev} {a:Nat} {x r:Int} (hb:zq3 h e x r=false):zep h e (zf8 e) a x r=none:=by
 rw [zq3] at hb
 rw [zep]
 split at hb
 ·rename_i hr;rw [if_pos hr]
 ·rename_i hr
  rw [if_neg hr,if_pos (by rw [show ((zb6 h x)[(r - 1).toNat]?).getD 0=zj5 h x r from rfl];simpa using hb)]
theorem seen_ok {h:Hist} (hc:u9 h=0) {e:Ev} (he:e∈h.evs) (a:Nat):(u7 h e a).length≤4000∧∀p∈u7 h e a,(0≤p.1∧p.1 < h.os.length)∧p.2.length≤4000∧∀r∈p.2,1≤r∧r≤5000:=by
 have hs:=zbj.1 hc
 have lA:=zez hc
 have lO:=lA.os
 rw [u7]
 split
 ·rename_i h3
  obtain ⟨⟨o0,o1⟩,_⟩:=zss (ze0 hs _ he) h3
  rw [ze2]
  cases hr:zl5 h e.o e.v with
  |none=>exact ⟨Nat.zero_le _,fun p hp=>by cases hp⟩
  |some r=>
   have:=yqm hc o0 o1 hr
   refine ⟨by show 1≤4000;decide,fun p hp=> ?_⟩
   rw [List.mem_singleton] at hp
   subst hp
   refine ⟨⟨o0,o1⟩,by show 1≤4000;decide,fun q hq=> ?_⟩
   rw [List.mem_singleton] at hq
   subst hq
   omega
 ·split
  ·rename_i h4
   refine ⟨?_,fun p hp=> ?_⟩
   ·refine Nat.le_trans (List.length_filterMap_le _ _) ?_
    rw [zm5];omega
   ·rw [zie,List.mem_filterMap] at hp
    obtain ⟨s,hsm,hp⟩:=hp
    obtain ⟨⟨o0,o1⟩,_⟩:=zqi hsm
    unfold zdx at hp
    split at hp
    ·cases hp
    ·split at hp
     ·injection hp with hp
      subst hp
      have hcl:=ykz hc e.p s.o
      refine ⟨⟨o0,o1⟩,Nat.le_trans (List.dropWhile_sublist _).length_le hcl,fun r hr=> ?_⟩
      have hr':r∈chL h e.p s.o:=(List.dropWhile_sublist _).subset hr
      rw [chL] at hr'
      split at hr'
      ·rename_i ht
       rw [ypq,zms] at hr'
       obtain ⟨j,rfl,j0,j1,_⟩:=hr'
       rw [zm1] at j1
       have:=ztf hc o0 o1
       omega
      ·cases hr'
     ·cases hp
  ·exact ⟨Nat.zero_le _,fun p hp=>by cases hp⟩
def rwF (h:Hist) (e:Ev) (a:Nat) (p:Int×List Int):List Conf:=p.2.filterMap (zep h e (zf8 e) a p.1)
theorem zvx {h:Hist} {e:Ev} (a:Nat) (hm:zga h.evs e.t 5=true):zci h e a=(u7 h e a).flatMap (rwF h e a):=by rw [zci,if_pos hm];rfl
theorem ydt {h:Hist} {e:Ev} (a:Nat) (hm:zga h.evs e.t 5=false):zci h e a= []:=by rw [zci,if_neg (by rw [hm];decide)]
theorem ywp {h:Hist} {e:Ev} {a:Nat} {L:List (Int×List Int)} {i:Nat} (hi:i < L.length):(L.take (i+1)).flatMap (rwF h e a)=(L.take i).flatMap (rwF h e a)++rwF h e a L[i]:=by
 rw [List.take_succ_eq_append_getElem hi,List.flatMap_append];simp
theorem yj2 {h:Hist} {e:Ev} {a:Nat} {L:List (Int×List Int)} {i j:Nat} (hi:i < L.length) (qj:j=L[i].2.length):(L.take i).flatMap (rwF h e a)++(L[i].2.take j).filterMap (zep h e (zf8 e) a L[i].1)=(L.take (i+1)).flatMap (rwF h e a):=by
 rw [ywp hi,qj,List.take_length];rfl
theorem yqo {h:Hist} {e:Ev} {a:Nat} {i j:Nat} {d:Conf} (hm:zga h.evs e.t 5=true) (hi:i < (u7 h e a).length) (hj:j < (u7 h e a)[i].2.length) (hd:zep h e (zf8 e) a (u7 h e a)[i].1 (u7 h e a)[i].2[j]=some d):
 ∃rest,zci h e a=(((u7 h e a).take i).flatMap (rwF h e a)++((u7 h e a)[i].2.take j).filterMap (zep h e (zf8 e) a (u7 h e a)[i].1))++d::rest:=by
 have e1:rwF h e a (u7 h e a)[i]=((u7 h e a)[i].2.take j).filterMap (zep h e (zf8 e) a (u7 h e a)[i].1)++d::((u7 h e a)[i].2.drop (j+1)).filterMap (zep h e (zf8 e) a (u7 h e a)[i].1):=by
  conv=>lhs;rw [rwF,←List.take_append_drop j (u7 h e a)[i].2,List.drop_eq_getElem_cons hj]
  rw [List.filterMap_append,List.filterMap_cons,hd]
 refine ⟨((u7 h e a)[i].2.drop (j+1)).filterMap (zep h e (zf8 e) a (u7 h e a)[i].1)++((u7 h e a).drop (i+1)).flatMap (rwF h e a),?_⟩
 rw [zvx a hm]
 conv=>lhs;rw [←List.take_append_drop i (u7 h e a),List.drop_eq_getElem_cons hi]
 rw [List.flatMap_append,List.flatMap_cons,e1]
 simp [List.append_assoc]
theorem ytx {h:Hist} {e:Ev} {a:Nat} {B:List Conf} {x:Int} {l:List Int} {j:Nat} (hj:j < l.length) (hb:zq3 h e x l[j]=true):B++(l.take (j+1)).filterMap (zep h e (zf8 e) a x)=B++(l.take j).filterMap (zep h e (zf8 e) a x)++ [zzt h e a x l[j]]:=by
 rw [ysw hj (yko hb),List.append_assoc]
theorem yty {h:Hist} {e:Ev} {a:Nat} {B:List Conf} {x:Int} {l:List Int} {j:Nat} (hj:j < l.length) (hb:zq3 h e x l[j]=false):B++(l.take (j+1)).filterMap (zep h e (zf8 e) a x)=B++(l.take j).filterMap (zep h e (zf8 e) a x):=by
 rw [yol hj (ysf hb)]
theorem yr7 {h:Hist} (hc:u9 h=0) {e:Ev} (he:e∈h.evs):∃kn:Nat,1≤kn∧kn≤6∧e.kind=(kn:Int):=by
 obtain ⟨k1,k2,_⟩:=zcf (ze0 (zbj.1 hc) _ he)
 exact ⟨e.kind.toNat,by omega,by omega,by omega⟩
theorem yqc (h:Hist) (la:Lim 4611686018427387904 h) (hc:u9 h=0) (a:Nat) (ha:a < h.evs.length) (rc rl rk rg:Nat) (M:List ((Int×Int)×List Int)) (hM:zol h M) (W:List Res) {kn:Nat} (h1:1≤kn) (h6:kn≤6) (hk:h.evs[a].kind=(kn:Int)):y0 Tryz.prog (ygo kn) [.agg (rwP h rc rl rk rg),iv (a:Int)] (rgR rg M::rkS h rk::zbh h rl::rcR h rc:: .glob 2 156 y5:: .glob 4 305 y7:: .glob 5 308 y2:: .glob 3 246 u5::W) (fun r h'=>∃M',zol h M'∧h'=rgR rg M'::rkS h rk::zbh h rl::rcR h rc:: .glob 2 156 y5:: .glob 4 305 y7:: .glob 5 308 y2:: .glob 3 246 u5::W∧r=zi5 (u7 h h.evs[a] a)):=by
 have no:h.evs[a].kind≠3→h.evs[a].kind≠4→y0 Tryz.prog (.fn (.func 302) [] []) [.agg (rwP h rc rl rk rg),iv (a:Int)] (rgR rg M::rkS h rk::zbh h rl::rcR h rc:: .glob 2 156 y5:: .glob 4 305 y7:: .glob 5 308 y2:: .glob 3 246 u5::W) (fun r h'=>∃M',zol h M'∧h'=rgR rg M'::rkS h rk::zbh h rl::rcR h rc:: .glob 2 156 y5:: .glob 4 305 y7:: .glob 5 308 y2:: .glob 3 246 u5::W∧r=zi5 (u7 h h.evs[a] a)):=fun n3 n4=>
  y0.of_fun ((ybg h rc rl rk rg (a:Int) (rgR rg M::rkS h rk::zbh h rl::rcR h rc:: .glob 2 156 y5:: .glob 4 305 y7:: .glob 5 308 y2:: .glob 3 246 u5::W)).mono fun _ _ q=>⟨M,hM,q.1,by rw [q.2,u7,if_neg n3,if_neg n4]⟩)
 match kn,h1,h6 with
 |1,_,_=>exact no (by omega) (by omega)
 |2,_,_=>exact no (by omega) (by omega)
 |3,_,_=>exact y0.of_fun ((yqe h la hc a ha hk rc rl rk rg M W).mono fun _ _ q=>⟨M,hM,q.1,by rw [q.2,u7,if_pos (show h.evs[a].kind=3 from hk)]⟩)
 |4,_,_=>exact y0.of_fun ((yqd h la hc a ha hk rc rl rk rg M hM W).mono fun _ _ ⟨M',q1,q2,q3⟩=>⟨M',q1,q2,by rw [q3,u7,if_neg (by omega),if_pos (show h.evs[a].kind=4 from hk)]⟩)
 |5,_,_=>exact no (by omega) (by omega)
 |6,_,_=>exact no (by omega) (by omega)
 |n+7,_,h6=>omega
theorem yqh (h:Hist) (x r:Int) (h0:0≤x) (h1:x < h.os.length) (r1:1≤r) (r2:r≤5000) (e:Ev) (a:Nat) (bp be ba:Nat) (rc rl rk rg:Nat) (M:List ((Int×Int)×List Int)) (rO:Nat) (oK:Obj) (hK:KO oK) (W:List Res):y8 Tryz.prog 135 [iv x,iv r,pZ bp,pZ be,pZ ba] (.box be 60 (evR e):: .box ba 3 [iv (a:Int)]:: .box bp 119 (rwP h rc rl rk rg)::rgR rg M::rkS h rk::zbh h rl::rcR h rc:: .glob 2 156 y5:: .glob 4 305 y7:: .glob 5 308 y2:: .glob 3 246 u5:: .glob 1 175 zag:: .glob 0 171 [mpv rO]:: .obj rO oK::W) (fun r_ h'=>h'= .box be 60 (evR e):: .box ba 3 [iv (a:Int)]:: .box bp 119 (rwP h rc rl rk rg)::rgR rg M::rkS h rk::zbh h rl::rcR h rc:: .glob 2 156 y5:: .glob 4 305 y7:: .glob 5 308 y2:: .glob 3 246 u5:: .glob 1 175 zag:: .glob 0 171 [mpv rO]:: .obj rO oK::W∧r_= .tup [.agg (u0 (zzt h e a x r)),bv (zq3 h e x r)]):=by
 refine z6 Tryz.func135 rfl rfl rfl ?_
 refine rn ?_;refine z8 rfl (y4 rfl fun b7=> ?_)
 refine q1 ?_;refine u6 (zab ?_)
 refine w8 ?_;refine w8 (y3 ?_)
 refine q1 ?_;refine q1 ?_;refine q1 ?_;refine q1 ?_;refine qq rfl rfl (zax rfl rfl h0 (zxo h h0 h1)) ?_
 refine rn ?_;refine z7 rfl (fun hc17=> ?_) (fun hc17=> ?_)
 ·have hr:r > ((zb6 h x).length:Int):=by have q:=oT hc17;rw [oM] at q;exact q
  refine rn ?_;exact ze6 (.cons _ _ _ _ (.agg _ _ _ _ _ _ _ rfl inferInstance inferInstance inferInstance rfl) (.cons _ _ _ _ (.tmp _ _ rfl) .nil)) (.drop [_] _ _) ⟨rfl,by rw [zzt,zq3,if_pos hr,if_pos hr];rfl⟩
 ·have hr:¬r > ((zb6 h x).length:Int):=by have q:=oF hc17;rw [oM] at q;exact q
  have hk:(r - 1).toNat < (zb6 h x).length:=by omega
  have rr:((zb6 h x).map zar)[(r - 1).toNat]? =some (zar (zj5 h x r)):=by rw [zj5,List.getElem?_map,List.getElem?_eq_getElem hk];rfl
  refine zan ?_;refine zab ?_;refine w8 (y3 ?_)
  refine q1 ?_;refine q1 ?_;refine q1 ?_;refine qq rfl rfl (zax rfl rfl h0 (zxo h h0 h1)) ?_
  refine q1 ?_;refine q1 ?_;refine qq rfl rfl (zcb rfl rfl rfl (by omega)) ?_
  refine qq rfl rfl (zax rfl rfl (by omega) rr) ?_
  refine rn ?_;refine zen 23 [(b7,41,_)] rfl (List.perm_append_comm (l₁:= [_])) ?_
  refine dq rfl rfl qrA ?_;refine dq rfl rfl qrA ?_;refine dq rfl rfl qrA ?_;refine dq rfl rfl qrA ?_;refine dq rfl rfl qrA ?_;refine dq rfl rfl qrA ?_;refine dq rfl rfl (yhc (k:=e.kind) hK rfl rfl) ?_
  refine dq rfl rfl qrA ?_;refine dq rfl rfl qrA ?_;refine dq rfl rfl qrA ?_;refine dq rfl rfl qrA ?_;refine dq rfl rfl qrA ?_;refine dq rfl rfl (zcy (out:= [iv (zj5 h x r),iv x]) rfl (by rfl)) ?_
  refine dq rfl rfl (zhx (zcj (enc:=zbi) (k:=(zj5 h x r,x)) 0 rfl rfl) (show iv _=iv (zeg h (zj5 h x r) x) from congrArg iv (zwj _ _ _))) ?_
  refine dq rfl rfl qrA ?_;refine dq rfl rfl qrA ?_;refine dq rfl rfl qrA ?_;refine dq rfl rfl (zae (out:=u0 ⟨e.t,zj5 h x r,zvq e.kind,a,zeg h (zj5 h x r) x,x,e.p⟩) rfl (by rfl)) ?_
  refine rn ?_;refine dw 0 rfl rfl rfl rfl rfl (Nat.le_of_ble_eq_true rfl) ?_
  refine rn2 ?_;show zct _ _ _ _ _ _ ⟨_,.box b7 41 (u0 ⟨e.t,zj5 h x r,zvq e.kind,a,zeg h (zj5 h x r) x,x,e.p⟩):: .box be 60 (evR e):: .box ba 3 [iv (a:Int)]:: .box bp 119 (rwP h rc rl rk rg)::rgR rg M::rkS h rk::zbh h rl::rcR h rc:: .glob 2 156 y5:: .glob 4 305 y7:: .glob 5 308 y2:: .glob 3 246 u5:: .glob 1 175 zag:: .glob 0 171 [mpv rO]:: .obj rO oK::W,_⟩
  refine rn ?_;exact ze6 (.cons _ _ _ _ (.agg _ _ _ _ _ _ _ rfl inferInstance inferInstance inferInstance rfl) (.cons _ _ _ _ (.tmp _ _ rfl) .nil)) (.drop [_] _ _) ⟨rfl,by rw [zzt,zq3,if_neg hr,if_neg hr];rfl⟩
theorem zw2 (h:Hist) (a:Nat) (rc rl rk rg:Nat) (W:List Res):y8 Tryz.prog 88 [.agg (rwP h rc rl rk rg),iv (a:Int)] W (fun r h'=>∃ba bp,h'= .box ba 3 [iv (a:Int)]:: .box bp 119 (rwP h rc rl rk rg)::W∧r= .fn (.func 134) [] [pZ bp,pZ ba]):=by
 refine z6 Tryz.func88 rfl rfl rfl ?_
 refine rn ?_;refine z8 rfl (w9 rfl rfl rfl fun b2=> ?_)
 refine z8 rfl (w9 rfl rfl rfl fun b3=> ?_)
 refine rn ?_;exact k8 rfl (.refl _ _) ⟨_,_,rfl,rfl⟩
theorem zw1 {σ:Type} (h:Hist) (la:Lim 4611686018427387904 h) (hc:u9 h=0) (a:Nat) (ha:a < h.evs.length) (y:AV) (bp ba:Nat) (rc rl rk rg:Nat) (M0:List ((Int×Int)×List Int)) (hM0:zol h M0) (rO:Nat) (oK:Obj) (hK:KO oK) (p:List Conf→σ→Prop) (q:σ→Prop) (I:List Conf→σ→List Res) (X:σ→List Res) (x0:σ) (hp0:p [] x0) (hy:∀pre d rest x M,zci h h.evs[a] a=pre++d::rest→p pre x→zol h M→y0 Tryz.prog y [.agg (u0 d)] (.box ba 3 [iv (a:Int)]:: .box bp 119 (rwP h rc rl rk rg)::rgR rg M::rkS h rk::zbh h rl::rcR h rc:: .glob 2 156 y5:: .glob 4 305 y7:: .glob 5 308 y2:: .glob 3 246 u5:: .glob 1 175 zag:: .glob 0 171 [mpv rO]:: .obj rO oK::I pre x) (fun r h'=>∃x',(r=bv true∧p (pre++ [d]) x'∧h'= .box ba 3 [iv (a:Int)]:: .box bp 119 (rwP h rc rl rk rg)::rgR rg M::rkS h rk::zbh h rl::rcR h rc:: .glob 2 156 y5:: .glob 4 305 y7:: .glob 5 308 y2:: .glob 3 246 u5:: .glob 1 175 zag:: .glob 0 171 [mpv rO]:: .obj rO oK::I (pre++ [d]) x')∨(r=bv false∧q x'∧h'= .box ba 3 [iv (a:Int)]:: .box bp 119 (rwP h rc rl rk rg)::rgR rg M::rkS h rk::zbh h rl::rcR h rc:: .glob 2 156 y5:: .glob 4 305 y7:: .glob 5 308 y2:: .glob 3 246 u5:: .glob 1 175 zag:: .glob 0 171 [mpv rO]:: .obj rO oK::X x'))):y8 Tryz.prog 134 [y,pZ bp,pZ ba] (.box ba 3 [iv (a:Int)]:: .box bp 119 (rwP h rc rl rk rg)::rgR rg M0::rkS h rk::zbh h rl::rcR h rc:: .glob 2 156 y5:: .glob 4 305 y7:: .glob 5 308 y2:: .glob 3 246 u5:: .glob 1 175 zag:: .glob 0 171 [mpv rO]:: .obj rO oK::I [] x0) (fun r h'=>∃x M,zol h M∧((p (zci h h.evs[a] a) x∧h'= .box ba 3 [iv (a:Int)]:: .box bp 119 (rwP h rc rl rk rg)::rgR rg M::rkS h rk::zbh h rl::rcR h rc:: .glob 2 156 y5:: .glob 4 305 y7:: .glob 5 308 y2:: .glob 3 246 u5:: .glob 1 175 zag:: .glob 0 171 [mpv rO]:: .obj rO oK::I (zci h h.evs[a] a) x)∨(q x∧h'= .box ba 3 [iv (a:Int)]:: .box bp 119 (rwP h rc rl rk rg)::rgR rg M::rkS h rk::zbh h rl::rcR h rc:: .glob 2 156 y5:: .glob 4 305 y7:: .glob 5 308 y2:: .glob 3 246 u5:: .glob 1 175 zag:: .glob 0 171 [mpv rO]:: .obj rO oK::X x))):=by
 refine z6 Tryz.func134 rfl rfl rfl ?_
 have ra:=zaj (f:=evR) ha
 have hok:=seen_ok hc (List.getElem_mem ha) a
 have hol:=hok.1
 obtain ⟨kn,k1,k6,hkn⟩:=yr7 hc (List.getElem_mem ha)
 refine w8 (y3 ?_)
 refine q1 ?_;refine q1 ?_;refine q1 ?_;refine q1 ?_;refine qq rfl rfl (zca rfl rfl ra) ?_
 refine rn ?_;refine z8 rfl (y4 rfl fun b4=> ?_)
 first|refine z8 rfl (j9 rfl rfl rfl ?_)|refine z8 rfl (zao rfl rfl rfl rfl (Nat.le_of_ble_eq_true rfl) ?_)
 refine u6 (zab ?_)
 refine w8 ?_;refine w8 (y3 ?_)
 refine q1 ?_;refine q1 ?_;refine q1 ?_;refine q1 ?_;refine qq rfl rfl (zcj (enc:=intK) (k:=h.evs[a].t) false rfl rfl) ?_
 refine rn ?_;refine z7 rfl (fun hc23=> ?_) (fun hc23=> ?_)
 ·have hm:zga h.evs h.evs[a].t 5=false:=by rw [←zh5];simpa using hc23
  refine rn ?_;exact ze6 .nil (.drop [_] _ _) ⟨x0,M0,hM0,.inl ⟨by rw [ydt a hm];exact hp0,by rw [ydt a hm]⟩⟩
 ·have hm:zga h.evs h.evs[a].t 5=true:=by rw [←zh5];simpa using hc23
  refine zan ?_;refine rn0 ?_;refine w8 (y3 ?_)
  refine rn0 ?_;refine w8 ?_;refine ze5 9 [6] [7] (fun he=>∃M,he= .box b4 60 (evR h.evs[a]):: .box ba 3 [iv (a:Int)]:: .box bp 119 (rwP h rc rl rk rg)::rgR rg M::rkS h rk::zbh h rl::rcR h rc:: .glob 2 156 y5:: .glob 4 305 y7:: .glob 5 308 y2:: .glob 3 246 u5:: .glob 1 175 zag:: .glob 0 171 [mpv rO]:: .obj rO oK::I [] x0) rfl rfl ⟨_,rfl⟩ ?_
  refine jq rfl (fun he hC=>by obtain ⟨M,rfl⟩:=hC <;> exact qrA) ?_
  refine jq rfl (fun he hC=>by obtain ⟨M,rfl⟩:=hC <;> exact (by exact zhx (zac rfl rfl) (show iv _=iv (kn:Nat) from congrArg iv hkn))) ?_
  refine jq rfl (fun he hC=>by obtain ⟨M,rfl⟩:=hC <;> exact (by exact zak rfl rfl (by show kn < 7;omega))) ?_
  refine jq rfl (fun he hC=>by obtain ⟨M,rfl⟩:=hC <;> exact (by exact zac rfl (show zag[0+kn * 1]? =some (ygo kn) by rw [Nat.zero_add,Nat.mul_one];exact ygm k6))) ?_
  refine jq rfl (fun he hC=>by obtain ⟨M,rfl⟩:=hC <;> exact qrA) ?_
  refine jq rfl (fun he hC=>by obtain ⟨M,rfl⟩:=hC <;> exact qrA) ?_
  refine je rfl ?_;refine je rfl ?_;refine jq rfl (fun he hC=>by obtain ⟨M,rfl⟩:=hC <;> exact qrA) ?_
  refine zzs ?_;refine jce rfl fun u=> ?_
  refine v8 rfl rfl (y0.fr3 (yqc h la hc a ha rc rl rk rg M0 hM0 (.glob 1 175 zag:: .glob 0 171 [mpv rO]:: .obj rO oK::I [] x0) k1 k6 hkn)) rfl ?_
  rintro _ _ ⟨_,rfl,M,hM,rfl,rfl⟩
  refine ⟨_,_,rfl,⟨_,rfl⟩,?_⟩
  refine jcn ?_;refine lq rfl rfl (by exact qrA) ?_
  refine ln ?_;refine rn ?_;refine zia (u7 h h.evs[a] a).length (fun i (x:σ)=>p (((u7 h h.evs[a] a).take i).flatMap (rwF h h.evs[a] a)) x) (fun i x=>⟨[(33,iv i),(0,y),(5,.fn (.func 135) [] [pZ bp,pZ b4,pZ ba]),(31,zi5 (u7 h h.evs[a] a)),(32,iv ((u7 h h.evs[a] a).map zqk).length)],.box b4 60 (evR h.evs[a]):: .box ba 3 [iv (a:Int)]:: .box bp 119 (rwP h rc rl rk rg)::rgR rg M::rkS h rk::zbh h rl::rcR h rc:: .glob 2 156 y5:: .glob 4 305 y7:: .glob 5 308 y2:: .glob 3 246 u5:: .glob 1 175 zag:: .glob 0 171 [mpv rO]:: .obj rO oK::I (((u7 h h.evs[a] a).take i).flatMap (rwF h h.evs[a] a)) x,[]⟩) x0 hp0 es ?_
  intro i x li zi
  refine rn ?_;refine z7 rfl (fun hc34=> ?_) (fun hc34=> ?_)
  ·have hi:=za4 hc34
   have ri:=zaj (f:=zqk) hi
   obtain ⟨⟨o0,o1⟩,ol,orr⟩:=hok.2 _ (List.getElem_mem hi)
   refine rn ?_;refine z8 rfl (y4 rfl fun b7=> ?_)
   refine rn ?_;refine zia (u7 h h.evs[a] a)[i].2.length (fun j (x:σ)=>p ((((u7 h h.evs[a] a).take i).flatMap (rwF h h.evs[a] a))++((u7 h h.evs[a] a)[i].2.take j).filterMap (zep h h.evs[a] (zf8 h.evs[a]) a (u7 h h.evs[a] a)[i].1)) x) (fun j x=>⟨[(40,iv j),(0,y),(5,.fn (.func 135) [] [pZ bp,pZ b4,pZ ba]),(7,pZ b7),(31,zi5 (u7 h h.evs[a] a)),(32,iv ((u7 h h.evs[a] a).map zqk).length),(33,iv i),(38,zbe (u7 h h.evs[a] a)[i].2),(39,iv ((u7 h h.evs[a] a)[i].2.map zar).length)],.box b7 177 (zqk (u7 h h.evs[a] a)[i]):: .box b4 60 (evR h.evs[a]):: .box ba 3 [iv (a:Int)]:: .box bp 119 (rwP h rc rl rk rg)::rgR rg M::rkS h rk::zbh h rl::rcR h rc:: .glob 2 156 y5:: .glob 4 305 y7:: .glob 5 308 y2:: .glob 3 246 u5:: .glob 1 175 zag:: .glob 0 171 [mpv rO]:: .obj rO oK::I ((((u7 h h.evs[a] a).take i).flatMap (rwF h h.evs[a] a))++((u7 h h.evs[a] a)[i].2.take j).filterMap (zep h h.evs[a] (zf8 h.evs[a]) a (u7 h h.evs[a] a)[i].1)) x,[]⟩) x (by simpa using zi) (by simpa using eA) ?_
   intro j x lj zj
   refine rn ?_;refine z7 rfl (fun hc41=> ?_) (fun hc41=> ?_)
   ·have hj:=za4 hc41
    have rj:=zaj (f:=zar) hj
    obtain ⟨u1,u2⟩:=orr _ (List.getElem_mem hj)
    refine rn ?_;refine qv rfl rfl (y1 rfl rfl (y0.qt (y0.of_acall (fs:= []) (cs:= [pZ bp,pZ b4,pZ ba]) (yqh h (u7 h h.evs[a] a)[i].1 (u7 h h.evs[a] a)[i].2[j] o0 o1 u1 u2 h.evs[a] a bp b4 ba rc rl rk rg M rO oK hK (I ((((u7 h h.evs[a] a).take i).flatMap (rwF h h.evs[a] a))++((u7 h h.evs[a] a)[i].2.take j).filterMap (zep h h.evs[a] (zf8 h.evs[a]) a (u7 h h.evs[a] a)[i].1)) x))) (List.perm_append_comm (l₁:= [_])))) ?_
    refine rn ?_;refine z8 rfl (y4 rfl fun b10=> ?_)
    refine rn ?_;refine w7 (fun hg10_1=> ?_) (fun hg10_1=> ?_)
    ·refine q1 ?_;refine q1 ?_;obtain ⟨rest,hL⟩:=yqo hm hi hj (yko hg10_1)
     refine z8 rfl (v8 rfl rfl (y0.fr3 (hy ((((u7 h h.evs[a] a).take i).flatMap (rwF h h.evs[a] a))++((u7 h h.evs[a] a)[i].2.take j).filterMap (zep h h.evs[a] (zf8 h.evs[a]) a (u7 h h.evs[a] a)[i].1)) _ rest x M hL zj hM)) rfl ?_)
     rintro _ _ ⟨_,rfl,x',⟨rfl,hp',rfl⟩|⟨rfl,hq',rfl⟩⟩
     ·refine rn ?_;refine z7 rfl (fun hc58=> ?_) (fun hc58=> ?_)
      ·first|cases hc58|exact absurd hc58 (by decide)|(exfalso;simp_all;done)
      ·refine rn ?_;first|exact ⟨hj,x',by rw [ytx hj hg10_1];exact hp',by rw [ytx hj hg10_1];exact eA⟩|exact ⟨hj,x,by rw [yty hj hg10_1];exact zj,by rw [yty hj hg10_1];exact eA⟩
     ·refine rn ?_;refine z7 rfl (fun hc58=> ?_) (fun hc58=> ?_)
      ·refine rn ?_;exact ze6 .nil (.drop [_,_,_] _ _) ⟨x',M,hM,.inr ⟨hq',rfl⟩⟩
      ·first|cases hc58|exact absurd hc58 (by decide)|(exfalso;simp_all;done)
    ·refine rn ?_;refine zff rfl ?_;refine rn ?_;first|exact ⟨hj,x',by rw [ytx hj hg10_1];exact hp',by rw [ytx hj hg10_1];exact eA⟩|exact ⟨hj,x,by rw [yty hj hg10_1];exact zj,by rw [yty hj hg10_1];exact eA⟩
   ·have qj:=za5 hc41 lj
    refine rn ?_;exact ⟨hi,x,by rw [←yj2 hi qj];exact zj,by rw [←yj2 hi qj];exact eA⟩
  ·have qi:=za5 hc34 li
   refine rn ?_;exact zf3 .nil (.drop [_] _ _) ⟨x,M,hM,.inl ⟨by rw [zvx a hm];rw [qi,List.take_length] at zi;exact zi,by rw [zvx a hm,qi,List.take_length]⟩⟩
end Go.Proofs
set_option maxRecDepth 100000
namespace Go.Proofs.YtfmcbdjnmlcacaaGreatDoor
open Go Go.Ab Go.H Go.ChangeShapes Go.WideShapes Go.ChangeAt Go.RowKit
inductive Solid:AV→Prop
 |any:Solid .any
 |v (x:Value):Solid (.v x)
 |fn (f:Fn):Solid (.fn f [] [])
 |list (full:Bool) (sz:Nat) (rows:List (List AV)):0 < sz→(∀r∈rows,∀a∈r,Solid a)→Solid (.list full sz rows)
 |agg (cells:List AV):(∀a∈cells,Solid a)→Solid (.agg cells)
theorem znb {w:World} {O:Nat→Prop} {a:AV} {v:Value} (h:Rel w noX a v) (hs:Solid a) (hO:∀b,O b→∀c T fr,w.heap[b]? ≠some (.cells c T fr)):Rel w O a v:=by
 induction h with
 |any x=>exact .any x
 |v x=>exact .v x
 |lnil full sz a cap h=>exact .lnil full sz a cap h
 |list full sz rows b off cap g h1 h2 h3 h4 h5 h6 h7 ih=>
  cases hs with
  |list _ _ _ hsz hr=>
   cases rows with
   |nil=>exact .lnil _ _ _ _ (fun q=>by simpa using h1 q)
   |cons r0 rs=>
    have hb:¬O b:=fun hb=>by
     have h0:=h6 0 (by simp) 0 (by rw [h5 0 (by simp)];exact hsz)
     unfold World.cell? at h0
     split at h0
     ·rename_i hh;exact hO b hb _ _ _ hh
     ·cases h0
    exact .list full sz _ b off cap g h1 h2 hb h4 h5 h6 (fun i hi j hj=>ih i hi j hj (hr _ (List.getElem_mem hi) _ (List.getElem_mem hj)))
 |pp cells b off g h3 h4 h6 _ ih=>cases hs
 |rp a len cap sz i off=>cases hs
 |agg cells cs h1 h2 ih=>cases hs with|agg _ hc=>exact .agg _ _ h1 fun j a b=>ih j a b (hc _ (List.getElem_mem a))
 |tup cells cs h1 h2 ih=>cases hs
 |fn f fs cs fa ca h1 h2 h3 h4 ih1 ih2=>cases hs;exact .fn f [] [] fa ca h1 h2 (fun j h=>absurd h (Nat.not_lt_zero _)) (fun j h=>absurd h (Nat.not_lt_zero _))
theorem zdv {α:Type} {R:α→List AV} {f:Bool} {sz:Nat} (hsz:0 < sz) (h:∀x,∀a∈R x,Solid a) (l:List α):Solid (.list f sz (l.map R)):= .list _ _ _ hsz fun r hr a ha=>by
 obtain ⟨x,_,rfl⟩:=List.mem_map.1 hr
 exact h x a ha
theorem yay:∀x,∀a∈zar x,Solid a:=by
 intro x a ha
 simp only [zar,List.mem_cons,List.not_mem_nil,or_false] at ha
 rcases ha with rfl
 ·exact .v _
theorem zqh:∀x,∀a∈zid x,Solid a:=by
 intro x a ha
 simp only [zid,List.mem_cons,List.not_mem_nil,or_false] at ha
 rcases ha with rfl
 ·exact .v _
theorem ygf:∀x,∀a∈zaq x,Solid a:=by
 intro x a ha
 simp only [zaq,List.mem_cons,List.not_mem_nil,or_false] at ha
 rcases ha with rfl|rfl|rfl
 ·exact .v _
 ·exact .v _
 ·exact .v _
theorem yp6:∀x,∀a∈evR x,Solid a:=by
 intro x a ha
 simp only [evR,List.mem_cons,List.not_mem_nil,or_false] at ha
 rcases ha with rfl|rfl|rfl|rfl|rfl|rfl|rfl|rfl|rfl
 ·exact .v _
 ·exact .v _
 ·exact .v _
 ·exact .v _
 ·exact .v _
 ·exact .v _
 ·exact .v _
 ·exact .v _
 ·exact zdv (by decide) ygf _
theorem ylr:∀x,∀a∈ze7 x,Solid a:=by
 intro x a ha
 simp only [ze7,List.mem_cons,List.not_mem_nil,or_false] at ha
 rcases ha with rfl|rfl
 ·exact .v _
 ·exact zdv (by decide) yay _
theorem yls:∀x,∀a∈zes x,Solid a:=by
 intro x a ha
 simp only [zes,List.mem_cons,List.not_mem_nil,or_false] at ha
 rcases ha with rfl|rfl|rfl|rfl
 ·exact .v _
 ·exact .v _
 ·exact .v _
 ·exact zdv (by decide) yay _
theorem ylq:∀x,∀a∈zgq x,Solid a:=by
 intro x a ha
 simp only [zgq,List.mem_cons,List.not_mem_nil,or_false] at ha
 rcases ha with rfl|rfl
 ·exact .v _
 ·exact .v _
theorem ygh:∀x,∀a∈u0 x,Solid a:=by
 intro x a ha
 simp only [u0,List.mem_cons,List.not_mem_nil,or_false] at ha
 rcases ha with rfl|rfl|rfl|rfl|rfl|rfl|rfl
 ·exact .v _
 ·exact .v _
 ·exact .v _
 ·exact .v _
 ·exact .v _
 ·exact .v _
 ·exact .v _
theorem ygg (x:Hist):Solid (.agg (w6 x)):= .agg _ fun a ha=>by
 simp only [w6,List.mem_cons,List.not_mem_nil,or_false] at ha
 rcases ha with rfl|rfl|rfl|rfl|rfl|rfl|rfl|rfl
 ·exact zdv (by decide) zqh _
 ·exact zdv (by decide) zqh _
 ·exact zdv (by decide) zqh _
 ·exact zdv (by decide) zqh _
 ·exact zdv (by decide) yp6 _
 ·exact zdv (by decide) ylr _
 ·exact zdv (by decide) yls _
 ·exact zdv (by decide) ylq _
def zq0:List (String×DataW Unit):= [("unicode/utf8.acceptRanges",Rows.laid_unicode_utf8_acceptRanges),("yardarm/history.limits",Rows.laid_yardarm_history_limits),("yardarm/rules.asks",Rows.laid_yardarm_rules_asks),("yardarm/rw.sees",Rows.laid_yardarm_rw_sees),("yardarm/rw.kinds",Rows.laid_yardarm_rw_kinds),("unicode/utf8.first",Rows.laid_unicode_utf8_first)]
def yij:List (String×DataW Unit):= [("unicode/utf8.acceptRanges",Rows.laid_unicode_utf8_acceptRanges),("yardarm/history.limits",Rows.laid_yardarm_history_limits),("yardarm/rw.kinds",Rows.laid_yardarm_rw_kinds),("unicode/utf8.first",Rows.laid_unicode_utf8_first)]
theorem zxm:(zq0.filter fun x=>x.2.handleName?.isNone)=yij:=by kernel_rfl
theorem yii {W:World} (h:laidMetH Tryz.prog zq0 W):laidMet Tryz.prog yij W:=by
 have:=(laidMetH_iff.1 h).1
 rw [zxm] at this
 exact this
theorem ysj {w:World} (h:laidMetH Tryz.prog zq0 w):(Res.glob 3 246 u5).holds w noX:=by
 obtain ⟨g,t,cs,fuel,p,hg,ht,hv,hd⟩:=h.funcs (n:= "yardarm/rules.asks") (d:=yo3) (.tail _ (.tail _ (.head _)))
 obtain rfl:=Option.some.inj ((show Tryz.prog.globalNamed "yardarm/rules.asks" =some 3 by kernel_rfl).symm.trans hg)
 obtain rfl:=Option.some.inj ((show (Tryz.prog.globals[3]?).map (·.type)=some 246 by kernel_rfl).symm.trans ht)
 rw [ye3] at hd
 have c1:Tryz.prog.cellsOf 245=1:=by kernel_rfl
 have c11:Tryz.prog.cellsOf 246=11:=by kernel_rfl
 have hlen:cs.toList.length=11:=by
  obtain ⟨_,_,_,_,hl,_⟩:=DataW.trod_array Tryz.underlying246 hd
  rw [hl,c11]
 unfold World.var? at hv
 rw [hg] at hv
 simp only [Option.bind_some] at hv
 split at hv
 ·rename_i c T0 fr hh
  cases hv
  refine zq6 hh (by rw [show u5.length=11 from rfl];simpa using hlen.symm) fun j h1 h2=> ?_
  cases j with
  |zero=>exact .any _
  |succ k=>
   have hk:k < 10:=by have:u5.length=11:=rfl;omega
   obtain ⟨b,r,hn,hone,ha⟩:=yji k hk
   obtain ⟨f',d,q,e1,e2⟩:=Lib.array_elem Tryz.underlying246 hd (k+1) (by omega)
   have e1':d= .held (b::r):=by
    rw [List.getElem?_cons_succ,List.getElem?_map,List.getElem?_drop,Nat.add_comm 1 k,hn] at e1
    exact (Option.some.inj e1).symm
   subst e1'
   rw [c1,Nat.mul_one,List.drop_eq_getElem_cons (by simpa using h2),List.take_succ_cons,List.take_zero] at e2
   have:=func_of_trod (f0:=fnA.getD k 0) Tryz.underlying245 hone e2
   rw [Array.getElem_toList] at this
   rw [this,show u5[k+1]= .fn (.func (fnA.getD k 0)) [] [] from Option.some.inj ((List.getElem?_eq_getElem h1).symm.trans ha)]
   exact ykr _ _
 ·cases hv
def yly:DataW Unit:=match (Rows.laid_yardarm_rw_sees:DataW Unit) with| .iface _ d=>d|d=>d
def ycx:List (List UInt8):=match yly with| .agg ds=>ds.map (fun d=>match d with| .iface _ (.lit (.string b))=>b|_=> [])|_=> []
def nmS (k:Nat):List UInt8:=ycx.getD (k+1) []
theorem ya6:yly.funcsOut= .agg (.nil::(ycx.drop 1).map .held):=by kernel_rfl
def fnS:List Nat:= [302,302,303,304,302,302]
theorem ygl (k:Nat) (hk:k < 6):∃b r,ycx[k+1]? =some (b::r)∧((List.range Tryz.prog.funcs.size).filter fun f=>(Tryz.prog.funcs[f]?).any (·.name.toUTF8.data.toList==b::r))= [fnS.getD k 0]∧zag[k+1]? =some (.fn (.func (fnS.getD k 0)) [] []):=by
 match k,hk with
 |0,_=>exact ⟨(nmS 0).headD 0,(nmS 0).tail,by kernel_rfl,by kernel_rfl,by kernel_rfl⟩
 |1,_=>exact ⟨(nmS 1).headD 0,(nmS 1).tail,by kernel_rfl,by kernel_rfl,by kernel_rfl⟩
 |2,_=>exact ⟨(nmS 2).headD 0,(nmS 2).tail,by kernel_rfl,by kernel_rfl,by kernel_rfl⟩
 |3,_=>exact ⟨(nmS 3).headD 0,(nmS 3).tail,by kernel_rfl,by kernel_rfl,by kernel_rfl⟩
 |4,_=>exact ⟨(nmS 4).headD 0,(nmS 4).tail,by kernel_rfl,by kernel_rfl,by kernel_rfl⟩
 |5,_=>exact ⟨(nmS 5).headD 0,(nmS 5).tail,by kernel_rfl,by kernel_rfl,by kernel_rfl⟩
theorem yu5 {w:World} (h:laidMetH Tryz.prog zq0 w):(Res.glob 1 175 zag).holds w noX:=by
 obtain ⟨g,t,cs,fuel,p,hg,ht,hv,hd⟩:=h.funcs (n:= "yardarm/rw.sees") (d:=yly) (.tail _ (.tail _ (.tail _ (.head _))))
 obtain rfl:=Option.some.inj ((show Tryz.prog.globalNamed "yardarm/rw.sees" =some 1 by kernel_rfl).symm.trans hg)
 obtain rfl:=Option.some.inj ((show (Tryz.prog.globals[1]?).map (·.type)=some 175 by kernel_rfl).symm.trans ht)
 rw [ya6] at hd
 have c1:Tryz.prog.cellsOf 174=1:=by kernel_rfl
 have c7:Tryz.prog.cellsOf 175=7:=by kernel_rfl
 have hlen:cs.toList.length=7:=by
  obtain ⟨_,_,_,_,hl,_⟩:=DataW.trod_array Tryz.underlying175 hd
  rw [hl,c7]
 unfold World.var? at hv
 rw [hg] at hv
 simp only [Option.bind_some] at hv
 split at hv
 ·rename_i c T0 fr hh
  cases hv
  refine zq6 hh (by rw [show zag.length=7 from rfl];simpa using hlen.symm) fun j h1 h2=> ?_
  cases j with
  |zero=>exact .any _
  |succ k=>
   have hk:k < 6:=by have:zag.length=7:=rfl;omega
   obtain ⟨b,r,hn,hone,ha⟩:=ygl k hk
   obtain ⟨f',d,q,e1,e2⟩:=Lib.array_elem Tryz.underlying175 hd (k+1) (by omega)
   have e1':d= .held (b::r):=by
    rw [List.getElem?_cons_succ,List.getElem?_map,List.getElem?_drop,Nat.add_comm 1 k,hn] at e1
    exact (Option.some.inj e1).symm
   subst e1'
   rw [c1,Nat.mul_one,List.drop_eq_getElem_cons (by simpa using h2),List.take_succ_cons,List.take_zero] at e2
   have:=func_of_trod (f0:=fnS.getD k 0) Tryz.underlying174 hone e2
   rw [Array.getElem_toList] at this
   rw [this,show zag[k+1]= .fn (.func (fnS.getD k 0)) [] [] from Option.some.inj ((List.getElem?_eq_getElem h1).symm.trans ha)]
   exact ykr _ _
 ·cases hv
theorem zxp {H:Type} (x:Lit×DataW H):∀l:List (Lit×DataW H),(DataW.insert x l).Perm (x::l)
 | []=> .refl _
 |y::l=>by
  rw [DataW.insert]
  split
  ·exact .refl _
  ·exact ((zxp x l).cons y).trans (.swap x y l)
theorem zr4 {H:Type}:∀l:List (Lit×DataW H),(l.foldr DataW.insert []).Perm l
 | []=> .refl _
 |x::l=>(zxp x _).trans ((zr4 l).cons x)
theorem zxz {x:MapEntry} {n:Int} {F:∀y∈ [x],∃z,WideMaps.rd (H:=Unit) Tryz.prog 3 .i64 y=some z} (h:WideMaps.rg Unit Tryz.prog 3 .i64 x=(.int .i64 n,.lit (.int .i64 n))):x.key= .int .i64 n∧x.val= .int .i64 n:=by
 obtain ⟨y,hy⟩:=F x (by simp)
 rw [WideMaps.rg_of hy] at h
 subst h
 have hk:=WideMaps.rd_key hy
 obtain ⟨m,e1,e2,_⟩:=WideMaps.rd_val hy
 refine ⟨?_,?_⟩
 ·unfold keyOf mapKey at hk
  rw [Tryz.underlying3] at hk
  simp only at hk
  split at hk <;> simp_all
 ·rw [e1];simp at e2;rw [e2]
theorem yik {w:World} (h:Lib.VarReads Tryz.prog w "yardarm/rw.kinds" Rows.laid_yardarm_rw_kinds):∃rO oK,KO oK∧w.heap[rO]? =some oK∧(∃ents clock,oK= .map ents clock)∧(Res.glob 0 171 [mpv rO]).holds w noX:=by
 obtain ⟨g',t',cs,fuel,p,h1,h2,h3,h4⟩:=h
 obtain rfl:=Option.some.inj ((show Tryz.prog.globalNamed "yardarm/rw.kinds" =some 0 by kernel_rfl).symm.trans h1)
 obtain rfl:=Option.some.inj ((show (Tryz.prog.globals[0]?).map (·.type)=some 171 by kernel_rfl).symm.trans h2)
 rcases WideMaps.open_map Tryz.underlying171 Tryz.underlying3 h4 with ⟨_,e⟩|⟨b,es,clock,hcs,hb,_,F,e⟩
 ·cases e
 ·have hE:(es.toList.map (WideMaps.rg Unit Tryz.prog 3 .i64)).foldr DataW.insert []= [(.int .i64 3,.lit (.int .i64 3)),(.int .i64 4,.lit (.int .i64 4))]:=by
   have e1:=congrArg Prod.fst e
   have e2:(Rows.laid_yardarm_rw_kinds:DataW Unit)= .map [(.int .i64 3,.lit (.int .i64 3)),(.int .i64 4,.lit (.int .i64 4))]:=rfl
   rw [e2] at e1
   exact (DataW.map.inj e1).symm
  have hp:=zr4 (es.toList.map (WideMaps.rg Unit Tryz.prog 3 .i64))
  rw [hE] at hp
  have hlen:=hp.length_eq
  simp only [List.length_cons,List.length_nil,oM,Array.length_toList] at hlen
  obtain ⟨x1,x2,rfl⟩:∃x1 x2,es= #[x1,x2]:=by
   obtain ⟨l⟩:=es
   match l,hlen with
   | [a,b],_=>exact ⟨a,b,rfl⟩
  have hF:∀x∈ [x1,x2],∀y∈ [x],∃z,WideMaps.rd (H:=Unit) Tryz.prog 3 .i64 y=some z:=fun x hx y hy=>by
   rw [List.mem_singleton] at hy;subst hy;exact F.reads y hx
  have hko:KO (.map #[x1,x2] clock):=by
   have hp': [(Lit.int .i64 3,DataW.lit (H:=Unit) (.int .i64 3)),(.int .i64 4,.lit (.int .i64 4))].Perm [WideMaps.rg Unit Tryz.prog 3 .i64 x1,WideMaps.rg Unit Tryz.prog 3 .i64 x2]:=hp
   have hc:(WideMaps.rg Unit Tryz.prog 3 .i64 x1=(.int .i64 3,.lit (.int .i64 3))∧WideMaps.rg Unit Tryz.prog 3 .i64 x2=(.int .i64 4,.lit (.int .i64 4)))∨(WideMaps.rg Unit Tryz.prog 3 .i64 x1=(.int .i64 4,.lit (.int .i64 4))∧WideMaps.rg Unit Tryz.prog 3 .i64 x2=(.int .i64 3,.lit (.int .i64 3))):=by
    have m1:=hp'.mem_iff (a:=WideMaps.rg Unit Tryz.prog 3 .i64 x1)
    have m2:=hp'.mem_iff (a:=WideMaps.rg Unit Tryz.prog 3 .i64 x2)
    have m3:=hp'.mem_iff (a:=(Lit.int .i64 3,DataW.lit (H:=Unit) (.int .i64 3)))
    have m4:=hp'.mem_iff (a:=(Lit.int .i64 4,DataW.lit (H:=Unit) (.int .i64 4)))
    simp only [List.mem_cons,List.not_mem_nil,or_false,true_or,or_true,iff_true,true_iff] at m1 m2 m3 m4
    have hne:(Lit.int .i64 3,DataW.lit (H:=Unit) (.int .i64 3))≠(Lit.int .i64 4,DataW.lit (H:=Unit) (.int .i64 4)):=fun q=>by cases congrArg Prod.fst q
    rcases m1 with q1|q1 <;> rcases m2 with q2|q2
    ·rw [q1,q2] at m4;rcases m4 with q|q <;> exact absurd q.symm hne
    ·exact .inl ⟨q1,q2⟩
    ·exact .inr ⟨q1,q2⟩
    ·rw [q1,q2] at m3;rcases m3 with q|q <;> exact absurd q hne
   rcases hc with ⟨q1,q2⟩|⟨q1,q2⟩
   ·obtain ⟨k1,v1⟩:=zxz (F:=hF x1 (by simp)) q1
    obtain ⟨k2,v2⟩:=zxz (F:=hF x2 (by simp)) q2
    refine ⟨#[x1,x2],clock,[(3,3),(4,4)],rfl,by simp [k1,k2,intK],fun i h1 h2=> ?_,rfl,fun k=> ?_⟩
    ·match i,h1 with
     |0,_=>exact v1
     |1,_=>exact v2
    ·simp only [zbs,zvq]
     by_cases a:(3:Int)=k
     ·subst a;rfl
     ·by_cases b:(4:Int)=k
      ·subst b;rfl
      ·rw [if_neg a,if_neg b,if_neg (fun q=>a q.symm),if_neg (fun q=>b q.symm)];rfl
   ·obtain ⟨k1,v1⟩:=zxz (F:=hF x1 (by simp)) q1
    obtain ⟨k2,v2⟩:=zxz (F:=hF x2 (by simp)) q2
    refine ⟨#[x1,x2],clock,[(4,4),(3,3)],rfl,by simp [k1,k2,intK],fun i h1 h2=> ?_,rfl,fun k=> ?_⟩
    ·match i,h1 with
     |0,_=>exact v1
     |1,_=>exact v2
    ·simp only [zbs,zvq]
     by_cases b:(4:Int)=k
     ·subst b;rfl
     ·by_cases a:(3:Int)=k
      ·subst a;rfl
      ·rw [if_neg b,if_neg a,if_neg (fun q=>a q.symm),if_neg (fun q=>b q.symm)];rfl
  refine ⟨b,_,hko,hb,⟨_,_,rfl⟩,?_⟩
  unfold World.var? at h3
  rw [h1] at h3
  simp only [Option.bind_some] at h3
  split at h3
  ·rename_i c T0 fr hh
   cases h3
   have hcl:cs= #[Value.map (some b)]:=Array.toList_inj.1 hcs
   subst hcl
   refine zq6 hh rfl fun j j1 j2=> ?_
   match j,j1 with
   |0,_=>exact .v _
  ·cases h3
theorem zii {w:World} {g:Nat} {T:TypeId} {vs:List AV} {O:Nat→Prop} (h:(Res.glob g T vs).holds w noX) (hs:∀a∈vs,Solid a) (hO:∀b,O b→∀c T fr,w.heap[b]? ≠some (.cells c T fr)):(Res.glob g T vs).holds w O:=by
 obtain ⟨_,hlt,c,T0,fr,hh,hl,hr⟩:=h
 exact ⟨fun hb=>hO g hb _ _ _ hh,hlt,c,T0,fr,hh,hl,fun j j1 j2=>znb (hr j j1 j2) (hs _ (List.getElem_mem j1)) hO⟩
theorem yvt (rO:Nat) (oK:Obj):OO [.glob 2 156 y5,.glob 4 305 y7,.glob 5 308 y2,.glob 3 246 u5,.glob 1 175 zag,.glob 0 171 [mpv rO],.obj rO oK] noX=fun b=>b=rO:=by funext b;simp [OO,k7,noX,Res.own]
theorem zkm {vs:List AV} (h:(vs.all fun a=>match a with| .any=>true| .v _=>true| .fn _ [] []=>true|_=>false)=true):∀a∈vs,Solid a:=fun a ha=>by
 have:=List.all_eq_true.1 h a ha
 split at this
 ·exact .any
 ·exact .v _
 ·exact .fn _
 ·cases this
theorem zzr {W:World} (h:laidMetH Tryz.prog zq0 W):∃rO oK,KO oK∧HRel noX W [.glob 2 156 y5,.glob 4 305 y7,.glob 5 308 y2,.glob 3 246 u5,.glob 1 175 zag,.glob 0 171 [mpv rO],.obj rO oK]∧∀b,b=rO→∀c T fr,W.heap[b]? ≠some (.cells c T fr):=by
 have hm:=yii h
 obtain ⟨rO,oK,hK,hb,⟨ents,clock,rfl⟩,hgk⟩:=yik (Lib.laidMet.reads hm (.tail _ (.tail _ (.head _))))
 have hO:∀b,b=rO→∀c T fr,W.heap[b]? ≠some (.cells c T fr):=fun b e c T fr q=>by subst e;rw [hb] at q;cases q
 have k1:=yu8 (Lib.laidMet.reads hm (.tail _ (.head _)))
 have k2:=yu7 (Lib.laidMet.reads hm (.tail _ (.tail _ (.tail _ (.head _)))))
 have k3:=yu6 (Lib.laidMet.reads hm (.head _))
 refine ⟨rO,_,hK,⟨by simp [k7,Res.own],fun b hb'=> ?_,fun b hb=>hb.elim,fun r hr=> ?_⟩,hO⟩
 ·simp [k7,Res.own] at hb'
  subst hb'
  exact ⟨(Array.getElem?_eq_some_iff.1 hb).1,fun q=>q⟩
 ·rw [yvt]
  simp only [List.mem_cons,List.not_mem_nil,or_false] at hr
  rcases hr with rfl|rfl|rfl|rfl|rfl|rfl|rfl
  ·exact zii k1 (zkm (by rfl)) hO
  ·exact zii k2 (zkm (by kernel_rfl)) hO
  ·exact zii k3 (zkm (by kernel_rfl)) hO
  ·exact zii (ysj h) (zkm (by rfl)) hO
  ·exact zii (yu5 h) (zkm (by rfl)) hO
  ·exact zii hgk (zkm (by rfl)) hO
  ·exact ⟨hb,fun c T f q=>by cases q⟩
theorem yil {W W':World} {rO:Nat} {oK:Obj} (h1:HRel noX W [.glob 2 156 y5,.glob 4 305 y7,.glob 5 308 y2,.glob 3 246 u5,.glob 1 175 zag,.glob 0 171 [mpv rO],.obj rO oK]) (h2:HRel noX W' [.glob 2 156 y5,.glob 4 305 y7,.glob 5 308 y2,.glob 3 246 u5,.glob 1 175 zag,.glob 0 171 [mpv rO],.obj rO oK]) (hk:Keep (k7 [.glob 2 156 y5,.glob 4 305 y7,.glob 5 308 y2,.glob 3 246 u5,.glob 1 175 zag,.glob 0 171 [mpv rO],.obj rO oK]) W (k7 [.glob 2 156 y5,.glob 4 305 y7,.glob 5 308 y2,.glob 3 246 u5,.glob 1 175 zag,.glob 0 171 [mpv rO],.obj rO oK]) W'):Keep [] W [] W':=by
 have a1:=(h1.holds (.obj rO oK) (by simp)).1
 have a2:=(h2.holds (.obj rO oK) (by simp)).1
 refine ⟨hk.size,fun b hb _=>⟨?_,by simp⟩,hk.env⟩
 by_cases e:b=rO
 ·subst e;rw [a1,a2]
 ·exact (hk.same b hb (by simpa [k7,Res.own] using e)).1
def ynx:List (String×DataW Unit):= [("unicode/utf8.acceptRanges",Rows.laid_unicode_utf8_acceptRanges),("yardarm/history.limits",Rows.laid_yardarm_history_limits),("unicode/utf8.first",Rows.laid_unicode_utf8_first)]
def yub:List Value:= .nilFunc::fnS.map fun f=> .func (.func f) #[] #[]
noncomputable def wit60 (os:Os):World:={World.holding Tryz.prog os ⟨#[], #[],[]⟩ with heap:=((((World.holding Tryz.prog os ⟨#[], #[],[]⟩).heap.modify 3 (Lay.setRow yvo)).modify 1 (Lay.setRow yub)).modify 0 (Lay.setRow [.map (some 11)])).push (.map #[⟨.int .i64 3,.int .i64 3,0⟩,⟨.int .i64 4,.int .i64 4,1⟩] 2)}
noncomputable def wit6 (os:Os):World:=(wit60 os).layVars Tryz.prog ynx
theorem ylb (os:Os):(wit6 os).os=os:=World.layVars_os _ _ _
theorem yfw (os:Os) (args:Array Value):laidMetH Tryz.prog zq0 ((wit6 os).forCall (fun _ _=>0) ⟨#[],args,[]⟩).memory:=by
 refine laidMetH_of_parts3 (fuel:=8) ?_ (by kernel_rfl) (by kernel_rfl)
 rw [zxm]
 have h:laidMet Tryz.prog yij (wit6 os):=laidMet_layVars (w0:=wit60 os) (ynx.map (·.1)) [0,11] (by kernel_rfl) (by kernel_rfl) (by kernel_rfl) (by
  rw [show (yij.filter fun x=> !(ynx.map (·.1)).contains x.1)= [("yardarm/rw.kinds",Rows.laid_yardarm_rw_kinds)] by kernel_rfl];exact LaidIn.of_run [0,11] 8 (by kernel_rfl) (by kernel_rfl) (by kernel_rfl) (by kernel_rfl))
 exact h.of_heap (by simp [World.memory,World.forCall,Input.heap])
end Go.Proofs.YtfmcbdjnmlcacaaGreatDoor
set_option maxRecDepth 10000
namespace Go.Proofs
open Go Go.Ab
attribute [local irreducible] QR QV OE zct aw zdf zch zbm za3 thn zfl zd0 jch zfc
open Go.H
theorem zw9 {α:Type} (x1 x2 x3 x4 x5 x6 x7 x8 x9 x10 x11 x12 x13 x:α) (l:List α):(x1::x2::x3::x4::x5::x6::x7::x8::x9::x10::x11::x12::x13::x::l).Perm (x::x1::x2::x3::x4::x5::x6::x7::x8::x9::x10::x11::x12::x13::l):=(List.Perm.cons x1 (ypj x2 x3 x4 x5 x6 x7 x8 x9 x10 x11 x12 x13 x l)).trans (.swap x x1 _)
def cfz:Conf:=⟨0,0,0,0,0,0,0⟩
abbrev gC (c:Conf):AV:= .agg (u0 c)
instance:ZV (.agg #[.int .i64 0,.int .i64 0,.int .i64 0,.int .i64 0,.int .i64 0,.int .i64 0,.int .i64 0]) (gC cfz):=⟨fun w O u h=>by
 rw [h.v_eq]
 refine .agg _ _ rfl fun j h1 h2=> ?_
 match j,h1,h2 with
 |0,_,_=>exact .v _
 |1,_,_=>exact .v _
 |2,_,_=>exact .v _
 |3,_,_=>exact .v _
 |4,_,_=>exact .v _
 |5,_,_=>exact .v _
 |6,_,_=>exact .v _
 |j+7,h1,_=>exact absurd h1 (by show ¬j+7 < 7;omega)⟩
theorem yvu {n:Int} (h:n≠0):bv (n !=0)=bv true:=congrArg bv (by simpa using h)
theorem yvv:bv ((0:Int) !=0)=bv false:=rfl
theorem zyb {m:List ((Int×Int)×Conf)} {c:Conf} (h:(!(zbs (c.f,c.t) m).isSome)=true∨decide (zd8 c ((zbs (c.f,c.t) m).getD cfz) < 0)=true):zis m c=zew (c.f,c.t) c m:=by
 unfold zis
 rw [show zg8 c=(c.f,c.t) from rfl]
 cases hq:zbs (c.f,c.t) m with
 |none=>rfl
 |some b=>
  rw [hq] at h
  simp only
  rcases h with h|h
  ·simp at h
  ·rw [if_pos (by simpa using h)]
theorem yti {m:List ((Int×Int)×Conf)} {c:Conf} (h1:(!(zbs (c.f,c.t) m).isSome)=false) (h2:decide (zd8 c ((zbs (c.f,c.t) m).getD cfz) < 0)=false):zis m c=m:=by
 unfold zis
 rw [show zg8 c=(c.f,c.t) from rfl]
 cases hq:zbs (c.f,c.t) m with
 |none=>rw [hq] at h1;simp at h1
 |some b=>
  rw [hq] at h2
  simp only
  rw [if_neg (by simpa using h2)]
theorem ymc {h:Hist} {kd:Int} {j:Nat} (hj:j < h.evs.length) (hk:h.evs[j].kind=kd):zb5 h kd (j+1)=zb5 h kd j++zci h h.evs[j] j:=by
 rw [zb5,List.getElem?_eq_getElem hj];simp only;rw [if_pos (by simpa using hk)]
theorem ymd {h:Hist} {kd:Int} {j:Nat} (hj:j < h.evs.length) (hk:h.evs[j].kind≠kd):zb5 h kd (j+1)=zb5 h kd j:=by
 rw [zb5,List.getElem?_eq_getElem hj];simp only;rw [if_neg (by simpa using hk),List.append_nil]
theorem ym8 {a b n:Nat} (ha:a < n) (hb:b < n):a * n+b < n * n:=by
 have:(a+1) * n≤n * n:=Nat.mul_le_mul_right n ha
 rw [Nat.succ_mul] at this;omega
theorem yhm {a b c d n:Nat} (hb:b < n) (hd:d < n) (e:a * n+b=c * n+d):a=c∧b=d:=by
 have hn:0 < n:=by omega
 have h1:(a * n+b) / n=a:=by rw [Nat.add_comm,Nat.add_mul_div_right _ _ hn,Nat.div_eq_of_lt hb,Nat.zero_add]
 have h2:(c * n+d) / n=c:=by rw [Nat.add_comm,Nat.add_mul_div_right _ _ hn,Nat.div_eq_of_lt hd,Nat.zero_add]
 have:a=c:=by rw [←h1,←h2,e]
 subst this
 exact ⟨rfl,by omega⟩
theorem ycj {l:List (Int×Int)} {n:Nat} (hn:l.Nodup) (hb:∀p∈l,(0≤p.1∧p.1 < n)∧(0≤p.2∧p.2 < n)):l.length≤n * n:=by
 have h1:(l.map fun p=>p.1.toNat * n+p.2.toNat).Nodup:=by
  rw [List.Nodup,List.pairwise_map]
  refine List.Pairwise.imp_of_mem (fun {p q} hp hq hne e=>hne ?_) hn
  obtain ⟨⟨a0,a1⟩,b0,b1⟩:=hb p hp
  obtain ⟨⟨c0,c1⟩,d0,d1⟩:=hb q hq
  obtain ⟨e1,e2⟩:=yhm (by omega) (by omega) e
  exact Prod.ext (by omega) (by omega)
 have h2:=zmf (N:=n * n) h1 fun m hm=>by
  obtain ⟨p,hp,rfl⟩:=List.mem_map.1 hm
  obtain ⟨⟨a0,a1⟩,b0,b1⟩:=hb p hp
  exact ym8 (by omega) (by omega)
 rw [oM] at h2;exact h2
theorem ysv {h:Hist} (hs:za2 h=true) {i:Nat} (hi:i < h.evs.length) {z:Conf} (hz:z∈zci h h.evs[i] i):z.f=h.evs[i].t:=by
 by_cases h3:h.evs[i].kind=3
 ·obtain ⟨_,_,_,_,_,e,_⟩:=zst hs hi h3 hz;exact e
 ·by_cases h4:h.evs[i].kind=4
  ·obtain ⟨_,_,_,_,e,_⟩:=zsc hs hi h4 hz;exact e
  ·rw [zlm h3 h4] at hz;cases hz
theorem zz5 (l:List Conf):∀p∈zcs l,∃c∈l,p.1=zg8 c:=fun p hp=>by
 have hg:=(zj6 (k:=p.1) (v:=p.2) (zfy l)).2 hp
 have:=zyc l p.1
 rw [hg] at this
 exact ⟨p.2,this.2.1,this.1.symm⟩
theorem yjd {h:Hist} (hc:u9 h=0) (kd:Int):(zcs (zb5 h kd h.evs.length)).length≤9000000:=by
 have hs:=zbj.1 hc
 have hT:=(zez hc).ts
 have h1:=ycj (n:=h.ts.length) (zfy (zb5 h kd h.evs.length)) fun p hp=>by
  obtain ⟨q,hq,rfl⟩:=List.mem_map.1 hp
  obtain ⟨c,hc',e⟩:=zz5 _ q hq
  obtain ⟨j,hj,_,_,hf⟩:=(zsg (Nat.le_refl _)).1 hc'
  rw [e]
  have ht:=(zbn _ _).1 (zcf (ze0 hs _ (List.getElem_mem hj))).2.2.1
  exact ⟨by show 0≤c.f∧c.f < _;rw [ysv hs hj hf];exact ht,ysu hs hj hf⟩
 rw [oM] at h1
 exact Nat.le_trans h1 (Nat.mul_le_mul hT hT)
theorem zk2 {α β:Type} (f:α→List β) (c:Nat):∀l:List α,(∀a∈l,(f a).length≤c)→(l.flatMap f).length≤l.length * c
 | [],_=>by simp
 |a::l,hf=>by
  have:=zk2 f c l fun x hx=>hf x (List.mem_cons_of_mem _ hx)
  have:=hf a (by simp)
  rw [List.flatMap_cons,List.length_append,List.length_cons,Nat.succ_mul];omega
theorem zq9 {h:Hist} (hc:u9 h=0) {a:Nat} (ha:a < h.evs.length):(zci h h.evs[a] a).length≤16000000:=by
 obtain ⟨h1,h2⟩:=seen_ok hc (List.getElem_mem ha) a
 rw [zci]
 split
 ·refine Nat.le_trans (zk2 _ 4000 _ fun p hp=>Nat.le_trans (List.length_filterMap_le _ _) (h2 p hp).2.1) ?_
  omega
 ·exact Nat.zero_le _
def yfl (L:List ((Int×Int)×Conf)) (sn:List Nat):List Conf:=sn.reverse.map fun i=>((L[i]?).map Prod.snd).getD cfz
theorem zxb (L:List ((Int×Int)×Conf)) (sn:List Nat):(yfl L sn).length=sn.length:=by simp [yfl]
theorem yrg {L:List ((Int×Int)×Conf)} {i:Nat} {sn:List Nat} (hi:i < L.length):yfl L (i::sn)=yfl L sn++ [L[i].2]:=by
 simp [yfl,List.getElem?_eq_getElem hi]
theorem zza (L:List ((Int×Int)×Conf)):(List.range L.length).map (fun i=>((L[i]?).map Prod.snd).getD cfz)=L.map Prod.snd:=by
 refine List.ext_getElem (by simp) fun i h1 h2=> ?_
 simp at h1
 simp [List.getElem?_eq_getElem h1]
theorem ycq {L:List ((Int×Int)×Conf)} {sn:List Nat} (hn:sn.Nodup) (hl:∀i∈sn,i < L.length) (ha:∀i,i < L.length→i∈sn):(yfl L sn).Perm (L.map Prod.snd):=by
 rw [←zza,yfl]
 refine List.Perm.map _ ((List.reverse_perm sn).trans ?_)
 exact (List.perm_ext_iff_of_nodup hn List.nodup_range).2 fun i=>by rw [List.mem_range];exact ⟨hl i,ha i⟩
def yfi (h:Hist) (kd:Int):List Conf:=if u9 h=0 then zmd h kd else []
theorem ybj {h:Hist} {kd:Int} (hc:u9 h=0):yfi h kd=zmd h kd:=by rw [yfi,if_pos hc]
theorem yqi {h:Hist} {kd:Int} (hc:u9 h≠0):yfi h kd= []:=by rw [yfi,if_neg hc]
theorem yon {h:Hist} (hc:u9 h=0) {kd:Int} (hk:kd=3∨kd=4) {sn:List Nat} (hn:sn.Nodup) (hl:∀i∈sn,i < (zcs (zb5 h kd h.evs.length)).length) (ha:∀i,i < (zcs (zb5 h kd h.evs.length)).length→i∈sn):
 zkl zd8 (yfl (zcs (zb5 h kd h.evs.length)) sn)=yfi h kd:=by
 rw [ybj hc]
 exact (zm8 (zbj.1 hc) hk (ycq hn hl ha)).trans (zm8 (zbj.1 hc) hk (.refl _)).symm
theorem yl9 (h:Hist) (la:Lim 4611686018427387904 h) (rO:Nat) (oK:Obj):y8 Tryz.prog 87 [.agg (w6 h)] (.glob 2 156 y5:: .glob 4 305 y7:: .glob 5 308 y2:: .glob 3 246 u5:: .glob 1 175 zag:: .glob 0 171 [mpv rO]:: .obj rO oK:: []) (fun r h'=>(u9 h=0∧∃rc rl rk rg,h'=rgR rg []::rkS h rk::zbh h rl::rcR h rc:: .glob 2 156 y5:: .glob 4 305 y7:: .glob 5 308 y2:: .glob 3 246 u5:: .glob 1 175 zag:: .glob 0 171 [mpv rO]:: .obj rO oK:: []∧r= .tup [.agg (rwP h rc rl rk rg),iv 0])∨(u9 h≠0∧h'= .glob 2 156 y5:: .glob 4 305 y7:: .glob 5 308 y2:: .glob 3 246 u5:: .glob 1 175 zag:: .glob 0 171 [mpv rO]:: .obj rO oK:: []∧r= .tup [.agg (zti++ [nmp,.v (.slice none 0 0),nmp,nmp,nmp]),iv (u9 h)])):=
 ((ywm h la).frame [.glob 1 175 zag,.glob 0 171 [mpv rO],.obj rO oK]).mono (by
   rintro _ _ ⟨_,rfl,⟨hc,rc,rl,rk,rg,rfl,rfl⟩|⟨hc,rfl,rfl⟩⟩
   ·exact .inl ⟨hc,rc,rl,rk,rg,rfl,rfl⟩
   ·exact .inr ⟨hc,rfl,rfl⟩)
theorem zsf (h:Hist) (la:Lim 4611686018427387904 h) (rO:Nat) (oK:Obj) (hK:KO oK) (kd:Int) (hkk:kd=3∨kd=4):y8 Tryz.prog 86 [.agg (w6 h),iv kd] (.glob 2 156 y5:: .glob 4 305 y7:: .glob 5 308 y2:: .glob 3 246 u5:: .glob 1 175 zag:: .glob 0 171 [mpv rO]:: .obj rO oK:: []) (fun r h'=>∃s:SV,h'= .row s.v 7 41 ((yfi h kd).map u0):: .glob 2 156 y5:: .glob 4 305 y7:: .glob 5 308 y2:: .glob 3 246 u5:: .glob 1 175 zag:: .glob 0 171 [mpv rO]:: .obj rO oK:: []∧r= .tup [.v s.v,iv (u9 h)]):=by
 refine z6 Tryz.func86 rfl rfl rfl ?_
 have be:=la.evs
 refine rn ?_;refine z8 rfl (w9 rfl rfl rfl fun b2=> ?_)
 refine q1 ?_;refine q1 ?_;refine u6 (zab ?_)
 refine w8 (y3 ?_)
 refine q1 ?_;refine z8 rfl (v8 rfl rfl (y0.fr1 (y0.of_fun (yl9 h la rO oK))) rfl ?_)
 rintro _ _ ⟨_,rfl,⟨hc,rc,rl,rk,rg,rfl,rfl⟩|⟨hc,rfl,rfl⟩⟩
 ·refine rn ?_;refine z8 rfl (y4 rfl fun b6=> ?_)
  refine rn ?_;refine z7 rfl (fun hc24=> ?_) (fun hc24=> ?_)
  ·first|cases hc24|exact absurd hc24 (by decide)|(exfalso;simp_all;done)
  ·refine rn ?_;refine z8 rfl (zbd (enc:=zbi) rfl fun bm=> ?_)
   refine z8 rfl (y4 rfl fun b8=> ?_)
   first|refine z8 rfl (j9 rfl rfl rfl ?_)|refine z8 rfl (zao rfl rfl rfl rfl (Nat.le_of_ble_eq_true rfl) ?_)
   refine u6 (zab ?_)
   refine w8 ?_;refine w8 (y3 ?_)
   show zct _ _ _ _ _ _ ⟨_,_:: .map bm (zas zbi (zbv gC (zcs (zb5 h kd 0))))::_,_⟩
   refine rn ?_;refine zia h.evs.length (fun _ (z:List ((Int×Int)×List Int)×List Nat)=>zol h z.1) (fun j z=>⟨[(31,iv j),(1,iv kd),(6,pZ b6),(8,pZ b8),(29,zre h.evs),(30,iv (h.evs.map evR).length)],.map bm (zas zbi (zbv gC (zcs (zb5 h kd j)))):: .box b8 166 [mpv bm]:: .box b6 119 (rwP h rc rl rk rg):: .box b2 28 (w6 h)::rgR rg z.1::rkS h rk::zbh h rl::rcR h rc:: .glob 2 156 y5:: .glob 4 305 y7:: .glob 5 308 y2:: .glob 3 246 u5:: .glob 1 175 zag:: .glob 0 171 [mpv rO]:: .obj rO oK::(z.2.map Res.defs),z.2⟩) ([],[]) (zmt h) (v7 (zap (pt1 _ _ _)) es) ?_
   rintro j ⟨M,dfs⟩ lj hM
   have hM:zol h M:=hM
   show aw _ _ _ _ _ ⟨[(31,iv j),(1,iv kd),(6,pZ b6),(8,pZ b8),(29,zre h.evs),(30,iv (h.evs.map evR).length)],.map bm (zas zbi (zbv gC (zcs (zb5 h kd j)))):: .box b8 166 [mpv bm]:: .box b6 119 (rwP h rc rl rk rg):: .box b2 28 (w6 h)::rgR rg M::rkS h rk::zbh h rl::rcR h rc:: .glob 2 156 y5:: .glob 4 305 y7:: .glob 5 308 y2:: .glob 3 246 u5:: .glob 1 175 zag:: .glob 0 171 [mpv rO]:: .obj rO oK::(dfs.map Res.defs),dfs⟩
   refine rn ?_;refine z7 rfl (fun hc32=> ?_) (fun hc32=> ?_)
   ·have hj:=za4 hc32
    have rj:=zaj (f:=evR) hj
    refine rn ?_;refine z8 rfl (y4 rfl fun b10=> ?_)
    refine rn ?_;refine z7 rfl (fun hc39=> ?_) (fun hc39=> ?_)
    ·have hw:zb5 h kd (j+1)=zb5 h kd j:=ymd hj (by simpa using hc39)
     refine rn ?_;exact ⟨hj,(M,dfs),hM,by simp only;rw [hw];exact eA⟩
    ·have hkd:h.evs[j].kind=kd:=by simpa using hc39
     have hw:=ymc hj hkd
     refine rn ?_;refine z8 rfl (v8 rfl rfl (y0.of_fun (zw2 h j rc rl rk rg _)) rfl ?_)
     rintro _ _ ⟨ba,bp,rfl,rfl⟩
     refine rn ?_;refine zoy (fun pend h''=>pend=none∧∃M,zol h M∧h''= .box ba 3 [iv (j:Nat)]:: .box bp 119 (rwP h rc rl rk rg)::rgR rg M::rkS h rk::zbh h rl::rcR h rc:: .glob 2 156 y5:: .glob 4 305 y7:: .glob 5 308 y2:: .glob 3 246 u5:: .glob 1 175 zag:: .glob 0 171 [mpv rO]:: .obj rO oK:: .box b10 60 (evR h.evs[j]):: .map bm (zas zbi (zbv gC (zcs ((zb5 h kd j)++zci h h.evs[j] j)))):: .box b8 166 [mpv bm]:: .box b6 119 (rwP h rc rl rk rg):: .box b2 28 (w6 h)::(dfs.map Res.defs)) rfl (fun fn l q lp hlp=> ?_) (fun q h'' hK=> ?_) (fun q h'' c hK=> ?_)
     ·suffices hy:∀pre d rest (x:Unit) M,zci h h.evs[j] j=pre++d::rest→True→zol h M→y0 Tryz.prog (yv l) [.agg (u0 d)] (.box ba 3 [iv (j:Nat)]:: .box bp 119 (rwP h rc rl rk rg)::rgR rg M::rkS h rk::zbh h rl::rcR h rc:: .glob 2 156 y5:: .glob 4 305 y7:: .glob 5 308 y2:: .glob 3 246 u5:: .glob 1 175 zag:: .glob 0 171 [mpv rO]:: .obj rO oK::lp .ready none:: .defs q:: .box b10 60 (evR h.evs[j]):: .map bm (zas zbi (zbv gC (zcs ((zb5 h kd j)++pre)))):: .box b8 166 [mpv bm]:: .box b6 119 (rwP h rc rl rk rg):: .box b2 28 (w6 h)::(dfs.map Res.defs)) (fun r h'=>∃x':Unit,(r=bv true∧True∧h'= .box ba 3 [iv (j:Nat)]:: .box bp 119 (rwP h rc rl rk rg)::rgR rg M::rkS h rk::zbh h rl::rcR h rc:: .glob 2 156 y5:: .glob 4 305 y7:: .glob 5 308 y2:: .glob 3 246 u5:: .glob 1 175 zag:: .glob 0 171 [mpv rO]:: .obj rO oK::lp .ready none:: .defs q:: .box b10 60 (evR h.evs[j]):: .map bm (zas zbi (zbv gC (zcs ((zb5 h kd j)++(pre++ [d]))))):: .box b8 166 [mpv bm]:: .box b6 119 (rwP h rc rl rk rg):: .box b2 28 (w6 h)::(dfs.map Res.defs))∨(r=bv false∧False∧h'= .box ba 3 [iv (j:Nat)]:: .box bp 119 (rwP h rc rl rk rg)::rgR rg M::rkS h rk::zbh h rl::rcR h rc:: .glob 2 156 y5:: .glob 4 305 y7:: .glob 5 308 y2:: .glob 3 246 u5:: .glob 1 175 zag:: .glob 0 171 [mpv rO]:: .obj rO oK:: [])) by
       have hq:=zw1 h la hc j hj (yv l) bp ba rc rl rk rg M hM rO oK hK (fun _ (_:Unit)=>True) (fun _=>False) (fun pre _=>lp .ready none:: .defs q:: .box b10 60 (evR h.evs[j]):: .map bm (zas zbi (zbv gC (zcs ((zb5 h kd j)++pre)))):: .box b8 166 [mpv bm]:: .box b6 119 (rwP h rc rl rk rg):: .box b2 28 (w6 h)::(dfs.map Res.defs)) (fun _=> []) () trivial hy
       simp only [List.append_nil] at hq
       refine y8.mono (y8.perm ((pt2 _ _ _ _).trans (.cons _ ((pt2 _ _ _ _).trans (.cons _ ((pt7 _ _ _ _ _ _ _ _ _).trans (.cons _ ((pt7 _ _ _ _ _ _ _ _ _).trans (.cons _ ((pt7 _ _ _ _ _ _ _ _ _).trans (.cons _ ((pt7 _ _ _ _ _ _ _ _ _).trans (.cons _ ((pt7 _ _ _ _ _ _ _ _ _).trans (.cons _ ((pt7 _ _ _ _ _ _ _ _ _).trans (.cons _ ((pt7 _ _ _ _ _ _ _ _ _).trans (.cons _ ((pt7 _ _ _ _ _ _ _ _ _).trans (.cons _ ((pt7 _ _ _ _ _ _ _ _ _).trans (.cons _ ((pt7 _ _ _ _ _ _ _ _ _).trans (.cons _ (pt7 _ _ _ _ _ _ _ _ _))))))))))))))))))))))))) hq) ?_
       rintro _ _ ⟨x,M',hM',⟨-,rfl⟩|⟨hF,_⟩⟩
       ·exact ⟨none,.ready,_,((zw9 _ _ _ _ _ _ _ _ _ _ _ _ _ _ _).trans (.cons _ (zw9 _ _ _ _ _ _ _ _ _ _ _ _ _ _ _))),by simp,rfl,M',hM',rfl⟩
       ·exact hF.elim
      intro pre d rest x M hL _ hM
      refine y0.perm (zw9 _ _ _ _ _ _ _ _ _ _ _ _ _ _ _) (y0.ventE ?_)
      refine ze9 hlp rfl rfl ?_
      refine rn ?_;refine z8 rfl (y4 rfl fun b11=> ?_)
      refine rn ?_;refine ⟨[(11,pZ b11),(8,pZ b8)],.box b11 41 (u0 d):: .box ba 3 [iv (j:Nat)]:: .box bp 119 (rwP h rc rl rk rg)::rgR rg M::rkS h rk::zbh h rl::rcR h rc:: .glob 2 156 y5:: .glob 4 305 y7:: .glob 5 308 y2:: .glob 3 246 u5:: .glob 1 175 zag:: .glob 0 171 [mpv rO]:: .obj rO oK:: .defs q:: .box b10 60 (evR h.evs[j]):: .map bm (zas zbi (zbv gC (zcs ((zb5 h kd j)++pre)))):: .box b8 166 [mpv bm]:: .box b6 119 (rwP h rc rl rk rg):: .box b2 28 (w6 h)::(dfs.map Res.defs),v7 (zap (pt1 _ _ _)) es,?_⟩
      refine zb4 ?_;refine w8 (y3 ?_)
      refine q1 ?_;refine q1 ?_;refine q1 ?_;refine q1 ?_;refine qq rfl rfl (zcy (out:= [iv d.f,iv d.t]) rfl (by rfl)) ?_
      refine z8 rfl (y4 rfl fun b12=> ?_)
      first|refine z8 rfl (j9 rfl rfl rfl ?_)|refine z8 rfl (zao rfl rfl rfl rfl (Nat.le_of_ble_eq_true rfl) ?_)
      refine u6 (zab ?_)
      refine w8 (y3 ?_)
      refine q1 ?_;refine q1 ?_;refine qq rfl rfl (zhw (g:=gC) (enc:=zbi) (k:=(d.f,d.t)) cfz rfl rfl rfl) ?_
      refine rn ?_;refine z8 rfl (y4 rfl fun b13=> ?_)
      refine rn ?_;refine w7 (fun hg13_2=> ?_) (fun hg13_2=> ?_)
      ·refine rn ?_;refine z7 rfl (fun hc62=> ?_) (fun hc62=> ?_)
       ·have hb:zis (zcs ((zb5 h kd j)++pre)) d=zew (d.f,d.t) d (zcs ((zb5 h kd j)++pre)):=by first|exact zyb (.inl hg13_2)|exact zyb (.inr hc62)
        refine rn ?_;refine z8 rfl (za6 (g:=gC) (enc:=zbi) (k:=(d.f,d.t)) (v:=d) rfl rfl rfl ?_)
        refine rn ?_;exact zeu (pt2 _ _ _ _) ⟨_,_,.trans (.perm ((pt1 _ _ _).trans (.cons _ ((pt1 _ _ _).trans (.cons _ ((pt1 _ _ _).trans (.cons _ ((pt1 _ _ _).trans (.cons _ ((pt1 _ _ _).trans (.cons _ ((pt1 _ _ _).trans (.cons _ ((pt1 _ _ _).trans (.cons _ ((pt1 _ _ _).trans (.cons _ ((pt1 _ _ _).trans (.cons _ ((pt1 _ _ _).trans (.cons _ ((pt1 _ _ _).trans (.cons _ ((pt1 _ _ _).trans (.cons _ ((pt1 _ _ _).trans (.cons _ ((pt1 _ _ _).trans (.cons _ ((pt1 _ _ _).trans (.cons _ (pt1 _ _ _))))))))))))))))))))))))))))))) _) (.drop [_,_,_] _ _),(),.inl ⟨rfl,trivial,by rw [←List.append_assoc,zwa,hb]⟩⟩
       ·first|cases hc62|exact absurd hc62 (by decide)|(exfalso;simp_all;done)
      ·refine rn ?_;refine qv rfl rfl (y1 rfl rfl (j4 (zrv _ _) (Sbs.refl _))) ?_
       refine rn ?_;refine z7 rfl (fun hc62=> ?_) (fun hc62=> ?_)
       ·have hb:zis (zcs ((zb5 h kd j)++pre)) d=zew (d.f,d.t) d (zcs ((zb5 h kd j)++pre)):=by first|exact zyb (.inl hg13_2)|exact zyb (.inr hc62)
        refine rn ?_;refine z8 rfl (za6 (g:=gC) (enc:=zbi) (k:=(d.f,d.t)) (v:=d) rfl rfl rfl ?_)
        refine rn ?_;exact zeu (pt2 _ _ _ _) ⟨_,_,.trans (.perm ((pt1 _ _ _).trans (.cons _ ((pt1 _ _ _).trans (.cons _ ((pt1 _ _ _).trans (.cons _ ((pt1 _ _ _).trans (.cons _ ((pt1 _ _ _).trans (.cons _ ((pt1 _ _ _).trans (.cons _ ((pt1 _ _ _).trans (.cons _ ((pt1 _ _ _).trans (.cons _ ((pt1 _ _ _).trans (.cons _ ((pt1 _ _ _).trans (.cons _ ((pt1 _ _ _).trans (.cons _ ((pt1 _ _ _).trans (.cons _ ((pt1 _ _ _).trans (.cons _ ((pt1 _ _ _).trans (.cons _ ((pt1 _ _ _).trans (.cons _ (pt1 _ _ _))))))))))))))))))))))))))))))) _) (.drop [_,_,_] _ _),(),.inl ⟨rfl,trivial,by rw [←List.append_assoc,zwa,hb]⟩⟩
       ·have hb:zis (zcs ((zb5 h kd j)++pre)) d=(zcs ((zb5 h kd j)++pre)):=yti hg13_2 hc62
        refine rn ?_;exact zeu (pt2 _ _ _ _) ⟨_,_,.trans (.perm ((pt1 _ _ _).trans (.cons _ ((pt1 _ _ _).trans (.cons _ ((pt1 _ _ _).trans (.cons _ ((pt1 _ _ _).trans (.cons _ ((pt1 _ _ _).trans (.cons _ ((pt1 _ _ _).trans (.cons _ ((pt1 _ _ _).trans (.cons _ ((pt1 _ _ _).trans (.cons _ ((pt1 _ _ _).trans (.cons _ ((pt1 _ _ _).trans (.cons _ ((pt1 _ _ _).trans (.cons _ ((pt1 _ _ _).trans (.cons _ ((pt1 _ _ _).trans (.cons _ ((pt1 _ _ _).trans (.cons _ ((pt1 _ _ _).trans (.cons _ (pt1 _ _ _))))))))))))))))))))))))))))))) _) (.drop [_,_,_] _ _),(),.inl ⟨rfl,trivial,by rw [←List.append_assoc,zwa,hb]⟩⟩
     ·obtain ⟨_,M',hM',rfl⟩:=hK
      refine rn ?_;exact ⟨hj,(M',q::dfs),hM',by simp only;rw [hw];exact v7 (zap ((pt1 _ _ _).trans (.cons _ ((pt1 _ _ _).trans (.cons _ ((ypj _ _ _ _ _ _ _ _ _ _ _ _ _ _).trans (.cons _ ((ypj _ _ _ _ _ _ _ _ _ _ _ _ _ _).trans (.cons _ ((ypj _ _ _ _ _ _ _ _ _ _ _ _ _ _).trans (.cons _ ((ypj _ _ _ _ _ _ _ _ _ _ _ _ _ _).trans (.cons _ ((ypj _ _ _ _ _ _ _ _ _ _ _ _ _ _).trans (.cons _ ((pt1 _ _ _).trans (.cons _ ((pt1 _ _ _).trans (.cons _ ((pt1 _ _ _).trans (.cons _ ((pt1 _ _ _).trans (.cons _ ((pt1 _ _ _).trans (.cons _ ((pt1 _ _ _).trans (.cons _ ((pt1 _ _ _).trans (.cons _ ((pt1 _ _ _).trans (.cons _ ((pt1 _ _ _).trans (.cons _ ((pt1 _ _ _).trans (.cons _ (pt1 _ _ _)))))))))))))))))))))))))))))))))))) (v7 (zdw (h1:= [_,_,_])) es)⟩
     ·obtain ⟨hc',_⟩:=hK
      exact absurd hc' (by simp)
   ·have qj:=za5 hc32 lj
    subst qj
    refine rn ?_;have hbl:=yjd hc kd
    refine rn ?_;refine z8 rfl (zs3 rfl rfl fun b68=> ?_)
    refine rn ?_;refine zai (fun x:List Nat×SV=>x.1.Nodup∧∀i∈x.1,i < (zcs (zb5 h kd h.evs.length)).length) (fun x=>⟨[(68,pZ b68),(15,.v x.2.v)],.mapr bm (zas zbi (zbv gC (zcs (zb5 h kd h.evs.length)))) b68 x.1:: .row x.2.v 7 41 ((yfl (zcs (zb5 h kd h.evs.length)) x.1).map u0):: .box b8 166 [mpv bm]:: .box b6 119 (rwP h rc rl rk rg):: .box b2 28 (w6 h)::rgR rg M::rkS h rk::zbh h rl::rcR h rc:: .glob 2 156 y5:: .glob 4 305 y7:: .glob 5 308 y2:: .glob 3 246 u5:: .glob 1 175 zag:: .glob 0 171 [mpv rO]:: .obj rO oK::(dfs.map Res.defs),dfs⟩) (fun x=>(zcs (zb5 h kd h.evs.length)).length - x.1.length) ([],⟨none,0,0⟩) ⟨.nil,fun i hi=>(by cases hi)⟩ (v7 (zam 7 41) (v7 (zap (pt1 _ _ _)) es)) ?_
    rintro ⟨sn,s⟩ ⟨hsn,hsl⟩
    simp only at hsn hsl
    refine w8 (y3 ?_)
    refine z8 rfl (zvg rfl rfl (fun hall=> ?_) (fun i hi hni=> ?_))
    ·refine rn ?_;refine z7 rfl (fun hc70=> ?_) (fun hc70=> ?_)
     ·first|cases hc70|exact absurd hc70 (by decide)|(exfalso;simp_all;done)
     ·refine rn ?_;have hsb:=zqj hsn hsl
      refine rn ?_;refine z8 rfl (v8 rfl rfl (y0.lendG (y0.of_fun (yge (yfl (zcs (zb5 h kd h.evs.length)) sn) (.fn (.func 39) [] []) rfl zd8 (fun x y=>y0.of_fun (zrv x y)) (by rw [zxb];omega))) (by rintro _ _ ⟨s,rfl,rfl⟩;exact ⟨.v _,fun x hx=>by rw [List.mem_singleton.1 hx];exact zwz (zw0 _)⟩) (BLe.refl _ _) (by exact ⟨zld,BLe.refl _ _,trivial⟩)) rfl ?_)
      rintro _ _ ⟨_,rfl,s2,rfl,rfl⟩
      refine rn ?_;exact zi7 (List.perm_append_comm (l₁:= [_,_,_,_,_,_,_,_,_,_,_,_,_,_,_,_,_]) (l₂:=(dfs.map Res.defs))) (.cons _ _ _ _ (.tmp _ _ rfl) (.cons _ _ _ _ (.tmp _ _ rfl) .nil)) (.trans (.perm ((pt1 _ _ _).trans (.cons _ ((pt1 _ _ _).trans (.cons _ ((pt1 _ _ _).trans (.cons _ ((pt1 _ _ _).trans (.cons _ ((pt1 _ _ _).trans (.cons _ ((pt1 _ _ _).trans (.cons _ ((pt1 _ _ _).trans (.cons _ ((pt1 _ _ _).trans (.cons _ (pt1 _ _ _))))))))))))))))) _) (.drop [_,_,_,_,_,_,_,_,_] _ _)) ⟨s2,by rw [yon hc hkk hsn hsl (fun i hi=>hall i (by simpa [zas,zbv] using hi))],by rw [hc];rfl⟩
    ·refine rn ?_;refine z7 rfl (fun hc70=> ?_) (fun hc70=> ?_)
     ·refine zan ?_;refine zab ?_;refine zb4 ?_;refine w8 (y3 ?_)
      have hi2:i < (zcs (zb5 h kd h.evs.length)).length:=by simpa [zas,zbv] using hi
      refine qq rfl rfl (ycb (k:=zbi (zcs (zb5 h kd h.evs.length))[i].1) (a:=gC (zcs (zb5 h kd h.evs.length))[i].2) hi (by simp [zas,zbv]) (by simp [zas,zbv]) rfl) ?_
      refine rn ?_;refine z8 rfl (y4 rfl fun b17=> ?_)
      refine rn ?_;refine qv rfl rfl (q6 rfl rfl) ?_
      refine z8 rfl (q7 rfl rfl (by have:=zqj hsn hsl;simp only [oM,zxb,List.length_cons,List.length_nil];omega) rfl (fun s76=> ?_) (za8 [(zcs (zb5 h kd h.evs.length))[i].2]))
      refine j3 s76 fun sv hsv=> ?_
      subst hsv
      refine rn ?_;have hnd:(i::sn).Nodup:=List.nodup_cons.2 ⟨hni,hsn⟩
      have hal:∀j∈i::sn,j < (zcs (zb5 h kd h.evs.length)).length:=fun j hj=>(List.mem_cons.1 hj).elim (fun q=>q ▸ hi2) (hsl j)
      have hlen:=zqj hnd hal
      exact ⟨(i::sn,sv),⟨hnd,hal⟩,by simp only;rw [yrg hi2,List.map_append];exact eA,by simp only [List.length_cons] at hlen ⊢;omega⟩
     ·first|cases hc70|exact absurd hc70 (by decide)|(exfalso;simp_all;done)
 ·refine rn ?_;refine z8 rfl (y4 rfl fun b6=> ?_)
  refine rn ?_;refine z7 rfl (fun hc24=> ?_) (fun hc24=> ?_)
  ·refine rn ?_;exact zb9 rfl rfl (.trans (.drop [_,_] _ _) (zal 7 41 _)) ⟨⟨none,0,0⟩,by rw [yqi hc];rfl,rfl⟩
  ·first|cases hc24|exact absurd hc24 (by decide)|(exfalso;simp_all;done)
theorem ywo (h:Hist) (la:Lim 4611686018427387904 h) (rO:Nat) (oK:Obj) (hK:KO oK):y8 Tryz.prog 86 [.agg (w6 h),iv 3] (.glob 2 156 y5:: .glob 4 305 y7:: .glob 5 308 y2:: .glob 3 246 u5:: .glob 1 175 zag:: .glob 0 171 [mpv rO]:: .obj rO oK:: []) (fun r h'=>h'= .glob 2 156 y5:: .glob 4 305 y7:: .glob 5 308 y2:: .glob 3 246 u5:: .glob 1 175 zag:: .glob 0 171 [mpv rO]:: .obj rO oK:: []∧r= .tup [zej (yfi h 3),iv (u9 h)]):=(zsf h la rO oK hK 3 (by decide)).ventR (by rintro _ _ ⟨s,rfl,rfl⟩;exact ⟨_,_,zbk [] [_],rfl,rfl⟩)
theorem yqg (h:Hist) (la:Lim 4611686018427387904 h) (rO:Nat) (oK:Obj) (hK:KO oK):y8 Tryz.prog 32 [.agg (w6 h)] (.glob 2 156 y5:: .glob 4 305 y7:: .glob 5 308 y2:: .glob 3 246 u5:: .glob 1 175 zag:: .glob 0 171 [mpv rO]:: .obj rO oK:: []) (fun r h'=>h'= .glob 2 156 y5:: .glob 4 305 y7:: .glob 5 308 y2:: .glob 3 246 u5:: .glob 1 175 zag:: .glob 0 171 [mpv rO]:: .obj rO oK:: []∧r= .tup [zej (yfi h 3),iv (u9 h)]):=by
 refine z6 Tryz.func32 rfl rfl rfl ?_
 refine rn ?_;refine z8 rfl (w9 rfl rfl rfl fun b1=> ?_)
 refine rn ?_;refine qv rfl rfl (y1 rfl rfl (y0.qt (y0.of_fun (ywo h la rO oK hK)) ((pt1 _ _ _).trans (.cons _ ((pt1 _ _ _).trans (.cons _ ((pt1 _ _ _).trans (.cons _ ((pt1 _ _ _).trans (.cons _ ((pt1 _ _ _).trans (.cons _ ((pt1 _ _ _).trans (.cons _ (pt1 _ _ _))))))))))))))) ?_
 refine rn ?_;exact zb9 rfl rfl (.drop [_] _ _) ⟨rfl,rfl⟩
theorem ywn (h:Hist) (la:Lim 4611686018427387904 h) (rO:Nat) (oK:Obj) (hK:KO oK):y8 Tryz.prog 86 [.agg (w6 h),iv 4] (.glob 2 156 y5:: .glob 4 305 y7:: .glob 5 308 y2:: .glob 3 246 u5:: .glob 1 175 zag:: .glob 0 171 [mpv rO]:: .obj rO oK:: []) (fun r h'=>h'= .glob 2 156 y5:: .glob 4 305 y7:: .glob 5 308 y2:: .glob 3 246 u5:: .glob 1 175 zag:: .glob 0 171 [mpv rO]:: .obj rO oK:: []∧r= .tup [zej (yfi h 4),iv (u9 h)]):=(zsf h la rO oK hK 4 (by decide)).ventR (by rintro _ _ ⟨s,rfl,rfl⟩;exact ⟨_,_,zbk [] [_],rfl,rfl⟩)
theorem yl6 (h:Hist) (la:Lim 4611686018427387904 h) (rO:Nat) (oK:Obj) (hK:KO oK):y8 Tryz.prog 33 [.agg (w6 h)] (.glob 2 156 y5:: .glob 4 305 y7:: .glob 5 308 y2:: .glob 3 246 u5:: .glob 1 175 zag:: .glob 0 171 [mpv rO]:: .obj rO oK:: []) (fun r h'=>h'= .glob 2 156 y5:: .glob 4 305 y7:: .glob 5 308 y2:: .glob 3 246 u5:: .glob 1 175 zag:: .glob 0 171 [mpv rO]:: .obj rO oK:: []∧r= .tup [zej (yfi h 4),iv (u9 h)]):=by
 refine z6 Tryz.func33 rfl rfl rfl ?_
 refine rn ?_;refine z8 rfl (w9 rfl rfl rfl fun b1=> ?_)
 refine rn ?_;refine qv rfl rfl (y1 rfl rfl (y0.qt (y0.of_fun (ywn h la rO oK hK)) ((pt1 _ _ _).trans (.cons _ ((pt1 _ _ _).trans (.cons _ ((pt1 _ _ _).trans (.cons _ ((pt1 _ _ _).trans (.cons _ ((pt1 _ _ _).trans (.cons _ ((pt1 _ _ _).trans (.cons _ (pt1 _ _ _))))))))))))))) ?_
 refine rn ?_;exact zb9 rfl rfl (.drop [_] _ _) ⟨rfl,rfl⟩
theorem ask_c {h:Hist} {x n:Int} (hc:u9 h≠0):zhk h x n=u9 h:=by rw [zhk,if_neg hc]
theorem yd6 {f g:Bool} (l m:List Conf) (hl:l.length≤4611686018427387904) (hm:m.length≤4611686018427387904):y8 Tryz.prog 19 [.list f 7 (l.map u0),.list g 7 (m.map u0)] [] (fun r h'=>h'= []∧r=bv (eqF zek l m)):=by
 refine z6 Tryz.func19 rfl rfl rfl ?_
 refine rn ?_;refine z7 rfl (fun hc10=> ?_) (fun hc10=> ?_)
 ·refine rn ?_;have hne:(l.length==m.length)=false:=beq_eq_false_iff_ne.2 fun q=>by simp [q] at hc10
  exact k8 rfl (.refl _ _) ⟨rfl,by rw [eqF,hne,Bool.false_and];rfl⟩
 ·have hlm:l.length=m.length:=by simp at hc10;omega
  refine rn ?_;refine zai (fun k:Nat=>k≤l.length∧zru zek l m=zru zek (l.drop k) (m.drop k)) (fun k=>⟨[(13,iv k),(0,.list f 7 (l.map u0)),(1,.list g 7 (m.map u0)),(12,iv (l.map u0).length)],[],[]⟩) (fun k=>l.length - k) 0 ⟨Nat.zero_le _,by simp⟩
   (u3 (.cons _ _ _ rfl (.cons _ _ _ rfl (.cons _ _ _ rfl (.cons _ _ _ rfl (.nil)))))) ?_
  rintro k ⟨hk,hz⟩
  refine rn ?_;refine z7 rfl (fun hc14=> ?_) (fun hc14=> ?_)
  ·have hk2:k < l.length:=by simpa using hc14
   have hk3:k < m.length:=by omega
   have hrow1:(l.map u0)[k]? =some (u0 l[k]):=by simp [hk2]
   have hrow2:(m.map u0)[k]? =some (u0 m[k]):=by simp [hk3]
   have hd1:=List.drop_eq_getElem_cons hk2
   have hd2:=List.drop_eq_getElem_cons hk3
   refine rn ?_;refine k9 8 rfl ?_
   refine rn ?_;refine z7 rfl (fun hc24=> ?_) (fun hc24=> ?_)
   ·refine rn ?_;exact k8 rfl (.refl _ _) ⟨rfl,by rw [eqF,hz,hd1,hd2,zru,show zek l[k] m[k]=false from ycu hc24,Bool.false_and,Bool.and_false];rfl⟩
   ·refine rn ?_;exact ⟨k+1,⟨by omega,by rw [hz,hd1,hd2,zru,show zek l[k] m[k]=true from ycv hc24,Bool.true_and]⟩,(u3 (.cons _ _ _ rfl (.cons _ _ _ rfl (.cons _ _ _ rfl (.cons _ _ _ rfl (.nil)))))),by omega⟩
  ·have hk3:k=l.length:=by
    have:l.length≤k:=by simpa using hc14
    omega
   refine rn ?_;exact k8 rfl (.refl _ _) ⟨rfl,by rw [eqF,hz,hk3,List.drop_length,zp7,hlm,beq_self_eq_true];rfl⟩
theorem ys7 {f g:Bool} (l:List Conf) (hl:l.length≤4611686018427387904):y8 Tryz.prog 19 [.list f 7 (l.map u0),.list g 7 (l.map u0)] [] (fun r h'=>h'= []∧r=bv true):=(yd6 l l hl hl).mono fun _ _ q=>⟨q.1,by rw [q.2,yd7 zc4];simp⟩
def RwJ (h:Hist) (c:Conf):Prop:=u9 h=0∧∃a:Nat,c.a=(a:Int)∧∃ha:a < h.evs.length,c∈zci h h.evs[a] a
theorem ybi {h:Hist} {c:Conf} (hc:u9 h≠0):¬RwJ h c:=fun q=>hc q.1
theorem zux {h:Hist} {c:Conf} (hn:c.a < 0∨(h.evs.length:Int)≤c.a):¬RwJ h c:=fun ⟨_,a,e,ha,_⟩=>by omega
theorem yqf {h:Hist} {c:Conf} {a:Nat} (e:c.a=(a:Int)) (ha:a < h.evs.length) (hm:¬c∈zci h h.evs[a] a):¬RwJ h c:=fun ⟨_,b,e2,hb,hq⟩=>by
 have:b=a:=by omega
 subst this;exact hm hq
theorem yma {h:Hist} {c:Conf} {a:Nat} (hc:u9 h=0) (e:c.a=(a:Int)) (ha:a < h.evs.length) (hm:c∈zci h h.evs[a] a):RwJ h c:=⟨hc,a,e,ha,hm⟩
def rwJ (h:Hist) (c:Conf):Bool:=decide (u9 h=0) && (decide (0≤c.a) && match h.evs[c.a.toNat]? with
 |some e=>decide (c∈zci h e c.a.toNat)
 |none=>false)
theorem ybh {h:Hist} {c:Conf}:rwJ h c=true ↔ RwJ h c:=by
 rw [rwJ,Bool.and_eq_true,Bool.and_eq_true,decide_eq_true_iff,decide_eq_true_iff]
 constructor
 ·rintro ⟨h1,h2,h3⟩
  split at h3
  ·rename_i e he
   obtain ⟨hl,rfl⟩:=List.getElem?_eq_some_iff.1 he
   exact ⟨h1,c.a.toNat,by omega,hl,oT h3⟩
  ·cases h3
 ·rintro ⟨h1,a,e,ha,hm⟩
  refine ⟨h1,by omega,?_⟩
  rw [show c.a.toNat=a by omega,List.getElem?_eq_getElem ha]
  exact decide_eq_true hm
theorem ymb {h:Hist} {c:Conf} (q:RwJ h c):rwJ h c=true:=ybh.2 q
theorem zjr {h:Hist} {c:Conf} (q:¬RwJ h c):rwJ h c=false:=Bool.eq_false_iff.2 fun e=>q (ybh.1 e)
def OvB (h:Hist) (n:Int):Prop:=∃a:Nat,n=(a:Int)∧∃ha:a < h.evs.length,zga h.evs h.evs[a].t 5=true∧(h.evs[a].kind=3∨h.evs[a].kind=4)
theorem yhr {h:Hist} {n:Int} (q:n < 0):¬OvB h n:=fun ⟨a,e,_⟩=>by omega
theorem yhq {h:Hist} {n:Int} (q:(h.evs.length:Int)≤n):¬OvB h n:=fun ⟨a,e,ha,_⟩=>by omega
theorem yhp {h:Hist} {a:Nat} (ha:a < h.evs.length) (q:zga h.evs h.evs[a].t 5=false):¬OvB h (a:Int):=fun ⟨b,e,hb,q1,_⟩=>by
 have:b=a:=by omega
 subst this;rw [q] at q1;cases q1
theorem yho {h:Hist} {a:Nat} (ha:a < h.evs.length) (q3:h.evs[a].kind≠3) (q4:h.evs[a].kind≠4):¬OvB h (a:Int):=fun ⟨b,e,hb,_,q1⟩=>by
 have:b=a:=by omega
 subst this;exact q1.elim q3 q4
def ovB (h:Hist) (n:Int):Bool:=decide (0≤n) && match h.evs[n.toNat]? with
 |some e=>zga h.evs e.t 5 && (e.kind==3||e.kind==4)
 |none=>false
theorem ycp {h:Hist} {n:Int}:ovB h n=true ↔ OvB h n:=by
 rw [ovB,Bool.and_eq_true,decide_eq_true_iff]
 constructor
 ·rintro ⟨h2,h3⟩
  split at h3
  ·rename_i e he
   obtain ⟨hl,rfl⟩:=List.getElem?_eq_some_iff.1 he
   rw [Bool.and_eq_true,Bool.or_eq_true,beq_iff_eq,beq_iff_eq] at h3
   exact ⟨n.toNat,by omega,hl,h3.1,h3.2⟩
  ·cases h3
 ·rintro ⟨a,e,ha,hm,hk⟩
  refine ⟨by omega,?_⟩
  rw [show n.toNat=a by omega,List.getElem?_eq_getElem ha]
  simp only
  rw [hm,Bool.true_and,Bool.or_eq_true,beq_iff_eq,beq_iff_eq];exact hk
def ovC (h:Hist) (n:Int):Int:=if u9 h=0 then (if ovB h n=true then 0 else 2) else u9 h
def ovO (h:Hist) (n:Int):List Int:=if ovC h n=0 then (match h.evs[n.toNat]? with|some e=>yrf h e n.toNat|none=> []) else []
theorem yv0 {h:Hist} {n:Int} (hc:u9 h≠0):ovC h n=u9 h∧ovO h n= []:=by
 have e:ovC h n=u9 h:=by rw [ovC,if_neg hc]
 exact ⟨e,by rw [ovO,e,if_neg hc]⟩
theorem yka {h:Hist} {n:Int} (hc:u9 h=0) (hn:¬OvB h n):ovC h n=2∧ovO h n= []:=by
 have e:ovC h n=2:=by rw [ovC,if_pos hc,if_neg fun q=>hn (ycp.1 q)]
 exact ⟨e,by rw [ovO,e];rfl⟩
theorem ytz {h:Hist} {a:Nat} (hc:u9 h=0) (ha:a < h.evs.length) (hn:OvB h (a:Int)):ovC h (a:Int)=0∧ovO h (a:Int)=yrf h h.evs[a] a:=by
 have e:ovC h (a:Int)=0:=by rw [ovC,if_pos hc,if_pos (ycp.2 hn)]
 refine ⟨e,?_⟩
 rw [ovO,if_pos e,show ((a:Nat):Int).toNat=a from rfl,List.getElem?_eq_getElem ha]
theorem yvk {d c:Conf} (q:zek d c=true):d=c:=by rw [zc4] at q;exact oT q
theorem yvj {d c:Conf} (q:zek d c=false):¬d=c:=by rw [zc4] at q;exact oF q
theorem yj1 (h:Hist) (la:Lim 4611686018427387904 h) (rO:Nat) (oK:Obj) (hK:KO oK) (c:Conf):y8 Tryz.prog 40 [.agg (w6 h),.agg (u0 c)] (.glob 2 156 y5:: .glob 4 305 y7:: .glob 5 308 y2:: .glob 3 246 u5:: .glob 1 175 zag:: .glob 0 171 [mpv rO]:: .obj rO oK:: []) (fun r h'=>h'= .glob 2 156 y5:: .glob 4 305 y7:: .glob 5 308 y2:: .glob 3 246 u5:: .glob 1 175 zag:: .glob 0 171 [mpv rO]:: .obj rO oK:: []∧r=bv (rwJ h c)):=by
 refine z6 Tryz.func40 rfl rfl rfl ?_
 refine rn ?_;refine z8 rfl (w9 rfl rfl rfl fun b2=> ?_)
 refine z8 rfl (w9 rfl rfl rfl fun b3=> ?_)
 refine z8 rfl (y4 rfl fun b4=> ?_)
 refine u6 (zab ?_)
 refine w8 (y3 ?_)
 refine q1 ?_;refine z8 rfl (v8 rfl rfl (y0.fr3 (y0.of_fun (yl9 h la rO oK))) rfl ?_)
 rintro _ _ ⟨_,rfl,⟨hc,rc,rl,rk,rg,rfl,rfl⟩|⟨hc,rfl,rfl⟩⟩
 ·refine rn ?_;refine z8 rfl (y4 rfl fun b5=> ?_)
  first|refine z8 rfl (j9 rfl rfl rfl ?_)|refine z8 rfl (zao rfl rfl rfl rfl (Nat.le_of_ble_eq_true rfl) ?_)
  refine q1 ?_;refine u6 (zab ?_)
  refine w8 ?_;refine w8 (y3 ?_)
  refine q1 ?_;first|refine qq rfl rfl (zhx (zc9 rfl rfl rfl) (yvu hc)) ?_|refine qq rfl rfl (zhx (zc9 rfl rfl rfl) yvv) ?_
  refine rn ?_;refine w7 (fun hg2_7=> ?_) (fun hg2_7=> ?_)
  ·refine rn ?_;refine z7 rfl (fun hc27=> ?_) (fun hc27=> ?_)
   ·try have hge:(h.evs.length:Int)≤c.a:=by have q:=oT hc27;rw [oM] at q;omega
    refine rn ?_;first|exact ze6 (.cons _ _ _ _ (.one _ _ _ _ _ _ _ rfl inferInstance inferInstance rfl) .nil) (.drop [_,_,_,_] _ _) ⟨rfl,congrArg bv (zjr (ybi hc)).symm⟩|exact ze6 (.cons _ _ _ _ (.one _ _ _ _ _ _ _ rfl inferInstance inferInstance rfl) .nil) (.drop [_,_,_,_,_,_,_,_] _ _) ⟨rfl,congrArg bv (zjr (zux (.inl (oT hg2_7)))).symm⟩|exact ze6 (.cons _ _ _ _ (.one _ _ _ _ _ _ _ rfl inferInstance inferInstance rfl) .nil) (.drop [_,_,_,_,_,_,_,_] _ _) ⟨rfl,congrArg bv (zjr (zux (.inr hge))).symm⟩
   ·first|cases hc27|exact absurd hc27 (by decide)|(exfalso;simp_all;done)
  ·refine rn ?_;refine z7 rfl (fun hc27=> ?_) (fun hc27=> ?_)
   ·try have hge:(h.evs.length:Int)≤c.a:=by have q:=oT hc27;rw [oM] at q;omega
    refine rn ?_;first|exact ze6 (.cons _ _ _ _ (.one _ _ _ _ _ _ _ rfl inferInstance inferInstance rfl) .nil) (.drop [_,_,_,_] _ _) ⟨rfl,congrArg bv (zjr (ybi hc)).symm⟩|exact ze6 (.cons _ _ _ _ (.one _ _ _ _ _ _ _ rfl inferInstance inferInstance rfl) .nil) (.drop [_,_,_,_,_,_,_,_] _ _) ⟨rfl,congrArg bv (zjr (zux (.inl (oT hg2_7)))).symm⟩|exact ze6 (.cons _ _ _ _ (.one _ _ _ _ _ _ _ rfl inferInstance inferInstance rfl) .nil) (.drop [_,_,_,_,_,_,_,_] _ _) ⟨rfl,congrArg bv (zjr (zux (.inr hge))).symm⟩
   ·have h0:0≤c.a:=by have q:=oF hg2_7;omega
    have h1:c.a < h.evs.length:=by have q:=oF hc27;rw [oM] at q;omega
    obtain ⟨a,hca⟩:∃a:Nat,c.a=(a:Int):=⟨c.a.toNat,by omega⟩
    have ha:a < h.evs.length:=by omega
    refine zan ?_;refine zab ?_;refine w8 ?_;refine w8 (y3 ?_)
    refine q1 ?_;refine q1 ?_;refine qq rfl rfl (zhx (zac rfl rfl) (show iv _=iv (a:Nat) from congrArg iv hca)) ?_
    refine z8 rfl (v8 rfl rfl (y0.of_fun (zw2 h a rc rl rk rg _)) rfl ?_)
    rintro _ _ ⟨ba,bp,rfl,rfl⟩
    refine rn ?_;refine zoy (fun pend h''=>(pend=none∧(¬c∈(zci h h.evs[a] a))∧∃M,h''= .box ba 3 [iv (a:Nat)]:: .box bp 119 (rwP h rc rl rk rg)::rgR rg M::rkS h rk::zbh h rl::rcR h rc:: .glob 2 156 y5:: .glob 4 305 y7:: .glob 5 308 y2:: .glob 3 246 u5:: .glob 1 175 zag:: .glob 0 171 [mpv rO]:: .obj rO oK:: .box b5 119 (rwP h rc rl rk rg):: .box b4 4 [bv false]:: .box b3 41 (u0 c):: .box b2 28 (w6 h):: [])∨(pend=some .ret∧c∈(zci h h.evs[a] a)∧∃M,h''= .box ba 3 [iv (a:Nat)]:: .box bp 119 (rwP h rc rl rk rg)::rgR rg M::rkS h rk::zbh h rl::rcR h rc:: .glob 2 156 y5:: .glob 4 305 y7:: .glob 5 308 y2:: .glob 3 246 u5:: .glob 1 175 zag:: .glob 0 171 [mpv rO]:: .obj rO oK:: .box b5 119 (rwP h rc rl rk rg):: .box b4 4 [bv true]:: .box b3 41 (u0 c):: .box b2 28 (w6 h):: [])) rfl (fun fn l q lp hlp=> ?_) (fun q h'' hK'=> ?_) (fun q h'' cc hK'=> ?_)
    ·suffices hy:∀pre d rest (x:Unit) M,zci h h.evs[a] a=pre++d::rest→(¬c∈pre)→zol h M→y0 Tryz.prog (yv l) [.agg (u0 d)] (.box ba 3 [iv (a:Nat)]:: .box bp 119 (rwP h rc rl rk rg)::rgR rg M::rkS h rk::zbh h rl::rcR h rc:: .glob 2 156 y5:: .glob 4 305 y7:: .glob 5 308 y2:: .glob 3 246 u5:: .glob 1 175 zag:: .glob 0 171 [mpv rO]:: .obj rO oK::lp .ready none:: .defs q:: .box b5 119 (rwP h rc rl rk rg):: .box b4 4 [bv false]:: .box b3 41 (u0 c):: .box b2 28 (w6 h):: []) (fun r h'=>∃x':Unit,(r=bv true∧(¬c∈pre++ [d])∧h'= .box ba 3 [iv (a:Nat)]:: .box bp 119 (rwP h rc rl rk rg)::rgR rg M::rkS h rk::zbh h rl::rcR h rc:: .glob 2 156 y5:: .glob 4 305 y7:: .glob 5 308 y2:: .glob 3 246 u5:: .glob 1 175 zag:: .glob 0 171 [mpv rO]:: .obj rO oK::lp .ready none:: .defs q:: .box b5 119 (rwP h rc rl rk rg):: .box b4 4 [bv false]:: .box b3 41 (u0 c):: .box b2 28 (w6 h):: [])∨(r=bv false∧c∈(zci h h.evs[a] a)∧h'= .box ba 3 [iv (a:Nat)]:: .box bp 119 (rwP h rc rl rk rg)::rgR rg M::rkS h rk::zbh h rl::rcR h rc:: .glob 2 156 y5:: .glob 4 305 y7:: .glob 5 308 y2:: .glob 3 246 u5:: .glob 1 175 zag:: .glob 0 171 [mpv rO]:: .obj rO oK::lp .done (some .ret):: .defs q:: .box b5 119 (rwP h rc rl rk rg):: .box b4 4 [bv true]:: .box b3 41 (u0 c):: .box b2 28 (w6 h):: [])) by
      refine y8.mono (y8.perm ((pt2 _ _ _ _).trans (.cons _ ((pt2 _ _ _ _).trans (.cons _ ((pt6 _ _ _ _ _ _ _ _).trans (.cons _ ((pt6 _ _ _ _ _ _ _ _).trans (.cons _ ((pt6 _ _ _ _ _ _ _ _).trans (.cons _ ((pt6 _ _ _ _ _ _ _ _).trans (.cons _ ((pt6 _ _ _ _ _ _ _ _).trans (.cons _ ((pt6 _ _ _ _ _ _ _ _).trans (.cons _ ((pt6 _ _ _ _ _ _ _ _).trans (.cons _ ((pt6 _ _ _ _ _ _ _ _).trans (.cons _ ((pt6 _ _ _ _ _ _ _ _).trans (.cons _ ((pt6 _ _ _ _ _ _ _ _).trans (.cons _ (pt6 _ _ _ _ _ _ _ _))))))))))))))))))))))))) (zw1 h la hc a ha (yv l) bp ba rc rl rk rg [] (zmt h) rO oK hK (fun pre (_:Unit)=>¬c∈pre) (fun _=>c∈(zci h h.evs[a] a)) (fun _ _=>lp .ready none:: .defs q:: .box b5 119 (rwP h rc rl rk rg):: .box b4 4 [bv false]:: .box b3 41 (u0 c):: .box b2 28 (w6 h):: []) (fun _=>lp .done (some .ret):: .defs q:: .box b5 119 (rwP h rc rl rk rg):: .box b4 4 [bv true]:: .box b3 41 (u0 c):: .box b2 28 (w6 h):: []) () (by simp) hy)) ?_
      rintro _ _ ⟨x,M,hM,⟨hn,rfl⟩|⟨hn,rfl⟩⟩
      ·exact ⟨none,.ready,_,((zw9 _ _ _ _ _ _ _ _ _ _ _ _ _ _ _).trans (.cons _ (zw9 _ _ _ _ _ _ _ _ _ _ _ _ _ _ _))),by simp,.inl ⟨rfl,hn,M,rfl⟩⟩
      ·exact ⟨some .ret,.done,_,((zw9 _ _ _ _ _ _ _ _ _ _ _ _ _ _ _).trans (.cons _ (zw9 _ _ _ _ _ _ _ _ _ _ _ _ _ _ _))),by simp,.inr ⟨rfl,hn,M,rfl⟩⟩
     intro pre d rest x M hL hpre hM
     refine y0.perm (zw9 _ _ _ _ _ _ _ _ _ _ _ _ _ _ _) (y0.ventE ?_)
     refine ze9 hlp rfl rfl ?_
     refine rn ?_;refine z8 rfl (y4 rfl fun b7=> ?_)
     refine rn ?_;refine ⟨[(7,pZ b7),(3,pZ b3),(4,pZ b4)],.box b7 41 (u0 d):: .box ba 3 [iv (a:Nat)]:: .box bp 119 (rwP h rc rl rk rg)::rgR rg M::rkS h rk::zbh h rl::rcR h rc:: .glob 2 156 y5:: .glob 4 305 y7:: .glob 5 308 y2:: .glob 3 246 u5:: .glob 1 175 zag:: .glob 0 171 [mpv rO]:: .obj rO oK:: .defs q:: .box b5 119 (rwP h rc rl rk rg):: .box b4 4 [bv false]:: .box b3 41 (u0 c):: .box b2 28 (w6 h):: [],v7 (zap (pt1 _ _ _)) es,?_⟩
     refine rn ?_;refine z7 rfl (fun hc35=> ?_) (fun hc35=> ?_)
     ·have hz:d=c:=yvk hc35
      refine rn ?_;exact zu1 (.refl _) ⟨_,_,.trans (.perm ((pt1 _ _ _).trans (.cons _ ((pt1 _ _ _).trans (.cons _ ((pt1 _ _ _).trans (.cons _ ((pt1 _ _ _).trans (.cons _ ((pt1 _ _ _).trans (.cons _ ((pt1 _ _ _).trans (.cons _ ((pt1 _ _ _).trans (.cons _ ((pt1 _ _ _).trans (.cons _ ((pt1 _ _ _).trans (.cons _ ((pt1 _ _ _).trans (.cons _ ((pt1 _ _ _).trans (.cons _ ((pt1 _ _ _).trans (.cons _ ((pt1 _ _ _).trans (.cons _ (pt1 _ _ _))))))))))))))))))))))))))) _) (.drop [_] _ _),(),.inr ⟨rfl,by rw [hL,←hz];simp,rfl⟩⟩
     ·have hz:¬d=c:=yvj hc35
      refine rn ?_;exact zeu (.refl _) ⟨_,_,.trans (.perm ((pt1 _ _ _).trans (.cons _ ((pt1 _ _ _).trans (.cons _ ((pt1 _ _ _).trans (.cons _ ((pt1 _ _ _).trans (.cons _ ((pt1 _ _ _).trans (.cons _ ((pt1 _ _ _).trans (.cons _ ((pt1 _ _ _).trans (.cons _ ((pt1 _ _ _).trans (.cons _ ((pt1 _ _ _).trans (.cons _ ((pt1 _ _ _).trans (.cons _ ((pt1 _ _ _).trans (.cons _ ((pt1 _ _ _).trans (.cons _ ((pt1 _ _ _).trans (.cons _ (pt1 _ _ _))))))))))))))))))))))))))) _) (.drop [_] _ _),(),.inl ⟨rfl,by simp [hpre,Ne.symm hz],rfl⟩⟩
    ·obtain ⟨_,hn,M,rfl⟩|⟨hc',_⟩:=hK'
     rotate_left
     ·cases hc'
     refine rn ?_;exact zi7 (.refl _) (.cons _ _ _ _ (.one _ _ _ _ _ _ _ rfl inferInstance inferInstance rfl) .nil) (.trans (.perm (.cons _ (.cons _ (.cons _ (.cons _ (.cons _ (.cons _ ((pt7 _ _ _ _ _ _ _ _ _).trans (.cons _ ((pt7 _ _ _ _ _ _ _ _ _).trans (.cons _ ((pt7 _ _ _ _ _ _ _ _ _).trans (.cons _ (pt7 _ _ _ _ _ _ _ _ _))))))))))))) _) (.drop [_,_,_,_,_,_,_,_,_,_] _ _)) ⟨rfl,congrArg bv (zjr (yqf hca ha hn)).symm⟩
    ·obtain ⟨hc',_⟩|⟨hc',hn,M,rfl⟩:=hK'
     ·cases hc'
     obtain rfl:cc= .ret:=by simpa using hc'
     refine rn ?_;exact zi7 (.refl _) (.cons _ _ _ _ (.one _ _ _ _ _ _ _ rfl inferInstance inferInstance rfl) .nil) (.trans (.perm (.cons _ (.cons _ (.cons _ (.cons _ (.cons _ (.cons _ ((pt7 _ _ _ _ _ _ _ _ _).trans (.cons _ ((pt7 _ _ _ _ _ _ _ _ _).trans (.cons _ ((pt7 _ _ _ _ _ _ _ _ _).trans (.cons _ (pt7 _ _ _ _ _ _ _ _ _))))))))))))) _) (.drop [_,_,_,_,_,_,_,_,_,_] _ _)) ⟨rfl,congrArg bv (ymb (yma hc hca ha hn)).symm⟩
 ·refine rn ?_;refine z8 rfl (y4 rfl fun b5=> ?_)
  first|refine z8 rfl (j9 rfl rfl rfl ?_)|refine z8 rfl (zao rfl rfl rfl rfl (Nat.le_of_ble_eq_true rfl) ?_)
  refine q1 ?_;refine u6 (zab ?_)
  refine w8 ?_;refine w8 (y3 ?_)
  refine q1 ?_;first|refine qq rfl rfl (zhx (zc9 rfl rfl rfl) (yvu hc)) ?_|refine qq rfl rfl (zhx (zc9 rfl rfl rfl) yvv) ?_
  refine rn ?_;refine z7 rfl (fun hc27=> ?_) (fun hc27=> ?_)
  ·try have hge:(h.evs.length:Int)≤c.a:=by have q:=oT hc27;rw [oM] at q;omega
   refine rn ?_;first|exact ze6 (.cons _ _ _ _ (.one _ _ _ _ _ _ _ rfl inferInstance inferInstance rfl) .nil) (.drop [_,_,_,_] _ _) ⟨rfl,congrArg bv (zjr (ybi hc)).symm⟩|exact ze6 (.cons _ _ _ _ (.one _ _ _ _ _ _ _ rfl inferInstance inferInstance rfl) .nil) (.drop [_,_,_,_,_,_,_,_] _ _) ⟨rfl,congrArg bv (zjr (zux (.inl (oT hg2_7)))).symm⟩|exact ze6 (.cons _ _ _ _ (.one _ _ _ _ _ _ _ rfl inferInstance inferInstance rfl) .nil) (.drop [_,_,_,_,_,_,_,_] _ _) ⟨rfl,congrArg bv (zjr (zux (.inr hge))).symm⟩
  ·first|cases hc27|exact absurd hc27 (by decide)|(exfalso;simp_all;done)
theorem yl8 (h:Hist) (la:Lim 4611686018427387904 h) (rO:Nat) (oK:Obj) (hK:KO oK) (n:Int):y8 Tryz.prog 35 [.agg (w6 h),iv n] (.glob 2 156 y5:: .glob 4 305 y7:: .glob 5 308 y2:: .glob 3 246 u5:: .glob 1 175 zag:: .glob 0 171 [mpv rO]:: .obj rO oK:: []) (fun r h'=>∃s:SV,h'= .row s.v 1 3 ((ovO h n).map zar):: .glob 2 156 y5:: .glob 4 305 y7:: .glob 5 308 y2:: .glob 3 246 u5:: .glob 1 175 zag:: .glob 0 171 [mpv rO]:: .obj rO oK:: []∧r= .tup [.v s.v,iv (ovC h n)]):=by
 refine z6 Tryz.func35 rfl rfl rfl ?_
 refine rn ?_;refine z8 rfl (w9 rfl rfl rfl fun b2=> ?_)
 refine q1 ?_;refine q1 ?_;refine u6 (zab ?_)
 refine w8 (y3 ?_)
 refine q1 ?_;refine z8 rfl (v8 rfl rfl (y0.fr1 (y0.of_fun (yl9 h la rO oK))) rfl ?_)
 rintro _ _ ⟨_,rfl,⟨hc,rc,rl,rk,rg,rfl,rfl⟩|⟨hc,rfl,rfl⟩⟩
 ·refine rn ?_;refine z8 rfl (y4 rfl fun b6=> ?_)
  refine rn ?_;refine z7 rfl (fun hc16=> ?_) (fun hc16=> ?_)
  ·first|cases hc16|exact absurd hc16 (by decide)|(exfalso;simp_all;done)
  ·refine rn ?_;refine k9 33 rfl ?_
   refine rn ?_;refine zde (fun hg4_2=> ?_) (fun hg4_2=> ?_)
   ·refine rn ?_;refine z7 rfl (fun hc56=> ?_) (fun hc56=> ?_)
    ·first
     |have hn:=yhr (h:=h) (oT hg4_2)
     |(have q:=oT hg4_9;rw [oM] at q;have hn:=yhq (h:=h) q)
     |(have q:zga h.evs h.evs[a].t 5=false:=(by rw [←zh5];simpa using hg4_21);have hn:=yhp ha q)
     |(have q3:h.evs[a].kind≠3:=(by simpa using hg4_29);have q4:h.evs[a].kind≠4:=(by simpa using hc56);have hn:=yho ha q3 q4)
     refine rn ?_;exact zb9 rfl rfl (.trans (.drop [_,_,_,_,_,_] _ _) (zal 1 3 _)) ⟨⟨none,0,0⟩,by rw [(yka hc hn).2];rfl,by rw [(yka hc hn).1];rfl⟩
    ·first|cases hc56|exact absurd hc56 (by decide)|(exfalso;simp_all;done)
   ·refine rn ?_;refine zde (fun hg4_9=> ?_) (fun hg4_9=> ?_)
    ·refine rn ?_;refine z7 rfl (fun hc56=> ?_) (fun hc56=> ?_)
     ·first
      |have hn:=yhr (h:=h) (oT hg4_2)
      |(have q:=oT hg4_9;rw [oM] at q;have hn:=yhq (h:=h) q)
      |(have q:zga h.evs h.evs[a].t 5=false:=(by rw [←zh5];simpa using hg4_21);have hn:=yhp ha q)
      |(have q3:h.evs[a].kind≠3:=(by simpa using hg4_29);have q4:h.evs[a].kind≠4:=(by simpa using hc56);have hn:=yho ha q3 q4)
      refine rn ?_;exact zb9 rfl rfl (.trans (.drop [_,_,_,_,_,_] _ _) (zal 1 3 _)) ⟨⟨none,0,0⟩,by rw [(yka hc hn).2];rfl,by rw [(yka hc hn).1];rfl⟩
     ·first|cases hc56|exact absurd hc56 (by decide)|(exfalso;simp_all;done)
    ·have h0:0≤n:=by have q:=oF hg4_2;omega
     have h1:n < h.evs.length:=by have q:=oF hg4_9;rw [oM] at q;omega
     obtain ⟨a,rfl⟩:∃a:Nat,n=(a:Int):=⟨n.toNat,by omega⟩
     have ha:a < h.evs.length:=by omega
     have ra:=zaj (f:=evR) ha
     refine dq rfl rfl qrA ?_;refine dq rfl rfl qrA ?_;refine dq rfl rfl qrA ?_;refine dq rfl rfl qrA ?_;refine dq rfl rfl qrA ?_;refine dq rfl rfl qrA ?_;refine dq rfl rfl qrA ?_;refine dq rfl rfl qrA ?_;refine dq rfl rfl (zcj (enc:=intK) (k:=h.evs[a].t) false rfl rfl) ?_
     refine rn ?_;refine zde (fun hg4_21=> ?_) (fun hg4_21=> ?_)
     ·refine rn ?_;refine z7 rfl (fun hc56=> ?_) (fun hc56=> ?_)
      ·first
       |have hn:=yhr (h:=h) (oT hg4_2)
       |(have q:=oT hg4_9;rw [oM] at q;have hn:=yhq (h:=h) q)
       |(have q:zga h.evs h.evs[a].t 5=false:=(by rw [←zh5];simpa using hg4_21);have hn:=yhp ha q)
       |(have q3:h.evs[a].kind≠3:=(by simpa using hg4_29);have q4:h.evs[a].kind≠4:=(by simpa using hc56);have hn:=yho ha q3 q4)
       refine rn ?_;exact zb9 rfl rfl (.trans (.drop [_,_,_,_,_,_] _ _) (zal 1 3 _)) ⟨⟨none,0,0⟩,by rw [(yka hc hn).2];rfl,by rw [(yka hc hn).1];rfl⟩
      ·first|cases hc56|exact absurd hc56 (by decide)|(exfalso;simp_all;done)
     ·refine rn ?_;refine zde (fun hg4_29=> ?_) (fun hg4_29=> ?_)
      ·refine rn ?_;refine z7 rfl (fun hc56=> ?_) (fun hc56=> ?_)
       ·first
        |have hn:=yhr (h:=h) (oT hg4_2)
        |(have q:=oT hg4_9;rw [oM] at q;have hn:=yhq (h:=h) q)
        |(have q:zga h.evs h.evs[a].t 5=false:=(by rw [←zh5];simpa using hg4_21);have hn:=yhp ha q)
        |(have q3:h.evs[a].kind≠3:=(by simpa using hg4_29);have q4:h.evs[a].kind≠4:=(by simpa using hc56);have hn:=yho ha q3 q4)
        refine rn ?_;exact zb9 rfl rfl (.trans (.drop [_,_,_,_,_,_] _ _) (zal 1 3 _)) ⟨⟨none,0,0⟩,by rw [(yka hc hn).2];rfl,by rw [(yka hc hn).1];rfl⟩
       ·have hm:zga h.evs h.evs[a].t 5=true:=by rw [←zh5];simpa using hg4_21
        have hkd:h.evs[a].kind=3∨h.evs[a].kind=4:=by
         first
         |(have q:h.evs[a].kind=3:=(by simpa using hg4_29);exact .inl q)
         |(have q:h.evs[a].kind=4:=(by simpa using hc56);exact .inr q)
        have hn:OvB h (a:Int):=⟨a,rfl,ha,hm,hkd⟩
        have hfl:=zq9 hc ha
        refine rn ?_;refine z8 rfl (y4 rfl fun b8=> ?_)
        refine rn ?_;refine z8 rfl (v8 rfl rfl (y0.of_fun (zw2 h a rc rl rk rg _)) rfl ?_)
        rintro _ _ ⟨ba,bp,rfl,rfl⟩
        refine rn ?_;refine zfb (s':=⟨[(59,.fn (.func 134) [] [pZ bp,pZ ba]),(8,pZ b8)],.box ba 3 [iv (a:Nat)]:: .box bp 119 (rwP h rc rl rk rg):: .box b8 29 [.v (⟨none,0,0⟩:SV).v]:: .row (⟨none,0,0⟩:SV).v 1 3 ((([]:List Conf).map Conf.t).map zar):: .box b6 119 (rwP h rc rl rk rg):: .box b2 28 (w6 h)::rgR rg []::rkS h rk::zbh h rl::rcR h rc:: .glob 2 156 y5:: .glob 4 305 y7:: .glob 5 308 y2:: .glob 3 246 u5:: .glob 1 175 zag:: .glob 0 171 [mpv rO]:: .obj rO oK:: [],[]⟩) (v7 (zam 1 3) (v7 (zap ((pt1 _ _ _).trans (.cons _ ((pt1 _ _ _).trans (.cons _ (pt1 _ _ _)))))) es)) ?_
        refine zoy (fun pend h''=>pend=none∧∃(s:SV) (M:List ((Int×Int)×List Int)),h''= .box ba 3 [iv (a:Nat)]:: .box bp 119 (rwP h rc rl rk rg)::rgR rg M::rkS h rk::zbh h rl::rcR h rc:: .glob 2 156 y5:: .glob 4 305 y7:: .glob 5 308 y2:: .glob 3 246 u5:: .glob 1 175 zag:: .glob 0 171 [mpv rO]:: .obj rO oK:: .box b8 29 [.v s.v]:: .row s.v 1 3 (((zci h h.evs[a] a).map Conf.t).map zar):: .box b6 119 (rwP h rc rl rk rg):: .box b2 28 (w6 h):: []) rfl (fun fn l q lp hlp=> ?_) (fun q h'' hK'=> ?_) (fun q h'' cc hK'=> ?_)
        ·suffices hy:∀pre d rest (s:SV) M,zci h h.evs[a] a=pre++d::rest→True→zol h M→y0 Tryz.prog (yv l) [.agg (u0 d)] (.box ba 3 [iv (a:Nat)]:: .box bp 119 (rwP h rc rl rk rg)::rgR rg M::rkS h rk::zbh h rl::rcR h rc:: .glob 2 156 y5:: .glob 4 305 y7:: .glob 5 308 y2:: .glob 3 246 u5:: .glob 1 175 zag:: .glob 0 171 [mpv rO]:: .obj rO oK::lp .ready none:: .defs q:: .box b8 29 [.v s.v]:: .row s.v 1 3 ((pre.map Conf.t).map zar):: .box b6 119 (rwP h rc rl rk rg):: .box b2 28 (w6 h):: []) (fun r h'=>∃s':SV,(r=bv true∧True∧h'= .box ba 3 [iv (a:Nat)]:: .box bp 119 (rwP h rc rl rk rg)::rgR rg M::rkS h rk::zbh h rl::rcR h rc:: .glob 2 156 y5:: .glob 4 305 y7:: .glob 5 308 y2:: .glob 3 246 u5:: .glob 1 175 zag:: .glob 0 171 [mpv rO]:: .obj rO oK::lp .ready none:: .defs q:: .box b8 29 [.v s'.v]:: .row s'.v 1 3 (((pre++ [d]).map Conf.t).map zar):: .box b6 119 (rwP h rc rl rk rg):: .box b2 28 (w6 h):: [])∨(r=bv false∧False∧h'= .box ba 3 [iv (a:Nat)]:: .box bp 119 (rwP h rc rl rk rg)::rgR rg M::rkS h rk::zbh h rl::rcR h rc:: .glob 2 156 y5:: .glob 4 305 y7:: .glob 5 308 y2:: .glob 3 246 u5:: .glob 1 175 zag:: .glob 0 171 [mpv rO]:: .obj rO oK:: [])) by
          refine y8.mono (y8.perm ((pt2 _ _ _ _).trans (.cons _ ((pt2 _ _ _ _).trans (.cons _ ((pt6 _ _ _ _ _ _ _ _).trans (.cons _ ((pt6 _ _ _ _ _ _ _ _).trans (.cons _ ((pt6 _ _ _ _ _ _ _ _).trans (.cons _ ((pt6 _ _ _ _ _ _ _ _).trans (.cons _ ((pt6 _ _ _ _ _ _ _ _).trans (.cons _ ((pt6 _ _ _ _ _ _ _ _).trans (.cons _ ((pt6 _ _ _ _ _ _ _ _).trans (.cons _ ((pt6 _ _ _ _ _ _ _ _).trans (.cons _ ((pt6 _ _ _ _ _ _ _ _).trans (.cons _ ((pt6 _ _ _ _ _ _ _ _).trans (.cons _ (pt6 _ _ _ _ _ _ _ _))))))))))))))))))))))))) (zw1 h la hc a ha (yv l) bp ba rc rl rk rg [] (zmt h) rO oK hK (fun _ (_:SV)=>True) (fun _=>False) (fun pre (s:SV)=>lp .ready none:: .defs q:: .box b8 29 [.v s.v]:: .row s.v 1 3 ((pre.map Conf.t).map zar):: .box b6 119 (rwP h rc rl rk rg):: .box b2 28 (w6 h):: []) (fun _=> []) ⟨none,0,0⟩ trivial hy)) ?_
          rintro _ _ ⟨s,M,hM,⟨-,rfl⟩|⟨hF,_⟩⟩
          ·exact ⟨none,.ready,_,((zw9 _ _ _ _ _ _ _ _ _ _ _ _ _ _ _).trans (.cons _ (zw9 _ _ _ _ _ _ _ _ _ _ _ _ _ _ _))),by simp,rfl,s,M,rfl⟩
          ·exact hF.elim
         intro pre d rest s M hL _ hM
         have hlen:pre.length < (zci h h.evs[a] a).length:=by rw [hL,List.length_append,List.length_cons];omega
         refine y0.perm (zw9 _ _ _ _ _ _ _ _ _ _ _ _ _ _ _) (y0.ventE ?_)
         refine ze9 hlp rfl rfl ?_
         refine rn ?_;refine z8 rfl (y4 rfl fun b9=> ?_)
         refine rn ?_;refine ⟨[(9,pZ b9),(8,pZ b8)],.box b9 41 (u0 d):: .box ba 3 [iv (a:Nat)]:: .box bp 119 (rwP h rc rl rk rg)::rgR rg M::rkS h rk::zbh h rl::rcR h rc:: .glob 2 156 y5:: .glob 4 305 y7:: .glob 5 308 y2:: .glob 3 246 u5:: .glob 1 175 zag:: .glob 0 171 [mpv rO]:: .obj rO oK:: .defs q:: .box b8 29 [.v s.v]:: .row s.v 1 3 ((pre.map Conf.t).map zar):: .box b6 119 (rwP h rc rl rk rg):: .box b2 28 (w6 h):: [],v7 (zap (pt1 _ _ _)) es,?_⟩
         refine rn ?_;refine qv rfl rfl (q6 rfl rfl) ?_
         refine z8 rfl (q7 rfl rfl (by simp only [oM,List.length_cons,List.length_nil];omega) rfl (fun s65=> ?_) (zh1 [d.t]))
         refine j3 s65 fun sv hsv=> ?_
         subst hsv
         refine rn ?_;exact zeu (.refl _) ⟨_,_,.trans (.perm ((pt1 _ _ _).trans (.cons _ ((pt1 _ _ _).trans (.cons _ ((pt1 _ _ _).trans (.cons _ ((pt1 _ _ _).trans (.cons _ ((pt1 _ _ _).trans (.cons _ ((pt1 _ _ _).trans (.cons _ ((pt1 _ _ _).trans (.cons _ ((pt1 _ _ _).trans (.cons _ ((pt1 _ _ _).trans (.cons _ ((pt1 _ _ _).trans (.cons _ ((pt1 _ _ _).trans (.cons _ ((pt1 _ _ _).trans (.cons _ ((pt1 _ _ _).trans (.cons _ (pt1 _ _ _))))))))))))))))))))))))))) _) (.drop [_] _ _),sv,.inl ⟨rfl,trivial,by rw [List.map_append,List.map_append];rfl⟩⟩
        ·obtain ⟨_,s,M,rfl⟩:=hK'
         refine rn ?_;refine z8 rfl (v8 rfl rfl (zgm (y0.of_fun (yax s _ (by rw [oM];omega)))) rfl ?_)
         rintro _ _ ⟨rfl,rfl⟩
         refine rn ?_;refine z8 rfl (v8 rfl rfl (zaz (y0.of_fun (yek s _ (by rw [(zdh _).length_eq,oM];omega)))) rfl ?_)
         rintro _ _ ⟨s',rfl,rfl⟩
         refine rn ?_;exact zi7 (.refl _) (.cons _ _ _ _ (.tmp _ _ rfl) (.cons _ _ _ _ (.tmp _ _ rfl) .nil)) (.trans (.perm (.cons _ (.cons _ (.cons _ (.cons _ (.cons _ (.cons _ ((pt7 _ _ _ _ _ _ _ _ _).trans (.cons _ ((pt8 _ _ _ _ _ _ _ _ _ _).trans (.cons _ ((pt8 _ _ _ _ _ _ _ _ _ _).trans (.cons _ (pt7 _ _ _ _ _ _ _ _ _))))))))))))) _) (.drop [_,_,_,_,_,_,_,_,_] _ _)) ⟨s',by rw [(ytz hc ha hn).2];rfl,by rw [(ytz hc ha hn).1];rfl⟩
        ·obtain ⟨hc',_⟩:=hK'
         exact absurd hc' (by simp)
      ·refine rn ?_;refine z7 rfl (fun hc56=> ?_) (fun hc56=> ?_)
       ·first|cases hc56|exact absurd hc56 (by decide)|(exfalso;simp_all;done)
       ·have hm:zga h.evs h.evs[a].t 5=true:=by rw [←zh5];simpa using hg4_21
        have hkd:h.evs[a].kind=3∨h.evs[a].kind=4:=by
         first
         |(have q:h.evs[a].kind=3:=(by simpa using hg4_29);exact .inl q)
         |(have q:h.evs[a].kind=4:=(by simpa using hc56);exact .inr q)
        have hn:OvB h (a:Int):=⟨a,rfl,ha,hm,hkd⟩
        have hfl:=zq9 hc ha
        refine rn ?_;refine z8 rfl (y4 rfl fun b8=> ?_)
        refine rn ?_;refine z8 rfl (v8 rfl rfl (y0.of_fun (zw2 h a rc rl rk rg _)) rfl ?_)
        rintro _ _ ⟨ba,bp,rfl,rfl⟩
        refine rn ?_;refine zfb (s':=⟨[(59,.fn (.func 134) [] [pZ bp,pZ ba]),(8,pZ b8)],.box ba 3 [iv (a:Nat)]:: .box bp 119 (rwP h rc rl rk rg):: .box b8 29 [.v (⟨none,0,0⟩:SV).v]:: .row (⟨none,0,0⟩:SV).v 1 3 ((([]:List Conf).map Conf.t).map zar):: .box b6 119 (rwP h rc rl rk rg):: .box b2 28 (w6 h)::rgR rg []::rkS h rk::zbh h rl::rcR h rc:: .glob 2 156 y5:: .glob 4 305 y7:: .glob 5 308 y2:: .glob 3 246 u5:: .glob 1 175 zag:: .glob 0 171 [mpv rO]:: .obj rO oK:: [],[]⟩) (v7 (zam 1 3) (v7 (zap ((pt1 _ _ _).trans (.cons _ ((pt1 _ _ _).trans (.cons _ (pt1 _ _ _)))))) es)) ?_
        refine zoy (fun pend h''=>pend=none∧∃(s:SV) (M:List ((Int×Int)×List Int)),h''= .box ba 3 [iv (a:Nat)]:: .box bp 119 (rwP h rc rl rk rg)::rgR rg M::rkS h rk::zbh h rl::rcR h rc:: .glob 2 156 y5:: .glob 4 305 y7:: .glob 5 308 y2:: .glob 3 246 u5:: .glob 1 175 zag:: .glob 0 171 [mpv rO]:: .obj rO oK:: .box b8 29 [.v s.v]:: .row s.v 1 3 (((zci h h.evs[a] a).map Conf.t).map zar):: .box b6 119 (rwP h rc rl rk rg):: .box b2 28 (w6 h):: []) rfl (fun fn l q lp hlp=> ?_) (fun q h'' hK'=> ?_) (fun q h'' cc hK'=> ?_)
        ·suffices hy:∀pre d rest (s:SV) M,zci h h.evs[a] a=pre++d::rest→True→zol h M→y0 Tryz.prog (yv l) [.agg (u0 d)] (.box ba 3 [iv (a:Nat)]:: .box bp 119 (rwP h rc rl rk rg)::rgR rg M::rkS h rk::zbh h rl::rcR h rc:: .glob 2 156 y5:: .glob 4 305 y7:: .glob 5 308 y2:: .glob 3 246 u5:: .glob 1 175 zag:: .glob 0 171 [mpv rO]:: .obj rO oK::lp .ready none:: .defs q:: .box b8 29 [.v s.v]:: .row s.v 1 3 ((pre.map Conf.t).map zar):: .box b6 119 (rwP h rc rl rk rg):: .box b2 28 (w6 h):: []) (fun r h'=>∃s':SV,(r=bv true∧True∧h'= .box ba 3 [iv (a:Nat)]:: .box bp 119 (rwP h rc rl rk rg)::rgR rg M::rkS h rk::zbh h rl::rcR h rc:: .glob 2 156 y5:: .glob 4 305 y7:: .glob 5 308 y2:: .glob 3 246 u5:: .glob 1 175 zag:: .glob 0 171 [mpv rO]:: .obj rO oK::lp .ready none:: .defs q:: .box b8 29 [.v s'.v]:: .row s'.v 1 3 (((pre++ [d]).map Conf.t).map zar):: .box b6 119 (rwP h rc rl rk rg):: .box b2 28 (w6 h):: [])∨(r=bv false∧False∧h'= .box ba 3 [iv (a:Nat)]:: .box bp 119 (rwP h rc rl rk rg)::rgR rg M::rkS h rk::zbh h rl::rcR h rc:: .glob 2 156 y5:: .glob 4 305 y7:: .glob 5 308 y2:: .glob 3 246 u5:: .glob 1 175 zag:: .glob 0 171 [mpv rO]:: .obj rO oK:: [])) by
          refine y8.mono (y8.perm ((pt2 _ _ _ _).trans (.cons _ ((pt2 _ _ _ _).trans (.cons _ ((pt6 _ _ _ _ _ _ _ _).trans (.cons _ ((pt6 _ _ _ _ _ _ _ _).trans (.cons _ ((pt6 _ _ _ _ _ _ _ _).trans (.cons _ ((pt6 _ _ _ _ _ _ _ _).trans (.cons _ ((pt6 _ _ _ _ _ _ _ _).trans (.cons _ ((pt6 _ _ _ _ _ _ _ _).trans (.cons _ ((pt6 _ _ _ _ _ _ _ _).trans (.cons _ ((pt6 _ _ _ _ _ _ _ _).trans (.cons _ ((pt6 _ _ _ _ _ _ _ _).trans (.cons _ ((pt6 _ _ _ _ _ _ _ _).trans (.cons _ (pt6 _ _ _ _ _ _ _ _))))))))))))))))))))))))) (zw1 h la hc a ha (yv l) bp ba rc rl rk rg [] (zmt h) rO oK hK (fun _ (_:SV)=>True) (fun _=>False) (fun pre (s:SV)=>lp .ready none:: .defs q:: .box b8 29 [.v s.v]:: .row s.v 1 3 ((pre.map Conf.t).map zar):: .box b6 119 (rwP h rc rl rk rg):: .box b2 28 (w6 h):: []) (fun _=> []) ⟨none,0,0⟩ trivial hy)) ?_
          rintro _ _ ⟨s,M,hM,⟨-,rfl⟩|⟨hF,_⟩⟩
          ·exact ⟨none,.ready,_,((zw9 _ _ _ _ _ _ _ _ _ _ _ _ _ _ _).trans (.cons _ (zw9 _ _ _ _ _ _ _ _ _ _ _ _ _ _ _))),by simp,rfl,s,M,rfl⟩
          ·exact hF.elim
         intro pre d rest s M hL _ hM
         have hlen:pre.length < (zci h h.evs[a] a).length:=by rw [hL,List.length_append,List.length_cons];omega
         refine y0.perm (zw9 _ _ _ _ _ _ _ _ _ _ _ _ _ _ _) (y0.ventE ?_)
         refine ze9 hlp rfl rfl ?_
         refine rn ?_;refine z8 rfl (y4 rfl fun b9=> ?_)
         refine rn ?_;refine ⟨[(9,pZ b9),(8,pZ b8)],.box b9 41 (u0 d):: .box ba 3 [iv (a:Nat)]:: .box bp 119 (rwP h rc rl rk rg)::rgR rg M::rkS h rk::zbh h rl::rcR h rc:: .glob 2 156 y5:: .glob 4 305 y7:: .glob 5 308 y2:: .glob 3 246 u5:: .glob 1 175 zag:: .glob 0 171 [mpv rO]:: .obj rO oK:: .defs q:: .box b8 29 [.v s.v]:: .row s.v 1 3 ((pre.map Conf.t).map zar):: .box b6 119 (rwP h rc rl rk rg):: .box b2 28 (w6 h):: [],v7 (zap (pt1 _ _ _)) es,?_⟩
         refine rn ?_;refine qv rfl rfl (q6 rfl rfl) ?_
         refine z8 rfl (q7 rfl rfl (by simp only [oM,List.length_cons,List.length_nil];omega) rfl (fun s65=> ?_) (zh1 [d.t]))
         refine j3 s65 fun sv hsv=> ?_
         subst hsv
         refine rn ?_;exact zeu (.refl _) ⟨_,_,.trans (.perm ((pt1 _ _ _).trans (.cons _ ((pt1 _ _ _).trans (.cons _ ((pt1 _ _ _).trans (.cons _ ((pt1 _ _ _).trans (.cons _ ((pt1 _ _ _).trans (.cons _ ((pt1 _ _ _).trans (.cons _ ((pt1 _ _ _).trans (.cons _ ((pt1 _ _ _).trans (.cons _ ((pt1 _ _ _).trans (.cons _ ((pt1 _ _ _).trans (.cons _ ((pt1 _ _ _).trans (.cons _ ((pt1 _ _ _).trans (.cons _ ((pt1 _ _ _).trans (.cons _ (pt1 _ _ _))))))))))))))))))))))))))) _) (.drop [_] _ _),sv,.inl ⟨rfl,trivial,by rw [List.map_append,List.map_append];rfl⟩⟩
        ·obtain ⟨_,s,M,rfl⟩:=hK'
         refine rn ?_;refine z8 rfl (v8 rfl rfl (zgm (y0.of_fun (yax s _ (by rw [oM];omega)))) rfl ?_)
         rintro _ _ ⟨rfl,rfl⟩
         refine rn ?_;refine z8 rfl (v8 rfl rfl (zaz (y0.of_fun (yek s _ (by rw [(zdh _).length_eq,oM];omega)))) rfl ?_)
         rintro _ _ ⟨s',rfl,rfl⟩
         refine rn ?_;exact zi7 (.refl _) (.cons _ _ _ _ (.tmp _ _ rfl) (.cons _ _ _ _ (.tmp _ _ rfl) .nil)) (.trans (.perm (.cons _ (.cons _ (.cons _ (.cons _ (.cons _ (.cons _ ((pt7 _ _ _ _ _ _ _ _ _).trans (.cons _ ((pt8 _ _ _ _ _ _ _ _ _ _).trans (.cons _ ((pt8 _ _ _ _ _ _ _ _ _ _).trans (.cons _ (pt7 _ _ _ _ _ _ _ _ _))))))))))))) _) (.drop [_,_,_,_,_,_,_,_,_] _ _)) ⟨s',by rw [(ytz hc ha hn).2];rfl,by rw [(ytz hc ha hn).1];rfl⟩
        ·obtain ⟨hc',_⟩:=hK'
         exact absurd hc' (by simp)
 ·refine rn ?_;refine z8 rfl (y4 rfl fun b6=> ?_)
  refine rn ?_;refine z7 rfl (fun hc16=> ?_) (fun hc16=> ?_)
  ·refine rn ?_;exact zb9 rfl rfl (.trans (.drop [_,_] _ _) (zal 1 3 _)) ⟨⟨none,0,0⟩,by rw [(yv0 hc).2];rfl,by rw [(yv0 hc).1];rfl⟩
  ·first|cases hc16|exact absurd hc16 (by decide)|(exfalso;simp_all;done)
theorem rwOver (h:Hist) (la:Lim 4611686018427387904 h) (rO:Nat) (oK:Obj) (hK:KO oK) (n:Int):y8 Tryz.prog 35 [.agg (w6 h),iv n] (.glob 2 156 y5:: .glob 4 305 y7:: .glob 5 308 y2:: .glob 3 246 u5:: .glob 1 175 zag:: .glob 0 171 [mpv rO]:: .obj rO oK:: []) (fun r h'=>h'= .glob 2 156 y5:: .glob 4 305 y7:: .glob 5 308 y2:: .glob 3 246 u5:: .glob 1 175 zag:: .glob 0 171 [mpv rO]:: .obj rO oK:: []∧r= .tup [zbe (ovO h n),iv (ovC h n)]):=(yl8 h la rO oK hK n).ventR (by rintro _ _ ⟨s,rfl,rfl⟩;exact ⟨_,_,zbk [] [_],rfl,rfl⟩)
theorem ytk (n:Int) (l:List Int):decide (atI n 0 l ≥ 0)=l.contains n:=by
 have:=ye2 n l
 cases hc:l.contains n with
 |true=>rw [hc] at this;have:=oF this;exact decide_eq_true (by omega)
 |false=>rw [hc] at this;have:=oT this;exact decide_eq_false (by omega)
theorem yrs {p x:Int} {m:Mat} (h:(m.p !=p)=true):zqw p x m=false:=by
 have:(m.p==p)=false:=by simpa using h
 rw [zqw,this];rfl
theorem yrr {p x:Int} {m:Mat} (h:(m.o !=x)=true):zqw p x m=false:=by
 have:(m.o==x)=false:=by simpa using h
 rw [zqw,this,Bool.and_false]
theorem yw3 {p x:Int} {m:Mat} (h1:(m.p !=p)=false) (h2:(m.o !=x)=false):zqw p x m=true:=by
 rw [zqw,Bool.and_eq_true];exact ⟨by simpa using h1,by simpa using h2⟩
theorem yrt {h:Hist} {p x:Int} {k:Nat} (hk:k < h.mats.length) (hq:zqw p x h.mats[k]=true) (hz:((h.mats.take k).all fun m=> !zqw p x m)=true):ykh h p x=some h.mats[k]:=by
 rw [ykh,List.find?_eq_some_iff_getElem]
 exact ⟨hq,k,hk,rfl,fun j hj=>by have:=List.all_eq_true.1 hz h.mats[j] (zjb (by omega) hj);exact this⟩
theorem yu0 {h:Hist} {p x:Int} (hz:(h.mats.all fun m=> !zqw p x m)=true):ykh h p x=none:=by
 rw [ykh,List.find?_eq_none];intro s hs q
 have:=List.all_eq_true.1 hz s hs
 rw [q] at this;cases this
theorem ytf {f:Nat→Bool} {k:Nat} (h:(f (k+1) !=f k)=true):chR f (k+1)=chR f k++ [((k+1:Nat):Int)]:=by rw [chR,if_pos (by simpa using h)]
theorem ytg {f:Nat→Bool} {k:Nat} (h:(f (k+1) !=f k)=false):chR f (k+1)=chR f k:=by rw [chR,if_neg (by simpa using h)];simp
def yco (l:List Ev) (t:Int) (n:Nat) (scan:List Seen) (j:Nat) (x:Int):Ver:=match zuv (scan.take j) x with
 |some v=>v
 |none=>zrx (zdz l t x n)
theorem yj8 {l:List Ev} {t x:Int} {n j:Nat} {scan:List Seen} (hj:j < scan.length) (h:(scan[j].o==x)=true):yco l t n scan (j+1) x=scan[j].v:=by rw [yco,ya9 hj,if_pos h]
theorem yj9 {l:List Ev} {t x:Int} {n j:Nat} {scan:List Seen} (hj:j < scan.length) (h:(scan[j].o==x)=false):yco l t n scan (j+1) x=yco l t n scan j x:=by rw [yco,ya9 hj,if_neg (by rw [h];decide),yco]
theorem yrd (l:List Ev) (t x:Int) (n:Nat) (scan:List Seen):yco l t n scan 0 x=zrx (zdz l t x n):=rfl
theorem yrc (l:List Ev) (t x:Int) (n:Nat) (scan:List Seen):yco l t n scan scan.length x=yfj l t n scan x:=by rw [yco,List.take_length];rfl
theorem yp8 {s:Seen} {x:Int} (h:(s.o==x)=true):zaq s= [iv x,iv s.v.t,iv s.v.k]:=by rw [zaq,eq_of_beq h]
theorem zli (h:Hist) (la:Lim 1000000 h) (p x n:Int) (h0:0≤n) (h1:n≤(zdn h x).length):y8 Tryz.prog 162 [.agg (w6 h),iv p,iv x,iv n] [] (fun r h'=>h'= []∧r=bv (zuf h p x n)):=by
 refine z6 Tryz.func162 rfl rfl rfl ?_
 have lm:=la.mats
 have lI:=znr la x
 refine rn ?_;refine z8 rfl (w9 rfl rfl rfl fun b4=> ?_)
 refine rn ?_;refine zcu (h.mats.length) (fun k:Nat=>((h.mats.take k).all fun m=> !zqw p x m)=true) (fun k=> [(14,iv k)]) [(1,_),(2,_),(3,_),(4,_),(12,_),(13,_)] rfl ?_
 intro k lk zk
 refine rn ?_;refine z7 rfl (fun hc15=> ?_) (fun hc15=> ?_)
 ·have hk:=za4 hc15
  have rk:=zaj (f:=zes) hk
  have lT:=la.matts h.mats[k] (List.getElem_mem hk)
  refine rn ?_;refine z8 rfl (y4 rfl fun b10=> ?_)
  refine rn ?_;refine w7 (fun hg4_4=> ?_) (fun hg4_4=> ?_)
  ·refine rn ?_;refine zfe rfl ?_;have hq:zqw p x h.mats[k]=false:=by first|exact yrs hg4_4|exact yrr hc27
   refine rn ?_;exact ⟨hk,by rw [zmv hk,zk,hq];rfl,eA⟩
  ·refine rn ?_;refine z7 rfl (fun hc27=> ?_) (fun hc27=> ?_)
   ·have hq:zqw p x h.mats[k]=false:=by first|exact yrs hg4_4|exact yrr hc27
    refine rn ?_;exact ⟨hk,by rw [zmv hk,zk,hq];rfl,eA⟩
   ·have hq:zqw p x h.mats[k]=true:=yw3 hg4_4 hc27
    have hf:=yrt hk hq zk
    refine rn ?_;refine z7 rfl (fun hc29=> ?_) (fun hc29=> ?_)
    ·have hn:n=0:=eq_of_beq hc29
     refine rn ?_;refine rq 2 ?_
     exact ⟨rfl,congrArg bv (by rw [zuf,hf,mtM,if_pos hn])⟩
    ·have hn:n≠0:=beq_eq_false_iff_ne.1 hc29
     obtain ⟨a,ha,ea⟩:∃a:Nat,a < (zdn h x).length∧n=(a:Int)+1:=⟨(n - 1).toNat,by omega,by omega⟩
     subst ea
     have ra:=zaj (f:=zar) ha
     refine rn ?_;refine k9 9 rfl ?_
     refine rn ?_;refine dv rfl rfl (by exact y1 rfl rfl (j4 (zhv h la x) (Sbs.refl _))) ?_
     refine dq rfl rfl qrA ?_;refine dq rfl rfl (zhx (zcb rfl rfl rfl (by omega)) (show iv ((a:Int)+1 - 1)=iv (a:Int) by rw [Int.add_sub_cancel])) ?_
     refine rn ?_;refine qv rfl rfl (y1 rfl rfl (j4 (yg1 h.mats[k].ts (zdn h x)[a] (Nat.le_trans lT (by decide))) (Sbs.refl _))) ?_
     refine rn ?_;refine rq 2 ?_
     exact ⟨rfl,congrArg bv (by rw [ytk,zuf,hf,mtM,if_neg (by omega),Int.add_sub_cancel,Int.toNat_natCast,List.getElem?_eq_getElem ha];rfl)⟩
 ·have qk:=za5 hc15 lk
  rw [qk,List.take_length] at zk
  refine rn ?_;refine rq 1 ?_
  exact ⟨rfl,congrArg bv (by rw [zuf,yu0 zk];rfl)⟩
theorem zsq (h:Hist) (la:Lim 1000000 h) (p x:Int):y8 Tryz.prog 120 [.agg (w6 h),iv p,iv x] [] (fun r h'=>h'= []∧r=zbe (chR (fun k:Nat=>zuf h p x (k:Int)) (zdn h x).length)):=by
 refine z6 Tryz.func120 rfl rfl rfl ?_
 have lI:=znr la x
 refine rn ?_;refine z8 rfl (w9 rfl rfl rfl fun b3=> ?_)
 refine rn ?_;refine zem (zdn h x).length (fun k s=>⟨[(8,iv ((k:Int)+1)),(7,.v s.v),(1,iv p),(2,iv x),(3,pZ b3)],.row s.v 1 3 ((chR (fun k:Nat=>zuf h p x (k:Int)) k).map zar):: .box b3 28 (w6 h):: [],[]⟩) ⟨none,0,0⟩ (v7 (zam 1 3) es) ?_
 intro k s lk
 refine rn ?_;refine qv rfl rfl (y1 rfl rfl (j4 (zhv h la x) (Sbs.refl _))) ?_
 refine rn ?_;refine z7 rfl (fun hc14=> ?_) (fun hc14=> ?_)
 ·have hk:k < (zdn h x).length:=by have q:=oT hc14;rw [oM] at q;omega
  have hcs:((k+1:Nat):Int)=(k:Int)+1:=by omega
  refine rn ?_;refine k9 10 rfl ?_
  refine rn ?_;refine dv rfl rfl (by exact y1 rfl rfl (j4 (zli h la p x ((k:Int)+1) (by omega) (by omega)) (Sbs.refl _))) ?_
  refine dq rfl rfl qrA ?_;refine dq rfl rfl qrA ?_;refine dq rfl rfl qrA ?_;refine dq rfl rfl qrA ?_;refine dq rfl rfl (zhx (zcb rfl rfl rfl (by omega)) (show iv ((k:Int)+1 - 1)=iv (k:Int) by rw [Int.add_sub_cancel])) ?_
  refine rn ?_;refine qv rfl rfl (y1 rfl rfl (j4 (zli h la p x (k:Int) (by omega) (by omega)) (Sbs.refl _))) ?_
  refine qq rfl rfl (zne rfl rfl) ?_
  refine rn ?_;refine z7 rfl (fun hc28=> ?_) (fun hc28=> ?_)
  ·refine rn ?_;refine qv rfl rfl (q6 rfl rfl) ?_
   refine z8 rfl (q7 rfl rfl (by simp only [oM,List.length_cons,List.length_nil];have:=chR_len (fun k:Nat=>zuf h p x (k:Int)) k;omega) rfl (fun s32=> ?_) (zh1 [(k:Int)+1]))
   refine j3 s32 fun sv hsv=> ?_
   subst hsv
   refine q1 ?_;refine u6 ?_;refine zje ?_;refine zab ?_;refine y3 ?_;refine q1 ?_;refine qq rfl rfl (zcb rfl rfl rfl (by omega)) ?_
   refine rn ?_;first|exact ⟨hk,sv,by rw [ytf (f:=fun k:Nat=>zuf h p x (k:Int)) (by rw [hcs];exact hc28),List.map_append,hcs];exact eA⟩|exact ⟨hk,s,by rw [ytg (f:=fun k:Nat=>zuf h p x (k:Int)) (by rw [hcs];exact hc28),hcs];exact eA⟩
  ·refine zan ?_;refine zje ?_;refine zab ?_;refine y3 ?_;refine q1 ?_;refine qq rfl rfl (zcb rfl rfl rfl (by omega)) ?_
   refine rn ?_;first|exact ⟨hk,sv,by rw [ytf (f:=fun k:Nat=>zuf h p x (k:Int)) (by rw [hcs];exact hc28),List.map_append,hcs];exact eA⟩|exact ⟨hk,s,by rw [ytg (f:=fun k:Nat=>zuf h p x (k:Int)) (by rw [hcs];exact hc28),hcs];exact eA⟩
 ·have qk:k=(zdn h x).length:=by have q:=oF hc14;rw [oM] at q;omega
  refine rn ?_;exact k8 rfl (.trans zcw (.drop [_] _ _)) ⟨rfl,by rw [qk];rfl⟩
theorem ygw (h:Hist) (la:Lim 1000000 h) (a:Nat) (ha:a < h.evs.length):y8 Tryz.prog 118 [.agg (w6 h),iv (a:Int)] [] (fun r h'=>h'= []∧r=zfq (zau h h.evs[a] a)):=by
 refine z6 Tryz.func118 rfl rfl rfl ?_
 have be:=la.evs
 have bo:=la.os
 have bs:=la.scans h.evs[a] (List.getElem_mem ha)
 refine rn ?_;refine z8 rfl (w9 rfl rfl rfl fun b2=> ?_)
 refine q1 ?_;refine u6 (zab ?_)
 refine w8 (y3 ?_)
 refine q1 ?_;refine u6 (zab ?_)
 refine w8 (y3 ?_)
 refine q1 ?_;refine q1 ?_;refine q1 ?_;refine qq rfl rfl (zax rfl rfl (Int.natCast_nonneg a) (by rw [Int.toNat_natCast];exact zaj (f:=evR) ha)) ?_
 refine rn ?_;refine z8 rfl (y4 rfl fun b6=> ?_)
 refine rn ?_;refine zem h.os.length (fun k s=>⟨[(21,iv k),(5,.v s.v),(1,iv (a:Int)),(2,pZ b2),(6,pZ b6),(20,iv (h.os.map zid).length)],.row s.v 3 70 (((upR k).map fun x:Int=>(⟨x,yfj h.evs h.evs[a].t a h.evs[a].scan x⟩:Seen)).map zaq):: .box b6 60 (evR h.evs[a]):: .box b2 28 (w6 h):: [],[]⟩) ⟨none,0,0⟩ (v7 (zam 3 70) es) ?_
 intro k s lk
 refine rn ?_;refine z7 rfl (fun hc22=> ?_) (fun hc22=> ?_)
 ·have hk:k < h.os.length:=by have q:=oT hc22;rw [oM] at q;omega
  refine zan ?_;refine zab ?_;refine w8 ?_;refine zb4 ?_;refine w8 (y3 ?_)
  refine q1 ?_;refine q1 ?_;refine u6 (zab ?_)
  refine w8 (y3 ?_)
  refine q1 ?_;refine qq rfl rfl (zae (out:= [iv (k:Int),iv 0,iv 0]) rfl (by rfl)) ?_
  refine z8 rfl (y4 rfl fun b8=> ?_)
  first|refine z8 rfl (j9 rfl rfl rfl ?_)|refine z8 rfl (zao rfl rfl rfl rfl (Nat.le_of_ble_eq_true rfl) ?_)
  refine u6 (zab ?_)
  refine w8 ?_;refine w8 (y3 ?_)
  refine q1 ?_;refine q1 ?_;refine q1 ?_;refine qq rfl rfl (znd (k:=a) (rows':=(h.evs.take a).map evR) rfl rfl (by rw [oM];omega) List.map_take.symm) ?_
  refine rn ?_;refine zcl (h.evs.take a).length (fun _=>True) (fun j=>⟨[(31,iv j),(1,iv (a:Int)),(2,pZ b2),(5,.v s.v),(6,pZ b6),(7,iv (k:Int)),(8,pZ b8),(20,iv (h.os.map zid).length),(21,iv k),(29,zre (h.evs.take a)),(30,iv ((h.evs.take a).map evR).length)],.box b8 70 [iv (k:Int),iv (zrx (zdz (h.evs.take a) h.evs[a].t (k:Int) j)).t,iv (zrx (zdz (h.evs.take a) h.evs[a].t (k:Int) j)).k]:: .row s.v 3 70 (((upR k).map fun x:Int=>(⟨x,yfj h.evs h.evs[a].t a h.evs[a].scan x⟩:Seen)).map zaq):: .box b6 60 (evR h.evs[a]):: .box b2 28 (w6 h):: [],[]⟩) trivial eA ?_
  intro j lj _
  refine rn ?_;refine z7 rfl (fun hc32=> ?_) (fun hc32=> ?_)
  ·have hj:=za4 hc32
   have rj:=zaj (f:=evR) hj
   have bj:=hj
   rw [List.length_take] at bj
   refine rn ?_;refine z8 rfl (y4 rfl fun b10=> ?_)
   refine rn ?_;refine w7 (fun hg10_5=> ?_) (fun hg10_5=> ?_)
   ·refine rn ?_;refine w7 (fun hg10_10=> ?_) (fun hg10_10=> ?_)
    ·refine rn ?_;refine z7 rfl (fun hc50=> ?_) (fun hc50=> ?_)
     ·have hw:zat h.evs[a].t (k:Int) (h.evs.take a)[j]=true:=by rw [zat,Bool.and_comm ((h.evs.take a)[j].kind==2)];first|(rw [hg10_5,hg10_10,hc50];rfl)|(rw [hg10_5,hg10_10];rfl)|(rw [hg10_5];rfl)|(rw [hg10_5,hc50];rfl)
      refine rn ?_;first|exact ⟨hj,trivial,by rw [zpi hj hw];exact eA⟩|exact ⟨hj,trivial,by rw [zg6 hj hw];exact eA⟩
     ·have hw:zat h.evs[a].t (k:Int) (h.evs.take a)[j]=false:=by rw [zat,Bool.and_comm ((h.evs.take a)[j].kind==2)];first|(rw [hg10_5,hg10_10,hc50];rfl)|(rw [hg10_5,hg10_10];rfl)|(rw [hg10_5];rfl)|(rw [hg10_5,hc50];rfl)
      refine rn ?_;first|exact ⟨hj,trivial,by rw [zpi hj hw];exact eA⟩|exact ⟨hj,trivial,by rw [zg6 hj hw];exact eA⟩
    ·refine rn ?_;refine zff rfl ?_;have hw:zat h.evs[a].t (k:Int) (h.evs.take a)[j]=false:=by rw [zat,Bool.and_comm ((h.evs.take a)[j].kind==2)];first|(rw [hg10_5,hg10_10,hc50];rfl)|(rw [hg10_5,hg10_10];rfl)|(rw [hg10_5];rfl)|(rw [hg10_5,hc50];rfl)
     refine rn ?_;first|exact ⟨hj,trivial,by rw [zpi hj hw];exact eA⟩|exact ⟨hj,trivial,by rw [zg6 hj hw];exact eA⟩
   ·refine rn ?_;refine zff rfl ?_;have hw:zat h.evs[a].t (k:Int) (h.evs.take a)[j]=false:=by rw [zat,Bool.and_comm ((h.evs.take a)[j].kind==2)];first|(rw [hg10_5,hg10_10,hc50];rfl)|(rw [hg10_5,hg10_10];rfl)|(rw [hg10_5];rfl)|(rw [hg10_5,hc50];rfl)
    refine rn ?_;first|exact ⟨hj,trivial,by rw [zpi hj hw];exact eA⟩|exact ⟨hj,trivial,by rw [zg6 hj hw];exact eA⟩
  ·have qj:=za5 hc32 lj
   rw [qj,←zpt,←ygn ha,←yrd h.evs h.evs[a].t (k:Int) a h.evs[a].scan]
   refine rn ?_;refine zcl h.evs[a].scan.length (fun _=>True) (fun u=>⟨[(58,iv u),(1,iv (a:Int)),(2,pZ b2),(5,.v s.v),(6,pZ b6),(7,iv (k:Int)),(8,pZ b8),(20,iv (h.os.map zid).length),(21,iv k),(56,zfq h.evs[a].scan),(57,iv (h.evs[a].scan.map zaq).length)],.box b8 70 [iv (k:Int),iv (yco h.evs h.evs[a].t a h.evs[a].scan u (k:Int)).t,iv (yco h.evs h.evs[a].t a h.evs[a].scan u (k:Int)).k]:: .row s.v 3 70 (((upR k).map fun x:Int=>(⟨x,yfj h.evs h.evs[a].t a h.evs[a].scan x⟩:Seen)).map zaq):: .box b6 60 (evR h.evs[a]):: .box b2 28 (w6 h):: [],[]⟩) trivial eA ?_
   intro u lu _
   refine rn ?_;refine z7 rfl (fun hc59=> ?_) (fun hc59=> ?_)
   ·have hu:=za4 hc59
    have ru:=zaj (f:=zaq) hu
    refine rn ?_;refine z8 rfl (y4 rfl fun b12=> ?_)
    refine rn ?_;refine z7 rfl (fun hc65=> ?_) (fun hc65=> ?_)
    ·have ho:=yp8 hc65
     refine rn ?_;first|exact ⟨hu,trivial,by rw [ho,yj8 hu hc65];exact eA⟩|exact ⟨hu,trivial,by rw [yj9 hu hc65];exact eA⟩
    ·refine rn ?_;first|exact ⟨hu,trivial,by rw [ho,yj8 hu hc65];exact eA⟩|exact ⟨hu,trivial,by rw [yj9 hu hc65];exact eA⟩
   ·have qu:=za5 hc59 lu
    rw [qu,yrc]
    refine rn ?_;refine qv rfl rfl (q6 rfl rfl) ?_
    refine z8 rfl (q7 rfl rfl (by simp only [oM,upR,List.length_range,List.length_cons,List.length_nil];omega) rfl (fun s71=> ?_) (by exact zig [(⟨(k:Int),yfj h.evs h.evs[a].t a h.evs[a].scan (k:Int)⟩:Seen)]))
    refine j3 s71 fun sv hsv=> ?_
    subst hsv
    refine rn ?_;exact ⟨hk,sv,by rw [zyo,List.map_append,List.map_append,List.map_singleton,List.map_singleton];exact eA⟩
 ·have qk:k=h.os.length:=by have q:=oF hc22;rw [oM] at q;omega
  subst qk
  refine rn ?_;exact k8 rfl (.trans zcw (.drop [_,_] _ _)) ⟨rfl,rfl⟩
theorem ysg {h:Hist} (hc:u9 h=0) {x:Int} (h0:0≤x) (h1:x < h.os.length):(zdn h x).length≤3000:=by
 rw [←zpn (zbj.1 hc) h0 h1];exact ztf hc h0 h1
theorem zpe (l:List Conf):∀out:List Conf,(zer out l).length≤out.length+l.length:=by
 induction l with
 |nil=>intro out;exact Nat.le_refl _
 |cons c r ih=>
  intro out
  have h1:=ih (ziy zd8 out c)
  have h2:=yhh out c
  rw [show zer out (c::r)=zer (ziy zd8 out c) r from rfl,List.length_cons];omega
def chR (h:Hist) (f t:Int) (k:Nat):List Int:=(upR k).filter fun x=>decide (atI f 0 (zdn h x) ≥ 0) && decide (atI t 0 (zdn h x) > atI f 0 (zdn h x))
theorem chR_len (h:Hist) (f t:Int) (k:Nat):(chR h f t k).length≤k:=by
 refine Nat.le_trans (List.length_filter_le _ _) ?_
 rw [upR,oM,List.length_range];exact Nat.le_refl _
theorem yr8 {l:List Conf} {c:Conf} {k:Nat} (hk:k < l.length) (h:zek l[k] c=true):decide (c∈l)=true:=by rw [zc4,decide_eq_true_iff] at h;exact decide_eq_true (h ▸ List.getElem_mem hk)
theorem yr9 {l:List Conf} {c:Conf} (h:l.all (fun z=> !zek z c)=true):decide (c∈l)=false:=by
 refine decide_eq_false fun hm=> ?_
 have:=List.all_eq_true.1 h c hm
 rw [zc4] at this;simp at this
theorem zqm (h:Hist) (x:Int) (v:Ver):zco h x v=((rkR h x v).getD 0,(rkR h x v).isSome):=by
 rw [zco,rkR]
 by_cases hv:v=⟨0,0⟩
 ·rw [if_pos hv,if_pos hv];rfl
 ·rw [if_neg hv,if_neg hv]
  by_cases hf:zbw (fun t=>zk4 h x t==v) 0 (zdn h x) ≥ 0
  ·rw [if_pos hf,if_pos (show zbw (rkQ h x v) 0 (zdn h x) ≥ 0 from hf)];rfl
  ·rw [if_neg hf,if_neg (show ¬zbw (rkQ h x v) 0 (zdn h x) ≥ 0 from hf)];rfl
theorem ymp {h:Hist} {e:Ev} {a:Nat} (h1:(!(zco h e.o e.v).2)=true):zhm h e a= []:=by
 rw [zqm] at h1
 rw [zhm]
 cases hr:rkR h e.o e.v with
 |none=>rfl
 |some r=>rw [hr] at h1;simp at h1
theorem yph {h:Hist} {x:Int} {v:Ver} (h1:(!(zco h x v).2)=false):∃r,rkR h x v=some r∧(zco h x v).1=r∧0≤r:=by
 rw [zqm] at h1
 cases hr:rkR h x v with
 |none=>rw [hr] at h1;simp at h1
 |some r=>exact ⟨r,rfl,by rw [zqm,hr];rfl,ybo hr⟩
theorem ymo {h:Hist} {e:Ev} {a:Nat} (h1:(!(zco h e.o e.v).2)=false) (h2:(!(zef h e.o (zco h e.o e.v).1).isSome)=true):zhm h e a= []:=by
 obtain ⟨r,hr,e1,r0⟩:=yph h1
 rw [e1,zef,if_pos r0] at h2
 rw [zhm,hr]
 simp only
 cases hq:(zdn h e.o)[r.toNat]? with
 |none=>rfl
 |some t=>rw [hq] at h2;simp at h2
theorem ymn {h:Hist} {e:Ev} {a:Nat} (h1:(!(zco h e.o e.v).2)=false) (h2:(!(zef h e.o (zco h e.o e.v).1).isSome)=false) (h3:((zef h e.o (zco h e.o e.v).1).getD 0==e.t)=true):zhm h e a= []:=by
 obtain ⟨r,hr,e1,r0⟩:=yph h1
 rw [e1,zef,if_pos r0] at h2 h3
 rw [zhm,hr]
 simp only
 cases hq:(zdn h e.o)[r.toNat]? with
 |none=>rfl
 |some t=>rw [hq] at h3;simp only;exact if_pos h3
theorem ywr {h:Hist} {e:Ev} {a:Nat} (h1:(!(zco h e.o e.v).2)=false) (h2:(!(zef h e.o (zco h e.o e.v).1).isSome)=false) (h3:((zef h e.o (zco h e.o e.v).1).getD 0==e.t)=false):
 zhm h e a= [⟨e.t,(zef h e.o (zco h e.o e.v).1).getD 0,3,a,zeg h ((zef h e.o (zco h e.o e.v).1).getD 0) e.o,e.o,0⟩]:=by
 obtain ⟨r,hr,e1,r0⟩:=yph h1
 rw [e1,zef,if_pos r0] at h2 h3 ⊢
 rw [zhm,hr]
 simp only
 cases hq:(zdn h e.o)[r.toNat]? with
 |none=>rw [hq] at h2;simp at h2
 |some t=>
  rw [hq] at h3
  simp only
  rw [if_neg (by rw [show (t==e.t)=false from h3];decide)];rfl
def scT (h:Hist) (s:Seen) (k:Int):Int:=((zdn h s.o)[(k - 1).toNat]?).getD 0
theorem yl3 {h:Hist} {e:Ev} {a:Nat} {s:Seen} {k:Int} (h1:(!(zco h s.o s.v).2)=true):zfj h e a s k=none:=by
 rw [zqm] at h1
 rw [zfj]
 cases hr:rkR h s.o s.v with
 |none=>rfl
 |some r=>rw [hr] at h1;simp at h1
theorem yl2 {h:Hist} {e:Ev} {a:Nat} {s:Seen} {k:Int} (h1:(!(zco h s.o s.v).2)=false) (h2:decide (k≤(zco h s.o s.v).1)=true):zfj h e a s k=none:=by
 obtain ⟨r,hr,e1,r0⟩:=yph h1
 rw [e1] at h2
 rw [zfj,hr];simp only;rw [if_pos (oT h2)]
theorem yl1 {h:Hist} {e:Ev} {a:Nat} {s:Seen} {k:Int} (h1:(!(zco h s.o s.v).2)=false) (h2:decide (k≤(zco h s.o s.v).1)=false) (h3:(scT h s k==e.t)=true):zfj h e a s k=none:=by
 obtain ⟨r,hr,e1,r0⟩:=yph h1
 rw [e1] at h2
 rw [zfj,hr];simp only;rw [if_neg (oF h2)];exact if_pos h3
theorem ywl {h:Hist} {e:Ev} {a:Nat} {s:Seen} {k:Int} (h1:(!(zco h s.o s.v).2)=false) (h2:decide (k≤(zco h s.o s.v).1)=false) (h3:(scT h s k==e.t)=false):zfj h e a s k=some ⟨e.t,scT h s k,4,a,zeg h (scT h s k) s.o,s.o,e.p⟩:=by
 obtain ⟨r,hr,e1,r0⟩:=yph h1
 rw [e1] at h2
 rw [zfj,hr];simp only;rw [if_neg (oF h2),if_neg (by rw [show (((zdn h s.o)[(k - 1).toNat]?).getD 0==e.t)=false from h3];decide)];rfl
theorem yep {h:Hist} (hc:u9 h=0) {x:Int} (h0:0≤x) (h1:x < h.os.length) (p:Int):(zil h p x).length≤3000:=by
 rw [zil]
 exact Nat.le_trans (H.chR_len _ _) (ysg hc h0 h1)
theorem zx6 {f:Nat→Bool} {k:Int}:∀{n:Nat},k∈H.chR f n→1≤k∧k≤n
 |0,hk=>by simp [H.chR] at hk
 |n+1,hk=>by
  rw [H.chR,List.mem_append] at hk
  rcases hk with hk|hk
  ·have:=zx6 hk;omega
  ·split at hk
   ·rw [List.mem_singleton] at hk;omega
   ·cases hk
def scP (h:Hist) (e:Ev) (a i:Nat):List Conf:=((zau h e a).take i).flatMap fun s=>(zil h e.p s.o).filterMap (zfj h e a s)
theorem yuc {h:Hist} {e:Ev} {a i:Nat} (hi:i < (zau h e a).length):scP h e a (i+1)=scP h e a i++(zil h e.p (zau h e a)[i].o).filterMap (zfj h e a (zau h e a)[i]):=by
 rw [scP,List.take_succ_eq_append_getElem hi,List.flatMap_append];simp [scP]
theorem yl5 {h:Hist} {e:Ev} {a:Nat}:scP h e a (zau h e a).length=zsd h e a:=by rw [scP,List.take_length];rfl
theorem yl4 {h:Hist} (hc:u9 h=0) (e:Ev) (a i:Nat):(scP h e a i).length≤9000000:=by
 have lO:=(zez hc).os
 have h1:=zk2 (fun s=>(zil h e.p s.o).filterMap (zfj h e a s)) 3000 ((zau h e a).take i) fun s hs=>by
  obtain ⟨⟨o0,o1⟩,_⟩:=zqi (List.mem_of_mem_take hs)
  exact Nat.le_trans (List.length_filterMap_le _ _) (yep hc o0 o1 _)
 have h2:((zau h e a).take i).length≤3000:=Nat.le_trans (List.length_take_le' _ _) (by rw [zm5];omega)
 rw [scP];omega
theorem znu {h:Hist} (hc:u9 h=0) {a:Nat} (ha:a < h.evs.length):(zdd h h.evs[a] a).length≤16000000:=by rw [←zvw (zbj.1 hc) (List.getElem_mem ha)];exact zq9 hc ha
theorem yeb {h:Hist} {kd:Int} {i:Nat} (hi:i < h.evs.length):zdm h kd (i+1)=zer (zdm h kd i) ((zdd h h.evs[i] i).filter fun x=>x.k==kd):=by
 rw [zdm,List.getElem?_eq_getElem hi]
theorem zj9 {h:Hist} (hc:u9 h=0) (kd:Int):∀k:Nat,k≤h.evs.length→(zdm h kd k).length≤k * 16000000
 |0,_=>Nat.zero_le _
 |k+1,hk=>by
  have h1:=zj9 hc kd k (by omega)
  have h2:=znu hc (a:=k) hk
  have h3:=zpe ((zdd h h.evs[k] k).filter fun x=>x.k==kd) (zdm h kd k)
  have h4:=List.length_filter_le (fun x:Conf=>x.k==kd) (zdd h h.evs[k] k)
  rw [yeb hk,Nat.succ_mul];omega
theorem zxs {l:List Conf} {q:Conf→Bool} {j:Nat} (hj:j < l.length):(l.take (j+1)).filter q=(l.take j).filter q++if q l[j]=true then [l[j]] else []:=by
 rw [List.take_succ_eq_append_getElem hj,List.filter_append]
 by_cases h:q l[j]=true <;> simp [h]
theorem yj4 {out l:List Conf} {kd:Int} {j:Nat} (hj:j < l.length) (h:(l[j].k==kd)=true):zer out ((l.take (j+1)).filter fun x=>x.k==kd)=ziy zd8 (zer out ((l.take j).filter fun x=>x.k==kd)) l[j]:=by
 rw [zxs hj,if_pos h,zer,List.foldl_append];rfl
theorem yj5 {out l:List Conf} {kd:Int} {j:Nat} (hj:j < l.length) (h:(l[j].k==kd)=false):zer out ((l.take (j+1)).filter fun x=>x.k==kd)=zer out ((l.take j).filter fun x=>x.k==kd):=by
 rw [zxs hj,if_neg (by rw [h];decide),List.append_nil]
theorem yhg {h:Hist} {kd:Int} {i j:Nat} (hi:i < h.evs.length) (qj:j=(zdd h h.evs[i] i).length):zer (zdm h kd i) (((zdd h h.evs[i] i).take j).filter fun x=>x.k==kd)=zdm h kd (i+1):=by
 rw [qj,List.take_length,yeb hi]
theorem ybw (h:Hist) (la:Lim 1000000 h) (a:Nat) (ha:a < h.evs.length):y8 Tryz.prog 138 [.agg (w6 h),iv (a:Int)] [] (fun r h'=>h'= []∧r=zej (zhm h h.evs[a] a)):=by
 refine z6 Tryz.func138 rfl rfl rfl ?_
 have ra:=zaj (f:=evR) ha
 refine rn ?_;refine z8 rfl (w9 rfl rfl rfl fun b2=> ?_)
 refine rn ?_;refine z8 rfl (y4 rfl fun b5=> ?_)
 refine rn ?_;refine qv rfl rfl (y1 rfl rfl (j4 (zsl h la h.evs[a].o h.evs[a].v) (Sbs.refl _))) ?_
 refine rn ?_;refine qv rfl rfl (y1 rfl rfl (j4 (ybx h la h.evs[a].o (zco h h.evs[a].o h.evs[a].v).1) (Sbs.refl _))) ?_
 refine rn ?_;refine w7 (fun hg4_2=> ?_) (fun hg4_2=> ?_)
 ·refine rn ?_;refine zfe rfl ?_;have hw:zhm h h.evs[a] a= []:=by
   first
   |exact ymp hg4_2
   |exact ymo hg4_2 hg4_6
   |exact ymn hg4_2 hg4_6 hc46
  refine rn ?_;exact k8 rfl (.trans (.drop [_,_] _ _) (.le (Sb.nil false 7).le)) ⟨rfl,by rw [hw];rfl⟩
 ·refine rn ?_;refine w7 (fun hg4_6=> ?_) (fun hg4_6=> ?_)
  ·refine rn ?_;refine zfe rfl ?_;have hw:zhm h h.evs[a] a= []:=by
    first
    |exact ymp hg4_2
    |exact ymo hg4_2 hg4_6
    |exact ymn hg4_2 hg4_6 hc46
   refine rn ?_;exact k8 rfl (.trans (.drop [_,_] _ _) (.le (Sb.nil false 7).le)) ⟨rfl,by rw [hw];rfl⟩
  ·refine rn ?_;refine z7 rfl (fun hc46=> ?_) (fun hc46=> ?_)
   ·have hw:zhm h h.evs[a] a= []:=by
     first
     |exact ymp hg4_2
     |exact ymo hg4_2 hg4_6
     |exact ymn hg4_2 hg4_6 hc46
    refine rn ?_;exact k8 rfl (.trans (.drop [_,_] _ _) (.le (Sb.nil false 7).le)) ⟨rfl,by rw [hw];rfl⟩
   ·have hw:zhm h h.evs[a] a= [⟨h.evs[a].t,((zef h h.evs[a].o (zco h h.evs[a].o h.evs[a].v).1).getD 0),3,a,zeg h ((zef h h.evs[a].o (zco h h.evs[a].o h.evs[a].v).1).getD 0) h.evs[a].o,h.evs[a].o,0⟩]:=ywr hg4_2 hg4_6 hc46
    refine rn ?_;refine qv rfl rfl (y1 rfl rfl (j4 (zks h la.evs ((zef h h.evs[a].o (zco h h.evs[a].o h.evs[a].v).1).getD 0) h.evs[a].o) (Sbs.refl _))) ?_
    refine rn ?_;refine z8 rfl (y4 rfl fun b10=> ?_)
    first|refine z8 rfl (j9 rfl rfl rfl ?_)|refine z8 rfl (zao rfl rfl rfl rfl (Nat.le_of_ble_eq_true rfl) ?_)
    refine q1 ?_;refine q1 ?_;refine u6 (zab ?_)
    refine w8 (y3 ?_)
    refine q1 ?_;refine q1 ?_;refine q1 ?_;refine q1 ?_;refine q1 ?_;refine q1 ?_;refine q1 ?_;refine qq rfl rfl (zae (out:=u0 ⟨h.evs[a].t,((zef h h.evs[a].o (zco h h.evs[a].o h.evs[a].v).1).getD 0),3,a,zeg h ((zef h h.evs[a].o (zco h h.evs[a].o h.evs[a].v).1).getD 0) h.evs[a].o,h.evs[a].o,0⟩) rfl (by rfl)) ?_
    refine qv rfl rfl (q6 rfl rfl) ?_
    refine rn ?_;exact k8 rfl (.trans (.drop [_,_,_] _ _) (.le (Sb.lists (rows:= [u0 ⟨h.evs[a].t,((zef h h.evs[a].o (zco h h.evs[a].o h.evs[a].v).1).getD 0),3,a,zeg h ((zef h h.evs[a].o (zco h h.evs[a].o h.evs[a].v).1).getD 0) h.evs[a].o,h.evs[a].o,0⟩]) (rows':= [u0 ⟨h.evs[a].t,((zef h h.evs[a].o (zco h h.evs[a].o h.evs[a].v).1).getD 0),3,a,zeg h ((zef h h.evs[a].o (zco h h.evs[a].o h.evs[a].v).1).getD 0) h.evs[a].o,h.evs[a].o,0⟩]) (by simp) ⟨⟨.refl _,.refl _,.refl _,.refl _,.refl _,.refl _,.refl _,trivial⟩,trivial⟩).le)) ⟨rfl,by rw [hw];rfl⟩
theorem zyz (h:Hist) (la:Lim 1000000 h) (hc:u9 h=0) (a:Nat) (ha:a < h.evs.length):y8 Tryz.prog 139 [.agg (w6 h),iv (a:Int)] [] (fun r h'=>∃s:SV,h'= [.row s.v 7 41 ((zsd h h.evs[a] a).map u0)]∧r= .v s.v):=by
 refine z6 Tryz.func139 rfl rfl rfl ?_
 have ra:=zaj (f:=evR) ha
 have hsl:(zau h h.evs[a] a).length≤3000:=by rw [zm5];have:=(zez hc).os;omega
 refine rn ?_;refine z8 rfl (w9 rfl rfl rfl fun b2=> ?_)
 refine rn ?_;refine z8 rfl (y4 rfl fun b6=> ?_)
 refine rn ?_;refine qv rfl rfl (y1 rfl rfl (j4 (ygw h la a ha) (Sbs.refl _))) ?_
 refine rn ?_;refine zem (zau h h.evs[a] a).length (fun i s=>⟨[(26,iv i),(5,.v s.v),(1,iv (a:Int)),(2,pZ b2),(6,pZ b6),(24,zfq (zau h h.evs[a] a)),(25,iv ((zau h h.evs[a] a).map zaq).length)],.row s.v 7 41 ((scP h h.evs[a] a i).map u0):: .box b6 60 (evR h.evs[a]):: .box b2 28 (w6 h):: [],[]⟩) ⟨none,0,0⟩ (v7 (zam 7 41) es) ?_
 intro i s li
 refine rn ?_;refine z7 rfl (fun hc27=> ?_) (fun hc27=> ?_)
 ·have hi:=za4 hc27
  have ri:=zaj (f:=zaq) hi
  obtain ⟨⟨o0,o1⟩,_⟩:=zqi (List.getElem_mem hi)
  have hgl:=yep hc o0 o1 h.evs[a].p
  have hil:=ysg hc o0 o1
  have hpl:=yl4 hc h.evs[a] a i
  refine rn ?_;refine z8 rfl (y4 rfl fun b8=> ?_)
  refine rn ?_;refine qv rfl rfl (y1 rfl rfl (j4 (zsl h la (zau h h.evs[a] a)[i].o (zau h h.evs[a] a)[i].v) (Sbs.refl _))) ?_
  refine rn ?_;refine qv rfl rfl (y1 rfl rfl (y0.pure (R:=fun r=>r=zbe (zil h h.evs[a].p (zau h h.evs[a] a)[i].o)) (y0.of_fun (zsq h la h.evs[a].p (zau h h.evs[a] a)[i].o)))) ?_
  refine rn ?_;refine zem (zil h h.evs[a].p (zau h h.evs[a] a)[i].o).length (fun j s=>⟨[(46,iv j),(5,.v s.v),(1,iv (a:Int)),(2,pZ b2),(6,pZ b6),(8,pZ b8),(9,iv (zco h (zau h h.evs[a] a)[i].o (zau h h.evs[a] a)[i].v).1),(10,bv (zco h (zau h h.evs[a] a)[i].o (zau h h.evs[a] a)[i].v).2),(24,zfq (zau h h.evs[a] a)),(25,iv ((zau h h.evs[a] a).map zaq).length),(26,iv i),(44,zbe (zil h h.evs[a].p (zau h h.evs[a] a)[i].o)),(45,iv ((zil h h.evs[a].p (zau h h.evs[a] a)[i].o).map zar).length)],.box b8 70 (zaq (zau h h.evs[a] a)[i]):: .row s.v 7 41 ((scP h h.evs[a] a i++((zil h h.evs[a].p (zau h h.evs[a] a)[i].o).take j).filterMap (zfj h h.evs[a] a (zau h h.evs[a] a)[i])).map u0):: .box b6 60 (evR h.evs[a]):: .box b2 28 (w6 h):: [],[]⟩) s (by rw [List.take_zero,List.filterMap_nil,List.append_nil];exact es) ?_
  intro j s lj
  refine rn ?_;refine z7 rfl (fun hc47=> ?_) (fun hc47=> ?_)
  ·have hj:=za4 hc47
   have rj:=zaj (f:=zar) hj
   obtain ⟨k0,k1⟩:=zx6 (List.getElem_mem hj:(zil h h.evs[a].p (zau h h.evs[a] a)[i].o)[j]∈H.chR _ _)
   have hkl:((zil h h.evs[a].p (zau h h.evs[a] a)[i].o)[j] - 1).toNat < ((zdn h (zau h h.evs[a] a)[i].o).map zar).length:=by rw [oM];omega
   have rkk:((zdn h (zau h h.evs[a] a)[i].o).map zar)[((zil h h.evs[a].p (zau h h.evs[a] a)[i].o)[j] - 1).toNat]? =some (zar (scT h (zau h h.evs[a] a)[i] (zil h h.evs[a].p (zau h h.evs[a] a)[i].o)[j])):=by rw [List.getElem?_map,scT,List.getElem?_eq_getElem (by rw [oM] at hkl;exact hkl)];rfl
   have hfl:=Nat.le_trans (List.length_filterMap_le (zfj h h.evs[a] a (zau h h.evs[a] a)[i]) ((zil h h.evs[a].p (zau h h.evs[a] a)[i].o).take j)) (List.length_take_le _ _)
   refine rn ?_;refine qv rfl rfl (y1 rfl rfl (j4 (zhv h la (zau h h.evs[a] a)[i].o) (Sbs.refl _))) ?_
   refine q1 ?_;refine qq rfl rfl (zcb rfl rfl rfl (by omega)) ?_
   refine qq rfl rfl (zax rfl rfl (by omega) rkk) ?_
   refine rn ?_;refine w7 (fun hg11_2=> ?_) (fun hg11_2=> ?_)
   ·refine rn ?_;refine zfe rfl ?_;have hw:zfj h h.evs[a] a (zau h h.evs[a] a)[i] (zil h h.evs[a].p (zau h h.evs[a] a)[i].o)[j]=none:=by
     first
     |exact yl3 hg11_2
     |exact yl2 hg11_2 hg11_7
     |exact yl1 hg11_2 hg11_7 hc70
    refine rn ?_;exact ⟨hj,s,by rw [yol hj hw];exact eA⟩
   ·refine rn ?_;refine w7 (fun hg11_7=> ?_) (fun hg11_7=> ?_)
    ·refine rn ?_;refine zfe rfl ?_;have hw:zfj h h.evs[a] a (zau h h.evs[a] a)[i] (zil h h.evs[a].p (zau h h.evs[a] a)[i].o)[j]=none:=by
      first
      |exact yl3 hg11_2
      |exact yl2 hg11_2 hg11_7
      |exact yl1 hg11_2 hg11_7 hc70
     refine rn ?_;exact ⟨hj,s,by rw [yol hj hw];exact eA⟩
    ·refine rn ?_;refine z7 rfl (fun hc70=> ?_) (fun hc70=> ?_)
     ·have hw:zfj h h.evs[a] a (zau h h.evs[a] a)[i] (zil h h.evs[a].p (zau h h.evs[a] a)[i].o)[j]=none:=by
       first
       |exact yl3 hg11_2
       |exact yl2 hg11_2 hg11_7
       |exact yl1 hg11_2 hg11_7 hc70
      refine rn ?_;exact ⟨hj,s,by rw [yol hj hw];exact eA⟩
     ·have hw:zfj h h.evs[a] a (zau h h.evs[a] a)[i] (zil h h.evs[a].p (zau h h.evs[a] a)[i].o)[j]=some ⟨h.evs[a].t,(scT h (zau h h.evs[a] a)[i] (zil h h.evs[a].p (zau h h.evs[a] a)[i].o)[j]),4,a,zeg h (scT h (zau h h.evs[a] a)[i] (zil h h.evs[a].p (zau h h.evs[a] a)[i].o)[j]) (zau h h.evs[a] a)[i].o,(zau h h.evs[a] a)[i].o,h.evs[a].p⟩:=ywl hg11_2 hg11_7 hc70
      refine rn ?_;refine qv rfl rfl (y1 rfl rfl (j4 (zks h la.evs (scT h (zau h h.evs[a] a)[i] (zil h h.evs[a].p (zau h h.evs[a] a)[i].o)[j]) (zau h h.evs[a] a)[i].o) (Sbs.refl _))) ?_
      refine rn ?_;refine z8 rfl (y4 rfl fun b14=> ?_)
      first|refine z8 rfl (j9 rfl rfl rfl ?_)|refine z8 rfl (zao rfl rfl rfl rfl (Nat.le_of_ble_eq_true rfl) ?_)
      refine q1 ?_;refine q1 ?_;refine u6 (zab ?_)
      refine y3 ?_;refine q1 ?_;refine q1 ?_;refine q1 ?_;refine q1 ?_;refine q1 ?_;refine q1 ?_;refine q1 ?_;refine q1 ?_;refine q1 ?_;refine q1 ?_;refine qq rfl rfl (zae (out:=u0 ⟨h.evs[a].t,(scT h (zau h h.evs[a] a)[i] (zil h h.evs[a].p (zau h h.evs[a] a)[i].o)[j]),4,a,zeg h (scT h (zau h h.evs[a] a)[i] (zil h h.evs[a].p (zau h h.evs[a] a)[i].o)[j]) (zau h h.evs[a] a)[i].o,(zau h h.evs[a] a)[i].o,h.evs[a].p⟩) rfl (by rfl)) ?_
      refine qv rfl rfl (q6 rfl rfl) ?_
      refine z8 rfl (q7 rfl rfl (by simp only [oM,List.length_append,List.length_cons,List.length_nil];omega) rfl (fun s92=> ?_) (za8 [⟨h.evs[a].t,(scT h (zau h h.evs[a] a)[i] (zil h h.evs[a].p (zau h h.evs[a] a)[i].o)[j]),4,a,zeg h (scT h (zau h h.evs[a] a)[i] (zil h h.evs[a].p (zau h h.evs[a] a)[i].o)[j]) (zau h h.evs[a] a)[i].o,(zau h h.evs[a] a)[i].o,h.evs[a].p⟩]))
      refine j3 s92 fun sv hsv=> ?_
      subst hsv
      refine rn ?_;exact ⟨hj,sv,by rw [ysw hj hw,←List.append_assoc,List.map_append (l₁:=(scP h h.evs[a] a i++((zil h h.evs[a].p (zau h h.evs[a] a)[i].o).take j).filterMap (zfj h h.evs[a] a (zau h h.evs[a] a)[i])))];exact eA⟩
  ·have qj:=za5 hc47 lj
   refine rn ?_;exact ⟨hi,s,by rw [yuc hi];rw [qj,List.take_length];exact eA⟩
 ·have qi:=za5 hc27 li
  refine rn ?_;exact k8 rfl (.trans (.perm ((pt1 _ _ _).trans (.cons _ (pt1 _ _ _))) _) (.drop [_,_] _ _)) ⟨s,by rw [qi,yl5],rfl⟩
theorem ybv (h:Hist) (la:Lim 1000000 h) (hc:u9 h=0) (a:Nat) (ha:a < h.evs.length):y8 Tryz.prog 139 [.agg (w6 h),iv (a:Int)] [] (fun r h'=>h'= []∧r=zej (zsd h h.evs[a] a)):=(zyz h la hc a ha).ventR (by rintro _ _ ⟨s,rfl,rfl⟩;exact ⟨_,_,zcw,rfl,rfl⟩)
theorem yoh {h:Hist} {e:Ev} {a:Nat} (hm:zga h.evs e.t 5=false):zdd h e a= []:=by rw [zdd,if_neg (by rw [hm];decide)]
theorem yog {h:Hist} {e:Ev} {a:Nat} (hm:zga h.evs e.t 5=true) (h3:e.kind=3):zdd h e a=zhm h e a:=by rw [zdd,if_pos hm,if_pos h3]
theorem yof {h:Hist} {e:Ev} {a:Nat} (hm:zga h.evs e.t 5=true) (h3:e.kind≠3) (h4:e.kind=4):zdd h e a=zsd h e a:=by rw [zdd,if_pos hm,if_neg h3,if_pos h4]
theorem yoe {h:Hist} {e:Ev} {a:Nat} (hm:zga h.evs e.t 5=true) (h3:e.kind≠3) (h4:e.kind≠4):zdd h e a= []:=by rw [zdd,if_pos hm,if_neg h3,if_neg h4]
theorem zsm (h:Hist) (la:Lim 1000000 h) (hc:u9 h=0) (a:Nat) (ha:a < h.evs.length):y8 Tryz.prog 92 [.agg (w6 h),iv (a:Int)] [] (fun r h'=>h'= []∧r=zej (zdd h h.evs[a] a)):=by
 refine z6 Tryz.func92 rfl rfl rfl ?_
 have ra:=zaj (f:=evR) ha
 refine rn ?_;refine z8 rfl (w9 rfl rfl rfl fun b2=> ?_)
 refine rn ?_;refine z8 rfl (y4 rfl fun b5=> ?_)
 refine rn ?_;refine qv rfl rfl (y1 rfl rfl (j4 (ybz h h.evs[a].t (la.mono (by decide):Lim 4611686018427387904 h)) (Sbs.refl _))) ?_
 refine rn ?_;refine z7 rfl (fun hc11=> ?_) (fun hc11=> ?_)
 ·have hm:zga h.evs h.evs[a].t 5=false:=by simpa using hc11
  refine rn ?_;exact k8 rfl (.trans (.drop [_,_] _ _) (.le (Sb.nil false 7).le)) ⟨rfl,by rw [yoh hm];rfl⟩
 ·have hm:zga h.evs h.evs[a].t 5=true:=by simpa using hc11
  refine rn ?_;refine z7 rfl (fun hc17=> ?_) (fun hc17=> ?_)
  ·have h3:h.evs[a].kind=3:=by simpa using hc17
   refine rn ?_;refine qv rfl rfl (y1 rfl rfl (j4 (ybw h la a ha) (Sbs.refl _))) ?_
   refine rn ?_;exact k8 rfl (.drop [_,_] _ _) ⟨rfl,by rw [yog hm h3];rfl⟩
  ·have h3:h.evs[a].kind≠3:=by simpa using hc17
   refine rn ?_;refine z7 rfl (fun hc24=> ?_) (fun hc24=> ?_)
   ·have h4:h.evs[a].kind=4:=by simpa using hc24
    refine rn ?_;refine qv rfl rfl (y1 rfl rfl (j4 (ybv h la hc a ha) (Sbs.refl _))) ?_
    refine rn ?_;exact k8 rfl (.drop [_,_] _ _) ⟨rfl,by rw [yof hm h3 h4];rfl⟩
   ·have h4:h.evs[a].kind≠4:=by simpa using hc24
    refine rn ?_;exact k8 rfl (.trans (.drop [_,_] _ _) (.le (Sb.nil false 7).le)) ⟨rfl,by rw [yoe hm h3 h4];rfl⟩
theorem zy4 (h:Hist) (la:Lim 1000000 h) (hc:u9 h=0) (h60:h.evs.length≤60) (kd:Int):y8 Tryz.prog 46 [.agg (w6 h),iv kd] [] (fun r h'=>∃s:SV,h'= [.row s.v 7 41 ((zdm h kd h.evs.length).map u0)]∧r= .v s.v):=by
 refine z6 Tryz.func46 rfl rfl rfl ?_
 refine rn ?_;refine z8 rfl (w9 rfl rfl rfl fun b2=> ?_)
 refine rn ?_;refine zem h.evs.length (fun i s=>⟨[(12,iv i),(5,.v s.v),(1,iv kd),(2,pZ b2),(11,iv (h.evs.map evR).length)],.row s.v 7 41 ((zdm h kd i).map u0):: .box b2 28 (w6 h):: [],[]⟩) ⟨none,0,0⟩ (v7 (zam 7 41) es) ?_
 intro i s li
 refine rn ?_;refine z7 rfl (fun hc13=> ?_) (fun hc13=> ?_)
 ·have hi:i < h.evs.length:=by have q:=oT hc13;rw [oM] at q;omega
  have he1:=zj9 hc kd i (by omega)
  have he2:=znu hc hi
  refine rn ?_;refine qv rfl rfl (y1 rfl rfl (j4 (zsm h la hc i hi) (Sbs.refl _))) ?_
  refine rn ?_;refine zem (zdd h h.evs[i] i).length (fun j s=>⟨[(19,iv j),(5,.v s.v),(1,iv kd),(2,pZ b2),(11,iv (h.evs.map evR).length),(12,iv i),(17,zej (zdd h h.evs[i] i)),(18,iv ((zdd h h.evs[i] i).map u0).length)],.row s.v 7 41 ((zer (zdm h kd i) (((zdd h h.evs[i] i).take j).filter fun x=>x.k==kd)).map u0):: .box b2 28 (w6 h):: [],[]⟩) s es ?_
  intro j s lj
  refine rn ?_;refine z7 rfl (fun hc20=> ?_) (fun hc20=> ?_)
  ·have hj:=za4 hc20
   have rj:=zaj (f:=u0) hj
   have he3:=zpe (((zdd h h.evs[i] i).take j).filter fun x=>x.k==kd) (zdm h kd i)
   have he4:=Nat.le_trans (List.length_filter_le (fun x:Conf=>x.k==kd) ((zdd h h.evs[i] i).take j)) (List.length_take_le _ _)
   refine rn ?_;refine z8 rfl (y4 rfl fun b8=> ?_)
   refine rn ?_;refine z7 rfl (fun hc26=> ?_) (fun hc26=> ?_)
   ·refine rn ?_;refine z8 rfl (v8 rfl rfl (y0.fr (y0.of_fun (yqq (zer (zdm h kd i) (((zdd h h.evs[i] i).take j).filter fun x=>x.k==kd)) s (zdd h h.evs[i] i)[j] (by omega))) (pt1 _ _ _)) rfl ?_)
    rintro _ _ ⟨_,rfl,s2,rfl,rfl⟩
    refine rn ?_;first|exact ⟨hj,s2,by rw [yj4 hj hc26];exact v7 (zap (pt1 _ _ _)) (v7 (zdw (h1:= [_])) es)⟩|exact ⟨hj,s,by rw [yj5 hj hc26];exact eA⟩
   ·refine rn ?_;first|exact ⟨hj,s2,by rw [yj4 hj hc26];exact v7 (zap (pt1 _ _ _)) (v7 (zdw (h1:= [_])) es)⟩|exact ⟨hj,s,by rw [yj5 hj hc26];exact eA⟩
  ·have qj:=za5 hc20 lj
   refine rn ?_;exact ⟨hi,s,by rw [←yhg hi qj];exact eA⟩
 ·have qi:i=h.evs.length:=by have q:=oF hc13;rw [oM] at q;omega
  refine rn ?_;exact k8 rfl (.trans (.perm (zbb [_] [_]) _) (.drop [_] _ _)) ⟨s,by rw [qi],rfl⟩
theorem zso (h:Hist) (la:Lim 1000000 h) (hc:u9 h=0) (h60:h.evs.length≤60) (kd:Int):y8 Tryz.prog 46 [.agg (w6 h),iv kd] [] (fun r h'=>h'= []∧r=zej (zdm h kd h.evs.length)):=(zy4 h la hc h60 kd).ventR (by rintro _ _ ⟨s,rfl,rfl⟩;exact ⟨_,_,zcw,rfl,rfl⟩)
theorem yn5 {n m:Int} (h:isB n m=true):0≤n∧n < m:=by rw [isB,Bool.and_eq_true,decide_eq_true_eq,decide_eq_true_eq] at h;exact h
theorem yn6 {n m:Int} (h:isB n m=false):¬(0≤n∧n < m):=fun q=>by rw [isB,decide_eq_true q.1,decide_eq_true q.2] at h;cases h
theorem yby (h:Hist) (la:Lim 1000000 h) (hc:u9 h=0) (c:Conf):y8 Tryz.prog 47 [.agg (w6 h),.agg (u0 c)] [] (fun r h'=>h'= []∧r=bv (rwJ h c)):=by
 refine z6 Tryz.func47 rfl rfl rfl ?_
 refine rn ?_;refine z8 rfl (w9 rfl rfl rfl fun b2=> ?_)
 refine z8 rfl (w9 rfl rfl rfl fun b3=> ?_)
 refine rn ?_;refine qv rfl rfl (y1 rfl rfl (j4 (zio c.a (h.evs.map evR).length) (Sbs.refl _))) ?_
 refine rn ?_;refine z7 rfl (fun hc13=> ?_) (fun hc13=> ?_)
 ·have hn:¬(0≤c.a∧c.a < h.evs.length):=by have q:=yn6 (by simpa using hc13:isB c.a ((h.evs.map evR).length:Int)=false);rw [oM] at q;exact q
  refine rn ?_;exact k8 rfl (.drop [_,_] _ _) ⟨rfl,congrArg bv (zjr (zux (by omega))).symm⟩
 ·have hn:0≤c.a∧c.a < h.evs.length:=by have q:=yn5 (by simpa using hc13:isB c.a ((h.evs.map evR).length:Int)=true);rw [oM] at q;exact q
  obtain ⟨a,hca⟩:∃a:Nat,c.a=(a:Int):=⟨c.a.toNat,by omega⟩
  have ha:a < h.evs.length:=by omega
  have hfe:=zvw (zbj.1 hc) (List.getElem_mem ha) a
  have hlen:=znu hc ha
  refine zan ?_;refine zab ?_;refine w8 ?_;refine w8 (y3 ?_)
  refine q1 ?_;refine q1 ?_;refine qq rfl rfl (zhx (zac rfl rfl) (show iv _=iv (a:Nat) from congrArg iv hca)) ?_
  refine qv rfl rfl (y1 rfl rfl (j4 (zsm h la hc a ha) (Sbs.refl _))) ?_
  refine rn ?_;refine zcu ((zdd h h.evs[a] a).length) (fun k:Nat=>(zdd h h.evs[a] a).all (fun z=> !zek z c)=((zdd h h.evs[a] a).drop k).all (fun z=> !zek z c)) (fun k=> [(19,iv k)]) [(3,_),(17,_),(18,_)] rfl ?_
  intro k lk zk
  refine rn ?_;refine z7 rfl (fun hc20=> ?_) (fun hc20=> ?_)
  ·have hk:=za4 hc20
   have rk:=zaj (f:=u0) hk
   refine rn ?_;refine z8 rfl (y4 rfl fun b6=> ?_)
   refine rn ?_;refine z7 rfl (fun hc25=> ?_) (fun hc25=> ?_)
   ·refine rn ?_;exact k8 rfl (.drop [_,_,_] _ _) ⟨rfl,congrArg bv (ymb (yma hc hca ha (by rw [hfe];exact oT (yr8 hk hc25)))).symm⟩
   ·refine rn ?_;exact ⟨hk,zui hk zk (by show (!zek (zdd h h.evs[a] a)[k] c)=true;rw [show zek (zdd h h.evs[a] a)[k] c=false from hc25];rfl),eA⟩
  ·have qk:=za5 hc20 lk
   have ak:=zz9 qk zk
   refine rn ?_;exact k8 rfl (.drop [_,_] _ _) ⟨rfl,congrArg bv (zjr (yqf hca ha (by rw [hfe];exact oF (yr9 ak)))).symm⟩
theorem zzk (l:List Ev):(l.map evR).take (min (l.map evR).length 60)=(l.take 60).map evR:=by
 rw [oM,←List.map_take,Nat.min_comm,←List.take_take,List.take_length]
theorem yre (h:Hist) (la:Big h):y8 Tryz.prog 31 [.agg (w6 h)] [] (fun r h'=>∃(sE sO sM:SV) (E:List (SV×Ev)),E.map (·.2)=(h.evs.take 60)∧h'= .row sE.v 9 60 (E.map ypm):: .row sO.v 2 87 (h.ords.map ze7):: .row sM.v 4 109 (h.mats.map zes)::scR 70 E∧r= .agg [zdp h.ts,zdp h.ss,zdp h.os,zdp h.ps,.v sE.v,.v sO.v,.v sM.v,zun h.wants]):=by
 refine z6 Tryz.func31 rfl rfl rfl ?_
 refine rn ?_;refine z8 rfl (w9 rfl rfl rfl fun b1=> ?_)
 refine z8 rfl (y4 rfl fun b2=> ?_)
 refine rn ?_;refine zyh 15 rfl ?_
 refine mq rfl rfl qrA ?_;refine mq rfl rfl qrA ?_;refine mq rfl rfl qrA ?_;refine mq rfl rfl qrA ?_;refine mq rfl rfl qrA ?_;refine mq rfl rfl (ym2 (h.evs.map evR).length 60 rfl rfl) ?_
 refine mq rfl rfl (znd (rows':=(h.evs.take 60).map evR) rfl rfl (Nat.min_le_left _ _) (zzk h.evs)) ?_
 refine yh1 (ynh 9 60 ((h.evs.take 60).map evR)) rfl rfl rfl (zxh (y0.of_fun (zz3 _ (by rw [oM,List.length_take];omega) (ykc _)))) ?_
 refine rn ?_;refine yh1 (ynh 2 87 (h.ords.map ze7)) rfl rfl rfl (zxh (y0.of_fun (zt2 _ (by rw [oM];have:=la.ords;omega) (ynb _)))) ?_
 refine rn ?_;refine yh1 (ynh 4 109 (h.mats.map zes)) rfl rfl rfl (zxh (y0.of_fun (zt3 _ (by rw [oM];have:=la.mats;omega) (ync _)))) ?_
 refine rn ?_;refine yv6 ⟨.refl _,?_⟩
 refine rn ?_;refine zqy fun s11=> ?_
 refine rn ?_;refine zqy fun s14=> ?_
 refine rn ?_;refine zqy fun s17=> ?_
 refine rn0 ?_;refine w8 ?_;refine w8 ?_;refine zfb (zap ((pt3 _ _ _ _ _).trans (.cons _ ((pt3 _ _ _ _ _).trans (.cons _ ((pt2 _ _ _ _).trans (.cons _ (pt1 _ _ _)))))))) ?_
 refine rn ?_;refine zai (fun x:Nat×List (SV×Ev)=>x.1≤(h.evs.take 60).length∧x.2.map (·.2)=(h.evs.take 60).take x.1) (fun x=>⟨[(24,iv x.1),(23,iv ((h.evs.take 60).map evR).length),(1,pZ b1),(2,pZ b2)],.box b2 28 zti:: .box b1 28 [zdp h.ts,zdp h.ss,zdp h.os,zdp h.ps,.v s11.v,.v s14.v,.v s17.v,zun h.wants]:: .row s11.v 9 60 (x.2.map ypm++((h.evs.take 60).drop x.1).map evR):: .row s14.v 2 87 (h.ords.map ze7):: .row s17.v 4 109 (h.mats.map zes)::scR 70 x.2,[]⟩) (fun x=>(h.evs.take 60).length - x.1) (0,[]) ⟨by omega,rfl⟩
  (u3 (.cons _ _ _ rfl (.cons _ _ _ rfl (.cons _ _ _ rfl (.cons _ _ _ rfl (.nil)))))) ?_
 rintro ⟨k,x⟩ ⟨hk,hx⟩
 simp only at hk hx
 have hxl:=yhz hx hk
 refine rn ?_;refine z7 rfl (fun hc25=> ?_) (fun hc25=> ?_)
 ·have hk2:k < (h.evs.take 60).length:=by have q:=oT hc25;rw [oM] at q;omega
  obtain ⟨e,he⟩:∃e,e=(h.evs.take 60)[k]:=⟨_,rfl⟩
  have hd:=List.drop_eq_getElem_cons hk2
  rw [←he] at hd
  have hrow:(x.map ypm++((h.evs.take 60).drop k).map evR)[k]? =some (evR e):=yno hxl hd
  have hmem:e∈(h.evs.take 60):=by rw [he];exact List.getElem_mem hk2
  have hle:(h.evs.take 60).length≤60:=by rw [List.length_take];omega
  have hk3:k < (x.map ypm++((h.evs.take 60).drop k).map evR).length:=by rw [ynn hxl hk];exact hk2
  refine rn ?_;refine zyh 10 rfl ?_
  refine mq rfl rfl qrA ?_;refine mq rfl rfl qrA ?_;refine mq rfl rfl qrA ?_;refine mq rfl rfl qrA ?_;refine mq rfl rfl qrA ?_;refine mq rfl rfl qrA ?_;refine mq rfl rfl (zbr rfl rfl hk3) ?_
  refine mq rfl rfl qrA ?_;refine mq rfl rfl (zc5 rfl hrow rfl) ?_
  refine yh1 (ynh 3 70 (e.scan.map zaq)) rfl rfl rfl (zxh (y0.of_fun (zrk _ (by rw [oM];have:=(la.scans e (List.mem_of_mem_take hmem));omega) (zig _)))) ?_
  refine yv6 ⟨.refl _,?_⟩
  refine rn ?_;refine zqy fun s36=> ?_
  refine rn2 ?_;refine qq rfl rfl (zbr rfl rfl hk3) ?_
  refine rn ?_;refine z8 rfl (zvf rfl rfl rfl hrow rfl (Nat.le_of_ble_eq_true rfl) ?_)
  refine rn ?_;have hset:=ynm (f:=ypm) (g:=evR) (a:=(s36,e)) (r:=(evR e).take 8++ [.v s36.v]++(evR e).drop (8+1)) hxl hd rfl
  have htl:scR 70 (x++ [(s36,e)])=scR 70 x++ [.row s36.v 3 70 (e.scan.map zaq)]:=by simp [scR]
  exact ⟨(k+1,x++ [(s36,e)]),⟨by omega,yhy hx hk2 he⟩,by simp only [htl];exact v7 (zap (zbb [_] _)) (by rw [←hset];exact (u3 (.cons _ _ _ rfl (.cons _ _ _ rfl (.cons _ _ _ rfl (.cons _ _ _ rfl (.nil))))))),by simp only;omega⟩
 ·obtain rfl:k=(h.evs.take 60).length:=by
   have q:=oF hc25
   rw [oM] at q
   omega
  rw [List.take_length] at hx
  rw [List.drop_length,List.map_nil,List.append_nil]
  refine rn ?_;exact ze6 (.cons _ _ _ _ (.agg _ _ _ _ _ _ _ rfl inferInstance inferInstance inferInstance rfl) .nil) (.drop [_,_] _ _) ⟨s11,s14,s17,x,hx,rfl,rfl⟩
theorem yus (h:Hist) (la:Big h):y8 Tryz.prog 31 [.agg (w6 h)] [] (fun r h'=>h'= []∧r= .agg (w6 (za1 h))):=
 (yre h la).ventR (by
  rintro _ _ ⟨sE,sO,sM,E,hE,rfl,rfl⟩
  exact ⟨_,_,zvb [] sE.v sO.v sM.v (za1 h) E 60 87 109 70 _ hE (by simp) (by simp [za1]) (by simp [za1]) (fun r hr=>by simp [hr]),rfl,rfl⟩)
def yd4 (e:Ev):List AV:= [iv e.kind,iv e.t,iv e.s,iv e.l,iv e.o,iv e.v.t,iv e.v.k,iv e.p,.v (.slice none 0 0)]
theorem ynd (l:List Ev):∀r∈l.map yd4,r.all AV.one=true:=by
 intro r hr;obtain ⟨a,_,rfl⟩:=List.mem_map.1 hr;rfl
theorem ygi  :y8 Tryz.prog 83 [] [] (fun r h'=>∃s:SV,h'= [.row s.v 9 60 ((srE 2).map yd4)]∧r= .agg [.list true 1 [[sv (wT 48)],[sv (wT 49)],[sv (wT 50)]],.list true 1 [[sv zya]],.list true 1 [[sv bxx]],.list true 1 [[sv bPP]],.v s.v,.list true 2 [[iv 0,.list true 1 [[iv 1],[iv 2]]]],.list true 4 [[iv 0,iv 0,bv false,.list true 1 [[iv 2]]]],.v (.slice none 0 0)]):=by
 refine z6 Tryz.func83 rfl rfl rfl ?_
 refine rn ?_;refine z8 rfl (y4 rfl fun b0=> ?_)
 refine rn ?_;refine qv rfl rfl (q6 rfl rfl) ?_
 refine qv rfl rfl (q6 rfl rfl) ?_
 refine qv rfl rfl (q6 rfl rfl) ?_
 refine qv rfl rfl (q6 rfl rfl) ?_
 refine rn ?_;refine z8 rfl (y4 rfl fun b1=> ?_)
 first|refine z8 rfl (j9 rfl rfl rfl ?_)|refine z8 rfl (zao rfl rfl rfl rfl (Nat.le_of_ble_eq_true rfl) ?_)
 refine u6 (zab ?_)
 refine w8 (y3 ?_)
 refine qq rfl rfl (zae (out:=yd4 (ypo 0)) rfl (by rfl)) ?_
 refine qq rfl rfl (zae (out:=yd4 (⟨3,0,0,0,0,⟨0,0⟩,0,[]⟩)) rfl (by rfl)) ?_
 refine qq rfl rfl (zae (out:=yd4 (⟨4,0,0,0,0,⟨0,0⟩,0,[]⟩)) rfl (by rfl)) ?_
 refine qq rfl rfl (zae (out:=yd4 (ypn 0)) rfl (by rfl)) ?_
 refine z8 rfl (zbz (rows:=(srE 0).map yd4) rfl rfl rfl (fun s12=> ?_))
 refine j3 s12 fun sw hsw=> ?_
 subst hsw
 refine rn ?_;refine zem 2 (fun k s=>⟨[(2,iv (k+1:Nat)),(0,pZ b0),(1,pZ b1)],.row s.v 9 60 ((srE k).map yd4):: .box b1 28 [.list true 1 [[sv (wT 48)],[sv (wT 49)],[sv (wT 50)]],.list true 1 [[sv zya]],.list true 1 [[sv bxx]],.list true 1 [[sv bPP]],.v s.v,.v (.slice none 0 0),.v (.slice none 0 0),.v (.slice none 0 0)]:: .box b0 28 zti:: [],[]⟩) sw es ?_
 intro k s lk
 refine rn ?_;refine z7 rfl (fun hc15=> ?_) (fun hc15=> ?_)
 ·have hk:k < 2:=by have q:=oT hc15;omega
  have hb:=ylm k
  refine zan ?_;refine zab ?_;refine w8 ?_;refine zb4 ?_;refine y3 ?_;refine q1 ?_;refine q1 ?_;refine q1 ?_;refine qq rfl rfl (zae (out:=yd4 (ypo (k+1:Nat))) rfl (by rfl)) ?_
  refine q1 ?_;refine q1 ?_;refine qq rfl rfl (zae (out:= [iv (k+1:Nat),iv 1]) rfl (by rfl)) ?_
  refine qq rfl rfl (zae (out:=yd4 (yt2 (k+1:Nat) 0)) rfl (by rfl)) ?_
  refine q1 ?_;refine qq rfl rfl (zae (out:=yd4 (ypn (k+1:Nat))) rfl (by rfl)) ?_
  refine qv rfl rfl (q6 rfl rfl) ?_
  refine z8 rfl (q7 rfl rfl (by simp only [oM,List.length_append,List.length_cons,List.length_nil];omega) rfl (fun s29=> ?_) (ynd [ypo (k+1:Nat),yt2 (k+1:Nat) 0,ypn (k+1:Nat)]))
  refine j3 s29 fun sw hsw=> ?_
  subst hsw
  refine rn ?_;exact ⟨hk,sw,by rw [yp4,List.map_append];exact eA⟩
 ·have qk:k=2:=by have q:=oF hc15;omega
  refine rn ?_;refine qv rfl rfl (q6 rfl rfl) ?_
  refine rn ?_;refine qv rfl rfl (q6 rfl rfl) ?_
  refine rn ?_;refine qv rfl rfl (q6 rfl rfl) ?_
  refine rn ?_;refine qv rfl rfl (q6 rfl rfl) ?_
  refine rn ?_;exact ze6 (.cons _ _ _ _ (.agg _ _ _ _ _ _ _ rfl inferInstance inferInstance inferInstance rfl) .nil) (.trans (.perm ((pt1 _ _ _).trans (.cons _ (pt1 _ _ _))) _) (.drop [_,_] _ _)) ⟨s,by rw [qk],rfl⟩
theorem zus:y8 Tryz.prog 83 [] [] (fun r h'=>h'= []∧r= .agg (w6 rwH)):=
 ygi.ventR (by
  rintro _ _ ⟨s,rfl,rfl⟩
  exact ⟨_,_,.trans (zc1 [.list true 1 [[sv (wT 48)],[sv (wT 49)],[sv (wT 50)]],.list true 1 [[sv zya]],.list true 1 [[sv bxx]],.list true 1 [[sv bPP]]] [.list true 2 [[iv 0,.list true 1 [[iv 1],[iv 2]]]],.list true 4 [[iv 0,iv 0,bv false,.list true 1 [[iv 2]]]],.v (.slice none 0 0)]) (.le (Sb.aggs (bs:=w6 rwH) (by exact ⟨.unfull,.unfull,.unfull,.unfull,(.lists (by simp) ⟨⟨.refl _,.refl _,.refl _,.refl _,.refl _,.refl _,.refl _,.refl _,.nil _ _,trivial⟩,⟨.refl _,.refl _,.refl _,.refl _,.refl _,.refl _,.refl _,.refl _,.nil _ _,trivial⟩,⟨.refl _,.refl _,.refl _,.refl _,.refl _,.refl _,.refl _,.refl _,.nil _ _,trivial⟩,⟨.refl _,.refl _,.refl _,.refl _,.refl _,.refl _,.refl _,.refl _,.nil _ _,trivial⟩,⟨.refl _,.refl _,.refl _,.refl _,.refl _,.refl _,.refl _,.refl _,.nil _ _,trivial⟩,⟨.refl _,.refl _,.refl _,.refl _,.refl _,.refl _,.refl _,.refl _,.nil _ _,trivial⟩,⟨.refl _,.refl _,.refl _,.refl _,.refl _,.refl _,.refl _,.refl _,.nil _ _,trivial⟩,⟨.refl _,.refl _,.refl _,.refl _,.refl _,.refl _,.refl _,.refl _,.nil _ _,trivial⟩,⟨.refl _,.refl _,.refl _,.refl _,.refl _,.refl _,.refl _,.refl _,.nil _ _,trivial⟩,⟨.refl _,.refl _,.refl _,.refl _,.refl _,.refl _,.refl _,.refl _,.nil _ _,trivial⟩,trivial⟩),(.lists (by simp) ⟨⟨.refl _,.unfull,trivial⟩,trivial⟩),(.lists (by simp) ⟨⟨.refl _,.refl _,.refl _,.unfull,trivial⟩,trivial⟩),.nil _ _,trivial⟩)).le),rfl,rfl⟩)
theorem yu3:Lim 4611686018427387904 rwH:=⟨by decide,by decide,by decide,by decide,by decide,by decide,by decide,by decide,by decide,by decide,by decide⟩
abbrev yqb:Conf:=⟨0,1,3,1,5,0,0⟩
abbrev yvy:Conf:=⟨0,2,4,2,8,0,0⟩
theorem ygp:rwJ rwH yqb=true:=ymb (yma zhr rfl (by decide) ygq)
theorem rA1 (rO:Nat) (oK:Obj) (hK:KO oK):y8 Tryz.prog 32 [.agg (w6 rwH)] (.glob 2 156 y5:: .glob 4 305 y7:: .glob 5 308 y2:: .glob 3 246 u5:: .glob 1 175 zag:: .glob 0 171 [mpv rO]:: .obj rO oK:: []) (fun r h'=>h'= .glob 2 156 y5:: .glob 4 305 y7:: .glob 5 308 y2:: .glob 3 246 u5:: .glob 1 175 zag:: .glob 0 171 [mpv rO]:: .obj rO oK:: []∧r= .tup [zej [yqb],iv 0]):=(yqg rwH yu3 rO oK hK).mono fun _ _ q=>⟨q.1,by rw [q.2,ybj zhr,ybf,zhr]⟩
theorem rA2 (rO:Nat) (oK:Obj) (hK:KO oK):y8 Tryz.prog 33 [.agg (w6 rwH)] (.glob 2 156 y5:: .glob 4 305 y7:: .glob 5 308 y2:: .glob 3 246 u5:: .glob 1 175 zag:: .glob 0 171 [mpv rO]:: .obj rO oK:: []) (fun r h'=>h'= .glob 2 156 y5:: .glob 4 305 y7:: .glob 5 308 y2:: .glob 3 246 u5:: .glob 1 175 zag:: .glob 0 171 [mpv rO]:: .obj rO oK:: []∧r= .tup [zej [yvy],iv 0]):=(yl6 rwH yu3 rO oK hK).mono fun _ _ q=>⟨q.1,by rw [q.2,ybj zhr,ybd,zhr]⟩
theorem rA3 (rO:Nat) (oK:Obj) (hK:KO oK):y8 Tryz.prog 40 [.agg (w6 rwH),.agg (u0 yqb)] (.glob 2 156 y5:: .glob 4 305 y7:: .glob 5 308 y2:: .glob 3 246 u5:: .glob 1 175 zag:: .glob 0 171 [mpv rO]:: .obj rO oK:: []) (fun r h'=>h'= .glob 2 156 y5:: .glob 4 305 y7:: .glob 5 308 y2:: .glob 3 246 u5:: .glob 1 175 zag:: .glob 0 171 [mpv rO]:: .obj rO oK:: []∧r=bv true):=(yj1 rwH yu3 rO oK hK yqb).mono fun _ _ q=>⟨q.1,by rw [q.2,ygp]⟩
theorem rEq {f g:Bool} (c:Conf):y8 Tryz.prog 19 [.list f 7 [u0 c],.list g 7 [u0 c]] [] (fun r h'=>h'= []∧r=bv true):=ys7 [c] (by show 1≤_;decide)
theorem yld (rO:Nat) (oK:Obj) (hK:KO oK):y8 Tryz.prog 30 [] (.glob 2 156 y5:: .glob 4 305 y7:: .glob 5 308 y2:: .glob 3 246 u5:: .glob 1 175 zag:: .glob 0 171 [mpv rO]:: .obj rO oK:: []) (fun r h'=>h'= .glob 2 156 y5:: .glob 4 305 y7:: .glob 5 308 y2:: .glob 3 246 u5:: .glob 1 175 zag:: .glob 0 171 [mpv rO]:: .obj rO oK:: []∧r=bv true):=by
 refine z6 Tryz.func30 rfl rfl rfl ?_
 refine rn ?_;refine qv rfl rfl (y1 rfl rfl (y0.pure (R:=fun r=>r= .agg (w6 rwH)) (y0.of_fun zus))) ?_
 refine qv rfl rfl (y1 rfl rfl (y0.of_fun (rA1 rO oK hK))) ?_
 refine rn ?_;refine qv rfl rfl (y1 rfl rfl (y0.pure (R:=fun r=>r= .agg (w6 rwH)) (y0.of_fun zus))) ?_
 refine qv rfl rfl (y1 rfl rfl (y0.of_fun (rA2 rO oK hK))) ?_
 refine q1 ?_;refine q1 ?_;refine q1 ?_;refine q1 ?_;refine q1 ?_;refine u6 (zab ?_)
 refine w8 (y3 ?_)
 refine qq rfl rfl (zae (out:=u0 yqb) rfl (by rfl)) ?_
 refine z8 rfl (y4 rfl fun b5=> ?_)
 refine rn ?_;refine k9 21 rfl ?_
 refine rn ?_;refine dv rfl rfl (q6 rfl rfl) ?_
 refine dv rfl rfl (by exact y1 rfl rfl (y0.pure (R:=fun r=>r=bv true) (y0.of_fun (rEq _)))) ?_
 refine dq rfl rfl qrA ?_;refine dq rfl rfl qrA ?_;refine dq rfl rfl qrA ?_;refine dq rfl rfl (zae (out:=u0 yvy) rfl (by rfl)) ?_
 refine dv rfl rfl (q6 rfl rfl) ?_
 refine dv rfl rfl (by exact y1 rfl rfl (y0.pure (R:=fun r=>r=bv true) (y0.of_fun (rEq _)))) ?_
 refine rn ?_;refine dv rfl rfl (by exact y1 rfl rfl (y0.pure (R:=fun r=>r= .agg (w6 rwH)) (y0.of_fun zus))) ?_
 refine rn ?_;refine qv rfl rfl (y1 rfl rfl (y0.qt (y0.of_fun (rA3 rO oK hK)) ((pt1 _ _ _).trans (.cons _ ((pt1 _ _ _).trans (.cons _ ((pt1 _ _ _).trans (.cons _ ((pt1 _ _ _).trans (.cons _ ((pt1 _ _ _).trans (.cons _ ((pt1 _ _ _).trans (.cons _ (pt1 _ _ _))))))))))))))) ?_
 refine rn ?_;refine rq 1 ?_
 exact ⟨rfl,rfl⟩
end Go.Proofs
