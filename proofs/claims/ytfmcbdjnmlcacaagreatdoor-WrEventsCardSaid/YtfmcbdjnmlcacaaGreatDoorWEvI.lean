/- The walks of rw's from. Conditions: none. -/
import Derived.Test.YtfmcbdjnmlcacaaGreatDoorWEvH
set_option maxHeartbeats 4000000
set_option linter.unusedSectionVars false
set_option linter.unusedSimpArgs false
set_option linter.unusedVariables false
set_option maxRecDepth 10000
namespace Go.Proofs
open Go Go.Ab
attribute [local irreducible] QR QV OE zb5 aw zce zcn za2 zbr thn zd9 zcl jch zd7
open Go.H
def zb2:List AV:= [.any,.fn (.func 302) [] [],.fn (.func 302) [] [],.fn (.func 303) [] [],.fn (.func 304) [] [],.fn (.func 302) [] [],.fn (.func 302) [] []]
def yap (k:Nat):AV:=zb2.getD k .any
theorem yao {k:Nat} (h2:k≤6):zb2[k]? =some (yap k):=by
 have:k < zb2.length:=by show k < 7;omega
 rw [yap,List.getD_eq_getElem?_getD,List.getElem?_eq_getElem this];rfl
def zh6 (h:Hist) (x r:Int):Int:=((zaj h x)[(r - 1).toNat]?).getD 0
def zu8 (h:Hist) (e:Ev) (a:Nat) (x r:Int):Conf:=if r > ((zaj h x).length:Int) then ⟨0,0,0,0,0,0,0⟩ else ⟨e.t,zh6 h x r,zx5 e.kind,a,zb9 h (zh6 h x r) x,x,e.p⟩
def zn2 (h:Hist) (e:Ev) (x r:Int):Bool:=if r > ((zaj h x).length:Int) then false else zh6 h x r !=e.t
theorem ydv {h:Hist} {e:Ev} {a:Nat} {x r:Int} (hb:zn2 h e x r=true):zew h e (zfm e) a x r=some (zu8 h e a x r):=by
 rw [zn2] at hb
 split at hb
 ·cases hb
 ·rename_i hr
  have hn:¬(((zaj h x)[(r - 1).toNat]?).getD 0==e.t)=true:=by rw [show ((zaj h x)[(r - 1).toNat]?).getD 0=zh6 h x r from rfl];simpa using hb
  rw [zew,if_neg hr,if_neg hn,zu8,if_neg hr];rfl
theorem yj8 {h:Hist} {e:Ev} {a:Nat} {x r:Int} (hb:zn2 h e x r=false):zew h e (zfm e) a x r=none:=by
 rw [zn2] at hb
 rw [zew]
 split at hb
 ·rename_i hr;rw [if_pos hr]
 ·rename_i hr
  rw [if_neg hr,if_pos (by rw [show ((zaj h x)[(r - 1).toNat]?).getD 0=zh6 h x r from rfl];simpa using hb)]
theorem seen_ok {h:Hist} (hc:q6 h=0) {e:Ev} (he:e∈h.evs) (a:Nat):(v7 h e a).length≤4000∧∀p∈v7 h e a,(0≤p.1∧p.1 < h.os.length)∧p.2.length≤4000∧∀r∈p.2,1≤r∧r≤5000:=by
 have hs:=zat.1 hc
 have lA:=zdh hc
 have lO:=lA.os
 rw [v7]
 split
 ·rename_i h3
  obtain ⟨⟨o0,o1⟩,_⟩:=zk4 (zcz hs _ he) h3
  rw [ze5]
  cases hr:zgk h e.o e.v with
  |none=>exact ⟨Nat.zero_le _,fun p hp=>by cases hp⟩
  |some r=>
   have:=yiq hc o0 o1 hr
   refine ⟨by show 1≤4000;decide,fun p hp=> ?_⟩
   rw [List.mem_singleton] at hp
   subst hp
   refine ⟨⟨o0,o1⟩,by show 1≤4000;decide,fun q hq=> ?_⟩
   rw [List.mem_singleton] at hq
   subst hq
   omega
 ·split
  ·rename_i h4
   refine ⟨?_,fun p hp=> ?_⟩
   ·refine Nat.le_trans (List.length_filterMap_le _ _) ?_
    rw [zk0];omega
   ·rw [zno,List.mem_filterMap] at hp
    obtain ⟨s,hsm,hp⟩:=hp
    obtain ⟨⟨o0,o1⟩,_⟩:=zwn hsm
    unfold zd4 at hp
    split at hp
    ·cases hp
    ·split at hp
     ·injection hp with hp
      subst hp
      have hcl:=zt0 hc e.p s.o
      refine ⟨⟨o0,o1⟩,Nat.le_trans (List.dropWhile_sublist _).length_le hcl,fun r hr=> ?_⟩
      have hr':r∈chL h e.p s.o:=(List.dropWhile_sublist _).subset hr
      rw [chL] at hr'
      split at hr'
      ·rename_i ht
       rw [yhe,zie] at hr'
       obtain ⟨j,rfl,j0,j1,_⟩:=hr'
       rw [zin] at j1
       have:=zlf hc o0 o1
       omega
      ·cases hr'
     ·cases hp
  ·exact ⟨Nat.zero_le _,fun p hp=>by cases hp⟩
def rwF (h:Hist) (e:Ev) (a:Nat) (p:Int×List Int):List Conf:=p.2.filterMap (zew h e (zfm e) a p.1)
theorem zry {h:Hist} {e:Ev} (a:Nat) (hm:zf6 h.evs e.t 5=true):zf7 h e a=(v7 h e a).flatMap (rwF h e a):=by rw [zf7,if_pos hm];rfl
theorem zyg {h:Hist} {e:Ev} (a:Nat) (hm:zf6 h.evs e.t 5=false):zf7 h e a= []:=by rw [zf7,if_neg (by rw [hm];decide)]
theorem yos {h:Hist} {e:Ev} {a:Nat} {L:List (Int×List Int)} {i:Nat} (hi:i < L.length):(L.take (i+1)).flatMap (rwF h e a)=(L.take i).flatMap (rwF h e a)++rwF h e a L[i]:=by
 rw [List.take_succ_eq_append_getElem hi,List.flatMap_append];simp
theorem ydg {h:Hist} {e:Ev} {a:Nat} {L:List (Int×List Int)} {i j:Nat} (hi:i < L.length) (qj:j=L[i].2.length):(L.take i).flatMap (rwF h e a)++(L[i].2.take j).filterMap (zew h e (zfm e) a L[i].1)=(L.take (i+1)).flatMap (rwF h e a):=by
 rw [yos hi,qj,List.take_length];rfl
theorem yit {h:Hist} {e:Ev} {a:Nat} {i j:Nat} {d:Conf} (hm:zf6 h.evs e.t 5=true) (hi:i < (v7 h e a).length) (hj:j < (v7 h e a)[i].2.length) (hd:zew h e (zfm e) a (v7 h e a)[i].1 (v7 h e a)[i].2[j]=some d):
 ∃rest,zf7 h e a=(((v7 h e a).take i).flatMap (rwF h e a)++((v7 h e a)[i].2.take j).filterMap (zew h e (zfm e) a (v7 h e a)[i].1))++d::rest:=by
 have e1:rwF h e a (v7 h e a)[i]=((v7 h e a)[i].2.take j).filterMap (zew h e (zfm e) a (v7 h e a)[i].1)++d::((v7 h e a)[i].2.drop (j+1)).filterMap (zew h e (zfm e) a (v7 h e a)[i].1):=by
  conv=>lhs;rw [rwF,←List.take_append_drop j (v7 h e a)[i].2,List.drop_eq_getElem_cons hj]
  rw [List.filterMap_append,List.filterMap_cons,hd]
 refine ⟨((v7 h e a)[i].2.drop (j+1)).filterMap (zew h e (zfm e) a (v7 h e a)[i].1)++((v7 h e a).drop (i+1)).flatMap (rwF h e a),?_⟩
 rw [zry a hm]
 conv=>lhs;rw [←List.take_append_drop i (v7 h e a),List.drop_eq_getElem_cons hi]
 rw [List.flatMap_append,List.flatMap_cons,e1]
 simp [List.append_assoc]
theorem ylr {h:Hist} {e:Ev} {a:Nat} {B:List Conf} {x:Int} {l:List Int} {j:Nat} (hj:j < l.length) (hb:zn2 h e x l[j]=true):B++(l.take (j+1)).filterMap (zew h e (zfm e) a x)=B++(l.take j).filterMap (zew h e (zfm e) a x)++ [zu8 h e a x l[j]]:=by
 rw [yhz hj (ydv hb),List.append_assoc]
theorem yls {h:Hist} {e:Ev} {a:Nat} {B:List Conf} {x:Int} {l:List Int} {j:Nat} (hj:j < l.length) (hb:zn2 h e x l[j]=false):B++(l.take (j+1)).filterMap (zew h e (zfm e) a x)=B++(l.take j).filterMap (zew h e (zfm e) a x):=by
 rw [yh0 hj (yj8 hb)]
theorem yj1 {h:Hist} (hc:q6 h=0) {e:Ev} (he:e∈h.evs):∃kn:Nat,1≤kn∧kn≤6∧e.kind=(kn:Int):=by
 obtain ⟨k1,k2,_⟩:=zcb (zcz (zat.1 hc) _ he)
 exact ⟨e.kind.toNat,by omega,by omega,by omega⟩
theorem yij (h:Hist) (la:Lim 4611686018427387904 h) (hc:q6 h=0) (a:Nat) (ha:a < h.evs.length) (rc rl rk rg:Nat) (M:List ((Int×Int)×List Int)) (hM:zei h M) (W:List Res) {kn:Nat} (h1:1≤kn) (h6:kn≤6) (hk:h.evs[a].kind=(kn:Int)):y1 Tryz.prog (yap kn) [.agg (rwP h rc rl rk rg),iv (a:Int)] (rgR rg M::rkS h rk::zbt h rl::rcR h rc:: .glob 2 156 y2:: .glob 4 305 y3:: .glob 5 308 z8:: .glob 3 246 w6::W) (fun r h'=>∃M',zei h M'∧h'=rgR rg M'::rkS h rk::zbt h rl::rcR h rc:: .glob 2 156 y2:: .glob 4 305 y3:: .glob 5 308 z8:: .glob 3 246 w6::W∧r=zha (v7 h h.evs[a] a)):=by
 have no:h.evs[a].kind≠3→h.evs[a].kind≠4→y1 Tryz.prog (.fn (.func 302) [] []) [.agg (rwP h rc rl rk rg),iv (a:Int)] (rgR rg M::rkS h rk::zbt h rl::rcR h rc:: .glob 2 156 y2:: .glob 4 305 y3:: .glob 5 308 z8:: .glob 3 246 w6::W) (fun r h'=>∃M',zei h M'∧h'=rgR rg M'::rkS h rk::zbt h rl::rcR h rc:: .glob 2 156 y2:: .glob 4 305 y3:: .glob 5 308 z8:: .glob 3 246 w6::W∧r=zha (v7 h h.evs[a] a)):=fun n3 n4=>
  y1.of_fun ((zwt h rc rl rk rg (a:Int) (rgR rg M::rkS h rk::zbt h rl::rcR h rc:: .glob 2 156 y2:: .glob 4 305 y3:: .glob 5 308 z8:: .glob 3 246 w6::W)).mono fun _ _ q=>⟨M,hM,q.1,by rw [q.2,v7,if_neg n3,if_neg n4]⟩)
 match kn,h1,h6 with
 |1,_,_=>exact no (by omega) (by omega)
 |2,_,_=>exact no (by omega) (by omega)
 |3,_,_=>exact y1.of_fun ((yil h la hc a ha hk rc rl rk rg M W).mono fun _ _ q=>⟨M,hM,q.1,by rw [q.2,v7,if_pos (show h.evs[a].kind=3 from hk)]⟩)
 |4,_,_=>exact y1.of_fun ((yik h la hc a ha hk rc rl rk rg M hM W).mono fun _ _ ⟨M',q1,q2,q3⟩=>⟨M',q1,q2,by rw [q3,v7,if_neg (by omega),if_pos (show h.evs[a].kind=4 from hk)]⟩)
 |5,_,_=>exact no (by omega) (by omega)
 |6,_,_=>exact no (by omega) (by omega)
 |n+7,_,h6=>omega
theorem yim (h:Hist) (x r:Int) (h0:0≤x) (h1:x < h.os.length) (r1:1≤r) (r2:r≤5000) (e:Ev) (a:Nat) (bp be ba:Nat) (rc rl rk rg:Nat) (M:List ((Int×Int)×List Int)) (rO:Nat) (oK:Obj) (hK:KO oK) (W:List Res):y8 Tryz.prog 135 [iv x,iv r,pZ bp,pZ be,pZ ba] (.box be 60 (evR e):: .box ba 3 [iv (a:Int)]:: .box bp 119 (rwP h rc rl rk rg)::rgR rg M::rkS h rk::zbt h rl::rcR h rc:: .glob 2 156 y2:: .glob 4 305 y3:: .glob 5 308 z8:: .glob 3 246 w6:: .glob 1 175 zb2:: .glob 0 171 [mpv rO]:: .obj rO oK::W) (fun r_ h'=>h'= .box be 60 (evR e):: .box ba 3 [iv (a:Int)]:: .box bp 119 (rwP h rc rl rk rg)::rgR rg M::rkS h rk::zbt h rl::rcR h rc:: .glob 2 156 y2:: .glob 4 305 y3:: .glob 5 308 z8:: .glob 3 246 w6:: .glob 1 175 zb2:: .glob 0 171 [mpv rO]:: .obj rO oK::W∧r_= .tup [.agg (zaa (zu8 h e a x r)),bv (zn2 h e x r)]):=by
 refine z6 Tryz.func135 rfl rfl rfl ?_
 refine rn ?_;refine z7 rfl (y7 rfl fun b7=> ?_)
 refine q1 ?_;refine v8 (zak ?_)
 refine w8 ?_;refine w8 (y6 ?_)
 refine q1 ?_;refine q1 ?_;refine q1 ?_;refine q1 ?_;refine qq rfl rfl (zaz rfl rfl h0 (zh5 h h0 h1)) ?_
 refine rn ?_;refine y0 rfl (fun hc17=> ?_) (fun hc17=> ?_)
 ·have hr:r > ((zaj h x).length:Int):=by have q:=oT hc17;rw [oM] at q;exact q
  refine rn ?_;exact zdt (.cons _ _ _ _ (.agg _ _ _ _ _ _ _ rfl inferInstance inferInstance inferInstance rfl) (.cons _ _ _ _ (.tmp _ _ rfl) .nil)) (.drop [_] _ _) ⟨rfl,by rw [zu8,zn2,if_pos hr,if_pos hr];rfl⟩
 ·have hr:¬r > ((zaj h x).length:Int):=by have q:=oF hc17;rw [oM] at q;exact q
  have hk:(r - 1).toNat < (zaj h x).length:=by omega
  have rr:((zaj h x).map za9)[(r - 1).toNat]? =some (za9 (zh6 h x r)):=by rw [zh6,List.getElem?_map,List.getElem?_eq_getElem hk];rfl
  refine zbs ?_;refine zak ?_;refine w8 (y6 ?_)
  refine q1 ?_;refine q1 ?_;refine q1 ?_;refine qq rfl rfl (zaz rfl rfl h0 (zh5 h h0 h1)) ?_
  refine q1 ?_;refine q1 ?_;refine qq rfl rfl (zfe rfl rfl rfl (by omega)) ?_
  refine qq rfl rfl (zaz rfl rfl (by omega) rr) ?_
  refine rn ?_;refine zdj 23 [(b7,41,_)] rfl (List.perm_append_comm (l₁:= [_])) ?_
  refine dq rfl rfl qrA ?_;refine dq rfl rfl qrA ?_;refine dq rfl rfl qrA ?_;refine dq rfl rfl qrA ?_;refine dq rfl rfl qrA ?_;refine dq rfl rfl qrA ?_;refine dq rfl rfl (ya3 (k:=e.kind) hK rfl rfl) ?_
  refine dq rfl rfl qrA ?_;refine dq rfl rfl qrA ?_;refine dq rfl rfl qrA ?_;refine dq rfl rfl qrA ?_;refine dq rfl rfl qrA ?_;refine dq rfl rfl (zbk (out:= [iv (zh6 h x r),iv x]) rfl (by rfl)) ?_
  refine dq rfl rfl (zpc (za0 (enc:=zan) (k:=(zh6 h x r,x)) 0 rfl rfl) (show iv _=iv (zb9 h (zh6 h x r) x) from congrArg iv (zsp _ _ _))) ?_
  refine dq rfl rfl qrA ?_;refine dq rfl rfl qrA ?_;refine dq rfl rfl qrA ?_;refine dq rfl rfl (u9 (out:=zaa ⟨e.t,zh6 h x r,zx5 e.kind,a,zb9 h (zh6 h x r) x,x,e.p⟩) rfl (by rfl)) ?_
  refine rn ?_;refine dw 0 rfl rfl rfl rfl rfl (Nat.le_of_ble_eq_true rfl) ?_
  refine rn2 ?_;show zb5 _ _ _ _ _ _ ⟨_,.box b7 41 (zaa ⟨e.t,zh6 h x r,zx5 e.kind,a,zb9 h (zh6 h x r) x,x,e.p⟩):: .box be 60 (evR e):: .box ba 3 [iv (a:Int)]:: .box bp 119 (rwP h rc rl rk rg)::rgR rg M::rkS h rk::zbt h rl::rcR h rc:: .glob 2 156 y2:: .glob 4 305 y3:: .glob 5 308 z8:: .glob 3 246 w6:: .glob 1 175 zb2:: .glob 0 171 [mpv rO]:: .obj rO oK::W,_⟩
  refine rn ?_;exact zdt (.cons _ _ _ _ (.agg _ _ _ _ _ _ _ rfl inferInstance inferInstance inferInstance rfl) (.cons _ _ _ _ (.tmp _ _ rfl) .nil)) (.drop [_] _ _) ⟨rfl,by rw [zu8,zn2,if_neg hr,if_neg hr];rfl⟩
theorem ydf (h:Hist) (a:Nat) (rc rl rk rg:Nat) (W:List Res):y8 Tryz.prog 88 [.agg (rwP h rc rl rk rg),iv (a:Int)] W (fun r h'=>∃ba bp,h'= .box ba 3 [iv (a:Int)]:: .box bp 119 (rwP h rc rl rk rg)::W∧r= .fn (.func 134) [] [pZ bp,pZ ba]):=by
 refine z6 Tryz.func88 rfl rfl rfl ?_
 refine rn ?_;refine z7 rfl (w7 rfl rfl rfl fun b2=> ?_)
 refine z7 rfl (w7 rfl rfl rfl fun b3=> ?_)
 refine rn ?_;exact zal rfl (.refl _ _) ⟨_,_,rfl,rfl⟩
theorem yde {σ:Type} (h:Hist) (la:Lim 4611686018427387904 h) (hc:q6 h=0) (a:Nat) (ha:a < h.evs.length) (y:AV) (bp ba:Nat) (rc rl rk rg:Nat) (M0:List ((Int×Int)×List Int)) (hM0:zei h M0) (rO:Nat) (oK:Obj) (hK:KO oK) (p:List Conf→σ→Prop) (q:σ→Prop) (I:List Conf→σ→List Res) (X:σ→List Res) (x0:σ) (hp0:p [] x0) (hy:∀pre d rest x M,zf7 h h.evs[a] a=pre++d::rest→p pre x→zei h M→y1 Tryz.prog y [.agg (zaa d)] (.box ba 3 [iv (a:Int)]:: .box bp 119 (rwP h rc rl rk rg)::rgR rg M::rkS h rk::zbt h rl::rcR h rc:: .glob 2 156 y2:: .glob 4 305 y3:: .glob 5 308 z8:: .glob 3 246 w6:: .glob 1 175 zb2:: .glob 0 171 [mpv rO]:: .obj rO oK::I pre x) (fun r h'=>∃x',(r=bv true∧p (pre++ [d]) x'∧h'= .box ba 3 [iv (a:Int)]:: .box bp 119 (rwP h rc rl rk rg)::rgR rg M::rkS h rk::zbt h rl::rcR h rc:: .glob 2 156 y2:: .glob 4 305 y3:: .glob 5 308 z8:: .glob 3 246 w6:: .glob 1 175 zb2:: .glob 0 171 [mpv rO]:: .obj rO oK::I (pre++ [d]) x')∨(r=bv false∧q x'∧h'= .box ba 3 [iv (a:Int)]:: .box bp 119 (rwP h rc rl rk rg)::rgR rg M::rkS h rk::zbt h rl::rcR h rc:: .glob 2 156 y2:: .glob 4 305 y3:: .glob 5 308 z8:: .glob 3 246 w6:: .glob 1 175 zb2:: .glob 0 171 [mpv rO]:: .obj rO oK::X x'))):y8 Tryz.prog 134 [y,pZ bp,pZ ba] (.box ba 3 [iv (a:Int)]:: .box bp 119 (rwP h rc rl rk rg)::rgR rg M0::rkS h rk::zbt h rl::rcR h rc:: .glob 2 156 y2:: .glob 4 305 y3:: .glob 5 308 z8:: .glob 3 246 w6:: .glob 1 175 zb2:: .glob 0 171 [mpv rO]:: .obj rO oK::I [] x0) (fun r h'=>∃x M,zei h M∧((p (zf7 h h.evs[a] a) x∧h'= .box ba 3 [iv (a:Int)]:: .box bp 119 (rwP h rc rl rk rg)::rgR rg M::rkS h rk::zbt h rl::rcR h rc:: .glob 2 156 y2:: .glob 4 305 y3:: .glob 5 308 z8:: .glob 3 246 w6:: .glob 1 175 zb2:: .glob 0 171 [mpv rO]:: .obj rO oK::I (zf7 h h.evs[a] a) x)∨(q x∧h'= .box ba 3 [iv (a:Int)]:: .box bp 119 (rwP h rc rl rk rg)::rgR rg M::rkS h rk::zbt h rl::rcR h rc:: .glob 2 156 y2:: .glob 4 305 y3:: .glob 5 308 z8:: .glob 3 246 w6:: .glob 1 175 zb2:: .glob 0 171 [mpv rO]:: .obj rO oK::X x))):=by
 refine z6 Tryz.func134 rfl rfl rfl ?_
 have ra:=zbn (f:=evR) ha
 have hok:=seen_ok hc (List.getElem_mem ha) a
 have hol:=hok.1
 obtain ⟨kn,k1,k6,hkn⟩:=yj1 hc (List.getElem_mem ha)
 refine w8 (y6 ?_)
 refine q1 ?_;refine q1 ?_;refine q1 ?_;refine q1 ?_;refine qq rfl rfl (zaw rfl rfl ra) ?_
 refine rn ?_;refine z7 rfl (y7 rfl fun b4=> ?_)
 first|refine z7 rfl (u5 rfl rfl rfl ?_)|refine z7 rfl (zaf rfl rfl rfl rfl (Nat.le_of_ble_eq_true rfl) ?_)
 refine v8 (zak ?_)
 refine w8 ?_;refine w8 (y6 ?_)
 refine q1 ?_;refine q1 ?_;refine q1 ?_;refine q1 ?_;refine qq rfl rfl (za0 (enc:=intK) (k:=h.evs[a].t) false rfl rfl) ?_
 refine rn ?_;refine y0 rfl (fun hc23=> ?_) (fun hc23=> ?_)
 ·have hm:zf6 h.evs h.evs[a].t 5=false:=by rw [←zel];simpa using hc23
  refine rn ?_;exact zdt .nil (.drop [_] _ _) ⟨x0,M0,hM0,.inl ⟨by rw [zyg a hm];exact hp0,by rw [zyg a hm]⟩⟩
 ·have hm:zf6 h.evs h.evs[a].t 5=true:=by rw [←zel];simpa using hc23
  refine zbs ?_;refine rn0 ?_;refine w8 (y6 ?_)
  refine rn0 ?_;refine w8 ?_;refine zgs 9 [6] [7] (fun he=>∃M,he= .box b4 60 (evR h.evs[a]):: .box ba 3 [iv (a:Int)]:: .box bp 119 (rwP h rc rl rk rg)::rgR rg M::rkS h rk::zbt h rl::rcR h rc:: .glob 2 156 y2:: .glob 4 305 y3:: .glob 5 308 z8:: .glob 3 246 w6:: .glob 1 175 zb2:: .glob 0 171 [mpv rO]:: .obj rO oK::I [] x0) rfl rfl ⟨_,rfl⟩ ?_
  refine jq rfl (fun he hC=>by obtain ⟨M,rfl⟩:=hC <;> exact qrA) ?_
  refine jq rfl (fun he hC=>by obtain ⟨M,rfl⟩:=hC <;> exact (by exact zpc (k9 rfl rfl) (show iv _=iv (kn:Nat) from congrArg iv hkn))) ?_
  refine jq rfl (fun he hC=>by obtain ⟨M,rfl⟩:=hC <;> exact (by exact zah rfl rfl (by show kn < 7;omega))) ?_
  refine jq rfl (fun he hC=>by obtain ⟨M,rfl⟩:=hC <;> exact (by exact k9 rfl (show zb2[0+kn * 1]? =some (yap kn) by rw [Nat.zero_add,Nat.mul_one];exact yao k6))) ?_
  refine jq rfl (fun he hC=>by obtain ⟨M,rfl⟩:=hC <;> exact qrA) ?_
  refine jq rfl (fun he hC=>by obtain ⟨M,rfl⟩:=hC <;> exact qrA) ?_
  refine je rfl ?_;refine je rfl ?_;refine jq rfl (fun he hC=>by obtain ⟨M,rfl⟩:=hC <;> exact qrA) ?_
  refine yb0 ?_;refine jce rfl fun u=> ?_
  refine q7 rfl rfl (y1.fr3 (yij h la hc a ha rc rl rk rg M0 hM0 (.glob 1 175 zb2:: .glob 0 171 [mpv rO]:: .obj rO oK::I [] x0) k1 k6 hkn)) rfl ?_
  rintro _ _ ⟨_,rfl,M,hM,rfl,rfl⟩
  refine ⟨_,_,rfl,⟨_,rfl⟩,?_⟩
  refine jcn ?_;refine lq rfl rfl (by exact qrA) ?_
  refine ln ?_;refine rn ?_;refine zfc (v7 h h.evs[a] a).length (fun i (x:σ)=>p (((v7 h h.evs[a] a).take i).flatMap (rwF h h.evs[a] a)) x) (fun i x=>⟨[(33,iv i),(0,y),(5,.fn (.func 135) [] [pZ bp,pZ b4,pZ ba]),(31,zha (v7 h h.evs[a] a)),(32,iv ((v7 h h.evs[a] a).map znp).length)],.box b4 60 (evR h.evs[a]):: .box ba 3 [iv (a:Int)]:: .box bp 119 (rwP h rc rl rk rg)::rgR rg M::rkS h rk::zbt h rl::rcR h rc:: .glob 2 156 y2:: .glob 4 305 y3:: .glob 5 308 z8:: .glob 3 246 w6:: .glob 1 175 zb2:: .glob 0 171 [mpv rO]:: .obj rO oK::I (((v7 h h.evs[a] a).take i).flatMap (rwF h h.evs[a] a)) x,[]⟩) x0 hp0 es ?_
  intro i x li zi
  refine rn ?_;refine y0 rfl (fun hc34=> ?_) (fun hc34=> ?_)
  ·have hi:=zde hc34
   have ri:=zbn (f:=znp) hi
   obtain ⟨⟨o0,o1⟩,ol,orr⟩:=hok.2 _ (List.getElem_mem hi)
   refine rn ?_;refine z7 rfl (y7 rfl fun b7=> ?_)
   refine rn ?_;refine zfc (v7 h h.evs[a] a)[i].2.length (fun j (x:σ)=>p ((((v7 h h.evs[a] a).take i).flatMap (rwF h h.evs[a] a))++((v7 h h.evs[a] a)[i].2.take j).filterMap (zew h h.evs[a] (zfm h.evs[a]) a (v7 h h.evs[a] a)[i].1)) x) (fun j x=>⟨[(40,iv j),(0,y),(5,.fn (.func 135) [] [pZ bp,pZ b4,pZ ba]),(7,pZ b7),(31,zha (v7 h h.evs[a] a)),(32,iv ((v7 h h.evs[a] a).map znp).length),(33,iv i),(38,za6 (v7 h h.evs[a] a)[i].2),(39,iv ((v7 h h.evs[a] a)[i].2.map za9).length)],.box b7 177 (znp (v7 h h.evs[a] a)[i]):: .box b4 60 (evR h.evs[a]):: .box ba 3 [iv (a:Int)]:: .box bp 119 (rwP h rc rl rk rg)::rgR rg M::rkS h rk::zbt h rl::rcR h rc:: .glob 2 156 y2:: .glob 4 305 y3:: .glob 5 308 z8:: .glob 3 246 w6:: .glob 1 175 zb2:: .glob 0 171 [mpv rO]:: .obj rO oK::I ((((v7 h h.evs[a] a).take i).flatMap (rwF h h.evs[a] a))++((v7 h h.evs[a] a)[i].2.take j).filterMap (zew h h.evs[a] (zfm h.evs[a]) a (v7 h h.evs[a] a)[i].1)) x,[]⟩) x (by simpa using zi) (by simpa using eA) ?_
   intro j x lj zj
   refine rn ?_;refine y0 rfl (fun hc41=> ?_) (fun hc41=> ?_)
   ·have hj:=zde hc41
    have rj:=zbn (f:=za9) hj
    obtain ⟨u1,u2⟩:=orr _ (List.getElem_mem hj)
    refine rn ?_;refine qv rfl rfl (y4 rfl rfl (y1.qt (y1.of_acall (fs:= []) (cs:= [pZ bp,pZ b4,pZ ba]) (yim h (v7 h h.evs[a] a)[i].1 (v7 h h.evs[a] a)[i].2[j] o0 o1 u1 u2 h.evs[a] a bp b4 ba rc rl rk rg M rO oK hK (I ((((v7 h h.evs[a] a).take i).flatMap (rwF h h.evs[a] a))++((v7 h h.evs[a] a)[i].2.take j).filterMap (zew h h.evs[a] (zfm h.evs[a]) a (v7 h h.evs[a] a)[i].1)) x))) (List.perm_append_comm (l₁:= [_])))) ?_
    refine rn ?_;refine z7 rfl (y7 rfl fun b10=> ?_)
    refine rn ?_;refine u0 (fun hg10_1=> ?_) (fun hg10_1=> ?_)
    ·refine q1 ?_;refine q1 ?_;obtain ⟨rest,hL⟩:=yit hm hi hj (ydv hg10_1)
     refine z7 rfl (q7 rfl rfl (y1.fr3 (hy ((((v7 h h.evs[a] a).take i).flatMap (rwF h h.evs[a] a))++((v7 h h.evs[a] a)[i].2.take j).filterMap (zew h h.evs[a] (zfm h.evs[a]) a (v7 h h.evs[a] a)[i].1)) _ rest x M hL zj hM)) rfl ?_)
     rintro _ _ ⟨_,rfl,x',⟨rfl,hp',rfl⟩|⟨rfl,hq',rfl⟩⟩
     ·refine rn ?_;refine y0 rfl (fun hc58=> ?_) (fun hc58=> ?_)
      ·first|cases hc58|exact absurd hc58 (by decide)|(exfalso;simp_all;done)
      ·refine rn ?_;first|exact ⟨hj,x',by rw [ylr hj hg10_1];exact hp',by rw [ylr hj hg10_1];exact eA⟩|exact ⟨hj,x,by rw [yls hj hg10_1];exact zj,by rw [yls hj hg10_1];exact eA⟩
     ·refine rn ?_;refine y0 rfl (fun hc58=> ?_) (fun hc58=> ?_)
      ·refine rn ?_;exact zdt .nil (.drop [_,_,_] _ _) ⟨x',M,hM,.inr ⟨hq',rfl⟩⟩
      ·first|cases hc58|exact absurd hc58 (by decide)|(exfalso;simp_all;done)
    ·refine rn ?_;refine zof rfl ?_;refine rn ?_;first|exact ⟨hj,x',by rw [ylr hj hg10_1];exact hp',by rw [ylr hj hg10_1];exact eA⟩|exact ⟨hj,x,by rw [yls hj hg10_1];exact zj,by rw [yls hj hg10_1];exact eA⟩
   ·have qj:=zdg hc41 lj
    refine rn ?_;exact ⟨hi,x,by rw [←ydg hi qj];exact zj,by rw [←ydg hi qj];exact eA⟩
  ·have qi:=zdg hc34 li
   refine rn ?_;exact zc3 .nil (.drop [_] _ _) ⟨x,M,hM,.inl ⟨by rw [zry a hm];rw [qi,List.take_length] at zi;exact zi,by rw [zry a hm,qi,List.take_length]⟩⟩
theorem yfx {α:Type} (x1 x2 x3 x4 x5 x6 x7 x8 x9 x10 x11 x12 x13 x:α) (l:List α):(x1::x2::x3::x4::x5::x6::x7::x8::x9::x10::x11::x12::x13::x::l).Perm (x::x1::x2::x3::x4::x5::x6::x7::x8::x9::x10::x11::x12::x13::l):=(List.Perm.cons x1 (ymq x2 x3 x4 x5 x6 x7 x8 x9 x10 x11 x12 x13 x l)).trans (.swap x x1 _)
theorem yo0 {α:Type} (x1 x2 x3 x4 x5 x6 x7 x8 x9 x10 x11 x12 x13 x14 x:α) (l:List α):(x1::x2::x3::x4::x5::x6::x7::x8::x9::x10::x11::x12::x13::x14::x::l).Perm (x::x1::x2::x3::x4::x5::x6::x7::x8::x9::x10::x11::x12::x13::x14::l):=(List.Perm.cons x1 (yfx x2 x3 x4 x5 x6 x7 x8 x9 x10 x11 x12 x13 x14 x l)).trans (.swap x x1 _)
def cfz:Conf:=⟨0,0,0,0,0,0,0⟩
abbrev gC (c:Conf):AV:= .agg (zaa c)
instance:ZV (.agg #[.int .i64 0,.int .i64 0,.int .i64 0,.int .i64 0,.int .i64 0,.int .i64 0,.int .i64 0]) (gC cfz):=⟨fun w O u h=>by
 rw [h.v_eq]
 refine .agg _ _ rfl fun j h1 h2=> ?_
 match j,h1,h2 with
 |0,_,_=>exact .v _
 |1,_,_=>exact .v _
 |2,_,_=>exact .v _
 |3,_,_=>exact .v _
 |4,_,_=>exact .v _
 |5,_,_=>exact .v _
 |6,_,_=>exact .v _
 |j+7,h1,_=>exact absurd h1 (by show ¬j+7 < 7;omega)⟩
theorem yd5 {m:List ((Int×Int)×Conf)} {c:Conf} (h:(!(zap (c.f,c.t) m).isSome)=true∨decide (zgq c ((zap (c.f,c.t) m).getD cfz) < 0)=true):zef m c=zcq (c.f,c.t) c m:=by
 unfold zef
 rw [show zgu c=(c.f,c.t) from rfl]
 cases hq:zap (c.f,c.t) m with
 |none=>rfl
 |some b=>
  rw [hq] at h
  simp only
  rcases h with h|h
  ·simp at h
  ·rw [if_pos (by simpa using h)]
theorem yk7 {m:List ((Int×Int)×Conf)} {c:Conf} (h1:(!(zap (c.f,c.t) m).isSome)=false) (h2:decide (zgq c ((zap (c.f,c.t) m).getD cfz) < 0)=false):zef m c=m:=by
 unfold zef
 rw [show zgu c=(c.f,c.t) from rfl]
 cases hq:zap (c.f,c.t) m with
 |none=>rw [hq] at h1;simp at h1
 |some b=>
  rw [hq] at h2
  simp only
  rw [if_neg (by simpa using h2)]
theorem zi3 {α β:Type} (f:α→List β) (c:Nat):∀l:List α,(∀a∈l,(f a).length≤c)→(l.flatMap f).length≤l.length * c
 | [],_=>by simp
 |a::l,hf=>by
  have:=zi3 f c l fun x hx=>hf x (List.mem_cons_of_mem _ hx)
  have:=hf a (by simp)
  rw [List.flatMap_cons,List.length_append,List.length_cons,Nat.succ_mul];omega
theorem ztm {h:Hist} (hc:q6 h=0) {a:Nat} (ha:a < h.evs.length):(zf7 h h.evs[a] a).length≤16000000:=by
 obtain ⟨h1,h2⟩:=seen_ok hc (List.getElem_mem ha) a
 rw [zf7]
 split
 ·refine Nat.le_trans (zi3 _ 4000 _ fun p hp=>Nat.le_trans (List.length_filterMap_le _ _) (h2 p hp).2.1) ?_
  omega
 ·exact Nat.zero_le _
def zzx (L:List ((Int×Int)×Conf)) (sn:List Nat):List Conf:=sn.reverse.map fun i=>((L[i]?).map Prod.snd).getD cfz
theorem zta (L:List ((Int×Int)×Conf)) (sn:List Nat):(zzx L sn).length=sn.length:=by simp [zzx]
theorem yjf {L:List ((Int×Int)×Conf)} {i:Nat} {sn:List Nat} (hi:i < L.length):zzx L (i::sn)=zzx L sn++ [L[i].2]:=by
 simp [zzx,List.getElem?_eq_getElem hi]
theorem zur (L:List ((Int×Int)×Conf)):(List.range L.length).map (fun i=>((L[i]?).map Prod.snd).getD cfz)=L.map Prod.snd:=by
 refine List.ext_getElem (by simp) fun i h1 h2=> ?_
 simp at h1
 simp [List.getElem?_eq_getElem h1]
theorem zxi {L:List ((Int×Int)×Conf)} {sn:List Nat} (hn:sn.Nodup) (hl:∀i∈sn,i < L.length) (ha:∀i,i < L.length→i∈sn):(zzx L sn).Perm (L.map Prod.snd):=by
 rw [←zur,zzx]
 refine List.Perm.map _ ((List.reverse_perm sn).trans ?_)
 exact (List.perm_ext_iff_of_nodup hn List.nodup_range).2 fun i=>by rw [List.mem_range];exact ⟨hl i,ha i⟩
theorem yme (h:Hist) (la:Lim 4611686018427387904 h) (rO:Nat) (oK:Obj):y8 Tryz.prog 87 [.agg (y9 h)] (.glob 2 156 y2:: .glob 4 305 y3:: .glob 5 308 z8:: .glob 3 246 w6:: .glob 1 175 zb2:: .glob 0 171 [mpv rO]:: .obj rO oK:: []) (fun r h'=>(q6 h=0∧∃rc rl rk rg,h'=rgR rg []::rkS h rk::zbt h rl::rcR h rc:: .glob 2 156 y2:: .glob 4 305 y3:: .glob 5 308 z8:: .glob 3 246 w6:: .glob 1 175 zb2:: .glob 0 171 [mpv rO]:: .obj rO oK:: []∧r= .tup [.agg (rwP h rc rl rk rg),iv 0])∨(q6 h≠0∧h'= .glob 2 156 y2:: .glob 4 305 y3:: .glob 5 308 z8:: .glob 3 246 w6:: .glob 1 175 zb2:: .glob 0 171 [mpv rO]:: .obj rO oK:: []∧r= .tup [.agg (zmc++ [nmp,.v (.slice none 0 0),nmp,nmp,nmp]),iv (q6 h)])):=
 ((yor h la).frame [.glob 1 175 zb2,.glob 0 171 [mpv rO],.obj rO oK]).mono (by
   rintro _ _ ⟨_,rfl,⟨hc,rc,rl,rk,rg,rfl,rfl⟩|⟨hc,rfl,rfl⟩⟩
   ·exact .inl ⟨hc,rc,rl,rk,rg,rfl,rfl⟩
   ·exact .inr ⟨hc,rfl,rfl⟩)
theorem zvw {h:Hist} {F:Ev→Nat→List Conf} {j:Nat} (hj:j < h.evs.length) (hd:zf6 h.evs h.evs[j].t 5=true):zae h F (j+1)=zae h F j++F h.evs[j] j:=by
 rw [zae,List.getElem?_eq_getElem hj];simp only;rw [if_pos hd]
theorem yem {h:Hist} {F:Ev→Nat→List Conf} {j:Nat} (hj:j < h.evs.length) (hd:zf6 h.evs h.evs[j].t 5=false):zae h F (j+1)=zae h F j:=by
 rw [zae,List.getElem?_eq_getElem hj];simp only;rw [hd,if_neg (by decide),List.append_nil]
theorem zso {h:Hist} {F:Ev→Nat→List Conf} {m:Nat}:∀{n},m≤n→∃R,zae h F n=zae h F m++R
 |0,hm=>⟨[],by rw [Nat.le_zero.1 hm,List.append_nil]⟩
 |n+1,hm=>by
  by_cases e:m=n+1
  ·exact ⟨[],by rw [e,List.append_nil]⟩
  ·obtain ⟨R,hR⟩:=zso (h:=h) (F:=F) (m:=m) (n:=n) (by omega)
   exact ⟨_,by rw [zae,hR,List.append_assoc]⟩
theorem zvx {h:Hist} {F:Ev→Nat→List Conf} {j:Nat} (hj:j < h.evs.length) (hd:zf6 h.evs h.evs[j].t 5=true) {pre rest:List Conf} {d:Conf} (hL:F h.evs[j] j=pre++d::rest):∃R,zae h F h.evs.length=(zae h F j++pre)++d::R:=by
 obtain ⟨R,hR⟩:=zso (h:=h) (F:=F) (m:=j+1) (n:=h.evs.length) hj
 exact ⟨rest++R,by rw [hR,zvw hj hd,hL];simp [List.append_assoc]⟩
def zzp (h:Hist) (each:AV) (g:Nat) (F:Ev→Nat→List Conf) (bl rd rf rk rg:Nat):Prop:=
 (∀(a:Nat) (W:List Res),y1 Tryz.prog each [iv (a:Int)] W (fun r h'=>∃ba bp,h'= .box ba 3 [iv (a:Int)]:: .box bp 147 [pZ bl]::W∧r= .fn (.func g) [] [pZ bp,pZ ba]))∧
 ∀(σ:Type) (a:Nat) (ha:a < h.evs.length) (y:AV) (bp ba:Nat) (M0:List ((Int×Int)×List Int)) (hM0:zei h M0) (pP:List Conf→σ→Prop) (qP:σ→Prop) (I:List Conf→σ→List Res) (X:σ→List Res) (x0:σ) (hp0:pP [] x0) (_hy:∀pre d rest x M,(F h.evs[a] a)=pre++d::rest→pP pre x→zei h M→y1 Tryz.prog y [.agg (zaa d)] (.box ba 3 [iv (a:Int)]:: .box bp 147 [pZ bl]:: .box bl 202 (wrP h rd rf rk rg)::rgR rg M::rkS h rk::zcw h rf::rcR h rd:: .glob 2 156 y2:: .glob 4 305 y3:: .glob 5 308 z8:: .glob 3 246 w6::I pre x) (fun r h'=>∃x',(r=bv true∧pP (pre++ [d]) x'∧h'= .box ba 3 [iv (a:Int)]:: .box bp 147 [pZ bl]:: .box bl 202 (wrP h rd rf rk rg)::rgR rg M::rkS h rk::zcw h rf::rcR h rd:: .glob 2 156 y2:: .glob 4 305 y3:: .glob 5 308 z8:: .glob 3 246 w6::I (pre++ [d]) x')∨(r=bv false∧qP x'∧h'= .box ba 3 [iv (a:Int)]:: .box bp 147 [pZ bl]:: .box bl 202 (wrP h rd rf rk rg)::rgR rg M::rkS h rk::zcw h rf::rcR h rd:: .glob 2 156 y2:: .glob 4 305 y3:: .glob 5 308 z8:: .glob 3 246 w6::X x'))),
  y8 Tryz.prog g [y,pZ bp,pZ ba] (.box ba 3 [iv (a:Int)]:: .box bp 147 [pZ bl]:: .box bl 202 (wrP h rd rf rk rg)::rgR rg M0::rkS h rk::zcw h rf::rcR h rd:: .glob 2 156 y2:: .glob 4 305 y3:: .glob 5 308 z8:: .glob 3 246 w6::I [] x0) (fun r h'=>∃x M,zei h M∧((pP (F h.evs[a] a) x∧h'= .box ba 3 [iv (a:Int)]:: .box bp 147 [pZ bl]:: .box bl 202 (wrP h rd rf rk rg)::rgR rg M::rkS h rk::zcw h rf::rcR h rd:: .glob 2 156 y2:: .glob 4 305 y3:: .glob 5 308 z8:: .glob 3 246 w6::I (F h.evs[a] a) x)∨(qP x∧h'= .box ba 3 [iv (a:Int)]:: .box bp 147 [pZ bl]:: .box bl 202 (wrP h rd rf rk rg)::rgR rg M::rkS h rk::zcw h rf::rcR h rd:: .glob 2 156 y2:: .glob 4 305 y3:: .glob 5 308 z8:: .glob 3 246 w6::X x)))
theorem zmh (h:Hist) (la:Lim 4611686018427387904 h) (hc:q6 h=0) (bl rd rf rk rg:Nat):zzp h (.fn (.func 114) [pZ bl] []) 158 (zb6 h) bl rd rf rk rg:=
 ⟨fun a W=>y1.of_acall (fs:= [pZ bl]) (cs:= []) (zz5 a bl W),fun _ a ha y bp ba M0 hM0 p q I X x0 hp0 hy=>yei h la hc a ha y bp ba bl rd rf rk rg M0 hM0 p q I X x0 hp0 hy⟩
theorem zmg (h:Hist) (la:Lim 4611686018427387904 h) (hc:q6 h=0) (bl rd rf rk rg:Nat):zzp h (.fn (.func 115) [pZ bl] []) 160 (zdk h) bl rd rf rk rg:=
 ⟨fun a W=>y1.of_acall (fs:= [pZ bl]) (cs:= []) (zz4 a bl W),fun _ a ha y bp ba M0 hM0 p q I X x0 hp0 hy=>yeg h la hc a ha y bp ba bl rd rf rk rg M0 hM0 p q I X x0 hp0 hy⟩
theorem zvy (bl ee:Nat) (W:List Res):y8 Tryz.prog 113 [pZ bl,(.fn (.func ee) [pZ bl] [])] W (fun r h'=>∃bE bL,h'= .box bE 95 [(.fn (.func ee) [pZ bl] [])]:: .box bL 147 [pZ bl]::W∧r= .fn (.func 157) [] [pZ bL,pZ bE]):=by
 refine z6 Tryz.func113 rfl rfl rfl ?_
 refine rn ?_;refine z7 rfl (w7 rfl rfl rfl fun b2=> ?_)
 refine z7 rfl (w7 rfl rfl rfl fun b3=> ?_)
 refine rn ?_;exact zal rfl (.refl _ _) ⟨_,_,rfl,rfl⟩
theorem zxc (q:Nat) (A B:List Res) (dfs:List Nat):(Res.defs q::(A++(B++dfs.map Res.defs))).Perm (A++(B++(q::dfs).map Res.defs)):=by
 rw [←List.append_assoc,←List.append_assoc];exact List.perm_middle.symm
theorem zs9 (A B:List Res) (dfs:List Nat):(A++(B++dfs.map Res.defs)).Perm (dfs.map Res.defs++(A++B)):=by
 rw [←List.append_assoc];exact List.perm_append_comm
theorem yc1 {σ:Type} (h:Hist) (la:Lim 4611686018427387904 h) (ee g:Nat) [Go.Ab.Enters Tryz.prog g] (F:Ev→Nat→List Conf) (bl rd rf rk rg:Nat) (hT:zzp h (.fn (.func ee) [pZ bl] []) g F bl rd rf rk rg) (y:AV) (hone:y.cellsOf=some [y]) (bL bE:Nat) (M0:List ((Int×Int)×List Int)) (hM0:zei h M0) (pP:List Conf→σ→Prop) (qP:σ→Prop) (I:List Conf→σ→List Res) (X:σ→List Res) (x0:σ) (hp0:pP [] x0) (hy:∀pre d rest x M,(zae h F h.evs.length)=pre++d::rest→pP pre x→zei h M→y1 Tryz.prog y [.agg (zaa d)] (.box bE 95 [(.fn (.func ee) [pZ bl] [])]:: .box bL 147 [pZ bl]:: .box bl 202 (wrP h rd rf rk rg)::rgR rg M::rkS h rk::zcw h rf::rcR h rd:: .glob 2 156 y2:: .glob 4 305 y3:: .glob 5 308 z8:: .glob 3 246 w6::I pre x) (fun r h'=>∃x',(r=bv true∧pP (pre++ [d]) x'∧h'= .box bE 95 [(.fn (.func ee) [pZ bl] [])]:: .box bL 147 [pZ bl]:: .box bl 202 (wrP h rd rf rk rg)::rgR rg M::rkS h rk::zcw h rf::rcR h rd:: .glob 2 156 y2:: .glob 4 305 y3:: .glob 5 308 z8:: .glob 3 246 w6::I (pre++ [d]) x')∨(r=bv false∧qP x'∧h'= .box bE 95 [(.fn (.func ee) [pZ bl] [])]:: .box bL 147 [pZ bl]:: .box bl 202 (wrP h rd rf rk rg)::rgR rg M::rkS h rk::zcw h rf::rcR h rd:: .glob 2 156 y2:: .glob 4 305 y3:: .glob 5 308 z8:: .glob 3 246 w6::X x'))):y8 Tryz.prog 157 [y,pZ bL,pZ bE] (.box bE 95 [(.fn (.func ee) [pZ bl] [])]:: .box bL 147 [pZ bl]:: .box bl 202 (wrP h rd rf rk rg)::rgR rg M0::rkS h rk::zcw h rf::rcR h rd:: .glob 2 156 y2:: .glob 4 305 y3:: .glob 5 308 z8:: .glob 3 246 w6::I [] x0) (fun r h'=>∃x M,zei h M∧((pP (zae h F h.evs.length) x∧h'= .box bE 95 [(.fn (.func ee) [pZ bl] [])]:: .box bL 147 [pZ bl]:: .box bl 202 (wrP h rd rf rk rg)::rgR rg M::rkS h rk::zcw h rf::rcR h rd:: .glob 2 156 y2:: .glob 4 305 y3:: .glob 5 308 z8:: .glob 3 246 w6::I (zae h F h.evs.length) x)∨(qP x∧h'= .box bE 95 [(.fn (.func ee) [pZ bl] [])]:: .box bL 147 [pZ bl]:: .box bl 202 (wrP h rd rf rk rg)::rgR rg M::rkS h rk::zcw h rf::rcR h rd:: .glob 2 156 y2:: .glob 4 305 y3:: .glob 5 308 z8:: .glob 3 246 w6::X x))):=by
 refine z6 Tryz.func157 rfl rfl rfl ?_
 have be:=la.evs
 have hyF:∀pre d rest x M (W:List Res),(zae h F h.evs.length)=pre++d::rest→pP pre x→zei h M→y1 Tryz.prog y [.agg (zaa d)] (.box bE 95 [(.fn (.func ee) [pZ bl] [])]:: .box bL 147 [pZ bl]:: .box bl 202 (wrP h rd rf rk rg)::rgR rg M::rkS h rk::zcw h rf::rcR h rd:: .glob 2 156 y2:: .glob 4 305 y3:: .glob 5 308 z8:: .glob 3 246 w6::(I pre x++W)) (fun r h'=>∃x',(r=bv true∧pP (pre++ [d]) x'∧h'= .box bE 95 [(.fn (.func ee) [pZ bl] [])]:: .box bL 147 [pZ bl]:: .box bl 202 (wrP h rd rf rk rg)::rgR rg M::rkS h rk::zcw h rf::rcR h rd:: .glob 2 156 y2:: .glob 4 305 y3:: .glob 5 308 z8:: .glob 3 246 w6::(I (pre++ [d]) x'++W))∨(r=bv false∧qP x'∧h'= .box bE 95 [(.fn (.func ee) [pZ bl] [])]:: .box bL 147 [pZ bl]:: .box bl 202 (wrP h rd rf rk rg)::rgR rg M::rkS h rk::zcw h rf::rcR h rd:: .glob 2 156 y2:: .glob 4 305 y3:: .glob 5 308 z8:: .glob 3 246 w6::(X x'++W))):=fun pre d rest x M W e hp hM=>((hy pre d rest x M e hp hM).frame W).mono (by
  rintro _ _ ⟨_,rfl,x',⟨rfl,hp',rfl⟩|⟨rfl,hq',rfl⟩⟩
  ·exact ⟨x',.inl ⟨rfl,hp',rfl⟩⟩
  ·exact ⟨x',.inr ⟨rfl,hq',rfl⟩⟩)
 refine rn ?_;refine z7 rfl (w7 rfl hone rfl fun b3=> ?_)
 refine rn ?_;refine zfc h.evs.length (fun j (z:σ×List ((Int×Int)×List Int)×List Nat)=>pP (zae h F j) z.1∧zei h z.2.1) (fun j z=>⟨[(13,iv j),(1,pZ bL),(2,pZ bE),(3,pZ b3),(11,zyn h.evs),(12,iv (h.evs.map evR).length)],.box b3 76 [y]:: .box bE 95 [(.fn (.func ee) [pZ bl] [])]:: .box bL 147 [pZ bl]:: .box bl 202 (wrP h rd rf rk rg)::rgR rg z.2.1::rkS h rk::zcw h rf::rcR h rd:: .glob 2 156 y2:: .glob 4 305 y3:: .glob 5 308 z8:: .glob 3 246 w6::(I (zae h F j) z.1++(z.2.2.map Res.defs)),z.2.2⟩) (x0,M0,[]) ⟨hp0,hM0⟩ (by simp only [List.map_nil,List.append_nil];exact es) ?_
 rintro j ⟨x,M,dfs⟩ lj ⟨hx,hM⟩
 have hx:pP (zae h F j) x:=hx
 have hM:zei h M:=hM
 show aw _ _ _ _ _ ⟨[(13,iv j),(1,pZ bL),(2,pZ bE),(3,pZ b3),(11,zyn h.evs),(12,iv (h.evs.map evR).length)],.box b3 76 [y]:: .box bE 95 [(.fn (.func ee) [pZ bl] [])]:: .box bL 147 [pZ bl]:: .box bl 202 (wrP h rd rf rk rg)::rgR rg M::rkS h rk::zcw h rf::rcR h rd:: .glob 2 156 y2:: .glob 4 305 y3:: .glob 5 308 z8:: .glob 3 246 w6::(I (zae h F j) x++(dfs.map Res.defs)),dfs⟩
 refine rn ?_;refine y0 rfl (fun hc14=> ?_) (fun hc14=> ?_)
 ·have hj:=zde hc14
  have rj:=zbn (f:=evR) hj
  refine rn ?_;refine z7 rfl (y7 rfl fun b5=> ?_)
  refine rn ?_;refine j4 6 rfl ?_
  refine rn2 ?_;refine qq rfl rfl (za0 (enc:=intK) (k:=h.evs[j].t) false rfl rfl) ?_
  refine rn ?_;refine y0 rfl (fun hc25=> ?_) (fun hc25=> ?_)
  ·have hd:zf6 h.evs h.evs[j].t 5=false:=by rw [←zel];simpa using hc25
   have hw:zae h F (j+1)=(zae h F j):=yem hj hd
   refine rn ?_;exact ⟨hj,(x,M,dfs),⟨by simp only;rw [hw];exact hx,hM⟩,by simp only;rw [hw];exact eA⟩
  ·have hd:zf6 h.evs h.evs[j].t 5=true:=by rw [←zel];simpa using hc25
   have hw:=zvw (F:=F) hj hd
   refine rn ?_;refine z7 rfl (q7 rfl rfl (hT.1 j _) rfl ?_)
   rintro _ _ ⟨ba,bp,rfl,rfl⟩
   refine rn ?_;refine zjz (fun pend h''=>∃x M,zei h M∧((pend=none∧pP ((zae h F j)++(F h.evs[j] j)) x∧h''= .box ba 3 [iv (j:Int)]:: .box bp 147 [pZ bl]:: .box bl 202 (wrP h rd rf rk rg)::rgR rg M::rkS h rk::zcw h rf::rcR h rd:: .glob 2 156 y2:: .glob 4 305 y3:: .glob 5 308 z8:: .glob 3 246 w6:: .box b5 60 (evR h.evs[j]):: .box b3 76 [y]:: .box bE 95 [(.fn (.func ee) [pZ bl] [])]:: .box bL 147 [pZ bl]::(I ((zae h F j)++(F h.evs[j] j)) x++(dfs.map Res.defs)))∨(pend=some .ret∧qP x∧h''= .box ba 3 [iv (j:Int)]:: .box bp 147 [pZ bl]:: .box bl 202 (wrP h rd rf rk rg)::rgR rg M::rkS h rk::zcw h rf::rcR h rd:: .glob 2 156 y2:: .glob 4 305 y3:: .glob 5 308 z8:: .glob 3 246 w6:: .box b5 60 (evR h.evs[j]):: .box b3 76 [y]:: .box bE 95 [(.fn (.func ee) [pZ bl] [])]:: .box bL 147 [pZ bl]::(X x++(dfs.map Res.defs))))) rfl (fun fn l q lp hlp=> ?_) (fun q h'' hK=> ?_) (fun q h'' cc hK=> ?_)
   ·suffices hy2:∀pre d rest x M,(F h.evs[j] j)=pre++d::rest→pP ((zae h F j)++pre) x→zei h M→y1 Tryz.prog (yv l) [.agg (zaa d)] (.box ba 3 [iv (j:Int)]:: .box bp 147 [pZ bl]:: .box bl 202 (wrP h rd rf rk rg)::rgR rg M::rkS h rk::zcw h rf::rcR h rd:: .glob 2 156 y2:: .glob 4 305 y3:: .glob 5 308 z8:: .glob 3 246 w6::lp .ready none:: .defs q:: .box b5 60 (evR h.evs[j]):: .box b3 76 [y]:: .box bE 95 [(.fn (.func ee) [pZ bl] [])]:: .box bL 147 [pZ bl]::(I ((zae h F j)++pre) x++(dfs.map Res.defs))) (fun r h'=>∃x',(r=bv true∧pP ((zae h F j)++(pre++ [d])) x'∧h'= .box ba 3 [iv (j:Int)]:: .box bp 147 [pZ bl]:: .box bl 202 (wrP h rd rf rk rg)::rgR rg M::rkS h rk::zcw h rf::rcR h rd:: .glob 2 156 y2:: .glob 4 305 y3:: .glob 5 308 z8:: .glob 3 246 w6::lp .ready none:: .defs q:: .box b5 60 (evR h.evs[j]):: .box b3 76 [y]:: .box bE 95 [(.fn (.func ee) [pZ bl] [])]:: .box bL 147 [pZ bl]::(I ((zae h F j)++(pre++ [d])) x'++(dfs.map Res.defs)))∨(r=bv false∧qP x'∧h'= .box ba 3 [iv (j:Int)]:: .box bp 147 [pZ bl]:: .box bl 202 (wrP h rd rf rk rg)::rgR rg M::rkS h rk::zcw h rf::rcR h rd:: .glob 2 156 y2:: .glob 4 305 y3:: .glob 5 308 z8:: .glob 3 246 w6::lp .done (some .ret):: .defs q:: .box b5 60 (evR h.evs[j]):: .box b3 76 [y]:: .box bE 95 [(.fn (.func ee) [pZ bl] [])]:: .box bL 147 [pZ bl]::(X x'++(dfs.map Res.defs)))) by
     have hq:=hT.2 σ j hj (yv l) bp ba M hM (fun pre x=>pP ((zae h F j)++pre) x) qP (fun pre x=>lp .ready none:: .defs q:: .box b5 60 (evR h.evs[j]):: .box b3 76 [y]:: .box bE 95 [(.fn (.func ee) [pZ bl] [])]:: .box bL 147 [pZ bl]::(I ((zae h F j)++pre) x++(dfs.map Res.defs))) (fun x=>lp .done (some .ret):: .defs q:: .box b5 60 (evR h.evs[j]):: .box b3 76 [y]:: .box bE 95 [(.fn (.func ee) [pZ bl] [])]:: .box bL 147 [pZ bl]::(X x++(dfs.map Res.defs))) x (by rw [List.append_nil];exact hx) hy2
     simp only [List.append_nil] at hq
     refine y8.mono (y8.perm ((pt2 _ _ _ _).trans (.cons _ ((pt2 _ _ _ _).trans (.cons _ ((pt6 _ _ _ _ _ _ _ _).trans (.cons _ ((pt6 _ _ _ _ _ _ _ _).trans (.cons _ ((pt6 _ _ _ _ _ _ _ _).trans (.cons _ ((pt6 _ _ _ _ _ _ _ _).trans (.cons _ ((pt6 _ _ _ _ _ _ _ _).trans (.cons _ ((pt6 _ _ _ _ _ _ _ _).trans (.cons _ ((pt6 _ _ _ _ _ _ _ _).trans (.cons _ ((pt6 _ _ _ _ _ _ _ _).trans (.cons _ (pt6 _ _ _ _ _ _ _ _))))))))))))))))))))) hq) ?_
     rintro _ _ ⟨x,M,hM,⟨hn,rfl⟩|⟨hn,rfl⟩⟩
     ·exact ⟨none,.ready,_,((zs7 _ _ _ _ _ _ _ _ _ _ _ _ _).trans (.cons _ (zs7 _ _ _ _ _ _ _ _ _ _ _ _ _))),by simp,x,M,hM,.inl ⟨rfl,hn,rfl⟩⟩
     ·exact ⟨some .ret,.done,_,((zs7 _ _ _ _ _ _ _ _ _ _ _ _ _).trans (.cons _ (zs7 _ _ _ _ _ _ _ _ _ _ _ _ _))),by simp,x,M,hM,.inr ⟨rfl,hn,rfl⟩⟩
    intro pre d rest x M hL hpre hM
    obtain ⟨R,hL2⟩:=zvx hj hd hL
    refine y1.perm (zs7 _ _ _ _ _ _ _ _ _ _ _ _ _) (y1.ventE ?_)
    refine zcm hlp rfl rfl ?_
    refine rn ?_;refine z7 rfl (y7 rfl fun b6=> ?_)
    refine rn ?_;refine ⟨[(6,pZ b6),(3,pZ b3)],.box b6 41 (zaa d):: .box ba 3 [iv (j:Int)]:: .box bp 147 [pZ bl]:: .box bl 202 (wrP h rd rf rk rg)::rgR rg M::rkS h rk::zcw h rf::rcR h rd:: .glob 2 156 y2:: .glob 4 305 y3:: .glob 5 308 z8:: .glob 3 246 w6:: .defs q:: .box b5 60 (evR h.evs[j]):: .box b3 76 [y]:: .box bE 95 [(.fn (.func ee) [pZ bl] [])]:: .box bL 147 [pZ bl]::(I ((zae h F j)++pre) x++(dfs.map Res.defs)),v6 (zas (pt1 _ _ _)) es,?_⟩
    refine zc8 ?_;refine w8 (y6 ?_)
    refine q1 ?_;refine q1 ?_;refine z7 rfl (q7 rfl rfl (y1.perm (.cons _ (.cons _ (.cons _ (.cons _ ((pt9 _ _ _ _ _ _ _ _ _ _ _).trans (.cons _ ((pt9 _ _ _ _ _ _ _ _ _ _ _).trans (.cons _ ((pt9 _ _ _ _ _ _ _ _ _ _ _).trans (.cons _ ((pt9 _ _ _ _ _ _ _ _ _ _ _).trans (.cons _ (pt9 _ _ _ _ _ _ _ _ _ _ _))))))))))))) (y1.fr7 (hyF ((zae h F j)++pre) d R x M (dfs.map Res.defs) hL2 hpre hM))) rfl ?_)
    rintro _ _ ⟨_,rfl,x',⟨rfl,hp',rfl⟩|⟨rfl,hq',rfl⟩⟩
    ·refine rn ?_;refine y0 rfl (fun hc33=> ?_) (fun hc33=> ?_)
     ·first|cases hc33|exact absurd hc33 (by decide)|(exfalso;simp_all;done)
     ·refine rn ?_;exact zcf (.refl _) ⟨_,_,.trans (.perm ((pt1 _ _ _).trans (.cons _ ((pt1 _ _ _).trans (.cons _ ((pt1 _ _ _).trans (.cons _ ((pt6 _ _ _ _ _ _ _ _).trans (.cons _ ((pt6 _ _ _ _ _ _ _ _).trans (.cons _ ((pt6 _ _ _ _ _ _ _ _).trans (.cons _ ((pt6 _ _ _ _ _ _ _ _).trans (.cons _ ((pt6 _ _ _ _ _ _ _ _).trans (.cons _ ((pt6 _ _ _ _ _ _ _ _).trans (.cons _ ((pt6 _ _ _ _ _ _ _ _).trans (.cons _ ((pt6 _ _ _ _ _ _ _ _).trans (.cons _ (pt6 _ _ _ _ _ _ _ _))))))))))))))))))))))) _) (.drop [_] _ _),x',.inl ⟨rfl,by rw [←List.append_assoc];exact hp',by rw [←List.append_assoc]⟩⟩
    ·refine rn ?_;refine y0 rfl (fun hc33=> ?_) (fun hc33=> ?_)
     ·refine rn ?_;exact znr (.refl _) ⟨_,_,.trans (.perm ((pt1 _ _ _).trans (.cons _ ((pt1 _ _ _).trans (.cons _ ((pt1 _ _ _).trans (.cons _ ((pt6 _ _ _ _ _ _ _ _).trans (.cons _ ((pt6 _ _ _ _ _ _ _ _).trans (.cons _ ((pt6 _ _ _ _ _ _ _ _).trans (.cons _ ((pt6 _ _ _ _ _ _ _ _).trans (.cons _ ((pt6 _ _ _ _ _ _ _ _).trans (.cons _ ((pt6 _ _ _ _ _ _ _ _).trans (.cons _ ((pt6 _ _ _ _ _ _ _ _).trans (.cons _ ((pt6 _ _ _ _ _ _ _ _).trans (.cons _ (pt6 _ _ _ _ _ _ _ _))))))))))))))))))))))) _) (.drop [_] _ _),x',.inr ⟨rfl,hq',rfl⟩⟩
     ·first|cases hc33|exact absurd hc33 (by decide)|(exfalso;simp_all;done)
   ·obtain ⟨x,M,hM,⟨_,hx,rfl⟩|⟨hc',_⟩⟩:=hK
    rotate_left
    ·cases hc'
    refine rn ?_;exact ⟨hj,(x,M,q::dfs),⟨by simp only;rw [hw];exact hx,hM⟩,by simp only;rw [hw];exact v6 (zas ((List.Perm.cons _ ((zs7 _ _ _ _ _ _ _ _ _ _ _ _ _).trans (.cons _ (.cons _ (.cons _ ((pt9 _ _ _ _ _ _ _ _ _ _ _).trans (.cons _ ((pt9 _ _ _ _ _ _ _ _ _ _ _).trans (.cons _ (pt9 _ _ _ _ _ _ _ _ _ _ _)))))))))).trans (zxc _ [_,_,_,_,_,_,_,_,_,_,_,_,_,_,_] _ _))) (v6 (zb3 (h1:= [_,_,_])) es)⟩
   ·obtain ⟨x,M,hM,⟨hc',_⟩|⟨hc',hx,rfl⟩⟩:=hK
    ·cases hc'
    obtain rfl:cc= .ret:=by simpa using hc'
    refine rn ?_;exact zfy (.cons _ (zs9 [_,_,_,_,_,_,_,_,_,_,_,_,_,_,_] _ dfs)) .nil (.trans (.perm (.cons _ (.cons _ ((pt9 _ _ _ _ _ _ _ _ _ _ _).trans (.cons _ ((pt9 _ _ _ _ _ _ _ _ _ _ _).trans (.cons _ ((pt9 _ _ _ _ _ _ _ _ _ _ _).trans (.cons _ (pt9 _ _ _ _ _ _ _ _ _ _ _))))))))) _) (.drop [_,_,_,_] _ _)) ⟨x,M,hM,.inr ⟨hx,rfl⟩⟩
 ·have qj:=zdg hc14 lj
  subst qj
  refine rn ?_;exact yfh (zs9 [_,_,_,_,_,_,_,_,_,_,_,_] _ dfs) .nil (.drop [_] _ _) ⟨x,M,hM,.inl ⟨hx,rfl⟩⟩
end Go.Proofs
