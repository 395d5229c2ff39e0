/- The walk of law 20's own. Conditions: none. -/
import Derived.Test.YtfmcbdjnmlcacaaGreatDoorRAlK
set_option maxHeartbeats 4000000
set_option linter.unusedSectionVars false
set_option linter.unusedSimpArgs false
set_option linter.unusedVariables false
set_option maxRecDepth 10000
namespace Go.Proofs
open Go Go.Ab
attribute [local irreducible] QR QV OE zcr aw zdf zcf zbm za3 thn zfo zd2 jch zfe
open Go.H
theorem zz1 (l:List Ev):(l.map evR).take (min (l.map evR).length 60)=(l.take 60).map evR:=by
 rw [oM,←List.map_take,Nat.min_comm,←List.take_take,List.take_length]
theorem yrq (h:Hist) (la:Big h):y8 Tryz.prog 31 [.agg (w7 h)] [] (fun r h'=>∃(sE sO sM:SV) (E:List (SV×Ev)),E.map (·.2)=(h.evs.take 60)∧h'= .row sE.v 9 60 (E.map ypy):: .row sO.v 2 87 (h.ords.map zer):: .row sM.v 4 109 (h.mats.map zd9)::scR 70 E∧r= .agg [zdp h.ts,zdp h.ss,zdp h.os,zdp h.ps,.v sE.v,.v sO.v,.v sM.v,zur h.wants]):=by
 refine z6 Tryz.func31 rfl rfl rfl ?_
 refine rn ?_;refine z8 rfl (q6 rfl rfl rfl fun b1=> ?_)
 refine z8 rfl (y3 rfl fun b2=> ?_)
 refine rn ?_;refine zyu 15 rfl ?_
 refine mq rfl rfl qrA ?_;refine mq rfl rfl qrA ?_;refine mq rfl rfl qrA ?_;refine mq rfl rfl qrA ?_;refine mq rfl rfl qrA ?_;refine mq rfl rfl (yne (h.evs.map evR).length 60 rfl rfl) ?_
 refine mq rfl rfl (znf (rows':=(h.evs.take 60).map evR) rfl rfl (Nat.min_le_left _ _) (zz1 h.evs)) ?_
 refine yic (ynt 9 60 ((h.evs.take 60).map evR)) rfl rfl rfl (zxr (y0.of_fun (yal _ (by rw [oM,List.length_take];omega) (ykm _)))) ?_
 refine rn ?_;refine yic (ynt 2 87 (h.ords.map zer)) rfl rfl rfl (zxr (y0.of_fun (zt8 _ (by rw [oM];have:=la.ords;omega) (ynn _)))) ?_
 refine rn ?_;refine yic (ynt 4 109 (h.mats.map zd9)) rfl rfl rfl (zxr (y0.of_fun (zt9 _ (by rw [oM];have:=la.mats;omega) (yno _)))) ?_
 refine rn ?_;refine ywf ⟨.refl _,?_⟩
 refine rn ?_;refine zq3 fun s11=> ?_
 refine rn ?_;refine zq3 fun s14=> ?_
 refine rn ?_;refine zq3 fun s17=> ?_
 refine rn0 ?_;refine w8 ?_;refine w8 ?_;refine zfd (zao ((pt3 _ _ _ _ _).trans (.cons _ ((pt3 _ _ _ _ _).trans (.cons _ ((pt2 _ _ _ _).trans (.cons _ (pt1 _ _ _)))))))) ?_
 refine rn ?_;refine zaa (fun x:Nat×List (SV×Ev)=>x.1≤(h.evs.take 60).length∧x.2.map (·.2)=(h.evs.take 60).take x.1) (fun x=>⟨[(24,iv x.1),(23,iv ((h.evs.take 60).map evR).length),(1,pZ b1),(2,pZ b2)],.box b2 28 ztn:: .box b1 28 [zdp h.ts,zdp h.ss,zdp h.os,zdp h.ps,.v s11.v,.v s14.v,.v s17.v,zur h.wants]:: .row s11.v 9 60 (x.2.map ypy++((h.evs.take 60).drop x.1).map evR):: .row s14.v 2 87 (h.ords.map zer):: .row s17.v 4 109 (h.mats.map zd9)::scR 70 x.2,[]⟩) (fun x=>(h.evs.take 60).length - x.1) (0,[]) ⟨by omega,rfl⟩
  (v8 (.cons _ _ _ rfl (.cons _ _ _ rfl (.cons _ _ _ rfl (.cons _ _ _ rfl (.nil)))))) ?_
 rintro ⟨k,x⟩ ⟨hk,hx⟩
 simp only at hk hx
 have hxl:=yia hx hk
 refine rn ?_;refine z7 rfl (fun hc25=> ?_) (fun hc25=> ?_)
 ·have hk2:k < (h.evs.take 60).length:=by have q:=oT hc25;rw [oM] at q;omega
  obtain ⟨e,he⟩:∃e,e=(h.evs.take 60)[k]:=⟨_,rfl⟩
  have hd:=List.drop_eq_getElem_cons hk2
  rw [←he] at hd
  have hrow:(x.map ypy++((h.evs.take 60).drop k).map evR)[k]? =some (evR e):=yn0 hxl hd
  have hmem:e∈(h.evs.take 60):=by rw [he];exact List.getElem_mem hk2
  have hle:(h.evs.take 60).length≤60:=by rw [List.length_take];omega
  have hk3:k < (x.map ypy++((h.evs.take 60).drop k).map evR).length:=by rw [ynz hxl hk];exact hk2
  refine rn ?_;refine zyu 10 rfl ?_
  refine mq rfl rfl qrA ?_;refine mq rfl rfl qrA ?_;refine mq rfl rfl qrA ?_;refine mq rfl rfl qrA ?_;refine mq rfl rfl qrA ?_;refine mq rfl rfl qrA ?_;refine mq rfl rfl (zbk rfl rfl hk3) ?_
  refine mq rfl rfl qrA ?_;refine mq rfl rfl (zbd rfl hrow rfl) ?_
  refine yic (ynt 3 70 (e.scan.map zap)) rfl rfl rfl (zxr (y0.of_fun (zro _ (by rw [oM];have:=(la.scans e (List.mem_of_mem_take hmem));omega) (zil _)))) ?_
  refine ywf ⟨.refl _,?_⟩
  refine rn ?_;refine zq3 fun s36=> ?_
  refine rn2 ?_;refine qq rfl rfl (zbk rfl rfl hk3) ?_
  refine rn ?_;refine z8 rfl (zvj rfl rfl rfl hrow rfl (Nat.le_of_ble_eq_true rfl) ?_)
  refine rn ?_;have hset:=yny (f:=ypy) (g:=evR) (a:=(s36,e)) (r:=(evR e).take 8++ [.v s36.v]++(evR e).drop (8+1)) hxl hd rfl
  have htl:scR 70 (x++ [(s36,e)])=scR 70 x++ [.row s36.v 3 70 (e.scan.map zap)]:=by simp [scR]
  exact ⟨(k+1,x++ [(s36,e)]),⟨by omega,yh9 hx hk2 he⟩,by simp only [htl];exact v7 (zao (za9 [_] _)) (by rw [←hset];exact (v8 (.cons _ _ _ rfl (.cons _ _ _ rfl (.cons _ _ _ rfl (.cons _ _ _ rfl (.nil))))))),by simp only;omega⟩
 ·obtain rfl:k=(h.evs.take 60).length:=by
   have q:=oF hc25
   rw [oM] at q
   omega
  rw [List.take_length] at hx
  rw [List.drop_length,List.map_nil,List.append_nil]
  refine rn ?_;exact ze9 (.cons _ _ _ _ (.agg _ _ _ _ _ _ _ rfl inferInstance inferInstance inferInstance rfl) .nil) (.drop [_,_] _ _) ⟨s11,s14,s17,x,hx,rfl,rfl⟩
theorem yrr (h:Hist) (la:Big h):y8 Tryz.prog 31 [.agg (w7 h)] [] (fun r h'=>h'= []∧r= .agg (w7 (zbs h))):=
 (yrq h la).ventR (by
  rintro _ _ ⟨sE,sO,sM,E,hE,rfl,rfl⟩
  exact ⟨_,_,zvf [] sE.v sO.v sM.v (zbs h) E 60 87 109 70 _ hE (by simp) (by simp [zbs]) (by simp [zbs]) (fun r hr=>by simp [hr]),rfl,rfl⟩)
def yee (e:Ev):List AV:= [iv e.kind,iv e.t,iv e.s,iv e.l,iv e.o,iv e.v.t,iv e.v.k,iv e.p,.v (.slice none 0 0)]
theorem ynp (l:List Ev):∀r∈l.map yee,r.all AV.one=true:=by
 intro r hr;obtain ⟨a,_,rfl⟩:=List.mem_map.1 hr;rfl
theorem ygs  :y8 Tryz.prog 83 [] [] (fun r h'=>∃s:SV,h'= [.row s.v 9 60 ((srE 2).map yee)]∧r= .agg [.list true 1 [[sv (wT 48)],[sv (wT 49)],[sv (wT 50)]],.list true 1 [[sv zym]],.list true 1 [[sv bxx]],.list true 1 [[sv bPP]],.v s.v,.list true 2 [[iv 0,.list true 1 [[iv 1],[iv 2]]]],.list true 4 [[iv 0,iv 0,bv false,.list true 1 [[iv 2]]]],.v (.slice none 0 0)]):=by
 refine z6 Tryz.func83 rfl rfl rfl ?_
 refine rn ?_;refine z8 rfl (y3 rfl fun b0=> ?_)
 refine rn ?_;refine qv rfl rfl (w9 rfl rfl) ?_
 refine qv rfl rfl (w9 rfl rfl) ?_
 refine qv rfl rfl (w9 rfl rfl) ?_
 refine qv rfl rfl (w9 rfl rfl) ?_
 refine rn ?_;refine z8 rfl (y3 rfl fun b1=> ?_)
 first|refine z8 rfl (k8 rfl rfl rfl ?_)|refine z8 rfl (zaq rfl rfl rfl rfl (Nat.le_of_ble_eq_true rfl) ?_)
 refine j4 (zac ?_)
 refine w8 (y4 ?_)
 refine qq rfl rfl (zaf (out:=yee (yp0 0)) rfl (by rfl)) ?_
 refine qq rfl rfl (zaf (out:=yee (⟨3,0,0,0,0,⟨0,0⟩,0,[]⟩)) rfl (by rfl)) ?_
 refine qq rfl rfl (zaf (out:=yee (⟨4,0,0,0,0,⟨0,0⟩,0,[]⟩)) rfl (by rfl)) ?_
 refine qq rfl rfl (zaf (out:=yee (ypz 0)) rfl (by rfl)) ?_
 refine z8 rfl (zb0 (rows:=(srE 0).map yee) rfl rfl rfl (fun s12=> ?_))
 refine u9 s12 fun sw hsw=> ?_
 subst hsw
 refine rn ?_;refine zep 2 (fun k s=>⟨[(2,iv (k+1:Nat)),(0,pZ b0),(1,pZ b1)],.row s.v 9 60 ((srE k).map yee):: .box b1 28 [.list true 1 [[sv (wT 48)],[sv (wT 49)],[sv (wT 50)]],.list true 1 [[sv zym]],.list true 1 [[sv bxx]],.list true 1 [[sv bPP]],.v s.v,.v (.slice none 0 0),.v (.slice none 0 0),.v (.slice none 0 0)]:: .box b0 28 ztn:: [],[]⟩) sw es ?_
 intro k s lk
 refine rn ?_;refine z7 rfl (fun hc15=> ?_) (fun hc15=> ?_)
 ·have hk:k < 2:=by have q:=oT hc15;omega
  have hb:=yly k
  refine zar ?_;refine zac ?_;refine w8 ?_;refine zcx ?_;refine y4 ?_;refine q1 ?_;refine q1 ?_;refine q1 ?_;refine qq rfl rfl (zaf (out:=yee (yp0 (k+1:Nat))) rfl (by rfl)) ?_
  refine q1 ?_;refine q1 ?_;refine qq rfl rfl (zaf (out:= [iv (k+1:Nat),iv 1]) rfl (by rfl)) ?_
  refine qq rfl rfl (zaf (out:=yee (yud (k+1:Nat) 0)) rfl (by rfl)) ?_
  refine q1 ?_;refine qq rfl rfl (zaf (out:=yee (ypz (k+1:Nat))) rfl (by rfl)) ?_
  refine qv rfl rfl (w9 rfl rfl) ?_
  refine z8 rfl (q7 rfl rfl (by simp only [oM,List.length_append,List.length_cons,List.length_nil];omega) rfl (fun s29=> ?_) (ynp [yp0 (k+1:Nat),yud (k+1:Nat) 0,ypz (k+1:Nat)]))
  refine u9 s29 fun sw hsw=> ?_
  subst hsw
  refine rn ?_;exact ⟨hk,sw,by rw [yqe,List.map_append];exact eA⟩
 ·have qk:k=2:=by have q:=oF hc15;omega
  refine rn ?_;refine qv rfl rfl (w9 rfl rfl) ?_
  refine rn ?_;refine qv rfl rfl (w9 rfl rfl) ?_
  refine rn ?_;refine qv rfl rfl (w9 rfl rfl) ?_
  refine rn ?_;refine qv rfl rfl (w9 rfl rfl) ?_
  refine rn ?_;exact ze9 (.cons _ _ _ _ (.agg _ _ _ _ _ _ _ rfl inferInstance inferInstance inferInstance rfl) .nil) (.trans (.perm ((pt1 _ _ _).trans (.cons _ (pt1 _ _ _))) _) (.drop [_,_] _ _)) ⟨s,by rw [qk],rfl⟩
theorem zuw:y8 Tryz.prog 83 [] [] (fun r h'=>h'= []∧r= .agg (w7 rwH)):=
 ygs.ventR (by
  rintro _ _ ⟨s,rfl,rfl⟩
  exact ⟨_,_,.trans (zc0 [.list true 1 [[sv (wT 48)],[sv (wT 49)],[sv (wT 50)]],.list true 1 [[sv zym]],.list true 1 [[sv bxx]],.list true 1 [[sv bPP]]] [.list true 2 [[iv 0,.list true 1 [[iv 1],[iv 2]]]],.list true 4 [[iv 0,iv 0,bv false,.list true 1 [[iv 2]]]],.v (.slice none 0 0)]) (.le (Sb.aggs (bs:=w7 rwH) (by exact ⟨.unfull,.unfull,.unfull,.unfull,(.lists (by simp) ⟨⟨.refl _,.refl _,.refl _,.refl _,.refl _,.refl _,.refl _,.refl _,.nil _ _,trivial⟩,⟨.refl _,.refl _,.refl _,.refl _,.refl _,.refl _,.refl _,.refl _,.nil _ _,trivial⟩,⟨.refl _,.refl _,.refl _,.refl _,.refl _,.refl _,.refl _,.refl _,.nil _ _,trivial⟩,⟨.refl _,.refl _,.refl _,.refl _,.refl _,.refl _,.refl _,.refl _,.nil _ _,trivial⟩,⟨.refl _,.refl _,.refl _,.refl _,.refl _,.refl _,.refl _,.refl _,.nil _ _,trivial⟩,⟨.refl _,.refl _,.refl _,.refl _,.refl _,.refl _,.refl _,.refl _,.nil _ _,trivial⟩,⟨.refl _,.refl _,.refl _,.refl _,.refl _,.refl _,.refl _,.refl _,.nil _ _,trivial⟩,⟨.refl _,.refl _,.refl _,.refl _,.refl _,.refl _,.refl _,.refl _,.nil _ _,trivial⟩,⟨.refl _,.refl _,.refl _,.refl _,.refl _,.refl _,.refl _,.refl _,.nil _ _,trivial⟩,⟨.refl _,.refl _,.refl _,.refl _,.refl _,.refl _,.refl _,.refl _,.nil _ _,trivial⟩,trivial⟩),(.lists (by simp) ⟨⟨.refl _,.unfull,trivial⟩,trivial⟩),(.lists (by simp) ⟨⟨.refl _,.refl _,.refl _,.unfull,trivial⟩,trivial⟩),.nil _ _,trivial⟩)).le),rfl,rfl⟩)
theorem yvd:Lim 4611686018427387904 rwH:=⟨by decide,by decide,by decide,by decide,by decide,by decide,by decide,by decide,by decide,by decide,by decide⟩
abbrev yqm:Conf:=⟨0,1,3,1,5,0,0⟩
abbrev yv7:Conf:=⟨0,2,4,2,8,0,0⟩
theorem ygy:rwJ rwH yqm=true:=yqs (yqr zhv rfl (by decide) ygz)
theorem rA1 (rO:Nat) (oK:Obj) (hK:KO oK):y8 Tryz.prog 32 [.agg (w7 rwH)] (.glob 2 156 y5:: .glob 4 305 y7:: .glob 5 308 y2:: .glob 3 246 u5:: .glob 1 175 zag:: .glob 0 171 [mpv rO]:: .obj rO oK:: []) (fun r h'=>h'= .glob 2 156 y5:: .glob 4 305 y7:: .glob 5 308 y2:: .glob 3 246 u5:: .glob 1 175 zag:: .glob 0 171 [mpv rO]:: .obj rO oK:: []∧r= .tup [zen [yqm],iv 0]):=(ykb rwH yvd rO oK hK).mono fun _ _ q=>⟨q.1,by rw [q.2,zsl zhv,ybu,zhv]⟩
theorem rA2 (rO:Nat) (oK:Obj) (hK:KO oK):y8 Tryz.prog 33 [.agg (w7 rwH)] (.glob 2 156 y5:: .glob 4 305 y7:: .glob 5 308 y2:: .glob 3 246 u5:: .glob 1 175 zag:: .glob 0 171 [mpv rO]:: .obj rO oK:: []) (fun r h'=>h'= .glob 2 156 y5:: .glob 4 305 y7:: .glob 5 308 y2:: .glob 3 246 u5:: .glob 1 175 zag:: .glob 0 171 [mpv rO]:: .obj rO oK:: []∧r= .tup [zen [yv7],iv 0]):=(ybr rwH yvd rO oK hK).mono fun _ _ q=>⟨q.1,by rw [q.2,zsl zhv,ybs,zhv]⟩
theorem rA3 (rO:Nat) (oK:Obj) (hK:KO oK):y8 Tryz.prog 40 [.agg (w7 rwH),.agg (u0 yqm)] (.glob 2 156 y5:: .glob 4 305 y7:: .glob 5 308 y2:: .glob 3 246 u5:: .glob 1 175 zag:: .glob 0 171 [mpv rO]:: .obj rO oK:: []) (fun r h'=>h'= .glob 2 156 y5:: .glob 4 305 y7:: .glob 5 308 y2:: .glob 3 246 u5:: .glob 1 175 zag:: .glob 0 171 [mpv rO]:: .obj rO oK:: []∧r=bv true):=(yqq rwH yvd rO oK hK yqm).mono fun _ _ q=>⟨q.1,by rw [q.2,ygy]⟩
theorem rEq {f g:Bool} (c:Conf):y8 Tryz.prog 19 [.list f 7 [u0 c],.list g 7 [u0 c]] [] (fun r h'=>h'= []∧r=bv true):=yeh [c] (by show 1≤_;decide)
theorem ylp (rO:Nat) (oK:Obj) (hK:KO oK):y8 Tryz.prog 30 [] (.glob 2 156 y5:: .glob 4 305 y7:: .glob 5 308 y2:: .glob 3 246 u5:: .glob 1 175 zag:: .glob 0 171 [mpv rO]:: .obj rO oK:: []) (fun r h'=>h'= .glob 2 156 y5:: .glob 4 305 y7:: .glob 5 308 y2:: .glob 3 246 u5:: .glob 1 175 zag:: .glob 0 171 [mpv rO]:: .obj rO oK:: []∧r=bv true):=by
 refine z6 Tryz.func30 rfl rfl rfl ?_
 refine rn ?_;refine qv rfl rfl (y1 rfl rfl (y0.pure (R:=fun r=>r= .agg (w7 rwH)) (y0.of_fun zuw))) ?_
 refine qv rfl rfl (y1 rfl rfl (y0.of_fun (rA1 rO oK hK))) ?_
 refine rn ?_;refine qv rfl rfl (y1 rfl rfl (y0.pure (R:=fun r=>r= .agg (w7 rwH)) (y0.of_fun zuw))) ?_
 refine qv rfl rfl (y1 rfl rfl (y0.of_fun (rA2 rO oK hK))) ?_
 refine q1 ?_;refine q1 ?_;refine q1 ?_;refine q1 ?_;refine q1 ?_;refine j4 (zac ?_)
 refine w8 (y4 ?_)
 refine qq rfl rfl (zaf (out:=u0 yqm) rfl (by rfl)) ?_
 refine z8 rfl (y3 rfl fun b5=> ?_)
 refine rn ?_;refine k9 21 rfl ?_
 refine rn ?_;refine dv rfl rfl (w9 rfl rfl) ?_
 refine dv rfl rfl (by exact y1 rfl rfl (y0.pure (R:=fun r=>r=bv true) (y0.of_fun (rEq _)))) ?_
 refine dq rfl rfl qrA ?_;refine dq rfl rfl qrA ?_;refine dq rfl rfl qrA ?_;refine dq rfl rfl (zaf (out:=u0 yv7) rfl (by rfl)) ?_
 refine dv rfl rfl (w9 rfl rfl) ?_
 refine dv rfl rfl (by exact y1 rfl rfl (y0.pure (R:=fun r=>r=bv true) (y0.of_fun (rEq _)))) ?_
 refine rn ?_;refine dv rfl rfl (by exact y1 rfl rfl (y0.pure (R:=fun r=>r= .agg (w7 rwH)) (y0.of_fun zuw))) ?_
 refine rn ?_;refine qv rfl rfl (y1 rfl rfl (y0.qt (y0.of_fun (rA3 rO oK hK)) ((pt1 _ _ _).trans (.cons _ ((pt1 _ _ _).trans (.cons _ ((pt1 _ _ _).trans (.cons _ ((pt1 _ _ _).trans (.cons _ ((pt1 _ _ _).trans (.cons _ ((pt1 _ _ _).trans (.cons _ (pt1 _ _ _))))))))))))))) ?_
 refine rn ?_;refine rq 1 ?_
 exact ⟨rfl,rfl⟩
theorem zqp {h:Hist} (hc:u6 h=0) {kd:Int} (hk:kd=3∨kd=4):zrx h kd=yo0 (zeu h kd h.evs.length):=by rw [zsl hc];exact zjv (zbh.1 hc) hk (.refl _)
theorem zxb (h:Hist) (kd:Int):(zrx h kd).length≤9000000:=by
 by_cases hc:u6 h=0
 ·rw [zsl hc,zjw,(zkr zec _).length_eq,oM];exact zyo hc kd
 ·rw [zpc hc];exact Nat.zero_le _
theorem yql (h:Hist) (la:Lim 4611686018427387904 h):y8 Tryz.prog 26 [.agg (w7 h),.agg (w7 h)] [] (fun r h'=>h'= []∧r=bv true):=(ymy h h la la).mono fun _ _ q=>⟨q.1,by rw [q.2,zy9]⟩
theorem yqu (x:Hist)  (lb:Big x)  (rO:Nat) (oK:Obj) (hK:KO oK):y8 Tryz.prog 5 [.agg (w7 x)] (.glob 2 156 y5:: .glob 4 305 y7:: .glob 5 308 y2:: .glob 3 246 u5:: .glob 1 175 zag:: .glob 0 171 [mpv rO]:: .obj rO oK:: []) (fun r h'=>h'= .glob 2 156 y5:: .glob 4 305 y7:: .glob 5 308 y2:: .glob 3 246 u5:: .glob 1 175 zag:: .glob 0 171 [mpv rO]:: .obj rO oK:: []∧r=bv true):=by
 refine z6 Tryz.func5 rfl rfl rfl ?_
 refine rn ?_;refine z8 rfl (q6 rfl rfl rfl fun b1=> ?_)
 refine rn ?_;refine qv rfl rfl (y1 rfl rfl (y0.qt (y0.of_fun (ylp rO oK hK)) ((pt1 _ _ _).trans (.cons _ ((pt1 _ _ _).trans (.cons _ ((pt1 _ _ _).trans (.cons _ ((pt1 _ _ _).trans (.cons _ ((pt1 _ _ _).trans (.cons _ ((pt1 _ _ _).trans (.cons _ (pt1 _ _ _))))))))))))))) ?_
 refine rn ?_;refine z7 rfl (fun hc12=> ?_) (fun hc12=> ?_)
 ·exact absurd hc12 (by decide)
 ·refine rn ?_;refine qv rfl rfl (y1 rfl rfl (u7 (yrr x lb) (Sbs.refl _))) ?_
  refine z8 rfl (y3 rfl fun b3=> ?_)
  refine rn ?_;refine qv rfl rfl (y1 rfl rfl (u7 (zzm (zbs x) (zik lb.lim)) (Sbs.refl _))) ?_
  refine rn ?_;refine qv rfl rfl (y1 rfl rfl (y0.qt (y0.of_fun (ykb (zbs x) (zik lb.lim) rO oK hK)) ((pt2 _ _ _ _).trans (.cons _ ((pt2 _ _ _ _).trans (.cons _ ((pt2 _ _ _ _).trans (.cons _ ((pt2 _ _ _ _).trans (.cons _ ((pt2 _ _ _ _).trans (.cons _ ((pt2 _ _ _ _).trans (.cons _ (pt2 _ _ _ _))))))))))))))) ?_
  refine rn ?_;refine qv rfl rfl (y1 rfl rfl (y0.qt (y0.of_fun (ybr (zbs x) (zik lb.lim) rO oK hK)) ((pt2 _ _ _ _).trans (.cons _ ((pt2 _ _ _ _).trans (.cons _ ((pt2 _ _ _ _).trans (.cons _ ((pt2 _ _ _ _).trans (.cons _ ((pt2 _ _ _ _).trans (.cons _ ((pt2 _ _ _ _).trans (.cons _ (pt2 _ _ _ _))))))))))))))) ?_
  refine q1 ?_;refine q1 ?_;refine q1 ?_;refine q1 ?_;refine q1 ?_;refine j4 (zac ?_)
  refine w8 (y4 ?_)
  refine qq rfl rfl (zg3 (fun w O v hr=>Sb.rel (Sb.nil false 7) hr) (znl rfl)) ?_
  refine qq rfl rfl (zg3 (fun w O v hr=>Sb.rel (Sb.nil false 7) hr) (znl rfl)) ?_
  refine rn0 ?_;refine zp8 (⟨[(9,zen (zrx (zbs x) 3)),(10,zen (zrx (zbs x) 4)),(1,pZ b1),(3,pZ b3),(4,iv (u6 (zbs x))),(5,zen (zrx (zbs x) 3)),(6,iv (u6 (zbs x))),(7,zen (zrx (zbs x) 4)),(8,iv (u6 (zbs x)))],.box b3 28 (w7 (zbs x)):: .box b1 28 (w7 x):: .glob 2 156 y5:: .glob 4 305 y7:: .glob 5 308 y2:: .glob 3 246 u5:: .glob 1 175 zag:: .glob 0 171 [mpv rO]:: .obj rO oK:: [],[]⟩) ?_ ?_
  ·refine rn ?_;refine z7 rfl (fun hc28=> ?_) (fun hc28=> ?_)
   ·have hc:u6 (zbs x)=0:=eq_of_beq hc28
    refine k9 3 rfl ?_
    refine rn ?_;refine dv rfl rfl (by exact y1 rfl rfl (y0.pure (R:=fun r=>r=zen (yo0 (zeu (zbs x) 3 (zbs x).evs.length))) (y0.of_fun (zxg (zbs x) ((zfg hc).mono (by decide):Lim 1000000 (zbs x)) hc (zpl x) 3)))) ?_
    refine rn ?_;refine qv rfl rfl (y1 rfl rfl (y0.pure (R:=fun r=>r=zen (yo0 (zeu (zbs x) 4 (zbs x).evs.length))) (y0.of_fun (zxg (zbs x) ((zfg hc).mono (by decide):Lim 1000000 (zbs x)) hc (zpl x) 4)))) ?_
    refine rn ?_;first|(rw [zpc hc,zpc hc];exact eA)|(rw [zqp hc (.inl rfl),zqp hc (.inr rfl)];exact eA)
   ·have hc:u6 (zbs x)≠0:=by simpa using hc28
    refine rn ?_;first|(rw [zpc hc,zpc hc];exact eA)|(rw [zqp hc (.inl rfl),zqp hc (.inr rfl)];exact eA)
  ·refine rn ?_;refine k9 22 rfl ?_
   refine dq rfl rfl qrA ?_;refine dq rfl rfl qrA ?_;refine dq rfl rfl (zc2 (c:=true) rfl rfl (congrArg some (beq_self_eq_true _))) ?_
   refine dq rfl rfl qrA ?_;refine dq rfl rfl qrA ?_;refine dq rfl rfl qrA ?_;refine dq rfl rfl (zc2 (c:=true) rfl rfl (congrArg some (beq_self_eq_true _))) ?_
   refine rn ?_;refine dv rfl rfl (by exact y1 rfl rfl (u7 (yeh (zrx (zbs x) 3) (Nat.le_trans (zxb _ _) (by decide))) (Sbs.refl _))) ?_
   refine rn ?_;refine dv rfl rfl (by exact y1 rfl rfl (u7 (yeh (zrx (zbs x) 4) (Nat.le_trans (zxb _ _) (by decide))) (Sbs.refl _))) ?_
   refine rn ?_;refine dv rfl rfl (by exact y1 rfl rfl (u7 (yrr x lb) (Sbs.refl _))) ?_
   refine rn ?_;refine qv rfl rfl (y1 rfl rfl (u7 (yql (zbs x) (zik lb.lim)) (Sbs.refl _))) ?_
   refine rn ?_;first|(refine rq 2 ?_;exact ⟨rfl,rfl⟩)|(refine rq 3 ?_;exact ⟨rfl,rfl⟩)
end Go.Proofs
