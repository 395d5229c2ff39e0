/- The walks of the index's closures. Conditions: none. -/
import Derived.Test.YtcaijocpofcbdaaGreatDoorGRiH
set_option linter.unusedSectionVars false
set_option linter.unusedSimpArgs false
set_option linter.unusedVariables false
set_option maxRecDepth 10000
namespace Go.Proofs
open Go Go.Ab
attribute [local irreducible] QR QV OE zca aw zcm za3 zau zag thn zeu zdi jch zd8
open Go.H
theorem yfc (k s:Int) (e:Ev) (b2 b3 rm:Nat) (M:List (Int×Bool)):x3 Tryz.prog 74 [iv k,.agg (evR e),pZ b2,pZ b3] [.box b2 3 [iv s],.box b3 126 [mpv rm],.map rm (j9 zbm (zbc bv M))] (fun r h'=>h'= [.box b2 3 [iv s],.box b3 126 [mpv rm],.map rm (j9 zbm (zbc bv M))]∧r= .tup [iv e.t,bv (e.s==s && (zbn e.t M).getD false)]):=by
 refine z6 Tryz.func74 rfl rfl rfl ?_
 refine rn ?_;refine z7 rfl (w6 rfl rfl rfl fun b5=> ?_)
 refine rn ?_;refine j6 13 rfl ?_
 refine rn ?_;refine zew (fun hg1_6=> ?_) (fun hg1_6=> ?_)
 ·refine dq rfl rfl qrA ?_;refine dq rfl rfl qrA ?_;refine dq rfl rfl qrA ?_;refine dq rfl rfl (zbw (enc:=zbm) (k:=e.t) false rfl rfl) ?_
  refine rn ?_;refine rq 1 ?_
  exact ⟨rfl,by rw [hg1_6];rfl⟩
 ·refine rn ?_;refine rq 1 ?_
  exact ⟨rfl,by rw [hg1_6];rfl⟩
theorem yfd (k s:Int) (e:Ev) (b2 b3 rm:Nat) (M:List (Int×Bool)):x3 Tryz.prog 161 [iv k,.agg (evR e),pZ b2,pZ b3] [.box b2 3 [iv s],.box b3 126 [mpv rm],.map rm (j9 zbm (zbc bv M))] (fun r h'=>h'= [.box b2 3 [iv s],.box b3 126 [mpv rm],.map rm (j9 zbm (zbc bv M))]∧r= .tup [iv e.t,bv (e.o==s && (zbn e.t M).getD false)]):=by
 refine z6 Tryz.func161 rfl rfl rfl ?_
 refine rn ?_;refine z7 rfl (w6 rfl rfl rfl fun b5=> ?_)
 refine rn ?_;refine j6 13 rfl ?_
 refine rn ?_;refine zew (fun hg1_6=> ?_) (fun hg1_6=> ?_)
 ·refine dq rfl rfl qrA ?_;refine dq rfl rfl qrA ?_;refine dq rfl rfl qrA ?_;refine dq rfl rfl (zbw (enc:=zbm) (k:=e.t) false rfl rfl) ?_
  refine rn ?_;refine rq 1 ?_
  exact ⟨rfl,by rw [hg1_6];rfl⟩
 ·refine rn ?_;refine rq 1 ?_
  exact ⟨rfl,by rw [hg1_6];rfl⟩
theorem ymh (x:Int) (s:Ord) (b1:Nat):x3 Tryz.prog 160 [.agg (zc4 s),pZ b1] [.box b1 3 [iv x]] (fun r h'=>h'= [.box b1 3 [iv x]]∧r=bv (s.o==x)):=by
 refine z6 Tryz.func160 rfl rfl rfl ?_
 refine rn ?_;refine z7 rfl (w6 rfl rfl rfl fun b2=> ?_)
 refine rn ?_;refine rq 1 ?_
 exact ⟨rfl,rfl⟩
set_option maxHeartbeats 4000000 in
theorem zw5 (h:Hist) (la:h.evs.length≤1000000) (W:List Res):x3 Tryz.prog 72 [.agg (x4 h)] W (fun r h'=>∃rm,h'= .map rm (j9 zbm (zbc bv (zjk h.evs)))::W∧r=mpv rm):=by
 refine z6 Tryz.func72 rfl rfl rfl ?_
 refine rn ?_;refine z7 rfl (w6 rfl rfl rfl fun b1=> ?_)
 refine rn ?_;refine z7 rfl (zao (enc:=zbm) rfl fun b6=> ?_)
 refine z7 rfl (x6 rfl fun b3=> ?_)
 refine rn ?_;refine z7 rfl (w7 rfl rfl (y3.of_fun (zsz h 5 _)) rfl ?_)
 rintro _ _ ⟨e1,e2,rfl,rfl⟩
 refine rn ?_;refine zir (s':=⟨[(8,.fn (.func 158) [] [pZ e1,pZ e2]),(3,pZ b3)],.box e1 28 (x4 h):: .box e2 3 [iv 5]:: .box b3 126 [mpv b6]:: .map b6 (j9 zbm (zbc bv (zjk (h.evs.take 0)))):: .box b1 28 (x4 h)::W,[]⟩) es ?_
 refine zld (fun pend h''=>pend=none∧h''= .box b3 126 [mpv b6]:: .map b6 (j9 zbm (zbc bv (zjk (h.evs.take h.evs.length)))):: .box b1 28 (x4 h)::W) rfl (fun fn l q lp hlp=> ?_) (fun q h'' hK=> ?_) (fun q h'' c hK=> ?_)
 ·suffices hy:∀k (x:Unit),(hk:k < h.evs.length)→True→(h.evs[k].kind==5)=true→y3 Tryz.prog (yv l) [iv k,.agg (evR h.evs[k])] (.box e1 28 (x4 h):: .box e2 3 [iv 5]::lp .ready none:: .defs q:: .box b3 126 [mpv b6]:: .map b6 (j9 zbm (zbc bv (zjk (h.evs.take k)))):: .box b1 28 (x4 h)::W) (fun r h'=>∃x':Unit,(r=bv true∧True∧h'= .box e1 28 (x4 h):: .box e2 3 [iv 5]::lp .ready none:: .defs q:: .box b3 126 [mpv b6]:: .map b6 (j9 zbm (zbc bv (zjk (h.evs.take (k+1))))):: .box b1 28 (x4 h)::W)∨(r=bv false∧False∧h'= .box e1 28 (x4 h):: .box e2 3 [iv 5]:: [])) by
   refine x3.mono (x3.perm ((pt2 _ _ _ _).trans (.cons _ (pt2 _ _ _ _))) (zoo h la 5 (yv l) e1 e2 (fun _ _=>True) (fun _ _=>False) (fun k (_:Unit)=>lp .ready none:: .defs q:: .box b3 126 [mpv b6]:: .map b6 (j9 zbm (zbc bv (zjk (h.evs.take k)))):: .box b1 28 (x4 h)::W) (fun _ _=> []) () trivial hy (fun k s hk _ hn=>⟨s,trivial,by rw [ykc hk hn]⟩))) ?_
   rintro _ _ (⟨s,_,rfl⟩|⟨_,_,hF,_⟩)
   ·exact ⟨none,.ready,_,.refl _,by simp,rfl,rfl⟩
   ·exact hF.elim
  intro k s hk _ hkd
  refine y3.perm (pt2 _ _ _ _) (y3.ventE ?_)
  refine zdk hlp rfl rfl ?_
  refine rn ?_;refine z7 rfl (x6 rfl fun b5=> ?_)
  refine rn ?_;refine ⟨[(5,pZ b5),(3,pZ b3)],.box b5 66 (evR h.evs[k]):: .box e1 28 (x4 h):: .box e2 3 [iv 5]:: .defs q:: .box b3 126 [mpv b6]:: .map b6 (j9 zbm (zbc bv (zjk (h.evs.take k)))):: .box b1 28 (x4 h)::W,w9 (zai (pt1 _ _ _)) es,?_⟩
  refine rn ?_;refine z7 rfl (zax (g:=bv) (enc:=zbm) (k:=h.evs[k].t) (v:=true) rfl rfl rfl ?_)
  refine rn ?_;exact zgw (.refl _) ⟨_,_,.trans (.perm ((pt1 _ _ _).trans (.cons _ ((pt1 _ _ _).trans (.cons _ (pt1 _ _ _))))) _) (.drop [_] _ _),(),.inl ⟨rfl,trivial,by rw [ykb hk hkd]⟩⟩
 ·obtain ⟨_,rfl⟩:=hK
  refine rn ?_;exact zgk (.refl _) (.cons _ _ _ _ (.tmp _ _ rfl) .nil) (.trans (.drop1 _ _ _) (.trans (.perm (pt1 _ _ _) _) (.drop [_] _ _))) ⟨b6,by rw [List.take_length],rfl⟩
 ·obtain ⟨hc,_⟩:=hK
  exact absurd hc (by simp)
theorem zyf {h:Hist} {n many:Int} (he:zis h n many≠0) (X:List Int):(onE (zis h n many) X).map za5= []:=by rw [onE,if_neg he];rfl
theorem zxh {α:Type} (kd:Int) (g:Ev→α) (q:Ev→Bool) (l:List Ev):zjj (znt kd (fun _ e=>g e) (fun _ e=>q e)) l l.length=(l.filter fun e=>e.kind==kd && q e).map g:=yba (fun _ _=>rfl) l
theorem yci (h:Hist) (la:Lim 4611686018427387904 h) (n many:Int) (fv:AV) (hone:fv.cellsOf=some [fv]) (X:List Int) (W:List Res) (hp:zis h n many=0→y3 Tryz.prog fv [] (.glob 3 148 y8:: .glob 5 276 y9:: .glob 6 279 y4:: .glob 2 197 v8::W) (fun r h'=>∃s:SV,h'= .row s.v 1 3 (X.map za5):: .glob 3 148 y8:: .glob 5 276 y9:: .glob 6 279 y4:: .glob 2 197 v8::W∧r= .v s.v)):x3 Tryz.prog 70 [.agg (x4 h),iv n,iv many,fv] (.glob 3 148 y8:: .glob 5 276 y9:: .glob 6 279 y4:: .glob 2 197 v8::W) (fun r h'=>∃s:SV,h'= .row s.v 1 3 ((onE (zis h n many) X).map za5):: .glob 3 148 y8:: .glob 5 276 y9:: .glob 6 279 y4:: .glob 2 197 v8::W∧r= .tup [.v s.v,iv (zis h n many)]):=by
 refine z6 Tryz.func70 rfl rfl rfl ?_
 refine rn ?_;refine z7 rfl (w6 rfl rfl rfl fun b4=> ?_)
 refine rn ?_;refine qv rfl rfl (y5 rfl rfl (y3.qt (y3.of_fun (zq1 h la)) ((pt1 _ _ _).trans (.cons _ ((pt1 _ _ _).trans (.cons _ ((pt1 _ _ _).trans (.cons _ (pt1 _ _ _))))))))) ?_
 refine rn ?_;refine z8 rfl (fun hc15=> ?_) (fun hc15=> ?_)
 ·have hc:u0 h≠0:=by simpa using hc15
  refine rn ?_;exact zbj rfl rfl (.trans (.drop [_] _ _) (k8 1 3 _)) ⟨⟨none,0,0⟩,by rw [zyf (by rw [ykq hc];exact hc)];rfl,by rw [ykq hc];rfl⟩
 ·have hc:u0 h=0:=by simpa using hc15
  refine rn ?_;refine q8 (fun hg5_2=> ?_) (fun hg5_2=> ?_)
  ·refine rn ?_;refine zro rfl ?_;have hn:¬(0≤n∧n < many):=by first|(have q:=of_decide_eq_true hg5_2;omega)|(have q:=of_decide_eq_true hc24;omega)
   refine rn ?_;exact zbj rfl rfl (.trans (.drop [_] _ _) (k8 1 3 _)) ⟨⟨none,0,0⟩,by rw [zyf (by rw [ybu hc hn];decide)];rfl,by rw [ybu hc hn];rfl⟩
  ·refine rn ?_;refine z8 rfl (fun hc24=> ?_) (fun hc24=> ?_)
   ·have hn:¬(0≤n∧n < many):=by first|(have q:=of_decide_eq_true hg5_2;omega)|(have q:=of_decide_eq_true hc24;omega)
    refine rn ?_;exact zbj rfl rfl (.trans (.drop [_] _ _) (k8 1 3 _)) ⟨⟨none,0,0⟩,by rw [zyf (by rw [ybu hc hn];decide)];rfl,by rw [ybu hc hn];rfl⟩
   ·have hn:0≤n∧n < many:=by have q:=of_decide_eq_false hg5_2;have q':=of_decide_eq_false hc24;omega
    refine rn ?_;refine z7 rfl (w7 rfl rfl (y3.fr1 (hp (zye hc hn))) rfl ?_)
    rintro _ _ ⟨_,rfl,s,rfl,rfl⟩
    refine rn ?_;exact zbj rfl rfl (.drop [_] _ _) ⟨s,by rw [zye hc hn];rfl,by rw [zye hc hn];rfl⟩
theorem zyg {h:Hist} {n many:Int} (he:zis h n many=0):Lim 3000 h:=zqs (zfo (ybv he).1).1
theorem ygj {h:Hist} {n many:Int} (he:zis h n many=0):h.evs.length≤1000000:=Nat.le_trans (zyg he).evs (by decide)
theorem zel {h:Hist} (he:u0 h=0):Lim 3000 h:=zqs (zfo (zbo.1 he)).1
theorem yaq (l:List Ev) (s:Int):zjj (znt 1 (fun _ e=>e.t) (fun _ e=>e.s==s && (zbn e.t (zjk l)).getD false)) l l.length=ze6 l s:=by
 rw [zxh 1 Ev.t (fun e=>e.s==s && (zbn e.t (zjk l)).getD false),ze6];simp only [zta]
theorem yfk (l:List Ev) (x:Int):zjj (znt 2 (fun _ e=>e.t) (fun _ e=>e.o==x && (zbn e.t (zjk l)).getD false)) l l.length=ygy l x:=by
 rw [zxh 2 Ev.t (fun e=>e.o==x && (zbn e.t (zjk l)).getD false),ygy];simp only [zta]
theorem yio {h:Hist} {x:Int} (hc:decide (zbf (fun o:Ord=>o.o==x) 0 h.ords ≥ 0)=true):∃k,∃hk:k < h.ords.length,zbf (fun o:Ord=>o.o==x) 0 h.ords=(k:Int)∧zfi h x=h.ords[k].ts:=by
 have:=zhm (fun o:Ord=>o.o==x) h.ords 0
 cases hf:h.ords.find? (fun o=>o.o==x) with
 |none=>rw [hf] at this;simp only at this;rw [this] at hc;exact absurd hc (by decide)
 |some o=>
  rw [hf] at this
  obtain ⟨k,hk,e,eo,_⟩:=this
  exact ⟨k,hk,by rw [e,Nat.zero_add],by rw [zfi,hf,eo]⟩
theorem yin {h:Hist} {x:Int} (hc:decide (zbf (fun o:Ord=>o.o==x) 0 h.ords ≥ 0)=false):zfi h x=za2 (ygy h.evs x):=by
 have:=zhm (fun o:Ord=>o.o==x) h.ords 0
 cases hf:h.ords.find? (fun o=>o.o==x) with
 |none=>rw [zfi,hf]
 |some o=>
  rw [hf] at this
  obtain ⟨k,hk,e,eo,_⟩:=this
  rw [e] at hc
  have:=of_decide_eq_false hc
  omega
set_option maxHeartbeats 4000000 in
theorem yfe (h:Hist) (la:h.evs.length≤1000000) (s:Int) (b2 b4:Nat):x3 Tryz.prog 71 [pZ b2,pZ b4] (.glob 3 148 y8:: .glob 5 276 y9:: .glob 6 279 y4:: .glob 2 197 v8:: .box b2 28 (x4 h):: .box b4 3 [iv s]:: []) (fun r h'=>∃s':SV,h'= .row s'.v 1 3 ((ze6 h.evs s).map za5):: .glob 3 148 y8:: .glob 5 276 y9:: .glob 6 279 y4:: .glob 2 197 v8:: .box b2 28 (x4 h):: .box b4 3 [iv s]:: []∧r= .v s'.v):=by
 refine z6 Tryz.func71 rfl rfl rfl ?_
 refine rn ?_;refine z7 rfl (w7 rfl rfl (y3.of_fun (zw5 h la _)) rfl ?_)
 rintro _ _ ⟨rm,rfl,rfl⟩
 refine z7 rfl (x6 rfl fun b3=> ?_)
 refine rn ?_;refine z7 rfl (w7 rfl rfl (y3.of_fun (ych h la 1 _ rfl _ (fun _ e=>e.t) (fun _ e=>e.s==s && (zbn e.t (zjk h.evs)).getD false) (fun k hk _=>y3.qt (y3.of_acall (fs:= []) (cs:= [pZ b4,pZ b3]) (yfc k s h.evs[k] b4 b3 rm (zjk h.evs))) (pt7 _ _ _ _ _ _ _ _ _)))) rfl ?_)
 rintro _ _ ⟨s',rfl,rfl⟩
 refine rn ?_;exact k7 rfl (.trans (.perm ((pt1 _ _ _).trans (.cons _ (pt1 _ _ _))) _) (.drop [_,_] _ _)) ⟨s',by rw [yaq],rfl⟩
set_option maxHeartbeats 4000000 in
theorem yff (h:Hist) (la:Lim 4611686018427387904 h) (n:Int):x3 Tryz.prog 28 [.agg (x4 h),iv n] (.glob 3 148 y8:: .glob 5 276 y9:: .glob 6 279 y4:: .glob 2 197 v8:: []) (fun r h'=>∃s:SV,h'= .row s.v 1 3 ((onE (zis h n h.ss.length) (ze6 h.evs n)).map za5):: .glob 3 148 y8:: .glob 5 276 y9:: .glob 6 279 y4:: .glob 2 197 v8:: []∧r= .tup [.v s.v,iv (zis h n h.ss.length)]):=by
 refine z6 Tryz.func28 rfl rfl rfl ?_
 refine rn ?_;refine z7 rfl (w6 rfl rfl rfl fun b2=> ?_)
 refine z7 rfl (w6 rfl rfl rfl fun b3=> ?_)
 refine rn ?_;refine z7 rfl (w7 rfl rfl (y3.perm ((pt2 _ _ _ _).trans (.cons _ ((pt2 _ _ _ _).trans (.cons _ ((pt2 _ _ _ _).trans (.cons _ ((pt2 _ _ _ _).trans (.cons _ (pt1 _ _ _))))))))) (y3.of_fun (yci h la n (h.ss.map zbg).length (.fn (.func 71) [] [pZ b2,pZ b3]) rfl (ze6 h.evs n) [.box b2 28 (x4 h),.box b3 3 [iv n]] (fun he=>y3.of_acall (fs:= []) (cs:= [pZ b2,pZ b3]) (yfe h (ygj he) n b2 b3))))) rfl ?_)
 rintro _ _ ⟨s,rfl,rfl⟩
 refine rn ?_;exact zbj rfl rfl (.trans (.perm ((pt5 _ _ _ _ _ _ _).trans (.cons _ (pt5 _ _ _ _ _ _ _))) _) (.drop [_,_] _ _)) ⟨s,by simp only [List.length_map],by simp only [List.length_map];rfl⟩
theorem yi8 (h:Hist) (la:Lim 4611686018427387904 h) (n:Int):x3 Tryz.prog 28 [.agg (x4 h),iv n] (.glob 3 148 y8:: .glob 5 276 y9:: .glob 6 279 y4:: .glob 2 197 v8:: []) (fun r h'=>h'= .glob 3 148 y8:: .glob 5 276 y9:: .glob 6 279 y4:: .glob 2 197 v8:: []∧r= .tup [zfv (onE (zis h n h.ss.length) (ze6 h.evs n)),iv (zis h n h.ss.length)]):=
 (yff h la n).ventR (by rintro _ _ ⟨s,rfl,rfl⟩;exact ⟨_,_,zaf [] [_],rfl,rfl⟩)
set_option maxHeartbeats 4000000 in
theorem yjc (h:Hist) (la:Lim 3000 h) (x:Int) (W:List Res):x3 Tryz.prog 122 [.agg (x4 h),iv x] W (fun r h'=>∃s:SV,h'= .row s.v 1 3 ((zfi h x).map za5)::W∧r= .v s.v):=by
 refine z6 Tryz.func122 rfl rfl rfl ?_
 have le:h.evs.length≤1000000:=Nat.le_trans la.evs (by decide)
 have lo:=la.ords
 refine rn ?_;refine z7 rfl (w6 rfl rfl rfl fun b2=> ?_)
 refine z7 rfl (w6 rfl rfl rfl fun b3=> ?_)
 refine rn ?_;refine qv rfl rfl (y5 rfl rfl (y3.of_fun (zim h.ords _ (fun o:Ord=>o.o==x) _ (fun a _=>y3.qt (y3.of_acall (fs:= []) (cs:= [pZ b3]) (ymh x a b3)) (.refl _)) (Nat.le_trans la.ords (by decide))))) ?_
 refine rn ?_;refine z8 rfl (fun hc13=> ?_) (fun hc13=> ?_)
 ·obtain ⟨k,hk,ek,hx⟩:=yio hc13
  have rk:=zdm (f:=zc4) hk
  rw [ek]
  refine rn ?_;refine z7 rfl (w7 rfl rfl (y3.fr (y3.rowS (y3.of_fun (ze9 (h.ords[k].ts.map za5) (by rw [List.length_map];exact Nat.le_trans (la.ordts h.ords[k] (List.getElem_mem hk)) (by decide)) (zj8 _)))) (.refl _)) rfl ?_)
  rintro _ _ ⟨_,rfl,s,rfl,rfl⟩
  refine rn ?_;exact k7 rfl (.trans (.perm ((pt1 _ _ _).trans (.cons _ (pt1 _ _ _))) _) (.drop [_,_] _ _)) ⟨s,by rw [hx],rfl⟩
 ·have hx:=yin hc13
  refine rn ?_;refine z7 rfl (w7 rfl rfl (y3.of_fun (zw5 h le _)) rfl ?_)
  rintro _ _ ⟨rm,rfl,rfl⟩
  refine z7 rfl (x6 rfl fun b6=> ?_)
  refine rn ?_;refine z7 rfl (w7 rfl rfl (y3.of_fun (ych h le 2 _ rfl _ (fun _ e=>e.t) (fun _ e=>e.o==x && (zbn e.t (zjk h.evs)).getD false) (fun k hk _=>y3.qt (y3.of_acall (fs:= []) (cs:= [pZ b3,pZ b6]) (yfd k x h.evs[k] b3 b6 rm (zjk h.evs))) (pt2 _ _ _ _)))) rfl ?_)
  rintro _ _ ⟨s,rfl,rfl⟩
  refine rn ?_;refine z7 rfl (w7 rfl rfl (zkl (y3.of_fun (yga s _ (by have:=(zm6 (znt 2 (fun _ e=>e.t) (fun _ e=>e.o==x && (zbn e.t (zjk h.evs)).getD false)) h.evs h.evs.length);omega)))) rfl ?_)
  rintro _ _ ⟨s',rfl,rfl⟩
  refine rn ?_;exact k7 rfl (.trans (.perm ((pt1 _ _ _).trans (.cons _ ((pt1 _ _ _).trans (.cons _ ((pt1 _ _ _).trans (.cons _ (pt1 _ _ _))))))) _) (.drop [_,_,_,_] _ _)) ⟨s',by rw [hx,yfk],rfl⟩
theorem yjb (h:Hist) (la:Lim 3000 h) (x:Int) (b2 b3:Nat):x3 Tryz.prog 121 [pZ b2,pZ b3] (.glob 3 148 y8:: .glob 5 276 y9:: .glob 6 279 y4:: .glob 2 197 v8:: .box b2 28 (x4 h):: .box b3 3 [iv x]:: []) (fun r h'=>∃s:SV,h'= .row s.v 1 3 ((zfi h x).map za5):: .glob 3 148 y8:: .glob 5 276 y9:: .glob 6 279 y4:: .glob 2 197 v8:: .box b2 28 (x4 h):: .box b3 3 [iv x]:: []∧r= .v s.v):=by
 refine z6 Tryz.func121 rfl rfl rfl ?_
 refine rn ?_;refine z7 rfl (w7 rfl rfl (y3.of_fun (yjc h la x _)) rfl ?_)
 rintro _ _ ⟨s,rfl,rfl⟩
 refine rn ?_;exact k7 rfl (.refl _ _) ⟨s,rfl,rfl⟩
set_option maxHeartbeats 4000000 in
theorem yfg (h:Hist) (la:Lim 4611686018427387904 h) (x:Int):x3 Tryz.prog 75 [.agg (x4 h),iv x] (.glob 3 148 y8:: .glob 5 276 y9:: .glob 6 279 y4:: .glob 2 197 v8:: []) (fun r h'=>∃s:SV,h'= .row s.v 1 3 ((onE (zis h x h.os.length) (zfi h x)).map za5):: .glob 3 148 y8:: .glob 5 276 y9:: .glob 6 279 y4:: .glob 2 197 v8:: []∧r= .tup [.v s.v,iv (zis h x h.os.length)]):=by
 refine z6 Tryz.func75 rfl rfl rfl ?_
 refine rn ?_;refine z7 rfl (w6 rfl rfl rfl fun b2=> ?_)
 refine z7 rfl (w6 rfl rfl rfl fun b3=> ?_)
 refine rn ?_;refine z7 rfl (w7 rfl rfl (y3.perm ((pt2 _ _ _ _).trans (.cons _ ((pt2 _ _ _ _).trans (.cons _ ((pt2 _ _ _ _).trans (.cons _ ((pt2 _ _ _ _).trans (.cons _ (pt1 _ _ _))))))))) (y3.of_fun (yci h la x (h.os.map zbg).length (.fn (.func 121) [] [pZ b2,pZ b3]) rfl (zfi h x) [.box b2 28 (x4 h),.box b3 3 [iv x]] (fun he=>y3.of_acall (fs:= []) (cs:= [pZ b2,pZ b3]) (yjb h (zyg he) x b2 b3))))) rfl ?_)
 rintro _ _ ⟨s,rfl,rfl⟩
 refine rn ?_;exact zbj rfl rfl (.trans (.perm ((pt5 _ _ _ _ _ _ _).trans (.cons _ (pt5 _ _ _ _ _ _ _))) _) (.drop [_,_] _ _)) ⟨s,by simp only [List.length_map],by simp only [List.length_map];rfl⟩
theorem yi9 (h:Hist) (la:Lim 4611686018427387904 h) (x:Int):x3 Tryz.prog 75 [.agg (x4 h),iv x] (.glob 3 148 y8:: .glob 5 276 y9:: .glob 6 279 y4:: .glob 2 197 v8:: []) (fun r h'=>h'= .glob 3 148 y8:: .glob 5 276 y9:: .glob 6 279 y4:: .glob 2 197 v8:: []∧r= .tup [zfv (onE (zis h x h.os.length) (zfi h x)),iv (zis h x h.os.length)]):=
 (yfg h la x).ventR (by rintro _ _ ⟨s,rfl,rfl⟩;exact ⟨_,_,zaf [] [_],rfl,rfl⟩)
theorem zwx (l:List Ev) (t x:Int):∀k,k≤l.length→zbn (t,x) (znr (l.take k))=(zuc l t x k).map Prod.fst
 |0,_=>rfl
 |k+1,hk=>by
  have ih:=zwx l t x k (by omega)
  rw [List.take_succ_eq_append_getElem hk,zdh,zuc,List.getElem?_eq_getElem hk]
  simp only
  by_cases hw:zru t x l[k]=true
  ·obtain ⟨h2,ht,hx⟩:=zlf.1 hw
   rw [if_pos (by simpa using h2),zcz,if_pos (by rw [kTO,ht,hx]),if_pos hw];rfl
  ·rw [if_neg hw]
   by_cases h2:l[k].kind=2
   ·rw [if_pos (by simpa using h2),zcz,if_neg,ih]
    intro e
    rw [kTO,Prod.mk.injEq] at e
    exact hw (zlf.2 ⟨h2,e.1,e.2⟩)
   ·rw [if_neg (by simpa using h2),ih]
theorem yfa (h:Hist) (t x:Int):(zbn (t,x) (znr h.evs)).getD ⟨0,0⟩=zyz h x t:=by
 have:=zwx h.evs t x h.evs.length (Nat.le_refl _)
 rw [List.take_length] at this
 rw [this,zyz,ynd]
 cases zuc h.evs t x h.evs.length <;> rfl
abbrev rkS (h:Hist) (rk:Nat):Res:= .map rk (j9 zej (zbc iv (rkM h h.os.length)))
theorem ylw (h:Hist) (n:Nat):rkM h (n+1)=zfr h n 0 ((zfi h n).take (zfi h n).length) (zea (ztr n ⟨0,0⟩) 0 (rkM h n)):=by rw [List.take_length];rfl
theorem yjg {h:Hist} (hc:u0 h=0) {x:Int} (h0:0≤x) (h1:x < h.os.length):(zfi h x).length≤3000:=by
 rw [(zq3 (zbo.1 hc) h0 h1).2.1]
 exact Nat.le_trans (zhu h.evs x) (zel hc).evs
theorem yi5 {h:Hist} {j:Nat} (hj:j < h.evs.length) (hw:(h.evs[j].kind==2)=true):znr (h.evs.take (j+1))=zea (h.evs[j].t,h.evs[j].o) h.evs[j].v (znr (h.evs.take j)):=by
 rw [List.take_succ_eq_append_getElem hj,zdh,if_pos hw];rfl
theorem yi6 {h:Hist} {j:Nat} (hj:j < h.evs.length) (hw:(h.evs[j].kind==2)=false):znr (h.evs.take (j+1))=znr (h.evs.take j):=by
 rw [List.take_succ_eq_append_getElem hj,zdh,hw];rfl
theorem yc6 {h:Hist} {t kd:Int} {k:Nat} {e:Ev} {r:Int} (ht:e.t=t) (hk:e.kind=kd) (hr:zyw h e.o e.v=some r):zk3 h t kd k e= [⟨e.o,r,k⟩]:=by
 rw [zk3,if_pos (by simp [ht,hk]),hr]
theorem ztn {h:Hist} {t kd:Int} {k:Nat} {e:Ev} (hn:¬(e.t=t∧e.kind=kd)):zk3 h t kd k e= []:=by
 rw [zk3,if_neg];intro q;rw [Bool.and_eq_true,beq_iff_eq,beq_iff_eq] at q;exact hn q
theorem yc7 {h:Hist} {t kd:Int} {k:Nat} {e:Ev} (hr:zyw h e.o e.v=none):zk3 h t kd k e= []:=by
 rw [zk3];split
 ·rw [hr]
 ·rfl
theorem ziu {h:Hist} {t kd:Int} {k:Nat} (hk:k < h.evs.length):zk0 h t kd (k+1)=zk0 h t kd k++zk3 h t kd k h.evs[k]:=by rw [zk0,List.getElem?_eq_getElem hk]
theorem yb1 (h:Hist) (t kd:Int) (k:Nat) (e:Ev):(zk3 h t kd k e).length≤1:=by
 rw [zk3];split
 ·split <;> simp
 ·simp
theorem zfc (h:Hist) (t kd:Int):∀k,(zk0 h t kd k).length≤k
 |0=>Nat.le_refl _
 |k+1=>by
  have h1:=zfc h t kd k
  rw [zk0,List.length_append]
  split
  ·have h2:=yb1 h t kd k
   rename_i e _
   have:=h2 e;omega
  ·simp;omega
theorem yky {h:Hist} {t kd:Int} {a:Acc} (ha:a∈znl h t kd):0≤a.o∧a.o < h.os.length:=by
 obtain ⟨k,hk,_,_,ho,_,hr⟩:=ykz ha
 by_cases q:((h.os.length:Nat):Int)≤h.evs[k].o∨h.evs[k].o < 0
 ·rw [zyw,zvy h _ _ _ q] at hr;cases hr
 ·rw [ho];omega
structure Dos where
 t:Int
 A:List Acc
 B:List Acc
abbrev zf5 (l:List Acc):AV:= .list false 3 (l.map accR)
abbrev zbz (d:Dos):List AV:= [iv d.t,zf5 d.A,zf5 d.B]
abbrev zd4 (l:List Dos):AV:= .list false 3 (l.map zbz)
def zrd (h:Hist) (t:Int):Dos:=⟨t,znp h.os.length (znl h t 3),znp h.os.length (znl h t 2)⟩
def zac (h:Hist) (s:Int):List Dos:=(ze6 h.evs s).map (zrd h)
def zdt (h:Hist) (s:Int):Int:=zis h s h.ss.length
def yar (h:Hist) (s:Int):List Dos:=if zdt h s=0 then zac h s else []
theorem zsv (h:Hist) (s:Int):(ze6 h.evs s).length≤h.evs.length:=by
 rw [ze6,List.length_map];exact List.length_filter_le _ _
theorem ye8 {h:Hist} {s:Int} (he:zdt h s≠0):yar h s= []:=if_neg he
theorem zqx {h:Hist} {s:Int} (he:zdt h s=0):yar h s=zac h s:=if_pos he
instance:Chk3 Tryz.prog 139:=⟨fun e w a b c=>by kernel_rfl⟩
theorem yja (h:Hist) (la:Lim 4611686018427387904 h) (hc:u0 h=0) (x:Int) (h0:0≤x) (h1:x < h.os.length):x3 Tryz.prog 75 [.agg (x4 h),iv x] (.glob 3 148 y8:: .glob 5 276 y9:: .glob 6 279 y4:: .glob 2 197 v8:: []) (fun r h'=>h'= .glob 3 148 y8:: .glob 5 276 y9:: .glob 6 279 y4:: .glob 2 197 v8:: []∧r= .tup [zfv (zfi h x),iv 0]):=(yi9 h la x).mono fun _ _ q=>⟨q.1,by rw [q.2,zye hc ⟨h0,h1⟩];rfl⟩
set_option maxHeartbeats 4000000 in
theorem zzm (h:Hist) (la:Lim 4611686018427387904 h) (hc:u0 h=0):x3 Tryz.prog 117 [.agg (x4 h)] (.glob 3 148 y8:: .glob 5 276 y9:: .glob 6 279 y4:: .glob 2 197 v8:: []) (fun r h'=>∃rk,h'=rkS h rk:: .glob 3 148 y8:: .glob 5 276 y9:: .glob 6 279 y4:: .glob 2 197 v8:: []∧r=mpv rk):=by
 refine z6 Tryz.func117 rfl rfl rfl ?_
 have lA:=zel hc
 have lO:=lA.os
 have lE:=lA.evs
 refine rn ?_;refine z7 rfl (w6 rfl rfl rfl fun b1=> ?_)
 refine rn ?_;refine z7 rfl (zao (enc:=zej) rfl fun bO=> ?_)
 refine rn ?_;refine z7 rfl (zao (enc:=zc7) rfl fun bL=> ?_)
 refine rn ?_;refine za0 h.evs.length (fun _=>True) (fun j=>⟨[(17,iv j),(1,pZ b1),(3,mpv bO),(4,mpv bL),(15,zrb h.evs),(16,iv (h.evs.map evR).length)],.map bL (j9 zc7 (zbc zts (znr (h.evs.take j)))):: .map bO (j9 zej (zbc iv [])):: .box b1 28 (x4 h):: .glob 3 148 y8:: .glob 5 276 y9:: .glob 6 279 y4:: .glob 2 197 v8:: [],[]⟩) trivial es ?_
 intro j lj _
 refine rn ?_;refine z8 rfl (fun hc18=> ?_) (fun hc18=> ?_)
 ·have hj:=zds hc18
  have rj:=zdm (f:=evR) hj
  refine rn ?_;refine z7 rfl (x6 rfl fun b6=> ?_)
  refine rn ?_;refine z8 rfl (fun hc23=> ?_) (fun hc23=> ?_)
  ·have hw:(h.evs[j].kind==2)=true:=by simpa using hc23
   refine y6 ?_;refine q1 ?_;refine q1 ?_;refine q1 ?_;refine q1 ?_;refine q1 ?_;refine qq rfl rfl (zgy (out:= [iv h.evs[j].t,iv h.evs[j].o]) rfl (by rfl)) ?_
   refine rn ?_;refine z7 rfl (zax (g:=zts) (enc:=zc7) (k:=(h.evs[j].t,h.evs[j].o)) (v:=h.evs[j].v) rfl rfl rfl ?_)
   refine rn ?_;exact ⟨hj,trivial,by rw [yi5 hj hw];exact eA⟩
  ·have hw:(h.evs[j].kind==2)=false:=by simpa using hc23
   refine rn ?_;exact ⟨hj,trivial,by rw [yi6 hj hw];exact eA⟩
 ·have qj:=zdu hc18 lj
  subst qj
  rw [List.take_length]
  refine rn ?_;refine za0 h.os.length (fun _=>True) (fun k=>⟨[(36,iv k),(1,pZ b1),(3,mpv bO),(4,mpv bL),(35,iv (h.os.map zbg).length)],.map bL (j9 zc7 (zbc zts (znr h.evs))):: .map bO (j9 zej (zbc iv (rkM h k))):: .box b1 28 (x4 h):: .glob 3 148 y8:: .glob 5 276 y9:: .glob 6 279 y4:: .glob 2 197 v8:: [],[]⟩) trivial es ?_
  intro k lk _
  refine rn ?_;refine z8 rfl (fun hc37=> ?_) (fun hc37=> ?_)
  ·have hk:k < h.os.length:=by have q:=of_decide_eq_true hc37;rw [List.length_map] at q;omega
   have k0:(0:Int)≤(k:Int):=by omega
   have k1:(k:Int) < h.os.length:=by omega
   have hb:=yjg hc k0 k1
   refine zaa ?_;refine j8 ?_;refine x9 ?_;refine zab ?_;refine x9 (y6 ?_)
   refine q1 ?_;refine q1 ?_;refine u3 (j8 ?_)
   refine x9 (y6 ?_)
   refine q1 ?_;refine q1 ?_;refine qq rfl rfl (k9 (out:= [iv k,iv 0,iv 0]) rfl (by rfl)) ?_
   refine z7 rfl (zax (g:=iv) (enc:=zej) (k:=((k:Int),(0:Int),(0:Int))) (v:=(0:Int)) rfl rfl rfl ?_)
   refine rn ?_;refine qv rfl rfl (y5 rfl rfl (y3.qt (y3.of_fun (yja h la hc k k0 k1)) ((pt3 _ _ _ _ _).trans (.cons _ ((pt3 _ _ _ _ _).trans (.cons _ ((pt3 _ _ _ _ _).trans (.cons _ (pt3 _ _ _ _ _))))))))) ?_
   refine rn ?_;refine za0 (zfi h k).length (fun _=>True) (fun j=>⟨[(50,iv j),(1,pZ b1),(3,mpv bO),(4,mpv bL),(7,iv k),(35,iv (h.os.map zbg).length),(36,iv k),(48,zfv (zfi h k)),(49,iv ((zfi h k).map za5).length)],.map bL (j9 zc7 (zbc zts (znr h.evs))):: .map bO (j9 zej (zbc iv (zfr h k 0 ((zfi h k).take j) (zea (ztr k ⟨0,0⟩) 0 (rkM h k))))):: .box b1 28 (x4 h):: .glob 3 148 y8:: .glob 5 276 y9:: .glob 6 279 y4:: .glob 2 197 v8:: [],[]⟩) trivial es ?_
   intro j lj _
   refine rn ?_;refine z8 rfl (fun hc51=> ?_) (fun hc51=> ?_)
   ·have hj:=zds hc51
    have rj:=zdm (f:=za5) hj
    refine zaa ?_;refine j8 ?_;refine x9 ?_;refine zab ?_;refine x9 (y6 ?_)
    refine q1 ?_;refine q1 ?_;refine q1 ?_;refine q1 ?_;refine q1 ?_;refine u3 (j8 ?_)
    refine y6 ?_;refine q1 ?_;refine q1 ?_;refine q1 ?_;refine q1 ?_;refine q1 ?_;refine qq rfl rfl (zgy (out:= [iv (zfi h k)[j],iv k]) rfl (by rfl)) ?_
    refine qq rfl rfl (za4 (zbw (g:=zts) (enc:=zc7) (k:=((zfi h k)[j],(k:Int))) (⟨0,0⟩:Ver) rfl rfl) (show zts _=zts (zyz h k (zfi h k)[j]) from congrArg zts (yfa h (zfi h k)[j] k))) ?_
    refine qq rfl rfl (k9 (out:= [iv k,iv (zyz h k (zfi h k)[j]).t,iv (zyz h k (zfi h k)[j]).k]) rfl (by rfl)) ?_
    refine q1 ?_;refine qq rfl rfl (k6 rfl rfl rfl (by omega)) ?_
    refine z7 rfl (zax (g:=iv) (enc:=zej) (k:=((k:Int),(zyz h k (zfi h k)[j]).t,(zyz h k (zfi h k)[j]).k)) (v:=(j:Int)+1) rfl rfl rfl ?_)
    refine rn ?_;exact ⟨hj,trivial,by rw [yee hj];exact eA⟩
   ·have qj:=zdu hc51 lj
    rw [qj,List.take_length]
    refine rn ?_;exact ⟨hk,trivial,by rw [ylw,List.take_length];exact eA⟩
  ·have qk:k=h.os.length:=by have q:=of_decide_eq_false hc37;rw [List.length_map] at q;omega
   refine rn ?_;exact k7 rfl (.trans (.perm (.cons _ (pt1 _ _ _)) _) (.drop [_,_] _ _)) ⟨bO,by rw [qk],rfl⟩
set_option maxHeartbeats 4000000 in
theorem ylt (h:Hist) (la:Lim 4611686018427387904 h) (hc:u0 h=0) (t:Int) (rO:Nat) (W:List Res):x3 Tryz.prog 118 [.agg (x4 h),iv t,mpv rO] (rkS h rO::W) (fun r h'=>h'=rkS h rO::W∧r= .agg (zbz (zrd h t))):=by
 refine z6 Tryz.func118 rfl rfl rfl ?_
 have lA:=zel hc
 have lO:=lA.os
 have lE:=lA.evs
 refine rn ?_;refine z7 rfl (w6 rfl rfl rfl fun b3=> ?_)
 refine z7 rfl (x6 rfl fun b6=> ?_)
 refine rn ?_;refine z7 rfl (x6 rfl fun b7=> ?_)
 refine rn ?_;refine zem h.evs.length (fun _ (_:SV×SV)=>True) (fun k z=>⟨[(19,iv k),(1,iv t),(2,mpv rO),(6,pZ b6),(7,pZ b7),(17,zrb h.evs),(18,iv (h.evs.map evR).length)],.row z.1.v 3 178 ((zk0 h t 3 k).map accR):: .row z.2.v 3 178 ((zk0 h t 2 k).map accR):: .box b7 121 [iv t,.v z.1.v,.v z.2.v]:: .box b6 121 [iv 0,.v (.slice none 0 0),.v (.slice none 0 0)]:: .box b3 28 (x4 h)::rkS h rO::W,[]⟩) (⟨none,0,0⟩,⟨none,0,0⟩) trivial (w9 (zay 3 178) (w9 (zay 3 178) es)) ?_
 rintro k ⟨sR,sI⟩ lk -
 show aw _ _ _ _ _ ⟨[(19,iv k),(1,iv t),(2,mpv rO),(6,pZ b6),(7,pZ b7),(17,zrb h.evs),(18,iv (h.evs.map evR).length)],.row sR.v 3 178 ((zk0 h t 3 k).map accR):: .row sI.v 3 178 ((zk0 h t 2 k).map accR):: .box b7 121 [iv t,.v sR.v,.v sI.v]:: .box b6 121 [iv 0,.v (.slice none 0 0),.v (.slice none 0 0)]:: .box b3 28 (x4 h)::rkS h rO::W,[]⟩
 refine rn ?_;refine z8 rfl (fun hc20=> ?_) (fun hc20=> ?_)
 ·have hk:=zds hc20
  have rk:=zdm (f:=evR) hk
  refine rn ?_;refine z7 rfl (x6 rfl fun b9=> ?_)
  refine rn0 ?_;refine x9 ?_;refine zgu (⟨[(37,bv (h.evs[k].t !=t||(h.evs[k].kind !=3 && h.evs[k].kind !=2))),(8,iv k),(9,pZ b9),(19,iv k),(1,iv t),(2,mpv rO),(6,pZ b6),(7,pZ b7),(17,zrb h.evs),(18,iv (h.evs.map evR).length)],.box b9 66 (evR h.evs[k]):: .row sR.v 3 178 ((zk0 h t 3 k).map accR):: .row sI.v 3 178 ((zk0 h t 2 k).map accR):: .box b7 121 [iv t,.v sR.v,.v sI.v]:: .box b6 121 [iv 0,.v (.slice none 0 0),.v (.slice none 0 0)]:: .box b3 28 (x4 h)::rkS h rO::W,[]⟩) ?_ ?_
  ·refine rn ?_;refine q8 (fun hg5_4=> ?_) (fun hg5_4=> ?_)
   ·refine rn ?_;first|(rw [hg5_4,Bool.true_or];exact eA)|(rw [hg5_4,Bool.false_or,hg5_8,Bool.true_and];exact eA)|(rw [hg5_4,Bool.false_or,hg5_8,Bool.false_and];exact eA)
   ·refine rn ?_;refine q8 (fun hg5_8=> ?_) (fun hg5_8=> ?_)
    ·refine rn ?_;first|(rw [hg5_4,Bool.true_or];exact eA)|(rw [hg5_4,Bool.false_or,hg5_8,Bool.true_and];exact eA)|(rw [hg5_4,Bool.false_or,hg5_8,Bool.false_and];exact eA)
    ·refine rn ?_;first|(rw [hg5_4,Bool.true_or];exact eA)|(rw [hg5_4,Bool.false_or,hg5_8,Bool.true_and];exact eA)|(rw [hg5_4,Bool.false_or,hg5_8,Bool.false_and];exact eA)
  ·refine z8 rfl (fun hc37=> ?_) (fun hc37=> ?_)
   ·have hn3:zk3 h t 3 k h.evs[k]= []:=ztn (by rintro ⟨e1,e2⟩;have q:=hc37;rw [e1,e2] at q;simp at q)
    have hn2:zk3 h t 2 k h.evs[k]= []:=ztn (by rintro ⟨e1,e2⟩;have q:=hc37;rw [e1,e2] at q;simp at q)
    refine rn ?_;exact ⟨hk,(sR,sI),trivial,by rw [ziu hk,ziu hk,hn3,hn2,List.append_nil,List.append_nil];exact eA⟩
   ·have q:=hc37
    rw [Bool.or_eq_false_iff,Bool.and_eq_false_iff] at q
    have ht:h.evs[k].t=t:=by simpa using q.1
    have hkk:h.evs[k].kind=3∨h.evs[k].kind=2:=by simpa using q.2
    refine zaa ?_;refine j8 ?_;refine x9 (y6 ?_)
    refine q1 ?_;refine q1 ?_;refine q1 ?_;refine q1 ?_;refine q1 ?_;refine qq rfl rfl (k9 (out:= [iv h.evs[k].o,iv h.evs[k].v.t,iv h.evs[k].v.k]) rfl (by rfl)) ?_
    refine qq rfl rfl (zoa (g:=iv) (enc:=zej) (k:=(h.evs[k].o,h.evs[k].v.t,h.evs[k].v.k)) (0:Int) rfl rfl rfl) ?_
    refine q1 ?_;refine q1 ?_;refine q1 ?_;refine q1 ?_;refine q1 ?_;refine u3 (j8 ?_)
    refine x9 (y6 ?_)
    refine q1 ?_;refine q1 ?_;refine q1 ?_;refine q1 ?_;refine qq rfl rfl (k9 (out:= [iv h.evs[k].o,iv ((zbn (h.evs[k].o,h.evs[k].v.t,h.evs[k].v.k) (rkM h h.os.length)).getD 0),iv k]) rfl (by rfl)) ?_
    refine z7 rfl (x6 rfl fun b12=> ?_)
    refine rn ?_;refine z8 rfl (fun hc59=> ?_) (fun hc59=> ?_)
    ·have hr:zyw h h.evs[k].o h.evs[k].v=none:=by
      have q:(zbn (h.evs[k].o,h.evs[k].v.t,h.evs[k].v.k) (rkM h h.os.length)).isSome=false:=by simpa using hc59
      exact Option.isNone_iff_eq_none.1 (by rw [←Option.not_isSome];show (!(zbn (h.evs[k].o,h.evs[k].v.t,h.evs[k].v.k) (rkM h h.os.length)).isSome)=true;rw [q];rfl)
     have hn3:zk3 h t 3 k h.evs[k]= []:=yc7 hr
     have hn2:zk3 h t 2 k h.evs[k]= []:=yc7 hr
     refine rn ?_;exact ⟨hk,(sR,sI),trivial,by rw [ziu hk,ziu hk,hn3,hn2,List.append_nil,List.append_nil];exact eA⟩
    ·obtain ⟨r0,hr⟩:∃r,(zbn (h.evs[k].o,h.evs[k].v.t,h.evs[k].v.k) (rkM h h.os.length))=some r:=Option.isSome_iff_exists.1 (by simpa using hc59)
     have hr':zyw h h.evs[k].o h.evs[k].v=some r0:=hr
     rw [hr,Option.getD_some,Option.isSome_some]
     refine rn ?_;refine z8 rfl (fun hc62=> ?_) (fun hc62=> ?_)
     ·have h3:h.evs[k].kind=3:=by simpa using hc62
      have hn3:zk3 h t 3 k h.evs[k]= [⟨h.evs[k].o,r0,k⟩]:=yc6 ht h3 hr'
      have hn2:zk3 h t 2 k h.evs[k]= []:=ztn (fun q=>by rw [h3] at q;exact absurd q.2 (by decide))
      refine rn ?_;refine qv rfl rfl (u1 rfl rfl) ?_
      refine z7 rfl (j7 rfl rfl (by simp only [List.length_map,List.length_cons,List.length_nil];have:=zfc h t 3 k;omega) rfl (fun s70=> ?_) (fun r hr=>by rw [List.mem_singleton.1 hr];rfl))
      refine zaj s70 fun sv hsv=> ?_
      subst hsv
      refine rn ?_;exact ⟨hk,(sv,sI),trivial,by rw [ziu hk,ziu hk,hn3,hn2,List.append_nil,List.map_append];exact eA⟩
     ·have h3:h.evs[k].kind=2:=hkk.resolve_left (by simpa using hc62)
      have hn2:zk3 h t 2 k h.evs[k]= [⟨h.evs[k].o,r0,k⟩]:=yc6 ht h3 hr'
      have hn3:zk3 h t 3 k h.evs[k]= []:=ztn (fun q=>by rw [h3] at q;exact absurd q.2 (by decide))
      refine rn ?_;refine qv rfl rfl (u1 rfl rfl) ?_
      refine z7 rfl (j7 rfl rfl (by simp only [List.length_map,List.length_cons,List.length_nil];have:=zfc h t 2 k;omega) rfl (fun s57=> ?_) (fun r hr=>by rw [List.mem_singleton.1 hr];rfl))
      refine zaj s57 fun sv hsv=> ?_
      subst hsv
      refine rn ?_;exact ⟨hk,(sR,sv),trivial,by rw [ziu hk,ziu hk,hn3,hn2,List.append_nil,List.map_append];exact eA⟩
 ·have qk:=zdu hc20 lk
  subst qk
  refine rn ?_;refine z7 rfl (w7 rfl rfl (zgg (y3.of_fun (yhn sR h.os.length (znl h t 3) (fun a ha=>yky ha) (by omega) (by have:=zfc h t 3 h.evs.length;show (zk0 h t 3 h.evs.length).length≤_;omega)))) rfl ?_)
  rintro _ _ ⟨rfl,rfl⟩
  refine rn ?_;refine z7 rfl (w7 rfl rfl (zgg (y3.of_fun (yhn sI h.os.length (znl h t 2) (fun a ha=>yky ha) (by omega) (by have:=zfc h t 2 h.evs.length;show (zk0 h t 2 h.evs.length).length≤_;omega)))) rfl ?_)
  rintro _ _ ⟨rfl,rfl⟩
  refine u3 (j8 ?_)
  refine x9 (y6 ?_)
  refine znk (w9 (zai (.cons _ (pt1 _ _ _))) (w9 (zgs [iv t] [.v sI.v]) (w9 (zai (pt1 _ _ _)) (zgs [iv t,zf5 (znp h.os.length (znl h t 3))] [])))) ?_
  refine rn ?_;exact zd7 (.cons _ _ _ _ (.agg _ _ _ _ _ _ _ rfl inferInstance inferInstance inferInstance rfl) .nil) (.drop [_,_,_] _ _) ⟨rfl,rfl⟩
set_option maxHeartbeats 4000000 in
theorem zzn (h:Hist) (la:Lim 4611686018427387904 h) (s:Int):x3 Tryz.prog 65 [.agg (x4 h),iv s] (.glob 3 148 y8:: .glob 5 276 y9:: .glob 6 279 y4:: .glob 2 197 v8:: []) (fun r h'=>∃v:SV,h'= .row v.v 3 121 ((yar h s).map zbz):: .glob 3 148 y8:: .glob 5 276 y9:: .glob 6 279 y4:: .glob 2 197 v8:: []∧r= .tup [.v v.v,iv (zdt h s)]):=by
 refine z6 Tryz.func65 rfl rfl rfl ?_
 refine rn ?_;refine z7 rfl (w6 rfl rfl rfl fun b2=> ?_)
 refine rn ?_;refine qv rfl rfl (y5 rfl rfl (y3.qt (y3.of_fun (yi8 h la s)) ((pt1 _ _ _).trans (.cons _ ((pt1 _ _ _).trans (.cons _ ((pt1 _ _ _).trans (.cons _ (pt1 _ _ _))))))))) ?_
 refine rn ?_;refine z8 rfl (fun hc19=> ?_) (fun hc19=> ?_)
 ·have he:zdt h s≠0:=nzT hc19
  refine rn ?_;exact zbj rfl rfl (.trans (.drop [_] _ _) (k8 3 121 _)) ⟨⟨none,0,0⟩,by rw [ye8 he];rfl,rfl⟩
 ·have he:zdt h s=0:=nzF hc19
  have hc:u0 h=0:=zbo.2 (ybv he).1
  have lE:=(zel hc).evs
  have lL:=zsv h s
  rw [show onE (zis h s h.ss.length) (ze6 h.evs s)=(ze6 h.evs s) by rw [show zis h s h.ss.length=0 from he,onE,if_pos rfl]]
  refine rn ?_;refine z7 rfl (w7 rfl rfl (y3.fr1 (y3.of_fun (zzm h la hc))) rfl ?_)
  rintro _ _ ⟨_,rfl,rO,rfl,rfl⟩
  refine rn ?_;refine zrn (ze6 h.evs s).length (fun k v=>⟨[(25,iv k),(9,.v v.v),(2,pZ b2),(8,mpv rO),(23,zfv (ze6 h.evs s)),(24,iv ((ze6 h.evs s).map za5).length)],.row v.v 3 121 ((((ze6 h.evs s).take k).map (zrd h)).map zbz):: .box b2 28 (x4 h)::rkS h rO:: .glob 3 148 y8:: .glob 5 276 y9:: .glob 6 279 y4:: .glob 2 197 v8:: [],[]⟩) ⟨none,0,0⟩ (w9 (zay 3 121) es) ?_
  intro k v lk
  refine rn ?_;refine z8 rfl (fun hc26=> ?_) (fun hc26=> ?_)
  ·have hk:=zds hc26
   have rk:=zdm (f:=za5) hk
   refine rn ?_;refine qv rfl rfl (y5 rfl rfl (y3.qt (y3.of_fun (ylt h la hc (ze6 h.evs s)[k] rO [])) (pt2 _ _ _ _))) ?_
   refine qv rfl rfl (u1 rfl rfl) ?_
   refine z7 rfl (j7 rfl rfl (by simp only [List.length_map,List.length_cons,List.length_nil];have:=List.length_take_le k (ze6 h.evs s);omega) rfl (fun s35=> ?_) (fun r hr=>by rw [List.mem_singleton.1 hr];rfl))
   refine zaj s35 fun sv hsv=> ?_
   subst hsv
   refine rn ?_;exact ⟨hk,sv,by rw [List.take_succ_eq_append_getElem hk,List.map_append,List.map_append];exact eA⟩
  ·have qk:=zdu hc26 lk
   subst qk
   rw [List.take_length]
   refine rn ?_;exact zbj rfl rfl (.trans (.perm ((pt1 _ _ _).trans (.cons _ (pt1 _ _ _))) _) (.drop [_,_] _ _)) ⟨v,by rw [zqx he];rfl,by rw [he];rfl⟩
theorem zvr (h:Hist) (la:Lim 4611686018427387904 h) (s:Int):x3 Tryz.prog 65 [.agg (x4 h),iv s] (.glob 3 148 y8:: .glob 5 276 y9:: .glob 6 279 y4:: .glob 2 197 v8:: []) (fun r h'=>h'= .glob 3 148 y8:: .glob 5 276 y9:: .glob 6 279 y4:: .glob 2 197 v8:: []∧r= .tup [zd4 (yar h s),iv (zdt h s)]):=(zzn h la s).ventR (by rintro _ _ ⟨v,rfl,rfl⟩;exact ⟨_,_,zaf [] [_],rfl,rfl⟩)
abbrev ybd:AV:= .fn (.func 244) [] []
abbrev ybc:AV:= .fn (.func 248) [] []
def x5:List AV:= [iv 1,ybd,ybc,iv 2,ybc,ybc,iv 4,ybd,ybd,iv 8,ybc,ybd]
def zdw (k:Nat):Int:=if k=0 then 1 else if k=1 then 2 else if k=2 then 4 else 8
def gFn (k:Nat):Nat:=if k=0∨k=2 then 244 else 248
def gSn (k:Nat):Nat:=if k=0∨k=1 then 248 else 244
abbrev yld (k:Nat):AV:= .fn (.func (gFn k)) [] []
abbrev ylc (k:Nat):AV:= .fn (.func (gSn k)) [] []
abbrev zs5 (k:Nat):List AV:= [iv (zdw k),yld k,ylc k]
theorem yfw {k:Nat} (hk:k < 4):(x5.drop (k * 3)).take 3=zs5 k:=by
 rcases (by omega:k=0∨k=1∨k=2∨k=3) with rfl|rfl|rfl|rfl <;> rfl
def zc0 (k:Nat) (d:Dos):List Acc:=if k=0∨k=2 then d.B else d.A
def zf9 (k:Nat) (d:Dos):List Acc:=if k=0∨k=1 then d.A else d.B
def giK (g:Int):Nat→Int
 |0=> -1
 |k+1=>if zdw k=g then (k:Int) else giK g k
def zns (g:Int):Int:=if g=1 then 0 else if g=2 then 1 else if g=4 then 2 else if g=8 then 3 else -1
theorem yoa (g:Int):giK g 4=zns g:=by
 simp only [giK,zdw,zns]
 by_cases h1:g=1
 ·subst h1;decide
 by_cases h2:g=2
 ·subst h2;decide
 by_cases h3:g=4
 ·subst h3;decide
 by_cases h4:g=8
 ·subst h4;decide
 simp [h1,h2,h3,h4,Ne.symm h1,Ne.symm h2,Ne.symm h3,Ne.symm h4]
theorem yjw {g:Int} (h:¬zns g < 0):∃k,k < 4∧zns g=(k:Nat)∧zdw k=g:=by
 rw [zns] at h ⊢
 split
 ·exact ⟨0,by decide,rfl,by rename_i e;rw [e];rfl⟩
 ·split
  ·exact ⟨1,by decide,rfl,by rename_i e;rw [e];rfl⟩
  ·split
   ·exact ⟨2,by decide,rfl,by rename_i e;rw [e];rfl⟩
   ·split
    ·exact ⟨3,by decide,rfl,by rename_i e;rw [e];rfl⟩
    ·exfalso;simp_all
def zme (h:Hist) (s g:Int):Int:=if zdt h s≠0 then zdt h s else if zns g < 0 then 2 else 0
def yc3 (h:Hist) (s g:Int):List Dos:=if zme h s g=0 then zac h s else []
def yc4 (h:Hist) (s g:Int):Int:=if zme h s g=0 then zns g else 0
theorem znj {h:Hist} {s g:Int} (he:zdt h s≠0):zme h s g=zdt h s∧yc3 h s g= []∧yc4 h s g=0:=by
 have:zme h s g=zdt h s:=if_pos he
 exact ⟨this,by rw [yc3,this,if_neg he],by rw [yc4,this,if_neg he]⟩
theorem zni {h:Hist} {s g:Int} (he:zdt h s=0) (hg:zns g < 0):zme h s g=2∧yc3 h s g= []∧yc4 h s g=0:=by
 have:zme h s g=2:=by rw [zme,if_neg (by simpa using he),if_pos hg]
 exact ⟨this,by rw [yc3,this,if_neg (by decide)],by rw [yc4,this,if_neg (by decide)]⟩
theorem zid {h:Hist} {s g:Int} (he:zdt h s=0) (hg:¬zns g < 0):zme h s g=0∧yc3 h s g=zac h s∧yc4 h s g=zns g:=by
 have:zme h s g=0:=by rw [zme,if_neg (by simpa using he),if_neg hg]
 exact ⟨this,by rw [yc3,this,if_pos rfl],by rw [yc4,this,if_pos rfl]⟩
def ziq (k:Nat) (e l:Dos):List Brch:=(zc0 k e).flatMap fun a=>(zf9 k l).filterMap (brk (zdw k) e.t l.t a)
theorem ym1 {g t1 t2:Int} {a b:Acc} (h1:(a.o==b.o)=true) (h2:decide (b.r < a.r)=true):brk g t1 t2 a b=some ⟨g,t1,t2,a.o,a.a,b.a⟩:=by rw [brk,h1,h2];rfl
theorem zx6 {g t1 t2:Int} {a b:Acc} (h1:(a.o==b.o)=false):brk g t1 t2 a b=none:=by rw [brk,h1];rfl
theorem zx5 {g t1 t2:Int} {a b:Acc} (h2:decide (b.r < a.r)=false):brk g t1 t2 a b=none:=by rw [brk,h2,Bool.and_false];rfl
theorem yf0 {α β:Type} {f:α→Option β} {l:List α} {k:Nat} {b:β} (hk:k < l.length) (h:f l[k]=some b):(l.take (k+1)).filterMap f=(l.take k).filterMap f++ [b]:=by
 rw [List.take_succ_eq_append_getElem hk,List.filterMap_append];simp [h]
theorem zxl {α β:Type} {f:α→Option β} {l:List α} {k:Nat} (hk:k < l.length) (h:f l[k]=none):(l.take (k+1)).filterMap f=(l.take k).filterMap f:=by
 rw [List.take_succ_eq_append_getElem hk,List.filterMap_append];simp [h]
def zrm (k:Nat) (e l:Dos) (i:Nat):List Brch:=((zc0 k e).take i).flatMap fun a=>(zf9 k l).filterMap (brk (zdw k) e.t l.t a)
theorem ykm {k i:Nat} {e l:Dos} (hi:i < (zc0 k e).length):zrm k e l (i+1)=zrm k e l i++(zf9 k l).filterMap (brk (zdw k) e.t l.t (zc0 k e)[i]):=by
 rw [zrm,List.take_succ_eq_append_getElem hi,List.flatMap_append];simp [zrm]
theorem ygd {k i j:Nat} {e l:Dos} {d:Brch} (hi:i < (zc0 k e).length) (hj:j < (zf9 k l).length) (hd:brk (zdw k) e.t l.t (zc0 k e)[i] (zf9 k l)[j]=some d):
 ∃rest,ziq k e l=(zrm k e l i++((zf9 k l).take j).filterMap (brk (zdw k) e.t l.t (zc0 k e)[i]))++d::rest:=by
 have e1:(zf9 k l).filterMap (brk (zdw k) e.t l.t (zc0 k e)[i])=((zf9 k l).take j).filterMap (brk (zdw k) e.t l.t (zc0 k e)[i])++d::((zf9 k l).drop (j+1)).filterMap (brk (zdw k) e.t l.t (zc0 k e)[i]):=by
  conv=>lhs;rw [←List.take_append_drop j (zf9 k l),List.drop_eq_getElem_cons hj]
  rw [List.filterMap_append,List.filterMap_cons,hd]
 refine ⟨((zf9 k l).drop (j+1)).filterMap (brk (zdw k) e.t l.t (zc0 k e)[i])++((zc0 k e).drop (i+1)).flatMap (fun a=>(zf9 k l).filterMap (brk (zdw k) e.t l.t a)),?_⟩
 rw [ziq]
 conv=>lhs;rw [←List.take_append_drop i (zc0 k e),List.drop_eq_getElem_cons hi]
 rw [List.flatMap_append,List.flatMap_cons,e1,zrm]
 simp [List.append_assoc]
theorem zvs (d:Dos):x3 Tryz.prog 244 [.agg (zbz d)] [] (fun r h'=>h'= []∧r=zf5 d.B):=by
 refine z6 Tryz.func244 rfl rfl rfl ?_
 refine rn ?_;refine z7 rfl (w6 rfl rfl rfl fun b1=> ?_)
 refine rn ?_;refine rq 1 ?_
 exact ⟨rfl,rfl⟩
theorem zvq (d:Dos):x3 Tryz.prog 248 [.agg (zbz d)] [] (fun r h'=>h'= []∧r=zf5 d.A):=by
 refine z6 Tryz.func248 rfl rfl rfl ?_
 refine rn ?_;refine z7 rfl (w6 rfl rfl rfl fun b1=> ?_)
 refine rn ?_;refine rq 1 ?_
 exact ⟨rfl,rfl⟩
theorem zs6 (k:Nat) (d:Dos):y3 Tryz.prog (yld k) [.agg (zbz d)] [] (fun r h'=>h'= []∧r=zf5 (zc0 k d)):=by
 rw [yld,gFn,zc0];split
 ·exact y3.of_fun (zvs d)
 ·exact y3.of_fun (zvq d)
theorem zsf (k:Nat) (d:Dos):y3 Tryz.prog (ylc k) [.agg (zbz d)] [] (fun r h'=>h'= []∧r=zf5 (zf9 k d)):=by
 rw [ylc,gSn,zf9];split
 ·exact y3.of_fun (zvq d)
 ·exact y3.of_fun (zvs d)
set_option maxHeartbeats 4000000 in
theorem zzp (h:Hist) (la:Lim 4611686018427387904 h) (s g:Int):x3 Tryz.prog 58 [.agg (x4 h),iv s,iv g] (.glob 0 117 x5:: .glob 3 148 y8:: .glob 5 276 y9:: .glob 6 279 y4:: .glob 2 197 v8:: []) (fun r h'=>h'= .glob 0 117 x5:: .glob 3 148 y8:: .glob 5 276 y9:: .glob 6 279 y4:: .glob 2 197 v8:: []∧r= .tup [zd4 (yc3 h s g),iv (yc4 h s g),iv (zme h s g)]):=by
 refine z6 Tryz.func58 rfl rfl rfl ?_
 refine rn ?_;refine z7 rfl (w6 rfl rfl rfl fun b3=> ?_)
 refine rn ?_;refine za0 4 (fun _=>True) (fun k=>⟨[(15,iv (k:Nat)),(9,iv (giK g k)),(1,iv s),(2,iv g),(3,pZ b3),(14,.agg x5)],.box b3 28 (x4 h):: .glob 0 117 x5:: .glob 3 148 y8:: .glob 5 276 y9:: .glob 6 279 y4:: .glob 2 197 v8:: [],[]⟩) trivial es ?_
 intro k lk _
 refine rn ?_;refine z8 rfl (fun hc16=> ?_) (fun hc16=> ?_)
 ·have hk:k < 4:=by have q:=of_decide_eq_true hc16;omega
  refine zaa ?_;refine j8 ?_;refine x9 ?_;refine zab ?_;refine x9 (y6 ?_)
  refine q1 ?_;refine qq rfl rfl (zfe (i:=k) (out:=zs5 k) rfl rfl hk (by show k * 3+3≤12;omega) (yfw hk)) ?_
  refine z7 rfl (x6 rfl fun b11=> ?_)
  refine rn ?_;refine z8 rfl (fun hc22=> ?_) (fun hc22=> ?_)
  ·have hg:zdw k=g:=by simpa using hc22
   refine rn ?_;exact ⟨hk,trivial,by rw [giK,if_pos hg];exact eA⟩
  ·have hg:¬zdw k=g:=by simpa using hc22
   refine rn ?_;exact ⟨hk,trivial,by rw [giK,if_neg hg];exact eA⟩
 ·have qk:k=4:=by have q:=of_decide_eq_false hc16;omega
  subst qk
  rw [yoa]
  refine rn ?_;refine qv rfl rfl (y5 rfl rfl (y3.qt (y3.of_fun (zvr h la s)) ((pt2 _ _ _ _).trans (.cons _ ((pt2 _ _ _ _).trans (.cons _ ((pt2 _ _ _ _).trans (.cons _ (pt2 _ _ _ _))))))))) ?_
  refine rn ?_;refine z8 rfl (fun hc31=> ?_) (fun hc31=> ?_)
  ·have he:zdt h s≠0:=nzT hc31
   refine rn ?_;exact zd7 (.cons _ _ _ _ (.tmp _ _ rfl) (.cons _ _ _ _ (.tmp _ _ rfl) (.cons _ _ _ _ (.tmp _ _ rfl) .nil))) (.trans (.drop [_] _ _) (.trans (k8 3 121 _) (zaf [] [_,_]))) ⟨rfl,by rw [(znj (g:=g) he).1,(znj (g:=g) he).2.1,(znj (g:=g) he).2.2];rfl⟩
  ·have he:zdt h s=0:=nzF hc31
   refine rn ?_;refine z8 rfl (fun hc35=> ?_) (fun hc35=> ?_)
   ·have hg:zns g < 0:=of_decide_eq_true hc35
    refine rn ?_;exact zd7 (.cons _ _ _ _ (.tmp _ _ rfl) (.cons _ _ _ _ (.tmp _ _ rfl) (.cons _ _ _ _ (.tmp _ _ rfl) .nil))) (.trans (.drop [_] _ _) (.trans (k8 3 121 _) (zaf [] [_,_]))) ⟨rfl,by rw [(zni he hg).1,(zni he hg).2.1,(zni he hg).2.2];rfl⟩
   ·have hg:¬zns g < 0:=of_decide_eq_false hc35
    refine rn ?_;exact zd7 (.cons _ _ _ _ (.tmp _ _ rfl) (.cons _ _ _ _ (.tmp _ _ rfl) (.cons _ _ _ _ (.tmp _ _ rfl) .nil))) (.drop [_] _ _) ⟨rfl,by rw [(zid he hg).1,(zid he hg).2.1,(zid he hg).2.2,zqx he];rfl⟩
theorem yd6 (k:Nat) (e l:Dos) (W:List Res):x3 Tryz.prog 69 [iv (k:Int),.agg (zbz e),.agg (zbz l)] W (fun r h'=>∃bi be bl,h'= .box bl 121 (zbz l):: .box be 121 (zbz e):: .box bi 3 [iv (k:Int)]::W∧r= .fn (.func 119) [] [pZ bi,pZ bl,pZ be]):=by
 refine z6 Tryz.func69 rfl rfl rfl ?_
 refine rn ?_;refine z7 rfl (w6 rfl rfl rfl fun b3=> ?_)
 refine z7 rfl (w6 rfl rfl rfl fun b4=> ?_)
 refine z7 rfl (w6 rfl rfl rfl fun b5=> ?_)
 refine rn ?_;exact k7 rfl (.refl _ _) ⟨_,_,_,rfl,rfl⟩
set_option maxHeartbeats 4000000 in
theorem yd5 (k:Nat) (hk:k < 4) (e l:Dos) (h1:(zc0 k e).length≤1000000) (h2:(zf9 k l).length≤1000000) (y:AV) (bi be bl:Nat) {σ:Type} (p:List Brch→σ→Prop) (q:σ→Prop) (I:List Brch→σ→List Res) (X:σ→List Res) (x0:σ) (hp0:p [] x0) (hy:∀pre d rest x,(ziq k e l)=pre++d::rest→p pre x→y3 Tryz.prog y [.agg (zcq d)] (.box bl 121 (zbz l):: .box be 121 (zbz e):: .box bi 3 [iv ((k:Nat):Int)]:: .glob 0 117 x5::I pre x) (fun r h'=>∃x',(r=bv true∧p (pre++ [d]) x'∧h'= .box bl 121 (zbz l):: .box be 121 (zbz e):: .box bi 3 [iv ((k:Nat):Int)]:: .glob 0 117 x5::I (pre++ [d]) x')∨(r=bv false∧q x'∧h'= .box bl 121 (zbz l):: .box be 121 (zbz e):: .box bi 3 [iv ((k:Nat):Int)]:: .glob 0 117 x5::X x'))):x3 Tryz.prog 119 [y,pZ bi,pZ bl,pZ be] (.box bl 121 (zbz l):: .box be 121 (zbz e):: .box bi 3 [iv ((k:Nat):Int)]:: .glob 0 117 x5::I [] x0) (fun r h'=>∃x,(p (ziq k e l) x∧h'= .box bl 121 (zbz l):: .box be 121 (zbz e):: .box bi 3 [iv ((k:Nat):Int)]:: .glob 0 117 x5::I (ziq k e l) x)∨(q x∧h'= .box bl 121 (zbz l):: .box be 121 (zbz e):: .box bi 3 [iv ((k:Nat):Int)]:: .glob 0 117 x5::X x)):=by
 refine z6 Tryz.func119 rfl rfl rfl ?_
 refine x9 (y6 ?_)
 refine q1 ?_;refine qq rfl rfl (u6 (i:=k) rfl rfl (by omega)) ?_
 refine qq rfl rfl (za4 (zgx rfl (by show 0+k * 3+3≤12;omega)) (show AV.agg _=AV.agg (zs5 k) from congrArg AV.agg (by rw [Nat.zero_add];exact yfw hk))) ?_
 refine z7 rfl (x6 rfl fun b5=> ?_)
 refine rn ?_;refine qv rfl rfl (y5 rfl rfl (y3.pure (R:=fun r=>r=zf5 (zf9 k l)) (zsf k l))) ?_
 refine rn ?_;refine qv rfl rfl (y5 rfl rfl (y3.pure (R:=fun r=>r=zf5 (zc0 k e)) (zs6 k e))) ?_
 refine rn ?_;refine zem (zc0 k e).length (fun i (x:σ)=>p (zrm k e l i) x) (fun i x=>⟨[(23,iv i),(0,y),(2,pZ bl),(3,pZ be),(5,pZ b5),(6,zf5 (zf9 k l)),(21,zf5 (zc0 k e)),(22,iv ((zc0 k e).map accR).length)],.box b5 116 (zs5 k):: .box bl 121 (zbz l):: .box be 121 (zbz e):: .box bi 3 [iv ((k:Nat):Int)]:: .glob 0 117 x5::I (zrm k e l i) x,[]⟩) x0 hp0 es ?_
 intro i x li zi
 refine rn ?_;refine z8 rfl (fun hc24=> ?_) (fun hc24=> ?_)
 ·have hi:=zds hc24
  have ri:=zdm (f:=accR) hi
  refine rn ?_;refine z7 rfl (x6 rfl fun b8=> ?_)
  refine rn ?_;refine zem (zf9 k l).length (fun j (x:σ)=>p ((zrm k e l i)++((zf9 k l).take j).filterMap (brk (zdw k) e.t l.t (zc0 k e)[i])) x) (fun j x=>⟨[(29,iv j),(0,y),(2,pZ bl),(3,pZ be),(5,pZ b5),(6,zf5 (zf9 k l)),(8,pZ b8),(21,zf5 (zc0 k e)),(22,iv ((zc0 k e).map accR).length),(23,iv i),(27,zf5 (zf9 k l)),(28,iv ((zf9 k l).map accR).length)],.box b8 178 (accR (zc0 k e)[i]):: .box b5 116 (zs5 k):: .box bl 121 (zbz l):: .box be 121 (zbz e):: .box bi 3 [iv ((k:Nat):Int)]:: .glob 0 117 x5::I ((zrm k e l i)++((zf9 k l).take j).filterMap (brk (zdw k) e.t l.t (zc0 k e)[i])) x,[]⟩) x (by simpa using zi) (by simpa using eA) ?_
  intro j x lj zj
  refine rn ?_;refine z8 rfl (fun hc30=> ?_) (fun hc30=> ?_)
  ·have hj:=zds hc30
   have rj:=zdm (f:=accR) hj
   refine rn ?_;refine z7 rfl (x6 rfl fun b10=> ?_)
   refine rn ?_;refine q8 (fun hg8_5=> ?_) (fun hg8_5=> ?_)
   ·refine rn ?_;refine q8 (fun hg8_12=> ?_) (fun hg8_12=> ?_)
    ·refine q1 ?_;refine q1 ?_;refine q1 ?_;refine q1 ?_;refine q1 ?_;refine q1 ?_;refine q1 ?_;refine q1 ?_;refine q1 ?_;refine q1 ?_;refine q1 ?_;refine q1 ?_;refine q1 ?_;refine qq rfl rfl (k9 (out:= [iv (zdw k),iv e.t,iv l.t,iv (zc0 k e)[i].o,iv (zc0 k e)[i].a,iv (zf9 k l)[j].a]) rfl (by rfl)) ?_
     have hbk:=ym1 (g:=zdw k) (t1:=e.t) (t2:=l.t) hg8_5 hg8_12
     obtain ⟨rest,hL⟩:=ygd hi hj hbk
     refine z7 rfl (w7 rfl rfl (y3.fr3 (hy ((zrm k e l i)++((zf9 k l).take j).filterMap (brk (zdw k) e.t l.t (zc0 k e)[i])) _ rest x hL zj)) rfl ?_)
     rintro _ _ ⟨_,rfl,x',⟨rfl,hp',rfl⟩|⟨rfl,hq',rfl⟩⟩
     ·refine rn ?_;refine z8 rfl (fun hc62=> ?_) (fun hc62=> ?_)
      ·first|cases hc62|exact absurd hc62 (by decide)|(exfalso;simp_all;done)
      ·refine rn ?_;exact ⟨hj,x',by rw [yf0 hj hbk,←List.append_assoc];exact hp',by rw [yf0 hj hbk,←List.append_assoc];exact eA⟩
     ·refine rn ?_;refine z8 rfl (fun hc62=> ?_) (fun hc62=> ?_)
      ·refine rn ?_;exact zd7 .nil (.drop [_,_,_] _ _) ⟨x',.inr ⟨hq',rfl⟩⟩
      ·first|cases hc62|exact absurd hc62 (by decide)|(exfalso;simp_all;done)
    ·refine rn ?_;refine zpm rfl ?_;refine rn ?_;exact ⟨hj,x,by rw [zxl hj (zx5 hg8_12)];exact zj,by rw [zxl hj (zx5 hg8_12)];exact eA⟩
   ·refine rn ?_;refine zpm rfl ?_;refine rn ?_;exact ⟨hj,x,by rw [zxl hj (zx6 hg8_5)];exact zj,by rw [zxl hj (zx6 hg8_5)];exact eA⟩
  ·have qj:=zdu hc30 lj
   refine rn ?_;have e1:((zrm k e l i)++((zf9 k l).take j).filterMap (brk (zdw k) e.t l.t (zc0 k e)[i]))=(zrm k e l (i+1)):=by rw [ykm hi,qj,List.take_length]
   exact ⟨hi,x,by rw [←e1];exact zj,by rw [←e1];exact eA⟩
 ·have qi:=zdu hc24 li
  refine rn ?_;have e1:(zrm k e l i)=(ziq k e l):=by rw [qi,zrm,List.take_length];rfl
  exact zdy .nil (.drop [_] _ _) ⟨x,.inl ⟨by rw [←e1];exact zi,by rw [←e1]⟩⟩
theorem ymp {k:Nat} (hk:k < 4):x5[0+k * 3+2]? =some (ylc k):=by
 rcases (by omega:k=0∨k=1∨k=2∨k=3) with rfl|rfl|rfl|rfl <;> rfl
theorem ymq {k:Nat} (hk:k < 4):x5[0+k * 3+1]? =some (yld k):=by
 rcases (by omega:k=0∨k=1∨k=2∨k=3) with rfl|rfl|rfl|rfl <;> rfl
def yk6 (M:List (Int×Int)) (b:Acc):Bool:=decide (b.r < (zbn b.o M).getD 0)
def yhi (k:Nat) (d:Dos) (M:List (Int×Int)):Bool:=(zf9 k d).any (yk6 M)
def zi8 (M:List (Int×Int)) (l:List Acc):List (Int×Int):=l.foldl (fun m a=>zea a.o (max ((zbn a.o m).getD 0) a.r) m) M
theorem yiv {M:List (Int×Int)} {l:List Acc} {i:Nat} (hi:i < l.length):zi8 M (l.take (i+1))=zea l[i].o (max ((zbn l[i].o (zi8 M (l.take i))).getD 0) l[i].r) (zi8 M (l.take i)):=by
 rw [zi8,List.take_succ_eq_append_getElem hi,List.foldl_append];rfl
theorem zwj (o:Int):∀(l:List Acc) (M:List (Int×Int)),(zbn o M).getD 0≤(zbn o (zi8 M l)).getD 0∧∀a∈l,a.o=o→a.r≤(zbn o (zi8 M l)).getD 0
 | [],M=>⟨Int.le_refl _,by simp⟩
 |a::l,M=>by
  obtain ⟨h1,h2⟩:=zwj o l (zea a.o (max ((zbn a.o M).getD 0) a.r) M)
  have e:zi8 M (a::l)=zi8 (zea a.o (max ((zbn a.o M).getD 0) a.r) M) l:=rfl
  rw [zcz] at h1
  by_cases q:a.o=o
  ·subst q
   rw [if_pos rfl,Option.getD_some] at h1
   refine ⟨by rw [e];omega,fun b hb ho=> ?_⟩
   rcases List.mem_cons.1 hb with rfl|hb
   ·rw [e];omega
   ·rw [e];exact h2 b hb ho
  ·rw [if_neg q] at h1
   refine ⟨by rw [e];exact h1,fun b hb ho=> ?_⟩
   rcases List.mem_cons.1 hb with rfl|hb
   ·exact absurd ho q
   ·rw [e];exact h2 b hb ho
def zmh (k:Nat) (L:List Dos) (j:Nat) (M:List (Int×Int)):Prop:=∀e∈L.take j,∀a∈zc0 k e,a.r≤(zbn a.o M).getD 0
theorem yiw (k:Nat) (L:List Dos):zmh k L 0 []:=fun e he=>by simp at he
theorem ycd {k j:Nat} {L:List Dos} {M:List (Int×Int)} (hM:zmh k L j M) (hj:j < L.length):zmh k L (j+1) (zi8 M (zc0 k L[j])):=by
 intro e he a ha
 rw [List.take_succ_eq_append_getElem hj,List.mem_append,List.mem_singleton] at he
 rcases he with he|rfl
 ·have h1:=hM e he a ha
  have h2:=(zwj a.o (zc0 k L[j]) M).1
  omega
 ·exact (zwj a.o _ M).2 a ha rfl
def hdW (k:Nat) (d e:Dos):Option Brch:=(ziq k e d).head?
def brW (k:Nat) (L:List Dos):Nat→List Brch
 |0=> []
 |j+1=>brW k L j++(match L[j]? with|some d=>(L.take j).filterMap (hdW k d)|none=> [])
theorem ygc {k j:Nat} {L:List Dos} (hj:j < L.length):brW k L (j+1)=brW k L j++(L.take j).filterMap (hdW k L[j]):=by rw [brW,List.getElem?_eq_getElem hj]
theorem yhh {k j:Nat} {L:List Dos} {M:List (Int×Int)} (hM:zmh k L j M) (hj:j < L.length) (hs:yhi k L[j] M=false):brW k L (j+1)=brW k L j:=by
 rw [ygc hj]
 have:(L.take j).filterMap (hdW k L[j])= []:=by
  rw [List.filterMap_eq_nil_iff]
  intro e he
  have:ziq k e L[j]= []:=by
   rw [ziq,List.flatMap_eq_nil_iff]
   intro a ha
   rw [List.filterMap_eq_nil_iff]
   intro b hb
   by_cases q:(a.o==b.o)=true
   ·refine zx5 (decide_eq_false fun hlt=> ?_)
    have h1:=hM e he a ha
    have h2:=List.any_eq_false.1 hs b hb
    rw [yk6,←eq_of_beq q] at h2
    simp only [decide_eq_true_eq] at h2
    omega
   ·exact zx6 (by simpa using q)
  rw [hdW,this];rfl
 rw [this,List.append_nil]
theorem ycy {k m:Nat} {L:List Dos}:∀{n},m≤n→∃R,brW k L n=brW k L m++R
 |0,hm=>⟨[],by rw [Nat.le_zero.1 hm,List.append_nil]⟩
 |n+1,hm=>by
  by_cases e:m=n+1
  ·exact ⟨[],by rw [e,List.append_nil]⟩
  ·obtain ⟨R,hR⟩:=ycy (k:=k) (m:=m) (L:=L) (n:=n) (by omega)
   exact ⟨_,by rw [brW,hR,List.append_assoc]⟩
def brP (k:Nat) (L:List Dos) (j:Nat) (d:Dos) (i:Nat):List Brch:=brW k L j++((L.take j).take i).filterMap (hdW k d)
theorem ym3 (k:Nat) (L:List Dos) (j:Nat) (d:Dos):brP k L j d 0=brW k L j:=by simp [brP]
theorem ykg {k j i:Nat} {L:List Dos} {d:Dos} {b:Brch} {rest:List Brch} (hi:i < (L.take j).length) (h:ziq k (L.take j)[i] d=b::rest):brP k L j d (i+1)=brP k L j d i++ [b]:=by
 rw [brP,yf0 hi (show hdW k d (L.take j)[i]=some b by rw [hdW,h];rfl),brP,List.append_assoc]
theorem ykh {k j i:Nat} {L:List Dos} {d:Dos} (hi:i < (L.take j).length) (h:ziq k (L.take j)[i] d= []):brP k L j d (i+1)=brP k L j d i:=by
 rw [brP,zxl hi (show hdW k d (L.take j)[i]=none by rw [hdW,h];rfl),brP]
theorem ym2 {k j i:Nat} {L:List Dos} (hj:j < L.length) (hi:i=(L.take j).length):brP k L j L[j] i=brW k L (j+1):=by
 rw [ygc hj,brP,hi,List.take_length]
theorem ykf {k j i:Nat} {L:List Dos} {b:Brch} {rest:List Brch} (hj:j < L.length) (hi:i < (L.take j).length) (h:ziq k (L.take j)[i] L[j]=b::rest):∃R,brW k L L.length=brP k L j L[j] i++b::R:=by
 obtain ⟨R,hR⟩:=ycy (k:=k) (L:=L) (m:=j+1) (n:=L.length) hj
 have e:(L.take j).filterMap (hdW k L[j])=((L.take j).take i).filterMap (hdW k L[j])++b::((L.take j).drop (i+1)).filterMap (hdW k L[j]):=by
  conv=>lhs;rw [←List.take_append_drop i (L.take j),List.drop_eq_getElem_cons hi]
  rw [List.filterMap_append,List.filterMap_cons,hdW,h];rfl
 exact ⟨_,by rw [hR,ygc hj,e,brP];simp only [List.append_assoc,List.cons_append];rfl⟩
def hdB (l:List Brch):Brch:=l.headD ⟨0,0,0,0,0,0⟩
theorem y3.fr11 {P:Program} {fv:AV} {args:List AV} {G:List Res} {R:AV→List Res→Prop} {a0 a1 a2 a3 a4 a5 a6 a7 a8 a9 a10:Res} (hc:y3 P fv args G R):y3 P fv args (a0::a1::a2::a3::a4::a5::a6::a7::a8::a9::a10::G) (fun r h'=>∃h'',h'=a0::a1::a2::a3::a4::a5::a6::a7::a8::a9::a10::h''∧R r h''):=hc.frL [a0,a1,a2,a3,a4,a5,a6,a7,a8,a9,a10]
theorem zhg (q:Nat) (A B:List Res) (dfs:List Nat):(Res.defs q::(A++(B++dfs.map Res.defs))).Perm (A++(B++(q::dfs).map Res.defs)):=by
 rw [←List.append_assoc,←List.append_assoc];exact List.perm_middle.symm
theorem zso (A B:List Res) (dfs:List Nat):(A++(B++dfs.map Res.defs)).Perm (dfs.map Res.defs++(A++B)):=by
 rw [←List.append_assoc];exact List.perm_append_comm
theorem zot {full:Bool} (l:List Acc) (fv:AV) (p:Acc→Bool) (G:List Res) (hp:∀a∈l,y3 Tryz.prog fv [.agg (accR a)] G (fun r h'=>h'=G∧r=bv (p a))) (hlen:l.length≤4611686018427387904):x3 Tryz.prog 153 [.list full 3 (l.map accR),fv] G (fun r h'=>h'=G∧r=iv (zbf p 0 l)):=by
 refine z6 Tryz.func153 rfl rfl rfl ?_
 refine rn ?_;refine u7 (fun k:Nat=>k≤l.length∧zbf p 0 l=zbf p k (l.drop k)) (fun k=>⟨[(8,iv k),(7,iv (l.map accR).length),(0,.list full 3 (l.map accR)),(1,fv)],G,[]⟩) (fun k=>l.length - k) 0 ⟨Nat.zero_le _,by simp⟩
  (x8 (.cons _ _ _ rfl (.cons _ _ _ rfl (.cons _ _ _ rfl (.cons _ _ _ rfl (.nil)))))) ?_
 rintro k ⟨hk,hnot⟩
 refine rn ?_;refine z8 rfl (fun hc9=> ?_) (fun hc9=> ?_)
 ·have hk2:k < l.length:=by simpa using hc9
  have hrow:(l.map accR)[k]? =some (accR l[k]):=by simp [hk2]
  have hd:=List.drop_eq_getElem_cons hk2
  refine rn ?_;refine qv rfl rfl (y5 rfl rfl (hp l[k] (by simp))) ?_
  refine rn ?_;refine z8 rfl (fun hc16=> ?_) (fun hc16=> ?_)
  ·refine rn ?_;exact k7 rfl (.refl _ _) ⟨rfl,by rw [hnot,hd,zbf,if_pos hc16];rfl⟩
  ·refine rn ?_;exact ⟨k+1,⟨by omega,by rw [hnot,hd,zbf,if_neg (by simp [hc16])]⟩,(x8 (.cons _ _ _ rfl (.cons _ _ _ rfl (.cons _ _ _ rfl (.cons _ _ _ rfl (.nil)))))),by omega⟩
 ·have hk3:k=l.length:=by
   have:l.length≤k:=by simpa using hc9
   omega
  refine rn ?_;exact k7 rfl (.refl _ _) ⟨rfl,by rw [hnot,hk3,List.drop_length,zbf];rfl⟩
theorem zkq {full:Bool} (l:List Acc) (fv:AV) (p:Acc→Bool) (G:List Res) (hp:∀a∈l,y3 Tryz.prog fv [.agg (accR a)] G (fun r h'=>h'=G∧r=bv (p a))) (hlen:l.length≤4611686018427387904):x3 Tryz.prog 111 [.list full 3 (l.map accR),fv] G (fun r h'=>h'=G∧r=bv (l.any p)):=by
 refine z6 Tryz.func111 rfl rfl rfl ?_
 refine rn ?_;refine qv rfl rfl (y5 rfl rfl (y3.of_fun (zot l _ p G hp hlen))) ?_
 refine rn ?_;exact k7 rfl (.refl _ _) ⟨rfl,by simp only [←zd3 p l 0];rfl⟩
theorem yhu (b:Acc) (b4 bm:Nat) (M:List (Int×Int)):x3 Tryz.prog 112 [.agg (accR b),pZ b4] (.box b4 141 [mpv bm]:: .map bm (j9 zbm (zbc iv M)):: []) (fun r h'=>h'= .box b4 141 [mpv bm]:: .map bm (j9 zbm (zbc iv M)):: []∧r=bv (yk6 M b)):=by
 refine z6 Tryz.func112 rfl rfl rfl ?_
 refine rn ?_;refine z7 rfl (w6 rfl rfl rfl fun b2=> ?_)
 refine q1 ?_;refine u3 (j8 ?_)
 refine x9 (y6 ?_)
 refine q1 ?_;refine q1 ?_;refine q1 ?_;refine q1 ?_;refine q1 ?_;refine qq rfl rfl (zbw (g:=iv) (enc:=zbm) (k:=b.o) (0:Int) rfl rfl) ?_
 refine rn ?_;refine rq 1 ?_
 exact ⟨rfl,rfl⟩
set_option maxHeartbeats 4000000 in
theorem yht (k:Nat) (hk:k < 4) (d:Dos) (h2:(zf9 k d).length≤1000000) (bi b4 bm:Nat) (M:List (Int×Int)):x3 Tryz.prog 110 [.agg (zbz d),pZ bi,pZ b4] (.box bi 3 [iv (k:Int)]:: .box b4 141 [mpv bm]:: .map bm (j9 zbm (zbc iv M)):: .glob 0 117 x5:: []) (fun r h'=>h'= .box bi 3 [iv (k:Int)]:: .box b4 141 [mpv bm]:: .map bm (j9 zbm (zbc iv M)):: .glob 0 117 x5:: []∧r=bv (yhi k d M)):=by
 refine z6 Tryz.func110 rfl rfl rfl ?_
 refine rn ?_;refine z7 rfl (w6 rfl rfl rfl fun b3=> ?_)
 refine rn ?_;refine j6 7 rfl ?_
 refine dq rfl rfl qrA ?_;refine dq rfl rfl (u6 (i:=k) rfl rfl (by omega)) ?_
 refine dq rfl rfl qrA ?_;refine dq rfl rfl (j4 rfl (ymp hk)) ?_
 refine rn ?_;refine dv rfl rfl (by exact y5 rfl rfl (y3.pure (R:=fun r=>r=zf5 (zf9 k d)) (zsf k d))) ?_
 refine rn ?_;refine qv rfl rfl (y5 rfl rfl (y3.of_fun (zkq (zf9 k d) _ (yk6 M) _ (fun b _=>y3.qt (y3.of_acall (fs:= []) (cs:= [pZ b4]) (yhu b b4 bm M)) ((pt2 _ _ _ _).trans (.cons _ (pt2 _ _ _ _)))) (Nat.le_trans h2 (by decide))))) ?_
 refine rn ?_;refine rq 1 ?_
 exact ⟨rfl,rfl⟩
theorem yb8 (k:Nat) (L:List Dos) (W:List Res):x3 Tryz.prog 59 [iv (k:Int),zd4 L] W (fun r h'=>∃bi bl,h'= .box bl 101 [zd4 L]:: .box bi 3 [iv (k:Int)]::W∧r= .fn (.func 109) [] [pZ bi,pZ bl]):=by
 refine z6 Tryz.func59 rfl rfl rfl ?_
 refine rn ?_;refine z7 rfl (w6 rfl rfl rfl fun b2=> ?_)
 refine z7 rfl (w6 rfl rfl rfl fun b3=> ?_)
 refine rn ?_;exact k7 rfl (.refl _ _) ⟨_,_,rfl,rfl⟩
set_option maxHeartbeats 8000000 in
theorem yb7 (k:Nat) (hk:k < 4) (L:List Dos) (hL:L.length≤1000000) (hf:∀d∈L,(zc0 k d).length≤1000000) (hs:∀d∈L,(zf9 k d).length≤1000000) (y:AV) (hone:y.cellsOf=some [y]) (bi bl:Nat) {σ:Type} (p:List Brch→σ→Prop) (q:σ→Prop) (I:List Brch→σ→List Res) (X:σ→List Res) (x0:σ) (hp0:p [] x0) (hy:∀pre d rest x,(brW k L L.length)=pre++d::rest→p pre x→y3 Tryz.prog y [.agg (zcq d)] (.box bl 101 [zd4 L]:: .box bi 3 [iv ((k:Nat):Int)]:: .glob 0 117 x5::I pre x) (fun r h'=>∃x',(r=bv true∧p (pre++ [d]) x'∧h'= .box bl 101 [zd4 L]:: .box bi 3 [iv ((k:Nat):Int)]:: .glob 0 117 x5::I (pre++ [d]) x')∨(r=bv false∧q x'∧h'= .box bl 101 [zd4 L]:: .box bi 3 [iv ((k:Nat):Int)]:: .glob 0 117 x5::X x'))):x3 Tryz.prog 109 [y,pZ bi,pZ bl] (.box bl 101 [zd4 L]:: .box bi 3 [iv ((k:Nat):Int)]:: .glob 0 117 x5::I [] x0) (fun r h'=>∃x,(p (brW k L L.length) x∧h'= .box bl 101 [zd4 L]:: .box bi 3 [iv ((k:Nat):Int)]:: .glob 0 117 x5::I (brW k L L.length) x)∨(q x∧h'= .box bl 101 [zd4 L]:: .box bi 3 [iv ((k:Nat):Int)]:: .glob 0 117 x5::X x)):=by
 refine z6 Tryz.func109 rfl rfl rfl ?_
 have hyF:∀pre d rest x (W:List Res),(brW k L L.length)=pre++d::rest→p pre x→y3 Tryz.prog y [.agg (zcq d)] (.box bl 101 [zd4 L]:: .box bi 3 [iv ((k:Nat):Int)]:: .glob 0 117 x5::(I pre x++W)) (fun r h'=>∃x',(r=bv true∧p (pre++ [d]) x'∧h'= .box bl 101 [zd4 L]:: .box bi 3 [iv ((k:Nat):Int)]:: .glob 0 117 x5::(I (pre++ [d]) x'++W))∨(r=bv false∧q x'∧h'= .box bl 101 [zd4 L]:: .box bi 3 [iv ((k:Nat):Int)]:: .glob 0 117 x5::(X x'++W))):=fun pre d rest x W e hp=>((hy pre d rest x e hp).frame W).mono (by
  rintro _ _ ⟨_,rfl,x',⟨rfl,hp',rfl⟩|⟨rfl,hq',rfl⟩⟩
  ·exact ⟨x',.inl ⟨rfl,hp',rfl⟩⟩
  ·exact ⟨x',.inr ⟨rfl,hq',rfl⟩⟩)
 refine rn ?_;refine z7 rfl (w6 rfl hone rfl fun b3=> ?_)
 refine rn ?_;refine zhs ?_;refine rn ?_;refine z7 rfl (zao (enc:=zbm) rfl fun bm=> ?_)
 refine z7 rfl (x6 rfl fun b4=> ?_)
 refine rn ?_;refine zem L.length (fun j (z:σ×List (Int×Int)×List Nat)=>p (brW k L j) z.1∧zmh k L j z.2.1) (fun j z=>⟨[(18,iv j),(1,pZ bi),(2,pZ bl),(3,pZ b3),(4,pZ b4),(5,.fn (.func 110) [] [pZ bi,pZ b4]),(16,zd4 L),(17,iv (L.map zbz).length)],.box b4 141 [mpv bm]:: .map bm (j9 zbm (zbc iv z.2.1)):: .box b3 175 [y]:: .box bl 101 [zd4 L]:: .box bi 3 [iv ((k:Nat):Int)]:: .glob 0 117 x5::(I (brW k L j) z.1++(z.2.2.map Res.defs)),z.2.2⟩) (x0,[],[]) ⟨hp0,yiw k L⟩ (by simp only [List.map_nil,List.append_nil];exact es) ?_
 rintro j ⟨x,M,dfs⟩ lj ⟨hx,hM⟩
 have hx:p (brW k L j) x:=hx
 have hM:zmh k L j M:=hM
 show aw _ _ _ _ _ ⟨[(18,iv j),(1,pZ bi),(2,pZ bl),(3,pZ b3),(4,pZ b4),(5,.fn (.func 110) [] [pZ bi,pZ b4]),(16,zd4 L),(17,iv (L.map zbz).length)],.box b4 141 [mpv bm]:: .map bm (j9 zbm (zbc iv M)):: .box b3 175 [y]:: .box bl 101 [zd4 L]:: .box bi 3 [iv ((k:Nat):Int)]:: .glob 0 117 x5::(I (brW k L j) x++(dfs.map Res.defs)),dfs⟩
 refine rn ?_;refine z8 rfl (fun hc19=> ?_) (fun hc19=> ?_)
 ·have hj:=zds hc19
  have rj:=zdm (f:=zbz) hj
  refine rn ?_;refine z7 rfl (x6 rfl fun b7=> ?_)
  refine rn ?_;refine qv rfl rfl (y5 rfl rfl (y3.qt (y3.of_acall (fs:= []) (cs:= [pZ bi,pZ b4]) (yht k hk L[j] (hs _ (List.getElem_mem hj)) bi b4 bm M)) ((pt5 _ _ _ _ _ _ _).trans (.cons _ ((pt1 _ _ _).trans (.cons _ ((pt1 _ _ _).trans (.cons _ (pt3 _ _ _ _ _))))))))) ?_
  refine rn ?_;refine j6 8 rfl ?_
  refine dq rfl rfl qrA ?_;refine dq rfl rfl (u6 (i:=k) rfl rfl (by omega)) ?_
  refine dq rfl rfl qrA ?_;refine dq rfl rfl (j4 rfl (ymq hk)) ?_
  refine rn ?_;refine dv rfl rfl (by exact y5 rfl rfl (y3.pure (R:=fun r=>r=zf5 (zc0 k L[j])) (zs6 k L[j]))) ?_
  refine rn ?_;refine za0 (zc0 k L[j]).length (fun _=>True) (fun u=>⟨[(33,iv u),(1,pZ bi),(2,pZ bl),(3,pZ b3),(4,pZ b4),(5,.fn (.func 110) [] [pZ bi,pZ b4]),(6,iv j),(7,pZ b7),(8,bv (yhi k L[j] M)),(16,zd4 L),(17,iv (L.map zbz).length),(18,iv j),(31,zf5 (zc0 k L[j])),(32,iv ((zc0 k L[j]).map accR).length)],.box b7 121 (zbz L[j]):: .box b4 141 [mpv bm]:: .map bm (j9 zbm (zbc iv (zi8 M ((zc0 k L[j]).take u)))):: .box b3 175 [y]:: .box bl 101 [zd4 L]:: .box bi 3 [iv ((k:Nat):Int)]:: .glob 0 117 x5::(I (brW k L j) x++(dfs.map Res.defs)),dfs⟩) trivial es ?_
  intro u lu _
  refine rn ?_;refine z8 rfl (fun hc34=> ?_) (fun hc34=> ?_)
  ·have hu:=zds hc34
   have ru:=zdm (f:=accR) hu
   have hfl:=hf _ (List.getElem_mem hj)
   refine rn ?_;refine z7 rfl (x6 rfl fun b10=> ?_)
   first|refine z7 rfl (zbl rfl rfl rfl ?_)|refine z7 rfl (zbx rfl rfl rfl rfl (Nat.le_of_ble_eq_true rfl) ?_)
   refine u3 (j8 ?_)
   refine y6 ?_;refine q1 ?_;refine q1 ?_;refine q1 ?_;refine q1 ?_;refine q1 ?_;refine q1 ?_;refine qq rfl rfl (zbw (g:=iv) (enc:=zbm) (k:=(zc0 k L[j])[u].o) (0:Int) rfl rfl) ?_
   refine rn ?_;refine z7 rfl (zax (g:=iv) (enc:=zbm) (k:=(zc0 k L[j])[u].o) (v:=max ((zbn (zc0 k L[j])[u].o (zi8 M ((zc0 k L[j]).take u))).getD 0) (zc0 k L[j])[u].r) rfl rfl rfl ?_)
   refine rn ?_;exact ⟨hu,trivial,by rw [yiv hu];exact eA⟩
  ·have qu:=zdu hc34 lu
   subst qu
   rw [List.take_length]
   refine rn ?_;refine z8 rfl (fun hc49=> ?_) (fun hc49=> ?_)
   ·have hsw:yhi k L[j] M=false:=by simpa using hc49
    refine rn ?_;have hw:=yhh hM hj hsw
    exact ⟨hj,(x,(zi8 M (zc0 k L[j])),dfs),⟨by simp only;rw [hw];exact hx,ycd hM hj⟩,by simp only;rw [hw];exact eA⟩
   ·have hsw:yhi k L[j] M=true:=by simpa using hc49
    refine zaa ?_;refine j8 ?_;refine x9 (y6 ?_)
    refine q1 ?_;refine q1 ?_;refine qq rfl rfl (zdv (k:=j) rfl rfl (by rw [List.length_map];omega)) ?_
    rw [←List.map_take]
    refine rn ?_;have hx0:=hx
    rw [←ym3 k L j L[j]] at hx ⊢
    refine zem (L.take j).length (fun i (z:σ×List Nat)=>p (brP k L j L[j] i) z.1) (fun i z=>⟨[(54,iv i),(1,pZ bi),(2,pZ bl),(3,pZ b3),(4,pZ b4),(5,.fn (.func 110) [] [pZ bi,pZ b4]),(7,pZ b7),(16,zd4 L),(17,iv (L.map zbz).length),(18,iv j),(52,zd4 (L.take j)),(53,iv ((L.take j).map zbz).length)],.box b7 121 (zbz L[j]):: .box b4 141 [mpv bm]:: .map bm (j9 zbm (zbc iv (zi8 M (zc0 k L[j])))):: .box b3 175 [y]:: .box bl 101 [zd4 L]:: .box bi 3 [iv ((k:Nat):Int)]:: .glob 0 117 x5::(I (brP k L j L[j] i) z.1++(z.2.map Res.defs)),z.2⟩) (x,dfs) hx es ?_
    clear hx hx0
    rintro i ⟨x,dfs⟩ li hx
    have hx:p (brP k L j L[j] i) x:=hx
    show aw _ _ _ _ _ ⟨[(54,iv i),(1,pZ bi),(2,pZ bl),(3,pZ b3),(4,pZ b4),(5,.fn (.func 110) [] [pZ bi,pZ b4]),(7,pZ b7),(16,zd4 L),(17,iv (L.map zbz).length),(18,iv j),(52,zd4 (L.take j)),(53,iv ((L.take j).map zbz).length)],.box b7 121 (zbz L[j]):: .box b4 141 [mpv bm]:: .map bm (j9 zbm (zbc iv (zi8 M (zc0 k L[j])))):: .box b3 175 [y]:: .box bl 101 [zd4 L]:: .box bi 3 [iv ((k:Nat):Int)]:: .glob 0 117 x5::(I (brP k L j L[j] i) x++(dfs.map Res.defs)),dfs⟩
    refine rn ?_;refine z8 rfl (fun hc55=> ?_) (fun hc55=> ?_)
    ·have hi:=zds hc55
     have ri:=zdm (f:=zbz) hi
     have hil:=List.length_take_le j L
     refine rn ?_;refine z7 rfl (x6 rfl fun b12=> ?_)
     refine rn ?_;refine z7 rfl (w7 rfl rfl (y3.of_fun (yd6 k (L.take j)[i] L[j] _)) rfl ?_)
     rintro _ _ ⟨ci,ce,cl,rfl,rfl⟩
     refine rn ?_;refine zld (fun pend h''=>(pend=none∧(ziq k (L.take j)[i] L[j])= []∧h''= .box cl 121 (zbz L[j]):: .box ce 121 (zbz (L.take j)[i]):: .box ci 3 [iv (k:Int)]:: .glob 0 117 x5:: .box b12 121 (zbz (L.take j)[i]):: .box b7 121 (zbz L[j]):: .box b4 141 [mpv bm]:: .map bm (j9 zbm (zbc iv (zi8 M (zc0 k L[j])))):: .box b3 175 [y]:: .box bl 101 [zd4 L]:: .box bi 3 [iv (k:Int)]::(I (brP k L j L[j] i) x++(dfs.map Res.defs)))∨(pend=some (.exit 6)∧∃b rest x',(ziq k (L.take j)[i] L[j])=b::rest∧p ((brP k L j L[j] i)++ [b]) x'∧h''= .box cl 121 (zbz L[j]):: .box ce 121 (zbz (L.take j)[i]):: .box ci 3 [iv (k:Int)]:: .glob 0 117 x5:: .box b12 121 (zbz (L.take j)[i]):: .box b7 121 (zbz L[j]):: .box b4 141 [mpv bm]:: .map bm (j9 zbm (zbc iv (zi8 M (zc0 k L[j])))):: .box b3 175 [y]:: .box bl 101 [zd4 L]:: .box bi 3 [iv (k:Int)]::(I ((brP k L j L[j] i)++ [b]) x'++(dfs.map Res.defs)))∨(pend=some .ret∧∃x',q x'∧h''= .box cl 121 (zbz L[j]):: .box ce 121 (zbz (L.take j)[i]):: .box ci 3 [iv (k:Int)]:: .glob 0 117 x5:: .box b12 121 (zbz (L.take j)[i]):: .box b7 121 (zbz L[j]):: .box b4 141 [mpv bm]:: .map bm (j9 zbm (zbc iv (zi8 M (zc0 k L[j])))):: .box b3 175 [y]:: .box bl 101 [zd4 L]:: .box bi 3 [iv (k:Int)]::(X x'++(dfs.map Res.defs)))) rfl (fun fn l q0 lp hlp=> ?_) (fun q0 h'' hK=> ?_) (fun q0 h'' cc hK=> ?_)
     ·suffices hy2:∀pre d' rest z,(ziq k (L.take j)[i] L[j])=pre++d'::rest→(fun (pre:List Brch) (_:Bool×σ)=>pre= []) pre z→y3 Tryz.prog (yv l) [.agg (zcq d')] (.box cl 121 (zbz L[j]):: .box ce 121 (zbz (L.take j)[i]):: .box ci 3 [iv (k:Int)]:: .glob 0 117 x5::(fun (_:List Brch) (_:Bool×σ)=>lp .ready none:: .defs q0:: .box b12 121 (zbz (L.take j)[i]):: .box b7 121 (zbz L[j]):: .box b4 141 [mpv bm]:: .map bm (j9 zbm (zbc iv (zi8 M (zc0 k L[j])))):: .box b3 175 [y]:: .box bl 101 [zd4 L]:: .box bi 3 [iv (k:Int)]::(I (brP k L j L[j] i) x++(dfs.map Res.defs))) pre z) (fun r h'=>∃z',(r=bv true∧(fun (pre:List Brch) (_:Bool×σ)=>pre= []) (pre++ [d']) z'∧h'= .box cl 121 (zbz L[j]):: .box ce 121 (zbz (L.take j)[i]):: .box ci 3 [iv (k:Int)]:: .glob 0 117 x5::(fun (_:List Brch) (_:Bool×σ)=>lp .ready none:: .defs q0:: .box b12 121 (zbz (L.take j)[i]):: .box b7 121 (zbz L[j]):: .box b4 141 [mpv bm]:: .map bm (j9 zbm (zbc iv (zi8 M (zc0 k L[j])))):: .box b3 175 [y]:: .box bl 101 [zd4 L]:: .box bi 3 [iv (k:Int)]::(I (brP k L j L[j] i) x++(dfs.map Res.defs))) (pre++ [d']) z')∨(r=bv false∧(fun z:Bool×σ=>(z.1=true∧(∃b rest,(ziq k (L.take j)[i] L[j])=b::rest)∧p ((brP k L j L[j] i)++ [hdB (ziq k (L.take j)[i] L[j])]) z.2)∨(z.1=false∧q z.2)) z'∧h'= .box cl 121 (zbz L[j]):: .box ce 121 (zbz (L.take j)[i]):: .box ci 3 [iv (k:Int)]:: .glob 0 117 x5::(fun z:Bool×σ=>lp .done (some (bif z.1 then .exit 6 else .ret)):: .defs q0:: .box b12 121 (zbz (L.take j)[i]):: .box b7 121 (zbz L[j]):: .box b4 141 [mpv bm]:: .map bm (j9 zbm (zbc iv (zi8 M (zc0 k L[j])))):: .box b3 175 [y]:: .box bl 101 [zd4 L]:: .box bi 3 [iv (k:Int)]::((bif z.1 then I ((brP k L j L[j] i)++ [hdB (ziq k (L.take j)[i] L[j])]) z.2 else X z.2)++(dfs.map Res.defs))) z')) by
       refine x3.mono (x3.perm ((pt2 _ _ _ _).trans (.cons _ ((pt2 _ _ _ _).trans (.cons _ ((pt2 _ _ _ _).trans (.cons _ (pt9 _ _ _ _ _ _ _ _ _ _ _))))))) (yd5 k hk (L.take j)[i] L[j] (hf _ (List.mem_of_mem_take (List.getElem_mem hi))) (hs _ (List.getElem_mem hj)) (yv l) ci ce cl (fun (pre:List Brch) (_:Bool×σ)=>pre= []) (fun z:Bool×σ=>(z.1=true∧(∃b rest,(ziq k (L.take j)[i] L[j])=b::rest)∧p ((brP k L j L[j] i)++ [hdB (ziq k (L.take j)[i] L[j])]) z.2)∨(z.1=false∧q z.2)) (fun (_:List Brch) (_:Bool×σ)=>lp .ready none:: .defs q0:: .box b12 121 (zbz (L.take j)[i]):: .box b7 121 (zbz L[j]):: .box b4 141 [mpv bm]:: .map bm (j9 zbm (zbc iv (zi8 M (zc0 k L[j])))):: .box b3 175 [y]:: .box bl 101 [zd4 L]:: .box bi 3 [iv (k:Int)]::(I (brP k L j L[j] i) x++(dfs.map Res.defs))) (fun z:Bool×σ=>lp .done (some (bif z.1 then .exit 6 else .ret)):: .defs q0:: .box b12 121 (zbz (L.take j)[i]):: .box b7 121 (zbz L[j]):: .box b4 141 [mpv bm]:: .map bm (j9 zbm (zbc iv (zi8 M (zc0 k L[j])))):: .box b3 175 [y]:: .box bl 101 [zd4 L]:: .box bi 3 [iv (k:Int)]::((bif z.1 then I ((brP k L j L[j] i)++ [hdB (ziq k (L.take j)[i] L[j])]) z.2 else X z.2)++(dfs.map Res.defs))) (false,x) rfl hy2)) ?_
       rintro _ _ ⟨⟨b,x'⟩,⟨hn,rfl⟩|⟨⟨e1,⟨b0,rest,hn⟩,hp1⟩|⟨e1,hq1⟩,rfl⟩⟩
       ·exact ⟨none,.ready,_,((pt4 _ _ _ _ _ _).trans (.cons _ (pt4 _ _ _ _ _ _))),by simp,.inl ⟨rfl,hn,rfl⟩⟩
       ·have e1:b=true:=e1
        subst e1
        have hd1:hdB (ziq k (L.take j)[i] L[j])=b0:=by rw [hn];rfl
        exact ⟨some (.exit 6),.done,_,((pt4 _ _ _ _ _ _).trans (.cons _ (pt4 _ _ _ _ _ _))),by simp,.inr (.inl ⟨rfl,b0,rest,x',hn,by rw [←hd1];exact hp1,by rw [←hd1];rfl⟩)⟩
       ·have e1:b=false:=e1
        subst e1
        exact ⟨some .ret,.done,_,((pt4 _ _ _ _ _ _).trans (.cons _ (pt4 _ _ _ _ _ _))),by simp,.inr (.inr ⟨rfl,x',hq1,rfl⟩)⟩
      intro pre d' rest z hL hpre
      obtain rfl:pre= []:=hpre
      have hL1:(ziq k (L.take j)[i] L[j])=d'::rest:=hL
      obtain ⟨R,hL2⟩:=ykf hj hi hL1
      have hd1:hdB (ziq k (L.take j)[i] L[j])=d':=by rw [hL1];rfl
      refine y3.perm (pt4 _ _ _ _ _ _) (y3.ventE ?_)
      refine zdk hlp rfl rfl ?_
      refine rn ?_;refine z7 rfl (x6 rfl fun b13=> ?_)
      refine rn ?_;refine ⟨[(13,pZ b13),(3,pZ b3)],.box b13 36 (zcq d'):: .box cl 121 (zbz L[j]):: .box ce 121 (zbz (L.take j)[i]):: .box ci 3 [iv (k:Int)]:: .glob 0 117 x5:: .defs q0:: .box b12 121 (zbz (L.take j)[i]):: .box b7 121 (zbz L[j]):: .box b4 141 [mpv bm]:: .map bm (j9 zbm (zbc iv (zi8 M (zc0 k L[j])))):: .box b3 175 [y]:: .box bl 101 [zd4 L]:: .box bi 3 [iv (k:Int)]::(I (brP k L j L[j] i) x++(dfs.map Res.defs)),w9 (zai (pt1 _ _ _)) es,?_⟩
      refine zab ?_;refine x9 ?_;refine x9 (y6 ?_)
      refine q1 ?_;refine q1 ?_;refine z7 rfl (w7 rfl rfl (y3.perm (.cons _ (.cons _ (.cons _ (.cons _ (.cons _ ((pt1 _ _ _).trans (.cons _ ((pt1 _ _ _).trans (.cons _ ((pt1 _ _ _).trans (.cons _ ((pt1 _ _ _).trans (.cons _ ((pt1 _ _ _).trans (.cons _ ((pt1 _ _ _).trans (.cons _ ((pt1 _ _ _).trans (.cons _ (pt1 _ _ _)))))))))))))))))))) (y3.fr11 (hyF (brP k L j L[j] i) d' R x (dfs.map Res.defs) hL2 hx))) rfl ?_)
      rintro _ _ ⟨_,rfl,x',⟨rfl,hp',rfl⟩|⟨rfl,hq',rfl⟩⟩
      ·refine rn ?_;refine z8 rfl (fun hc66=> ?_) (fun hc66=> ?_)
       ·first|cases hc66|exact absurd hc66 (by decide)|(exfalso;simp_all;done)
       ·refine rn ?_;exact zj0 (.refl _) ⟨_,_,.trans (.perm ((pt1 _ _ _).trans (.cons _ ((pt1 _ _ _).trans (.cons _ ((pt1 _ _ _).trans (.cons _ ((pt1 _ _ _).trans (.cons _ (pt9 _ _ _ _ _ _ _ _ _ _ _))))))))) _) (.drop [_] _ _),(true,x'),.inr ⟨rfl,.inl ⟨rfl,⟨_,_,hL1⟩,by rw [hd1];exact hp'⟩,by rw [hd1];rfl⟩⟩
      ·refine rn ?_;refine z8 rfl (fun hc66=> ?_) (fun hc66=> ?_)
       ·refine rn ?_;exact zmn (.refl _) ⟨_,_,.trans (.perm ((pt1 _ _ _).trans (.cons _ ((pt1 _ _ _).trans (.cons _ ((pt1 _ _ _).trans (.cons _ ((pt1 _ _ _).trans (.cons _ (pt9 _ _ _ _ _ _ _ _ _ _ _))))))))) _) (.drop [_] _ _),(false,x'),.inr ⟨rfl,.inr ⟨rfl,hq'⟩,rfl⟩⟩
       ·first|cases hc66|exact absurd hc66 (by decide)|(exfalso;simp_all;done)
     ·obtain ⟨_,hFE,rfl⟩|⟨hc',_⟩|⟨hc',_⟩:=hK
      rotate_left
      ·cases hc'
      ·cases hc'
      refine rn ?_;exact ⟨hi,(x,q0::dfs),by simp only;rw [ykh hi hFE];exact hx,by simp only;rw [ykh hi hFE];exact w9 (zai ((List.Perm.cons _ (.cons _ (.cons _ (.cons _ ((pt1 _ _ _).trans (.cons _ ((pt1 _ _ _).trans (.cons _ ((pt1 _ _ _).trans (.cons _ ((pt1 _ _ _).trans (.cons _ ((pt1 _ _ _).trans (.cons _ ((pt1 _ _ _).trans (.cons _ (pt1 _ _ _))))))))))))))))).trans (zhg _ [_,_,_,_,_,_,_,_,_,_,_] _ _))) (w9 (za8 (h1:= [_,_,_,_])) es)⟩
     ·obtain ⟨hc',_⟩|⟨hc',b,rest,x',hFE,hpp,rfl⟩|⟨hc',x',hqq,rfl⟩:=hK
      ·cases hc'
      ·obtain rfl:cc= .exit 6:=by simpa using hc'
       refine rn ?_;exact ⟨hi,(x',q0::dfs),by simp only;rw [ykg hi hFE];exact hpp,by simp only;rw [ykg hi hFE];exact w9 (zai ((List.Perm.cons _ (.cons _ (.cons _ (.cons _ ((pt1 _ _ _).trans (.cons _ ((pt1 _ _ _).trans (.cons _ ((pt1 _ _ _).trans (.cons _ ((pt1 _ _ _).trans (.cons _ ((pt1 _ _ _).trans (.cons _ ((pt1 _ _ _).trans (.cons _ (pt1 _ _ _))))))))))))))))).trans (zhg _ [_,_,_,_,_,_,_,_,_,_,_] _ _))) (w9 (za8 (h1:= [_,_,_,_])) es)⟩
      ·obtain rfl:cc= .ret:=by simpa using hc'
       refine rn ?_;refine ⟨fun l h=>(by cases h),?_⟩
       exact zgk (.cons _ (zso [_,_,_,_,_,_,_,_,_,_,_] _ dfs)) .nil (.trans (.perm (.cons _ (.cons _ (.cons _ ((pt1 _ _ _).trans (.cons _ ((pt1 _ _ _).trans (.cons _ ((pt1 _ _ _).trans (.cons _ ((pt1 _ _ _).trans (.cons _ ((pt1 _ _ _).trans (.cons _ ((pt1 _ _ _).trans (.cons _ (pt1 _ _ _)))))))))))))))) _) (.drop [_,_,_,_,_,_,_,_] _ _)) ⟨x',.inr ⟨hqq,rfl⟩⟩
    ·have qi:=zdu hc55 li
     refine rn ?_;have hw:=ym2 (k:=k) hj qi
     exact ⟨hj,(x,(zi8 M (zc0 k L[j])),dfs),⟨by simp only;rw [←hw];exact hx,ycd hM hj⟩,by simp only;rw [←hw];exact eA⟩
 ·have qj:=zdu hc19 lj
  subst qj
  refine rn ?_;refine ⟨fun l h=>(by cases h),?_⟩
  exact yef (zso [_,_,_,_,_,_] _ dfs) .nil (.drop [_,_,_] _ _) ⟨x,.inl ⟨hx,rfl⟩⟩
def br0:Brch:=⟨0,0,0,0,0,0⟩
theorem ygm {h:Hist} {s g:Int} (he:zme h s g=0):zdt h s=0∧yc3 h s g=zac h s∧∃k:Nat,k < 4∧yc4 h s g=(k:Int)∧zdw k=g∧zns g=(k:Int):=by
 by_cases hl:zdt h s=0
 ·by_cases hg:zns g < 0
  ·have:=(zni hl hg).1;omega
  ·obtain ⟨k,hk,e1,e2⟩:=yjw hg
   exact ⟨hl,(zid hl hg).2.1,k,hk,by rw [(zid hl hg).2.2,e1],e2,e1⟩
 ·have:=(znj (g:=g) hl).1;omega
theorem zln (l:List Acc):∀n:Nat,(znp n l).length=(l.filter fun a=>decide (0≤a.o∧a.o < (n:Int))).length
 |0=>by
  have:(l.filter fun a=>decide (0≤a.o∧a.o < ((0:Nat):Int)))= []:=by
   rw [List.filter_eq_nil_iff];intro a _;simp <;> omega
  rw [this];rfl
 |n+1=>by
  have ih:=zln l n
  rw [znp,yg9,List.flatMap_append,List.length_append]
  rw [znp] at ih
  rw [ih]
  clear ih
  induction l with
  |nil=>rfl
  |cons a l ih=>
   simp only [List.filter_cons,List.flatMap_cons,List.flatMap_nil,List.append_nil] at ih ⊢
   by_cases h1:a.o=(n:Int)
   ·have e1:decide (0≤a.o∧a.o < (n:Int))=false:=decide_eq_false (by omega)
    have e2:decide (0≤a.o∧a.o < ((n+1:Nat):Int))=true:=decide_eq_true (by omega)
    have e3:(a.o==(n:Int))=true:=by simpa using h1
    rw [e1,e2,e3];simp only [↓reduceIte,List.length_cons,Bool.false_eq_true] at ih ⊢;omega
   ·have e3:(a.o==(n:Int))=false:=by simpa using h1
    by_cases h2:0≤a.o∧a.o < (n:Int)
    ·have e1:decide (0≤a.o∧a.o < (n:Int))=true:=decide_eq_true h2
     have e2:decide (0≤a.o∧a.o < ((n+1:Nat):Int))=true:=decide_eq_true (by omega)
     rw [e1,e2,e3];simp only [↓reduceIte,List.length_cons,Bool.false_eq_true] at ih ⊢;omega
    ·have e1:decide (0≤a.o∧a.o < (n:Int))=false:=decide_eq_false h2
     have e2:decide (0≤a.o∧a.o < ((n+1:Nat):Int))=false:=decide_eq_false (by omega)
     rw [e1,e2,e3];simp only [↓reduceIte,Bool.false_eq_true];exact ih
theorem zr9 (n:Nat) (l:List Acc):(znp n l).length≤l.length:=by rw [zln];exact List.length_filter_le _ _
theorem zsw {h:Hist} (hc:u0 h=0) (s:Int):(zac h s).length≤3000∧∀d∈zac h s,d.A.length≤3000∧d.B.length≤3000:=by
 have lE:=(zel hc).evs
 refine ⟨by rw [zac,List.length_map];exact Nat.le_trans (zsv h s) lE,fun d hd=> ?_⟩
 obtain ⟨t,_,rfl⟩:=List.mem_map.1 hd
 have h1:=zr9 h.os.length (znl h t 3)
 have h2:=zr9 h.os.length (znl h t 2)
 have h3:(znl h t 3).length≤h.evs.length:=zfc h t 3 h.evs.length
 have h4:(znl h t 2).length≤h.evs.length:=zfc h t 2 h.evs.length
 exact ⟨by show (znp _ _).length≤_;omega,by show (znp _ _).length≤_;omega⟩
theorem zxk {k n:Nat} {d:Dos} (h:d.A.length≤n∧d.B.length≤n):(zc0 k d).length≤n:=by rw [zc0];split;exact h.2;exact h.1
theorem zse {k n:Nat} {d:Dos} (h:d.A.length≤n∧d.B.length≤n):(zf9 k d).length≤n:=by rw [zf9];split;exact h.1;exact h.2
def seB (h:Hist) (s g:Int):List Brch:=if zme h s g=0 then brW (zns g).toNat (zac h s) (zac h s).length else []
theorem ylv {h:Hist} {s g:Int} (he:zme h s g≠0):seB h s g= []:=if_neg he
theorem yd8 {h:Hist} {s g:Int} {k:Nat} (he:zme h s g=0) (hk:zns g=(k:Int)):seB h s g=brW k (zac h s) (zac h s).length:=by rw [seB,if_pos he,hk];rfl
theorem zsr {α:Type} {l pre rest:List α} {d:α} (h:l=pre++d::rest) (e:pre= []):l=d::rest:=by rw [h,e];rfl
def haK (h:Hist) (s:Int):Nat→Int
 |0=>0
 |k+1=>if brW k (zac h s) (zac h s).length= [] then bI .or .i64 (haK h s k) (zdw k) else haK h s k
def haO (h:Hist) (s:Int):Int:=if zdt h s=0 then haK h s 4 else 0
set_option maxHeartbeats 8000000 in
theorem zzo (h:Hist) (la:Lim 4611686018427387904 h) (s g:Int):x3 Tryz.prog 15 [.agg (x4 h),iv s,iv g] (.glob 0 117 x5:: .glob 3 148 y8:: .glob 5 276 y9:: .glob 6 279 y4:: .glob 2 197 v8:: []) (fun r h'=>h'= .glob 0 117 x5:: .glob 3 148 y8:: .glob 5 276 y9:: .glob 6 279 y4:: .glob 2 197 v8:: []∧r= .tup [.agg (zcq ((seB h s g).head?.getD br0)),bv (seB h s g).head?.isSome,iv (zme h s g)]):=by
 refine z6 Tryz.func15 rfl rfl rfl ?_
 refine rn ?_;refine z7 rfl (w6 rfl rfl rfl fun b3=> ?_)
 refine z7 rfl (x6 rfl fun b6=> ?_)
 refine z7 rfl (x6 rfl fun b7=> ?_)
 refine z7 rfl (x6 rfl fun b8=> ?_)
 refine rn ?_;refine qv rfl rfl (y5 rfl rfl (y3.qt (y3.of_fun (zzp h la s g)) ((pt4 _ _ _ _ _ _).trans (.cons _ ((pt4 _ _ _ _ _ _).trans (.cons _ ((pt4 _ _ _ _ _ _).trans (.cons _ ((pt4 _ _ _ _ _ _).trans (.cons _ (pt4 _ _ _ _ _ _))))))))))) ?_
 refine rn ?_;refine z8 rfl (fun hc22=> ?_) (fun hc22=> ?_)
 ·have he:zme h s g≠0:=nzT hc22
  refine rn ?_;exact zd7 (.cons _ _ _ _ (.agg _ _ _ _ _ _ _ rfl inferInstance inferInstance inferInstance rfl) (.cons _ _ _ _ (.one _ _ _ _ _ _ _ rfl inferInstance inferInstance rfl) (.cons _ _ _ _ (.one _ _ _ _ _ _ _ rfl inferInstance inferInstance rfl) .nil))) (.drop [_,_,_,_] _ _) ⟨rfl,by rw [ylv he];rfl⟩
 ·have he:zme h s g=0:=nzF hc22
  obtain ⟨hl0,eO,k,hk,eI,eB,eG⟩:=ygm he
  have hB:=zsw (zbo.2 (ybv hl0).1) s
  rw [eI,eO]
  refine rn ?_;refine z7 rfl (w7 rfl rfl (y3.of_fun (yb8 k (zac h s) _)) rfl ?_)
  rintro _ _ ⟨bi,bl,rfl,rfl⟩
  refine rn ?_;refine zld (fun pend h''=>(pend=none∧(brW k (zac h s) (zac h s).length)= []∧h''= .box bl 101 [zd4 (zac h s)]:: .box bi 3 [iv ((k:Nat):Int)]:: .glob 0 117 x5:: .box b8 32 [iv 0]:: .box b7 4 [bv false]:: .box b6 36 (zcq br0):: .box b3 28 (x4 h):: .glob 3 148 y8:: .glob 5 276 y9:: .glob 6 279 y4:: .glob 2 197 v8:: [])∨(pend=some .ret∧∃d rest,(brW k (zac h s) (zac h s).length)=d::rest∧h''= .box bl 101 [zd4 (zac h s)]:: .box bi 3 [iv ((k:Nat):Int)]:: .glob 0 117 x5:: .box b8 32 [iv 0]:: .box b7 4 [bv true]:: .box b6 36 (zcq d):: .box b3 28 (x4 h):: .glob 3 148 y8:: .glob 5 276 y9:: .glob 6 279 y4:: .glob 2 197 v8:: [])) rfl (fun fn l q lp hlp=> ?_) (fun q h'' hK=> ?_) (fun q h'' cc hK=> ?_)
  ·suffices hy:∀pre d rest (x:Brch),(brW k (zac h s) (zac h s).length)=pre++d::rest→pre= []→y3 Tryz.prog (yv l) [.agg (zcq d)] (.box bl 101 [zd4 (zac h s)]:: .box bi 3 [iv ((k:Nat):Int)]:: .glob 0 117 x5::lp .ready none:: .defs q:: .box b8 32 [iv 0]:: .box b7 4 [bv false]:: .box b6 36 (zcq br0):: .box b3 28 (x4 h):: .glob 3 148 y8:: .glob 5 276 y9:: .glob 6 279 y4:: .glob 2 197 v8:: []) (fun r h'=>∃x',(r=bv true∧pre++ [d]= []∧h'= .box bl 101 [zd4 (zac h s)]:: .box bi 3 [iv ((k:Nat):Int)]:: .glob 0 117 x5::lp .ready none:: .defs q:: .box b8 32 [iv 0]:: .box b7 4 [bv false]:: .box b6 36 (zcq br0):: .box b3 28 (x4 h):: .glob 3 148 y8:: .glob 5 276 y9:: .glob 6 279 y4:: .glob 2 197 v8:: [])∨(r=bv false∧(∃rest,(brW k (zac h s) (zac h s).length)=x'::rest)∧h'= .box bl 101 [zd4 (zac h s)]:: .box bi 3 [iv ((k:Nat):Int)]:: .glob 0 117 x5::lp .done (some .ret):: .defs q:: .box b8 32 [iv 0]:: .box b7 4 [bv true]:: .box b6 36 (zcq x'):: .box b3 28 (x4 h):: .glob 3 148 y8:: .glob 5 276 y9:: .glob 6 279 y4:: .glob 2 197 v8:: [])) by
    refine x3.mono (x3.perm ((pt2 _ _ _ _).trans (.cons _ ((pt2 _ _ _ _).trans (.cons _ (pt6 _ _ _ _ _ _ _ _))))) (yb7 k hk (zac h s) (by omega) (fun d hd=>zxk ⟨Nat.le_trans (hB.2 d hd).1 (by decide),Nat.le_trans (hB.2 d hd).2 (by decide)⟩) (fun d hd=>zse ⟨Nat.le_trans (hB.2 d hd).1 (by decide),Nat.le_trans (hB.2 d hd).2 (by decide)⟩) (yv l) rfl bi bl (fun pre _=>pre= []) (fun d=>∃rest,(brW k (zac h s) (zac h s).length)=d::rest) (fun _ _=>lp .ready none:: .defs q:: .box b8 32 [iv 0]:: .box b7 4 [bv false]:: .box b6 36 (zcq br0):: .box b3 28 (x4 h):: .glob 3 148 y8:: .glob 5 276 y9:: .glob 6 279 y4:: .glob 2 197 v8:: []) (fun d=>lp .done (some .ret):: .defs q:: .box b8 32 [iv 0]:: .box b7 4 [bv true]:: .box b6 36 (zcq d):: .box b3 28 (x4 h):: .glob 3 148 y8:: .glob 5 276 y9:: .glob 6 279 y4:: .glob 2 197 v8:: []) br0 rfl hy)) ?_
    rintro _ _ ⟨x,⟨hn,rfl⟩|⟨⟨rest,hn⟩,rfl⟩⟩
    ·exact ⟨none,.ready,_,((pt3 _ _ _ _ _).trans (.cons _ (pt3 _ _ _ _ _))),by simp,.inl ⟨rfl,hn,rfl⟩⟩
    ·exact ⟨some .ret,.done,_,((pt3 _ _ _ _ _).trans (.cons _ (pt3 _ _ _ _ _))),by simp,.inr ⟨rfl,x,rest,hn,rfl⟩⟩
   intro pre d rest x hL hpre
   refine y3.perm (pt3 _ _ _ _ _) (y3.ventE ?_)
   refine zdk hlp rfl rfl ?_
   refine rn ?_;refine z7 rfl (x6 rfl fun b12=> ?_)
   refine rn ?_;refine ⟨[(12,pZ b12),(6,pZ b6),(7,pZ b7),(8,pZ b8)],.box b12 36 (zcq d):: .box bl 101 [zd4 (zac h s)]:: .box bi 3 [iv ((k:Nat):Int)]:: .glob 0 117 x5:: .defs q:: .box b8 32 [iv 0]:: .box b7 4 [bv false]:: .box b6 36 (zcq br0):: .box b3 28 (x4 h):: .glob 3 148 y8:: .glob 5 276 y9:: .glob 6 279 y4:: .glob 2 197 v8:: [],w9 (zai (pt1 _ _ _)) es,?_⟩
   refine rn ?_;exact zmn (.refl _) ⟨_,_,.trans (.perm ((pt1 _ _ _).trans (.cons _ ((pt1 _ _ _).trans (.cons _ ((pt1 _ _ _).trans (.cons _ (pt1 _ _ _))))))) _) (.drop [_] _ _),d,.inr ⟨rfl,⟨rest,zsr hL hpre⟩,rfl⟩⟩
  ·obtain ⟨_,hn,rfl⟩|⟨hc',_⟩:=hK
   rotate_left
   ·cases hc'
   refine rn ?_;exact zgk (.refl _) (.cons _ _ _ _ (.agg _ _ _ _ _ _ _ rfl inferInstance inferInstance inferInstance rfl) (.cons _ _ _ _ (.one _ _ _ _ _ _ _ rfl inferInstance inferInstance rfl) (.cons _ _ _ _ (.one _ _ _ _ _ _ _ rfl inferInstance inferInstance rfl) .nil))) (.trans (.perm (.cons _ (.cons _ ((pt1 _ _ _).trans (.cons _ ((pt1 _ _ _).trans (.cons _ ((pt1 _ _ _).trans (.cons _ (pt1 _ _ _))))))))) _) (.drop [_,_,_,_,_,_] _ _)) ⟨rfl,by rw [yd8 he eG,hn,he];rfl⟩
  ·obtain ⟨hc',_⟩|⟨hc',d,rest,hn,rfl⟩:=hK
   ·cases hc'
   obtain rfl:cc= .ret:=by simpa using hc'
   refine rn ?_;exact zgk (.refl _) (.cons _ _ _ _ (.agg _ _ _ _ _ _ _ rfl inferInstance inferInstance inferInstance rfl) (.cons _ _ _ _ (.one _ _ _ _ _ _ _ rfl inferInstance inferInstance rfl) (.cons _ _ _ _ (.one _ _ _ _ _ _ _ rfl inferInstance inferInstance rfl) .nil))) (.trans (.perm (.cons _ (.cons _ ((pt1 _ _ _).trans (.cons _ ((pt1 _ _ _).trans (.cons _ ((pt1 _ _ _).trans (.cons _ (pt1 _ _ _))))))))) _) (.drop [_,_,_,_,_,_] _ _)) ⟨rfl,by rw [yd8 he eG,hn,he];rfl⟩
set_option maxHeartbeats 8000000 in
theorem yhv (h:Hist) (la:Lim 4611686018427387904 h) (s:Int):x3 Tryz.prog 24 [.agg (x4 h),iv s] (.glob 0 117 x5:: .glob 3 148 y8:: .glob 5 276 y9:: .glob 6 279 y4:: .glob 2 197 v8:: []) (fun r h'=>h'= .glob 0 117 x5:: .glob 3 148 y8:: .glob 5 276 y9:: .glob 6 279 y4:: .glob 2 197 v8:: []∧r= .tup [iv (haO h s),iv (zdt h s)]):=by
 refine z6 Tryz.func24 rfl rfl rfl ?_
 refine rn ?_;refine z7 rfl (w6 rfl rfl rfl fun b2=> ?_)
 refine rn ?_;refine qv rfl rfl (y5 rfl rfl (y3.qt (y3.of_fun (zvr h la s)) ((pt2 _ _ _ _).trans (.cons _ ((pt2 _ _ _ _).trans (.cons _ ((pt2 _ _ _ _).trans (.cons _ (pt2 _ _ _ _))))))))) ?_
 refine rn ?_;refine z8 rfl (fun hc19=> ?_) (fun hc19=> ?_)
 ·have he:zdt h s≠0:=nzT hc19
  refine rn ?_;exact zbj rfl rfl (.drop [_] _ _) ⟨rfl,by rw [haO,if_neg he];rfl⟩
 ·have hl0:zdt h s=0:=nzF hc19
  have hB:=zsw (zbo.2 (ybv hl0).1) s
  rw [zqx hl0]
  refine rn ?_;refine zem 4 (fun _ (_:List Nat)=>True) (fun k dfs=>⟨[(22,iv (k:Nat)),(8,iv (haK h s k)),(6,zd4 (zac h s)),(21,.agg x5)],.box b2 28 (x4 h):: .glob 0 117 x5:: .glob 3 148 y8:: .glob 5 276 y9:: .glob 6 279 y4:: .glob 2 197 v8::(dfs.map Res.defs),dfs⟩) [] trivial es ?_
  intro k dfs lk _
  refine rn ?_;refine z8 rfl (fun hc23=> ?_) (fun hc23=> ?_)
  ·have hk:k < 4:=by have q:=of_decide_eq_true hc23;omega
   refine zaa ?_;refine j8 ?_;refine x9 ?_;refine zab ?_;refine x9 (y6 ?_)
   refine q1 ?_;refine qq rfl rfl (zfe (i:=k) (out:=zs5 k) rfl rfl hk (by show k * 3+3≤12;omega) (yfw hk)) ?_
   refine z7 rfl (x6 rfl fun b10=> ?_)
   refine rn ?_;refine z7 rfl (x6 rfl fun b11=> ?_)
   refine rn ?_;refine z7 rfl (w7 rfl rfl (y3.of_fun (yb8 k (zac h s) _)) rfl ?_)
   rintro _ _ ⟨bi,bl,rfl,rfl⟩
   refine rn ?_;refine zld (fun pend h''=>(pend=none∧(brW k (zac h s) (zac h s).length)= []∧h''= .box bl 101 [zd4 (zac h s)]:: .box bi 3 [iv ((k:Nat):Int)]:: .glob 0 117 x5:: .box b11 4 [bv false]:: .box b10 116 (zs5 k):: .box b2 28 (x4 h):: .glob 3 148 y8:: .glob 5 276 y9:: .glob 6 279 y4:: .glob 2 197 v8::(dfs.map Res.defs))∨(pend=some (.exit 2)∧(brW k (zac h s) (zac h s).length)≠ []∧h''= .box bl 101 [zd4 (zac h s)]:: .box bi 3 [iv ((k:Nat):Int)]:: .glob 0 117 x5:: .box b11 4 [bv true]:: .box b10 116 (zs5 k):: .box b2 28 (x4 h):: .glob 3 148 y8:: .glob 5 276 y9:: .glob 6 279 y4:: .glob 2 197 v8::(dfs.map Res.defs))) rfl (fun fn l q lp hlp=> ?_) (fun q h'' hK=> ?_) (fun q h'' cc hK=> ?_)
   ·suffices hy:∀pre d rest (x:Unit),(brW k (zac h s) (zac h s).length)=pre++d::rest→pre= []→y3 Tryz.prog (yv l) [.agg (zcq d)] (.box bl 101 [zd4 (zac h s)]:: .box bi 3 [iv ((k:Nat):Int)]:: .glob 0 117 x5::lp .ready none:: .defs q:: .box b11 4 [bv false]:: .box b10 116 (zs5 k):: .box b2 28 (x4 h):: .glob 3 148 y8:: .glob 5 276 y9:: .glob 6 279 y4:: .glob 2 197 v8::(dfs.map Res.defs)) (fun r h'=>∃x':Unit,(r=bv true∧pre++ [d]= []∧h'= .box bl 101 [zd4 (zac h s)]:: .box bi 3 [iv ((k:Nat):Int)]:: .glob 0 117 x5::lp .ready none:: .defs q:: .box b11 4 [bv false]:: .box b10 116 (zs5 k):: .box b2 28 (x4 h):: .glob 3 148 y8:: .glob 5 276 y9:: .glob 6 279 y4:: .glob 2 197 v8::(dfs.map Res.defs))∨(r=bv false∧(brW k (zac h s) (zac h s).length)≠ []∧h'= .box bl 101 [zd4 (zac h s)]:: .box bi 3 [iv ((k:Nat):Int)]:: .glob 0 117 x5::lp .done (some (.exit 2)):: .defs q:: .box b11 4 [bv true]:: .box b10 116 (zs5 k):: .box b2 28 (x4 h):: .glob 3 148 y8:: .glob 5 276 y9:: .glob 6 279 y4:: .glob 2 197 v8::(dfs.map Res.defs))) by
     refine x3.mono (x3.perm ((pt2 _ _ _ _).trans (.cons _ ((pt2 _ _ _ _).trans (.cons _ (pt5 _ _ _ _ _ _ _))))) (yb7 k hk (zac h s) (by omega) (fun d hd=>zxk ⟨Nat.le_trans (hB.2 d hd).1 (by decide),Nat.le_trans (hB.2 d hd).2 (by decide)⟩) (fun d hd=>zse ⟨Nat.le_trans (hB.2 d hd).1 (by decide),Nat.le_trans (hB.2 d hd).2 (by decide)⟩) (yv l) rfl bi bl (fun pre _=>pre= []) (fun _=>(brW k (zac h s) (zac h s).length)≠ []) (fun _ _=>lp .ready none:: .defs q:: .box b11 4 [bv false]:: .box b10 116 (zs5 k):: .box b2 28 (x4 h):: .glob 3 148 y8:: .glob 5 276 y9:: .glob 6 279 y4:: .glob 2 197 v8::(dfs.map Res.defs)) (fun _=>lp .done (some (.exit 2)):: .defs q:: .box b11 4 [bv true]:: .box b10 116 (zs5 k):: .box b2 28 (x4 h):: .glob 3 148 y8:: .glob 5 276 y9:: .glob 6 279 y4:: .glob 2 197 v8::(dfs.map Res.defs)) () rfl hy)) ?_
     rintro _ _ ⟨x,⟨hn,rfl⟩|⟨hn,rfl⟩⟩
     ·exact ⟨none,.ready,_,((pt3 _ _ _ _ _).trans (.cons _ (pt3 _ _ _ _ _))),by simp,.inl ⟨rfl,hn,rfl⟩⟩
     ·exact ⟨some (.exit 2),.done,_,((pt3 _ _ _ _ _).trans (.cons _ (pt3 _ _ _ _ _))),by simp,.inr ⟨rfl,hn,rfl⟩⟩
    intro pre d rest x hL hpre
    refine y3.perm (pt3 _ _ _ _ _) (y3.ventE ?_)
    refine zdk hlp rfl rfl ?_
    refine rn ?_;refine ⟨[(11,pZ b11)],.box bl 101 [zd4 (zac h s)]:: .box bi 3 [iv ((k:Nat):Int)]:: .glob 0 117 x5:: .defs q:: .box b11 4 [bv false]:: .box b10 116 (zs5 k):: .box b2 28 (x4 h):: .glob 3 148 y8:: .glob 5 276 y9:: .glob 6 279 y4:: .glob 2 197 v8::(dfs.map Res.defs),es,?_⟩
    refine rn ?_;exact zj0 (.refl _) ⟨_,_,.perm ((pt1 _ _ _).trans (.cons _ ((pt1 _ _ _).trans (.cons _ (pt1 _ _ _))))) _,(),.inr ⟨rfl,by rw [zsr hL hpre];exact List.cons_ne_nil _ _,rfl⟩⟩
   ·obtain ⟨_,hn,rfl⟩|⟨hc',_⟩:=hK
    rotate_left
    ·cases hc'
    refine rn ?_;refine z8 rfl (fun hc31=> ?_) (fun hc31=> ?_)
    ·refine rn ?_;exact ⟨hk,q::dfs,trivial,by rw [haK,if_pos hn];exact w9 (zai ((List.Perm.cons _ (.cons _ (.cons _ ((pt1 _ _ _).trans (.cons _ ((pt1 _ _ _).trans (.cons _ (pt1 _ _ _)))))))).trans (zhg _ [_,_,_,_,_,_,_,_,_,_] [] _))) (w9 (za8 (h1:= [_,_,_,_])) es)⟩
    ·refine rn ?_;exact absurd hc31 (by decide)
   ·obtain ⟨hc',_⟩|⟨hc',hn,rfl⟩:=hK
    ·cases hc'
    obtain rfl:cc= .exit 2:=by simpa using hc'
    refine rn ?_;refine z8 rfl (fun hc31=> ?_) (fun hc31=> ?_)
    ·refine rn ?_;exact absurd hc31 (by decide)
    ·refine rn ?_;exact ⟨hk,q::dfs,trivial,by rw [haK,if_neg hn];exact w9 (zai ((List.Perm.cons _ (.cons _ (.cons _ ((pt1 _ _ _).trans (.cons _ ((pt1 _ _ _).trans (.cons _ (pt1 _ _ _)))))))).trans (zhg _ [_,_,_,_,_,_,_,_,_,_] [] _))) (w9 (za8 (h1:= [_,_,_,_])) es)⟩
  ·have qk:k=4:=by have q:=of_decide_eq_false hc23;omega
   subst qk
   refine rn ?_;exact zgk (List.perm_append_comm (l₁:= [_,_,_,_,_,_]) (l₂:=(dfs.map Res.defs))) (.cons _ _ _ _ (.tmp _ _ rfl) (.cons _ _ _ _ (.tmp _ _ rfl) .nil)) (.drop [_] _ _) ⟨rfl,by rw [haO,if_pos hl0,hl0];rfl⟩
instance:EqInts Tryz.prog 81 3:=⟨by kernel_rfl,fun w xs ys h1 h2=>match xs,ys,h1,h2 with
 | [a0,a1,a2],[c0,c1,c2],_,_=>by
   rw [run_equalIn_struct w 9999 81 _ _ (by kernel_rfl) (by kernel_rfl)]
   simp only [Program.fieldsOf,Tryz.underlying81]
   simp [Op.eqFields,part,run_equalIn_int _ 9998 3 .i64 .i64 _ _ Tryz.underlying3]
   by_cases h0:a0=c0
   case neg=>simp [h0]
   subst h0
   by_cases h1:a1=c1
   case neg=>simp [h1]
   subst h1
   by_cases h2:a2=c2
   case neg=>simp [h2]
   subst h2
   simp⟩
def kdR (rd:Bool):Int:=bif rd then 3 else 2
def rdA (g:Int):Bool:=g==2||g==8
def rdB (g:Int):Bool:=g==1||g==2
def yni (h:Hist) (t kd x:Int) (k:Nat):List Acc:=(zk0 h t kd k).filter fun a=>a.o==x
def hF (g t1 t2 x:Int) (a b:Acc):Option Brch:=if b.r < a.r then some ⟨g,t1,t2,x,a.a,b.a⟩ else none
def bG (h:Hist) (g t1 t2 x:Int) (i:Nat):List Brch:=(yni h t1 (kdR (rdA g)) x i).flatMap fun a=>(yni h t2 (kdR (rdB g)) x h.evs.length).filterMap (hF g t1 t2 x a)
def yoc (h:Hist) (g t1 t2:Int) (k:Nat):List Brch:=(upR k).flatMap fun x=>bG h g t1 t2 x h.evs.length
def eR (h:Hist) (g:Int) (l:List Int) (t2:Int) (i:Nat):List Brch:=(l.take i).flatMap fun t1=>yoc h g t1 t2 h.os.length
abbrev ycx (l:List Brch):AV:= .list false 6 (l.map zcq)
def isG (g:Int):Bool:=g==1||g==2||g==4||g==8
def nmR (n:NV) (h:Hist) (L:List Res):List Res:= .row n.vT.v 1 9 (h.ts.map zbg):: .row n.vS.v 1 9 (h.ss.map zbg):: .row n.vO.v 1 9 (h.os.map zbg):: .row n.vP.v 1 9 (h.ps.map zbg)::L
def yf3 (e:Ev):List AV:= [iv e.kind,iv e.t,iv e.s,iv e.l,iv e.o,iv e.v.t,iv e.v.k,iv e.p,.v (.slice none 0 0)]
theorem yf6 {α:Type} [DecidableEq α] {l m:List α} {k:Nat} (h1:k < l.length) (h2:k < m.length) (h:l.take k=m.take k) (e:l[k]=m[k]):l.take (k+1)=m.take (k+1):=by
 rw [List.take_succ_eq_append_getElem h1,List.take_succ_eq_append_getElem h2,h,e]
theorem ymb {α:Type} {l m:List α} {k:Nat} (h1:k < l.length) (h2:k < m.length) (e:l[k]≠m[k]):l≠m:=fun q=>e (by subst q;rfl)
theorem yf7 {a b:Nat} (h:((a:Int) !=(b:Int))=false):a=b:=Int.ofNat.inj (by simpa using h)
theorem yfz (h:Hist) (t:Int) {k:Nat} (hk:k < 4):zc0 k (zrd h t)=znp h.os.length (znl h t (kdA (zdw k))):=by
 rcases (by omega:k=0∨k=1∨k=2∨k=3) with rfl|rfl|rfl|rfl <;> rfl
theorem ydx (h:Hist) (t:Int) {k:Nat} (hk:k < 4):zf9 k (zrd h t)=znp h.os.length (znl h t (kdB (zdw k))):=by
 rcases (by omega:k=0∨k=1∨k=2∨k=3) with rfl|rfl|rfl|rfl <;> rfl
theorem yge (h:Hist) (t1 t2:Int) {k:Nat} (hk:k < 4):ziq k (zrd h t1) (zrd h t2)=ykl h.os.length (zdw k) t1 t2 (znl h t1 (kdA (zdw k))) (znl h t2 (kdB (zdw k))):=by
 rw [ziq,yfz h t1 hk,ydx h t2 hk];rfl
theorem zx7 (h:Hist) (s:Int) {k:Nat} (hk:k < 4):∀j,brW k (zac h s) j=brL h.os.length (zdw k) (zxt h s (zdw k)) j
 |0=>rfl
 |j+1=>by
  rw [brW,brL,zx7 h s hk j,zac,zxt,List.getElem?_map,List.getElem?_map]
  cases (ze6 h.evs s)[j]? with
  |none=>rfl
  |some t2=>
   simp only [Option.map_some]
   rw [←List.map_take,←List.map_take,List.filterMap_map,List.filterMap_map]
   congr 1
   refine zm7 fun t1 _=> ?_
   simp only [Function.comp,hdW]
   rw [yge h t1 t2 hk];rfl
theorem znf (h:Hist) (s:Int) {k:Nat} (hk:k < 4):brW k (zac h s) (zac h s).length=brS h s (zdw k):=by
 rw [zx7 h s hk,brS,zac,zxt,List.length_map,List.length_map]
theorem yfn {h:Hist} {s:Int} (hl:zdt h s=0):haO h s=zs0 h s:=by
 rw [haO,if_pos hl]
 simp only [haK,zs0,List.foldl_cons,List.foldl_nil]
 rw [znf h s (by decide:0 < 4),znf h s (by decide:1 < 4),znf h s (by decide:2 < 4),znf h s (by decide:3 < 4)]
 simp only [show zdw 0=1 from rfl,show zdw 1=2 from rfl,show zdw 2=4 from rfl,show zdw 3=8 from rfl]
 by_cases h1:brS h s 1= [] <;> by_cases h2:brS h s 2= [] <;> by_cases h3:brS h s 4= [] <;> by_cases h4:brS h s 8= [] <;> simp only [h1,h2,h3,h4,if_true,if_false,↓reduceIte] <;> decide
theorem zq2 {n m:Int}:isB n m=true ↔ 0≤n∧n < m:=by unfold isB;simp
theorem zws {h:Hist} (hc:u0 h=0) {s:Int} (hb:isB s h.ss.length=true):zdt h s=0:=zye hc (zq2.1 hb)
theorem yjv {g:Int}:zns g < 0 ↔ isG g=false:=by
 unfold zns isG
 by_cases h1:g=1
 ·subst h1;decide
 by_cases h2:g=2
 ·subst h2;decide
 by_cases h3:g=4
 ·subst h3;decide
 by_cases h4:g=8
 ·subst h4;decide
 simp [h1,h2,h3,h4]
theorem yks {h:Hist} (hc:u0 h=0) {s:Int} (hb:isB s h.ss.length=true) {g:Int} (hg:isG g=true):zme h s g=0:=(zid (zws hc hb) fun q=>by rw [yjv.1 q] at hg;cases hg).1
end Go.Proofs
namespace Go.Ab
open Go
section
variable {P:Program} {h:List Res} {f:Operand→Option AV} {dst:Option Tmp} {ty:TypeId} {pos:String} {after:Array Edge} {guard:Option (Nat×Bool)} {x:Operand}
end
end Go.Ab
set_option maxRecDepth 10000
namespace Go.Proofs
open Go Go.Ab
attribute [local irreducible] QR QV OE zca aw zcm za3 zau zag thn zeu zdi jch zd8
open Go.H
theorem take_min {α β:Type} {f:α→β} (l:List α) (n:Nat):(l.map f).take (min (l.map f).length n)=(l.take n).map f:=by
 rw [←List.map_take,List.length_map]
 congr 1
 by_cases h:l.length≤n
 ·rw [Nat.min_eq_left h,List.take_length,List.take_of_length_le h]
 ·rw [Nat.min_eq_right (by omega)]
theorem yhs:∀{k:Nat},k < 4→zlr .shl .i64 1 (k:Nat)=some (zdw k)
 |0,_=>rfl
 |1,_=>rfl
 |2,_=>rfl
 |3,_=>rfl
end Go.Proofs
