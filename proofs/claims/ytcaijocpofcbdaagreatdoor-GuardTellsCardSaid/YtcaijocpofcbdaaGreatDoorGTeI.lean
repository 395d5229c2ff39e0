/- The walks of the index's closures. Conditions: none. -/
import Derived.Test.YtcaijocpofcbdaaGreatDoorGTeH
set_option maxHeartbeats 4000000
set_option linter.unusedSectionVars false
set_option linter.unusedSimpArgs false
set_option linter.unusedVariables false
set_option maxRecDepth 10000
namespace Go.Proofs
open Go Go.Ab
attribute [local irreducible] QR QV OE zcz aw zdg zbs zbh za1 thn zfx zed jch zfd
open Go.H
theorem ym9 (k s:Int) (e:Ev) (b2 b3 rm:Nat) (M:List (Int×Bool)):y8 Tryz.prog 74 [iv k,.agg (evR e),pZ b2,pZ b3] [.box b2 3 [iv s],.box b3 126 [mpv rm],.map rm (zah zcb (zb4 bv M))] (fun r h'=>h'= [.box b2 3 [iv s],.box b3 126 [mpv rm],.map rm (zah zcb (zb4 bv M))]∧r= .tup [iv e.t,bv (e.s==s && (zb6 e.t M).getD false)]):=by
 refine z6 Tryz.func74 rfl rfl rfl ?_
 refine rn ?_;refine z8 rfl (x9 rfl rfl rfl fun b5=> ?_)
 refine rn ?_;refine j4 13 rfl ?_
 refine rn ?_;refine zex (fun hg1_6=> ?_) (fun hg1_6=> ?_)
 ·refine dq rfl rfl qrA ?_;refine dq rfl rfl qrA ?_;refine dq rfl rfl qrA ?_;refine dq rfl rfl (zcr (enc:=zcb) (k:=e.t) false rfl rfl) ?_
  refine rn ?_;refine rq 1 ?_
  exact ⟨rfl,by rw [hg1_6];rfl⟩
 ·refine rn ?_;refine rq 1 ?_
  exact ⟨rfl,by rw [hg1_6];rfl⟩
theorem yna (k s:Int) (e:Ev) (b2 b3 rm:Nat) (M:List (Int×Bool)):y8 Tryz.prog 161 [iv k,.agg (evR e),pZ b2,pZ b3] [.box b2 3 [iv s],.box b3 126 [mpv rm],.map rm (zah zcb (zb4 bv M))] (fun r h'=>h'= [.box b2 3 [iv s],.box b3 126 [mpv rm],.map rm (zah zcb (zb4 bv M))]∧r= .tup [iv e.t,bv (e.o==s && (zb6 e.t M).getD false)]):=by
 refine z6 Tryz.func161 rfl rfl rfl ?_
 refine rn ?_;refine z8 rfl (x9 rfl rfl rfl fun b5=> ?_)
 refine rn ?_;refine j4 13 rfl ?_
 refine rn ?_;refine zex (fun hg1_6=> ?_) (fun hg1_6=> ?_)
 ·refine dq rfl rfl qrA ?_;refine dq rfl rfl qrA ?_;refine dq rfl rfl qrA ?_;refine dq rfl rfl (zcr (enc:=zcb) (k:=e.t) false rfl rfl) ?_
  refine rn ?_;refine rq 1 ?_
  exact ⟨rfl,by rw [hg1_6];rfl⟩
 ·refine rn ?_;refine rq 1 ?_
  exact ⟨rfl,by rw [hg1_6];rfl⟩
theorem yva (x:Int) (s:Ord) (b1:Nat):y8 Tryz.prog 160 [.agg (zcy s),pZ b1] [.box b1 3 [iv x]] (fun r h'=>h'= [.box b1 3 [iv x]]∧r=bv (s.o==x)):=by
 refine z6 Tryz.func160 rfl rfl rfl ?_
 refine rn ?_;refine z8 rfl (x9 rfl rfl rfl fun b2=> ?_)
 refine rn ?_;refine rq 1 ?_
 exact ⟨rfl,rfl⟩
theorem yca (h:Hist) (la:h.evs.length≤1000000) (W:List Res):y8 Tryz.prog 72 [.agg (x3 h)] W (fun r h'=>∃rm,h'= .map rm (zah zcb (zb4 bv (zl3 h.evs)))::W∧r=mpv rm):=by
 refine z6 Tryz.func72 rfl rfl rfl ?_
 refine rn ?_;refine z8 rfl (x9 rfl rfl rfl fun b1=> ?_)
 refine rn ?_;refine z8 rfl (zbf (enc:=zcb) rfl fun b6=> ?_)
 refine z8 rfl (y6 rfl fun b3=> ?_)
 refine rn ?_;refine z8 rfl (q7 rfl rfl (y3.of_fun (zwx h 5 _)) rfl ?_)
 rintro _ _ ⟨e1,e2,rfl,rfl⟩
 refine rn ?_;refine zim (s':=⟨[(8,.fn (.func 158) [] [pZ e1,pZ e2]),(3,pZ b3)],.box e1 28 (x3 h):: .box e2 3 [iv 5]:: .box b3 126 [mpv b6]:: .map b6 (zah zcb (zb4 bv (zl3 (h.evs.take 0)))):: .box b1 28 (x3 h)::W,[]⟩) es ?_
 refine znz (fun pend h''=>pend=none∧h''= .box b3 126 [mpv b6]:: .map b6 (zah zcb (zb4 bv (zl3 (h.evs.take h.evs.length)))):: .box b1 28 (x3 h)::W) rfl (fun fn l q lp hlp=> ?_) (fun q h'' hK=> ?_) (fun q h'' c hK=> ?_)
 ·suffices hy:∀k (x:Unit),(hk:k < h.evs.length)→True→(h.evs[k].kind==5)=true→y3 Tryz.prog (yv l) [iv k,.agg (evR h.evs[k])] (.box e1 28 (x3 h):: .box e2 3 [iv 5]::lp .ready none:: .defs q:: .box b3 126 [mpv b6]:: .map b6 (zah zcb (zb4 bv (zl3 (h.evs.take k)))):: .box b1 28 (x3 h)::W) (fun r h'=>∃x':Unit,(r=bv true∧True∧h'= .box e1 28 (x3 h):: .box e2 3 [iv 5]::lp .ready none:: .defs q:: .box b3 126 [mpv b6]:: .map b6 (zah zcb (zb4 bv (zl3 (h.evs.take (k+1))))):: .box b1 28 (x3 h)::W)∨(r=bv false∧False∧h'= .box e1 28 (x3 h):: .box e2 3 [iv 5]:: [])) by
   refine y8.mono (y8.perm ((pt2 _ _ _ _).trans (.cons _ (pt2 _ _ _ _))) (zr5 h la 5 (yv l) e1 e2 (fun _ _=>True) (fun _ _=>False) (fun k (_:Unit)=>lp .ready none:: .defs q:: .box b3 126 [mpv b6]:: .map b6 (zah zcb (zb4 bv (zl3 (h.evs.take k)))):: .box b1 28 (x3 h)::W) (fun _ _=> []) () trivial hy (fun k s hk _ hn=>⟨s,trivial,by rw [ysz hk hn]⟩))) ?_
   rintro _ _ (⟨s,_,rfl⟩|⟨_,_,hF,_⟩)
   ·exact ⟨none,.ready,_,.refl _,by simp,rfl,rfl⟩
   ·exact hF.elim
  intro k s hk _ hkd
  refine y3.perm (pt2 _ _ _ _) (y3.ventE ?_)
  refine zel hlp rfl rfl ?_
  refine rn ?_;refine z8 rfl (y6 rfl fun b5=> ?_)
  refine rn ?_;refine ⟨[(5,pZ b5),(3,pZ b3)],.box b5 66 (evR h.evs[k]):: .box e1 28 (x3 h):: .box e2 3 [iv 5]:: .defs q:: .box b3 126 [mpv b6]:: .map b6 (zah zcb (zb4 bv (zl3 (h.evs.take k)))):: .box b1 28 (x3 h)::W,w9 (zax (pt1 _ _ _)) es,?_⟩
  refine rn ?_;refine z8 rfl (zbp (g:=bv) (enc:=zcb) (k:=h.evs[k].t) (v:=true) rfl rfl rfl ?_)
  refine rn ?_;exact zir (.refl _) ⟨_,_,.trans (.perm ((pt1 _ _ _).trans (.cons _ ((pt1 _ _ _).trans (.cons _ (pt1 _ _ _))))) _) (.drop [_] _ _),(),.inl ⟨rfl,trivial,by rw [ysy hk hkd]⟩⟩
 ·obtain ⟨_,rfl⟩:=hK
  refine rn ?_;exact zia (.refl _) (.cons _ _ _ _ (.tmp _ _ rfl) .nil) (.trans (.drop1 _ _ _) (.trans (.perm (pt1 _ _ _) _) (.drop [_] _ _))) ⟨b6,by rw [List.take_length],rfl⟩
 ·obtain ⟨hc,_⟩:=hK
  exact absurd hc (by simp)
theorem yd0 {h:Hist} {n many:Int} (he:zkr h n many≠0) (X:List Int):(onE (zkr h n many) X).map j8= []:=by rw [onE,if_neg he];rfl
theorem ycl {α:Type} (kd:Int) (g:Ev→α) (q:Ev→Bool) (l:List Ev):zl1 (zq3 kd (fun _ e=>g e) (fun _ e=>q e)) l l.length=(l.filter fun e=>e.kind==kd && q e).map g:=yhm (fun _ _=>rfl) l
theorem yjh (h:Hist) (la:Lim 4611686018427387904 h) (n many:Int) (fv:AV) (hone:fv.cellsOf=some [fv]) (X:List Int) (W:List Res) (hp:zkr h n many=0→y3 Tryz.prog fv [] (.glob 3 148 x6:: .glob 5 276 x7:: .glob 6 279 y7:: .glob 2 197 u7::W) (fun r h'=>∃s:SV,h'= .row s.v 1 3 (X.map j8):: .glob 3 148 x6:: .glob 5 276 x7:: .glob 6 279 y7:: .glob 2 197 u7::W∧r= .v s.v)):y8 Tryz.prog 70 [.agg (x3 h),iv n,iv many,fv] (.glob 3 148 x6:: .glob 5 276 x7:: .glob 6 279 y7:: .glob 2 197 u7::W) (fun r h'=>∃s:SV,h'= .row s.v 1 3 ((onE (zkr h n many) X).map j8):: .glob 3 148 x6:: .glob 5 276 x7:: .glob 6 279 y7:: .glob 2 197 u7::W∧r= .tup [.v s.v,iv (zkr h n many)]):=by
 refine z6 Tryz.func70 rfl rfl rfl ?_
 refine rn ?_;refine z8 rfl (x9 rfl rfl rfl fun b4=> ?_)
 refine rn ?_;refine qv rfl rfl (y4 rfl rfl (y3.qt (y3.of_fun (zut h la)) ((pt1 _ _ _).trans (.cons _ ((pt1 _ _ _).trans (.cons _ ((pt1 _ _ _).trans (.cons _ (pt1 _ _ _))))))))) ?_
 refine rn ?_;refine z7 rfl (fun hc15=> ?_) (fun hc15=> ?_)
 ·have hc:v8 h≠0:=by simpa using hc15
  refine rn ?_;exact zbw rfl rfl (.trans (.drop [_] _ _) (zam 1 3 _)) ⟨⟨none,0,0⟩,by rw [yd0 (by rw [ytg hc];exact hc)];rfl,by rw [ytg hc];rfl⟩
 ·have hc:v8 h=0:=by simpa using hc15
  refine rn ?_;refine x4 (fun hg5_2=> ?_) (fun hg5_2=> ?_)
  ·refine rn ?_;refine zdi rfl ?_;have hn:¬(0≤n∧n < many):=by first|(have q:=oT hg5_2;omega)|(have q:=oT hc24;omega)
   refine rn ?_;exact zbw rfl rfl (.trans (.drop [_] _ _) (zam 1 3 _)) ⟨⟨none,0,0⟩,by rw [yd0 (by rw [yij hc hn];decide)];rfl,by rw [yij hc hn];rfl⟩
  ·refine rn ?_;refine z7 rfl (fun hc24=> ?_) (fun hc24=> ?_)
   ·have hn:¬(0≤n∧n < many):=by first|(have q:=oT hg5_2;omega)|(have q:=oT hc24;omega)
    refine rn ?_;exact zbw rfl rfl (.trans (.drop [_] _ _) (zam 1 3 _)) ⟨⟨none,0,0⟩,by rw [yd0 (by rw [yij hc hn];decide)];rfl,by rw [yij hc hn];rfl⟩
   ·have hn:0≤n∧n < many:=by have q:=oF hg5_2;have q':=oF hc24;omega
    refine rn ?_;refine z8 rfl (q7 rfl rfl (y3.fr1 (hp (ydz hc hn))) rfl ?_)
    rintro _ _ ⟨_,rfl,s,rfl,rfl⟩
    refine rn ?_;exact zbw rfl rfl (.drop [_] _ _) ⟨s,by rw [ydz hc hn];rfl,by rw [ydz hc hn];rfl⟩
theorem yd1 {h:Hist} {n many:Int} (he:zkr h n many=0):Lim 3000 h:=zpw (zf3 (yik he).1).1
theorem yot {h:Hist} {n many:Int} (he:zkr h n many=0):h.evs.length≤1000000:=Nat.le_trans (yd1 he).evs (by decide)
theorem zg1 {h:Hist} (he:v8 h=0):Lim 3000 h:=zpw (zf3 (zd3.1 he)).1
theorem yg5 (l:List Ev) (s:Int):zl1 (zq3 1 (fun _ e=>e.t) (fun _ e=>e.s==s && (zb6 e.t (zl3 l)).getD false)) l l.length=za0 l s:=by
 rw [ycl 1 Ev.t (fun e=>e.s==s && (zb6 e.t (zl3 l)).getD false),za0];simp only [zxb]
theorem ynh (l:List Ev) (x:Int):zl1 (zq3 2 (fun _ e=>e.t) (fun _ e=>e.o==x && (zb6 e.t (zl3 l)).getD false)) l l.length=yo8 l x:=by
 rw [ycl 2 Ev.t (fun e=>e.o==x && (zb6 e.t (zl3 l)).getD false),yo8];simp only [zxb]
theorem yq0 {h:Hist} {x:Int} (hc:decide (za9 (fun o:Ord=>o.o==x) 0 h.ords ≥ 0)=true):∃k,∃hk:k < h.ords.length,za9 (fun o:Ord=>o.o==x) 0 h.ords=(k:Int)∧zf1 h x=h.ords[k].ts:=by
 have:=zjv (fun o:Ord=>o.o==x) h.ords 0
 cases hf:h.ords.find? (fun o=>o.o==x) with
 |none=>rw [hf] at this;simp only at this;rw [this] at hc;exact absurd hc (by decide)
 |some o=>
  rw [hf] at this
  obtain ⟨k,hk,e,eo,_⟩:=this
  exact ⟨k,hk,by rw [e,Nat.zero_add],by rw [zf1,hf,eo]⟩
theorem yqz {h:Hist} {x:Int} (hc:decide (za9 (fun o:Ord=>o.o==x) 0 h.ords ≥ 0)=false):zf1 h x=zbv (yo8 h.evs x):=by
 have:=zjv (fun o:Ord=>o.o==x) h.ords 0
 cases hf:h.ords.find? (fun o=>o.o==x) with
 |none=>rw [zf1,hf]
 |some o=>
  rw [hf] at this
  obtain ⟨k,hk,e,eo,_⟩:=this
  rw [e] at hc
  have:=oF hc
  omega
theorem ynb (h:Hist) (la:h.evs.length≤1000000) (s:Int) (b2 b4:Nat):y8 Tryz.prog 71 [pZ b2,pZ b4] (.glob 3 148 x6:: .glob 5 276 x7:: .glob 6 279 y7:: .glob 2 197 u7:: .box b2 28 (x3 h):: .box b4 3 [iv s]:: []) (fun r h'=>∃s':SV,h'= .row s'.v 1 3 ((za0 h.evs s).map j8):: .glob 3 148 x6:: .glob 5 276 x7:: .glob 6 279 y7:: .glob 2 197 u7:: .box b2 28 (x3 h):: .box b4 3 [iv s]:: []∧r= .v s'.v):=by
 refine z6 Tryz.func71 rfl rfl rfl ?_
 refine rn ?_;refine z8 rfl (q7 rfl rfl (y3.of_fun (yca h la _)) rfl ?_)
 rintro _ _ ⟨rm,rfl,rfl⟩
 refine z8 rfl (y6 rfl fun b3=> ?_)
 refine rn ?_;refine z8 rfl (q7 rfl rfl (y3.of_fun (yjg h la 1 _ rfl _ (fun _ e=>e.t) (fun _ e=>e.s==s && (zb6 e.t (zl3 h.evs)).getD false) (fun k hk _=>y3.qt (y3.of_acall (fs:= []) (cs:= [pZ b4,pZ b3]) (ym9 k s h.evs[k] b4 b3 rm (zl3 h.evs))) (pt7 _ _ _ _ _ _ _ _ _)))) rfl ?_)
 rintro _ _ ⟨s',rfl,rfl⟩
 refine rn ?_;exact u9 rfl (.trans (.perm ((pt1 _ _ _).trans (.cons _ (pt1 _ _ _))) _) (.drop [_,_] _ _)) ⟨s',by rw [yg5],rfl⟩
theorem ync (h:Hist) (la:Lim 4611686018427387904 h) (n:Int):y8 Tryz.prog 28 [.agg (x3 h),iv n] (.glob 3 148 x6:: .glob 5 276 x7:: .glob 6 279 y7:: .glob 2 197 u7:: []) (fun r h'=>∃s:SV,h'= .row s.v 1 3 ((onE (zkr h n h.ss.length) (za0 h.evs n)).map j8):: .glob 3 148 x6:: .glob 5 276 x7:: .glob 6 279 y7:: .glob 2 197 u7:: []∧r= .tup [.v s.v,iv (zkr h n h.ss.length)]):=by
 refine z6 Tryz.func28 rfl rfl rfl ?_
 refine rn ?_;refine z8 rfl (x9 rfl rfl rfl fun b2=> ?_)
 refine z8 rfl (x9 rfl rfl rfl fun b3=> ?_)
 refine rn ?_;refine z8 rfl (q7 rfl rfl (y3.perm ((pt2 _ _ _ _).trans (.cons _ ((pt2 _ _ _ _).trans (.cons _ ((pt2 _ _ _ _).trans (.cons _ ((pt2 _ _ _ _).trans (.cons _ (pt1 _ _ _))))))))) (y3.of_fun (yjh h la n (h.ss.map za2).length (.fn (.func 71) [] [pZ b2,pZ b3]) rfl (za0 h.evs n) [.box b2 28 (x3 h),.box b3 3 [iv n]] (fun he=>y3.of_acall (fs:= []) (cs:= [pZ b2,pZ b3]) (ynb h (yot he) n b2 b3))))) rfl ?_)
 rintro _ _ ⟨s,rfl,rfl⟩
 refine rn ?_;exact zbw rfl rfl (.trans (.perm ((pt5 _ _ _ _ _ _ _).trans (.cons _ (pt5 _ _ _ _ _ _ _))) _) (.drop [_,_] _ _)) ⟨s,by simp only [oM],by simp only [oM];rfl⟩
theorem yrr (h:Hist) (la:Lim 4611686018427387904 h) (n:Int):y8 Tryz.prog 28 [.agg (x3 h),iv n] (.glob 3 148 x6:: .glob 5 276 x7:: .glob 6 279 y7:: .glob 2 197 u7:: []) (fun r h'=>h'= .glob 3 148 x6:: .glob 5 276 x7:: .glob 6 279 y7:: .glob 2 197 u7:: []∧r= .tup [zbz (onE (zkr h n h.ss.length) (za0 h.evs n)),iv (zkr h n h.ss.length)]):=
 (ync h la n).ventR (by rintro _ _ ⟨s,rfl,rfl⟩;exact ⟨_,_,zak [] [_],rfl,rfl⟩)
theorem yrv (h:Hist) (la:Lim 3000 h) (x:Int) (W:List Res):y8 Tryz.prog 122 [.agg (x3 h),iv x] W (fun r h'=>∃s:SV,h'= .row s.v 1 3 ((zf1 h x).map j8)::W∧r= .v s.v):=by
 refine z6 Tryz.func122 rfl rfl rfl ?_
 have le:h.evs.length≤1000000:=Nat.le_trans la.evs (by decide)
 have lo:=la.ords
 refine rn ?_;refine z8 rfl (x9 rfl rfl rfl fun b2=> ?_)
 refine z8 rfl (x9 rfl rfl rfl fun b3=> ?_)
 refine rn ?_;refine qv rfl rfl (y4 rfl rfl (y3.of_fun (zk5 h.ords _ (fun o:Ord=>o.o==x) _ (fun a _=>y3.qt (y3.of_acall (fs:= []) (cs:= [pZ b3]) (yva x a b3)) (.refl _)) (Nat.le_trans la.ords (by decide))))) ?_
 refine rn ?_;refine z7 rfl (fun hc13=> ?_) (fun hc13=> ?_)
 ·obtain ⟨k,hk,ek,hx⟩:=yq0 hc13
  have rk:=zaf (f:=zcy) hk
  rw [ek]
  refine rn ?_;refine z8 rfl (q7 rfl rfl (y3.fr (y3.rowS (y3.of_fun (zg0 (h.ords[k].ts.map j8) (by rw [oM];exact Nat.le_trans (la.ordts h.ords[k] (List.getElem_mem hk)) (by decide)) (ziv _)))) (.refl _)) rfl ?_)
  rintro _ _ ⟨_,rfl,s,rfl,rfl⟩
  refine rn ?_;exact u9 rfl (.trans (.perm ((pt1 _ _ _).trans (.cons _ (pt1 _ _ _))) _) (.drop [_,_] _ _)) ⟨s,by rw [hx],rfl⟩
 ·have hx:=yqz hc13
  refine rn ?_;refine z8 rfl (q7 rfl rfl (y3.of_fun (yca h le _)) rfl ?_)
  rintro _ _ ⟨rm,rfl,rfl⟩
  refine z8 rfl (y6 rfl fun b6=> ?_)
  refine rn ?_;refine z8 rfl (q7 rfl rfl (y3.of_fun (yjg h le 2 _ rfl _ (fun _ e=>e.t) (fun _ e=>e.o==x && (zb6 e.t (zl3 h.evs)).getD false) (fun k hk _=>y3.qt (y3.of_acall (fs:= []) (cs:= [pZ b3,pZ b6]) (yna k x h.evs[k] b3 b6 rm (zl3 h.evs))) (pt2 _ _ _ _)))) rfl ?_)
  rintro _ _ ⟨s,rfl,rfl⟩
  refine rn ?_;refine z8 rfl (q7 rfl rfl (zat (y3.of_fun (yoh s _ (by have:=(zqb (zq3 2 (fun _ e=>e.t) (fun _ e=>e.o==x && (zb6 e.t (zl3 h.evs)).getD false)) h.evs h.evs.length);omega)))) rfl ?_)
  rintro _ _ ⟨s',rfl,rfl⟩
  refine rn ?_;exact u9 rfl (.trans (.perm ((pt1 _ _ _).trans (.cons _ ((pt1 _ _ _).trans (.cons _ ((pt1 _ _ _).trans (.cons _ (pt1 _ _ _))))))) _) (.drop [_,_,_,_] _ _)) ⟨s',by rw [hx,ynh],rfl⟩
theorem yru (h:Hist) (la:Lim 3000 h) (x:Int) (b2 b3:Nat):y8 Tryz.prog 121 [pZ b2,pZ b3] (.glob 3 148 x6:: .glob 5 276 x7:: .glob 6 279 y7:: .glob 2 197 u7:: .box b2 28 (x3 h):: .box b3 3 [iv x]:: []) (fun r h'=>∃s:SV,h'= .row s.v 1 3 ((zf1 h x).map j8):: .glob 3 148 x6:: .glob 5 276 x7:: .glob 6 279 y7:: .glob 2 197 u7:: .box b2 28 (x3 h):: .box b3 3 [iv x]:: []∧r= .v s.v):=by
 refine z6 Tryz.func121 rfl rfl rfl ?_
 refine rn ?_;refine z8 rfl (q7 rfl rfl (y3.of_fun (yrv h la x _)) rfl ?_)
 rintro _ _ ⟨s,rfl,rfl⟩
 refine rn ?_;exact u9 rfl (.refl _ _) ⟨s,rfl,rfl⟩
theorem ynd (h:Hist) (la:Lim 4611686018427387904 h) (x:Int):y8 Tryz.prog 75 [.agg (x3 h),iv x] (.glob 3 148 x6:: .glob 5 276 x7:: .glob 6 279 y7:: .glob 2 197 u7:: []) (fun r h'=>∃s:SV,h'= .row s.v 1 3 ((onE (zkr h x h.os.length) (zf1 h x)).map j8):: .glob 3 148 x6:: .glob 5 276 x7:: .glob 6 279 y7:: .glob 2 197 u7:: []∧r= .tup [.v s.v,iv (zkr h x h.os.length)]):=by
 refine z6 Tryz.func75 rfl rfl rfl ?_
 refine rn ?_;refine z8 rfl (x9 rfl rfl rfl fun b2=> ?_)
 refine z8 rfl (x9 rfl rfl rfl fun b3=> ?_)
 refine rn ?_;refine z8 rfl (q7 rfl rfl (y3.perm ((pt2 _ _ _ _).trans (.cons _ ((pt2 _ _ _ _).trans (.cons _ ((pt2 _ _ _ _).trans (.cons _ ((pt2 _ _ _ _).trans (.cons _ (pt1 _ _ _))))))))) (y3.of_fun (yjh h la x (h.os.map za2).length (.fn (.func 121) [] [pZ b2,pZ b3]) rfl (zf1 h x) [.box b2 28 (x3 h),.box b3 3 [iv x]] (fun he=>y3.of_acall (fs:= []) (cs:= [pZ b2,pZ b3]) (yru h (yd1 he) x b2 b3))))) rfl ?_)
 rintro _ _ ⟨s,rfl,rfl⟩
 refine rn ?_;exact zbw rfl rfl (.trans (.perm ((pt5 _ _ _ _ _ _ _).trans (.cons _ (pt5 _ _ _ _ _ _ _))) _) (.drop [_,_] _ _)) ⟨s,by simp only [oM],by simp only [oM];rfl⟩
theorem yrs (h:Hist) (la:Lim 4611686018427387904 h) (x:Int):y8 Tryz.prog 75 [.agg (x3 h),iv x] (.glob 3 148 x6:: .glob 5 276 x7:: .glob 6 279 y7:: .glob 2 197 u7:: []) (fun r h'=>h'= .glob 3 148 x6:: .glob 5 276 x7:: .glob 6 279 y7:: .glob 2 197 u7:: []∧r= .tup [zbz (onE (zkr h x h.os.length) (zf1 h x)),iv (zkr h x h.os.length)]):=
 (ynd h la x).ventR (by rintro _ _ ⟨s,rfl,rfl⟩;exact ⟨_,_,zak [] [_],rfl,rfl⟩)
theorem yb3 (l:List Ev) (t x:Int):∀k,k≤l.length→zb6 (t,x) (zq2 (l.take k))=(zhn l t x k).map Prod.fst
 |0,_=>rfl
 |k+1,hk=>by
  have ih:=yb3 l t x k (by omega)
  rw [List.take_succ_eq_append_getElem hk,zej,zhn,List.getElem?_eq_getElem hk]
  simp only
  by_cases hw:zbn t x l[k]=true
  ·obtain ⟨h2,ht,hx⟩:=zf2.1 hw
   rw [if_pos (by simpa using h2),zcp,if_pos (by rw [kTO,ht,hx]),if_pos hw];rfl
  ·rw [if_neg hw]
   by_cases h2:l[k].kind=2
   ·rw [if_pos (by simpa using h2),zcp,if_neg,ih]
    intro e
    rw [kTO,Prod.mk.injEq] at e
    exact hw (zf2.2 ⟨h2,e.1,e.2⟩)
   ·rw [if_neg (by simpa using h2),ih]
theorem ym5 (h:Hist) (t x:Int):(zb6 (t,x) (zq2 h.evs)).getD ⟨0,0⟩=zlf h x t:=by
 have:=yb3 h.evs t x h.evs.length (Nat.le_refl _)
 rw [List.take_length] at this
 rw [this,zlf,zw7]
 cases zhn h.evs t x h.evs.length <;> rfl
abbrev rkS (h:Hist) (rk:Nat):Res:= .map rk (zah zfw (zb4 iv (rkM h h.os.length)))
theorem yul (h:Hist) (n:Nat):rkM h (n+1)=zh9 h n 0 ((zf1 h n).take (zf1 h n).length) (zfn (zs7 n ⟨0,0⟩) 0 (rkM h n)):=by rw [List.take_length];rfl
theorem yr0 {h:Hist} (hc:v8 h=0) {x:Int} (h0:0≤x) (h1:x < h.os.length):(zf1 h x).length≤3000:=by
 rw [(zm2 (zd3.1 hc) h0 h1).2.1]
 exact Nat.le_trans (zj4 h.evs x) (zg1 hc).evs
theorem yrn {h:Hist} {j:Nat} (hj:j < h.evs.length) (hw:(h.evs[j].kind==2)=true):zq2 (h.evs.take (j+1))=zfn (h.evs[j].t,h.evs[j].o) h.evs[j].v (zq2 (h.evs.take j)):=by
 rw [List.take_succ_eq_append_getElem hj,zej,if_pos hw];rfl
theorem yro {h:Hist} {j:Nat} (hj:j < h.evs.length) (hw:(h.evs[j].kind==2)=false):zq2 (h.evs.take (j+1))=zq2 (h.evs.take j):=by
 rw [List.take_succ_eq_append_getElem hj,zej,hw];rfl
theorem yef {h:Hist} {t kd:Int} {k:Nat} {e:Ev} {r:Int} (ht:e.t=t) (hk:e.kind=kd) (hr:zs8 h e.o e.v=some r):zno h t kd k e= [⟨e.o,r,k⟩]:=by
 rw [zno,if_pos (by simp [ht,hk]),hr]
theorem zxq {h:Hist} {t kd:Int} {k:Nat} {e:Ev} (hn:¬(e.t=t∧e.kind=kd)):zno h t kd k e= []:=by
 rw [zno,if_neg];intro q;rw [Bool.and_eq_true,beq_iff_eq,beq_iff_eq] at q;exact hn q
theorem ykc {h:Hist} {t kd:Int} {k:Nat} {e:Ev} (hr:zs8 h e.o e.v=none):zno h t kd k e= []:=by
 rw [zno];split
 ·rw [hr]
 ·rfl
theorem zin {h:Hist} {t kd:Int} {k:Nat} (hk:k < h.evs.length):zqv h t kd (k+1)=zqv h t kd k++zno h t kd k h.evs[k]:=by rw [zqv,List.getElem?_eq_getElem hk]
theorem yip (h:Hist) (t kd:Int) (k:Nat) (e:Ev):(zno h t kd k e).length≤1:=by
 rw [zno];split
 ·split <;> simp
 ·simp
theorem zfo (h:Hist) (t kd:Int):∀k,(zqv h t kd k).length≤k
 |0=>Nat.le_refl _
 |k+1=>by
  have h1:=zfo h t kd k
  rw [zqv,List.length_append]
  split
  ·have h2:=yip h t kd k
   rename_i e _
   have:=h2 e;omega
  ·simp;omega
theorem ytm {h:Hist} {t kd:Int} {a:Acc} (ha:a∈zn0 h t kd):0≤a.o∧a.o < h.os.length:=by
 obtain ⟨k,hk,_,_,ho,_,hr⟩:=yed ha
 by_cases q:((h.os.length:Nat):Int)≤h.evs[k].o∨h.evs[k].o < 0
 ·rw [zs8,ztt h _ _ _ q] at hr;cases hr
 ·rw [ho];omega
structure Dos where
 t:Int
 A:List Acc
 B:List Acc
abbrev zhx (l:List Acc):AV:= .list false 3 (l.map accR)
abbrev zcu (d:Dos):List AV:= [iv d.t,zhx d.A,zhx d.B]
abbrev zfe (l:List Dos):AV:= .list false 3 (l.map zcu)
def zu0 (h:Hist) (t:Int):Dos:=⟨t,zn6 h.os.length (zn0 h t 3),zn6 h.os.length (zn0 h t 2)⟩
def zao (h:Hist) (s:Int):List Dos:=(za0 h.evs s).map (zu0 h)
def ze4 (h:Hist) (s:Int):Int:=zkr h s h.ss.length
def yg6 (h:Hist) (s:Int):List Dos:=if ze4 h s=0 then zao h s else []
theorem zlx (h:Hist) (s:Int):(za0 h.evs s).length≤h.evs.length:=by
 rw [za0,oM];exact List.length_filter_le _ _
theorem ym4 {h:Hist} {s:Int} (he:ze4 h s≠0):yg6 h s= []:=if_neg he
theorem zun {h:Hist} {s:Int} (he:ze4 h s=0):yg6 h s=zao h s:=if_pos he
instance:Chk3 Tryz.prog 139:=⟨fun e w a b c=>by kernel_rfl⟩
theorem yrt (h:Hist) (la:Lim 4611686018427387904 h) (hc:v8 h=0) (x:Int) (h0:0≤x) (h1:x < h.os.length):y8 Tryz.prog 75 [.agg (x3 h),iv x] (.glob 3 148 x6:: .glob 5 276 x7:: .glob 6 279 y7:: .glob 2 197 u7:: []) (fun r h'=>h'= .glob 3 148 x6:: .glob 5 276 x7:: .glob 6 279 y7:: .glob 2 197 u7:: []∧r= .tup [zbz (zf1 h x),iv 0]):=(yrs h la x).mono fun _ _ q=>⟨q.1,by rw [q.2,ydz hc ⟨h0,h1⟩];rfl⟩
theorem yfi (h:Hist) (la:Lim 4611686018427387904 h) (hc:v8 h=0):y8 Tryz.prog 117 [.agg (x3 h)] (.glob 3 148 x6:: .glob 5 276 x7:: .glob 6 279 y7:: .glob 2 197 u7:: []) (fun r h'=>∃rk,h'=rkS h rk:: .glob 3 148 x6:: .glob 5 276 x7:: .glob 6 279 y7:: .glob 2 197 u7:: []∧r=mpv rk):=by
 refine z6 Tryz.func117 rfl rfl rfl ?_
 have lA:=zg1 hc
 have lO:=lA.os
 have lE:=lA.evs
 refine rn ?_;refine z8 rfl (x9 rfl rfl rfl fun b1=> ?_)
 refine rn ?_;refine z8 rfl (zbf (enc:=zfw) rfl fun bO=> ?_)
 refine rn ?_;refine z8 rfl (zbf (enc:=zee) rfl fun bL=> ?_)
 refine rn ?_;refine zbu h.evs.length (fun _=>True) (fun j=>⟨[(17,iv j),(1,pZ b1),(3,mpv bO),(4,mpv bL),(15,zlg h.evs),(16,iv (h.evs.map evR).length)],.map bL (zah zee (zb4 zxu (zq2 (h.evs.take j)))):: .map bO (zah zfw (zb4 iv [])):: .box b1 28 (x3 h):: .glob 3 148 x6:: .glob 5 276 x7:: .glob 6 279 y7:: .glob 2 197 u7:: [],[]⟩) trivial es ?_
 intro j lj _
 refine rn ?_;refine z7 rfl (fun hc18=> ?_) (fun hc18=> ?_)
 ·have hj:=zan hc18
  have rj:=zaf (f:=evR) hj
  refine rn ?_;refine z8 rfl (y6 rfl fun b6=> ?_)
  refine rn ?_;refine z7 rfl (fun hc23=> ?_) (fun hc23=> ?_)
  ·have hw:(h.evs[j].kind==2)=true:=by simpa using hc23
   refine y5 ?_;refine q1 ?_;refine q1 ?_;refine q1 ?_;refine q1 ?_;refine q1 ?_;refine qq rfl rfl (zgq (out:= [iv h.evs[j].t,iv h.evs[j].o]) rfl (by rfl)) ?_
   refine rn ?_;refine z8 rfl (zbp (g:=zxu) (enc:=zee) (k:=(h.evs[j].t,h.evs[j].o)) (v:=h.evs[j].v) rfl rfl rfl ?_)
   refine rn ?_;exact ⟨hj,trivial,by rw [yrn hj hw];exact eA⟩
  ·have hw:(h.evs[j].kind==2)=false:=by simpa using hc23
   refine rn ?_;exact ⟨hj,trivial,by rw [yro hj hw];exact eA⟩
 ·have qj:=zap hc18 lj
  subst qj
  rw [List.take_length]
  refine rn ?_;refine zbu h.os.length (fun _=>True) (fun k=>⟨[(36,iv k),(1,pZ b1),(3,mpv bO),(4,mpv bL),(35,iv (h.os.map za2).length)],.map bL (zah zee (zb4 zxu (zq2 h.evs))):: .map bO (zah zfw (zb4 iv (rkM h k))):: .box b1 28 (x3 h):: .glob 3 148 x6:: .glob 5 276 x7:: .glob 6 279 y7:: .glob 2 197 u7:: [],[]⟩) trivial es ?_
  intro k lk _
  refine rn ?_;refine z7 rfl (fun hc37=> ?_) (fun hc37=> ?_)
  ·have hk:k < h.os.length:=by have q:=oT hc37;rw [oM] at q;omega
   have k0:(0:Int)≤(k:Int):=by omega
   have k1:(k:Int) < h.os.length:=by omega
   have hb:=yr0 hc k0 k1
   refine zad ?_;refine j7 ?_;refine x8 ?_;refine zaj ?_;refine x8 (y5 ?_)
   refine q1 ?_;refine q1 ?_;refine u0 (j7 ?_)
   refine x8 (y5 ?_)
   refine q1 ?_;refine q1 ?_;refine qq rfl rfl (zag (out:= [iv k,iv 0,iv 0]) rfl (by rfl)) ?_
   refine z8 rfl (zbp (g:=iv) (enc:=zfw) (k:=((k:Int),(0:Int),(0:Int))) (v:=(0:Int)) rfl rfl rfl ?_)
   refine rn ?_;refine qv rfl rfl (y4 rfl rfl (y3.qt (y3.of_fun (yrt h la hc k k0 k1)) ((pt3 _ _ _ _ _).trans (.cons _ ((pt3 _ _ _ _ _).trans (.cons _ ((pt3 _ _ _ _ _).trans (.cons _ (pt3 _ _ _ _ _))))))))) ?_
   refine rn ?_;refine zbu (zf1 h k).length (fun _=>True) (fun j=>⟨[(50,iv j),(1,pZ b1),(3,mpv bO),(4,mpv bL),(7,iv k),(35,iv (h.os.map za2).length),(36,iv k),(48,zbz (zf1 h k)),(49,iv ((zf1 h k).map j8).length)],.map bL (zah zee (zb4 zxu (zq2 h.evs))):: .map bO (zah zfw (zb4 iv (zh9 h k 0 ((zf1 h k).take j) (zfn (zs7 k ⟨0,0⟩) 0 (rkM h k))))):: .box b1 28 (x3 h):: .glob 3 148 x6:: .glob 5 276 x7:: .glob 6 279 y7:: .glob 2 197 u7:: [],[]⟩) trivial es ?_
   intro j lj _
   refine rn ?_;refine z7 rfl (fun hc51=> ?_) (fun hc51=> ?_)
   ·have hj:=zan hc51
    have rj:=zaf (f:=j8) hj
    refine zad ?_;refine j7 ?_;refine x8 ?_;refine zaj ?_;refine x8 (y5 ?_)
    refine q1 ?_;refine q1 ?_;refine q1 ?_;refine q1 ?_;refine q1 ?_;refine u0 (j7 ?_)
    refine y5 ?_;refine q1 ?_;refine q1 ?_;refine q1 ?_;refine q1 ?_;refine q1 ?_;refine qq rfl rfl (zgq (out:= [iv (zf1 h k)[j],iv k]) rfl (by rfl)) ?_
    refine qq rfl rfl (zby (zcr (g:=zxu) (enc:=zee) (k:=((zf1 h k)[j],(k:Int))) (⟨0,0⟩:Ver) rfl rfl) (show zxu _=zxu (zlf h k (zf1 h k)[j]) from congrArg zxu (ym5 h (zf1 h k)[j] k))) ?_
    refine qq rfl rfl (zag (out:= [iv k,iv (zlf h k (zf1 h k)[j]).t,iv (zlf h k (zf1 h k)[j]).k]) rfl (by rfl)) ?_
    refine q1 ?_;refine qq rfl rfl (k9 rfl rfl rfl (by omega)) ?_
    refine z8 rfl (zbp (g:=iv) (enc:=zfw) (k:=((k:Int),(zlf h k (zf1 h k)[j]).t,(zlf h k (zf1 h k)[j]).k)) (v:=(j:Int)+1) rfl rfl rfl ?_)
    refine rn ?_;exact ⟨hj,trivial,by rw [ylu hj];exact eA⟩
   ·have qj:=zap hc51 lj
    rw [qj,List.take_length]
    refine rn ?_;exact ⟨hk,trivial,by rw [yul,List.take_length];exact eA⟩
  ·have qk:k=h.os.length:=by have q:=oF hc37;rw [oM] at q;omega
   refine rn ?_;exact u9 rfl (.trans (.perm (.cons _ (pt1 _ _ _)) _) (.drop [_,_] _ _)) ⟨bO,by rw [qk],rfl⟩
theorem yuh (h:Hist) (la:Lim 4611686018427387904 h) (hc:v8 h=0) (t:Int) (rO:Nat) (W:List Res):y8 Tryz.prog 118 [.agg (x3 h),iv t,mpv rO] (rkS h rO::W) (fun r h'=>h'=rkS h rO::W∧r= .agg (zcu (zu0 h t))):=by
 refine z6 Tryz.func118 rfl rfl rfl ?_
 have lA:=zg1 hc
 have lO:=lA.os
 have lE:=lA.evs
 refine rn ?_;refine z8 rfl (x9 rfl rfl rfl fun b3=> ?_)
 refine z8 rfl (y6 rfl fun b6=> ?_)
 refine rn ?_;refine z8 rfl (y6 rfl fun b7=> ?_)
 refine rn ?_;refine zes h.evs.length (fun _ (_:SV×SV)=>True) (fun k z=>⟨[(19,iv k),(1,iv t),(2,mpv rO),(6,pZ b6),(7,pZ b7),(17,zlg h.evs),(18,iv (h.evs.map evR).length)],.row z.1.v 3 178 ((zqv h t 3 k).map accR):: .row z.2.v 3 178 ((zqv h t 2 k).map accR):: .box b7 121 [iv t,.v z.1.v,.v z.2.v]:: .box b6 121 [iv 0,.v (.slice none 0 0),.v (.slice none 0 0)]:: .box b3 28 (x3 h)::rkS h rO::W,[]⟩) (⟨none,0,0⟩,⟨none,0,0⟩) trivial (w9 (k6 3 178) (w9 (k6 3 178) es)) ?_
 rintro k ⟨sR,sI⟩ lk -
 show aw _ _ _ _ _ ⟨[(19,iv k),(1,iv t),(2,mpv rO),(6,pZ b6),(7,pZ b7),(17,zlg h.evs),(18,iv (h.evs.map evR).length)],.row sR.v 3 178 ((zqv h t 3 k).map accR):: .row sI.v 3 178 ((zqv h t 2 k).map accR):: .box b7 121 [iv t,.v sR.v,.v sI.v]:: .box b6 121 [iv 0,.v (.slice none 0 0),.v (.slice none 0 0)]:: .box b3 28 (x3 h)::rkS h rO::W,[]⟩
 refine rn ?_;refine z7 rfl (fun hc20=> ?_) (fun hc20=> ?_)
 ·have hk:=zan hc20
  have rk:=zaf (f:=evR) hk
  refine rn ?_;refine z8 rfl (y6 rfl fun b9=> ?_)
  refine rn0 ?_;refine x8 ?_;refine zhw (⟨[(37,bv (h.evs[k].t !=t||(h.evs[k].kind !=3 && h.evs[k].kind !=2))),(8,iv k),(9,pZ b9),(19,iv k),(1,iv t),(2,mpv rO),(6,pZ b6),(7,pZ b7),(17,zlg h.evs),(18,iv (h.evs.map evR).length)],.box b9 66 (evR h.evs[k]):: .row sR.v 3 178 ((zqv h t 3 k).map accR):: .row sI.v 3 178 ((zqv h t 2 k).map accR):: .box b7 121 [iv t,.v sR.v,.v sI.v]:: .box b6 121 [iv 0,.v (.slice none 0 0),.v (.slice none 0 0)]:: .box b3 28 (x3 h)::rkS h rO::W,[]⟩) ?_ ?_
  ·refine rn ?_;refine x4 (fun hg5_4=> ?_) (fun hg5_4=> ?_)
   ·refine rn ?_;first|(rw [hg5_4,Bool.true_or];exact eA)|(rw [hg5_4,Bool.false_or,hg5_8,Bool.true_and];exact eA)|(rw [hg5_4,Bool.false_or,hg5_8,Bool.false_and];exact eA)
   ·refine rn ?_;refine x4 (fun hg5_8=> ?_) (fun hg5_8=> ?_)
    ·refine rn ?_;first|(rw [hg5_4,Bool.true_or];exact eA)|(rw [hg5_4,Bool.false_or,hg5_8,Bool.true_and];exact eA)|(rw [hg5_4,Bool.false_or,hg5_8,Bool.false_and];exact eA)
    ·refine rn ?_;first|(rw [hg5_4,Bool.true_or];exact eA)|(rw [hg5_4,Bool.false_or,hg5_8,Bool.true_and];exact eA)|(rw [hg5_4,Bool.false_or,hg5_8,Bool.false_and];exact eA)
  ·refine z7 rfl (fun hc37=> ?_) (fun hc37=> ?_)
   ·have hn3:zno h t 3 k h.evs[k]= []:=zxq (by rintro ⟨e1,e2⟩;have q:=hc37;rw [e1,e2] at q;simp at q)
    have hn2:zno h t 2 k h.evs[k]= []:=zxq (by rintro ⟨e1,e2⟩;have q:=hc37;rw [e1,e2] at q;simp at q)
    refine rn ?_;exact ⟨hk,(sR,sI),trivial,by rw [zin hk,zin hk,hn3,hn2,List.append_nil,List.append_nil];exact eA⟩
   ·have q:=hc37
    rw [Bool.or_eq_false_iff,Bool.and_eq_false_iff] at q
    have ht:h.evs[k].t=t:=by simpa using q.1
    have hkk:h.evs[k].kind=3∨h.evs[k].kind=2:=by simpa using q.2
    refine zad ?_;refine j7 ?_;refine x8 (y5 ?_)
    refine q1 ?_;refine q1 ?_;refine q1 ?_;refine q1 ?_;refine q1 ?_;refine qq rfl rfl (zag (out:= [iv h.evs[k].o,iv h.evs[k].v.t,iv h.evs[k].v.k]) rfl (by rfl)) ?_
    refine qq rfl rfl (zrr (g:=iv) (enc:=zfw) (k:=(h.evs[k].o,h.evs[k].v.t,h.evs[k].v.k)) (0:Int) rfl rfl rfl) ?_
    refine q1 ?_;refine q1 ?_;refine q1 ?_;refine q1 ?_;refine q1 ?_;refine u0 (j7 ?_)
    refine x8 (y5 ?_)
    refine q1 ?_;refine q1 ?_;refine q1 ?_;refine q1 ?_;refine qq rfl rfl (zag (out:= [iv h.evs[k].o,iv ((zb6 (h.evs[k].o,h.evs[k].v.t,h.evs[k].v.k) (rkM h h.os.length)).getD 0),iv k]) rfl (by rfl)) ?_
    refine z8 rfl (y6 rfl fun b12=> ?_)
    refine rn ?_;refine z7 rfl (fun hc59=> ?_) (fun hc59=> ?_)
    ·have hr:zs8 h h.evs[k].o h.evs[k].v=none:=by
      have q:(zb6 (h.evs[k].o,h.evs[k].v.t,h.evs[k].v.k) (rkM h h.os.length)).isSome=false:=by simpa using hc59
      exact Option.isNone_iff_eq_none.1 (by rw [←Option.not_isSome];show (!(zb6 (h.evs[k].o,h.evs[k].v.t,h.evs[k].v.k) (rkM h h.os.length)).isSome)=true;rw [q];rfl)
     have hn3:zno h t 3 k h.evs[k]= []:=ykc hr
     have hn2:zno h t 2 k h.evs[k]= []:=ykc hr
     refine rn ?_;exact ⟨hk,(sR,sI),trivial,by rw [zin hk,zin hk,hn3,hn2,List.append_nil,List.append_nil];exact eA⟩
    ·obtain ⟨r0,hr⟩:∃r,(zb6 (h.evs[k].o,h.evs[k].v.t,h.evs[k].v.k) (rkM h h.os.length))=some r:=Option.isSome_iff_exists.1 (by simpa using hc59)
     have hr':zs8 h h.evs[k].o h.evs[k].v=some r0:=hr
     rw [hr,Option.getD_some,Option.isSome_some]
     refine rn ?_;refine z7 rfl (fun hc62=> ?_) (fun hc62=> ?_)
     ·have h3:h.evs[k].kind=3:=by simpa using hc62
      have hn3:zno h t 3 k h.evs[k]= [⟨h.evs[k].o,r0,k⟩]:=yef ht h3 hr'
      have hn2:zno h t 2 k h.evs[k]= []:=zxq (fun q=>by rw [h3] at q;exact absurd q.2 (by decide))
      refine rn ?_;refine qv rfl rfl (q8 rfl rfl) ?_
      refine z8 rfl (u6 rfl rfl (by simp only [oM,List.length_cons,List.length_nil];have:=zfo h t 3 k;omega) rfl (fun s70=> ?_) (fun r hr=>by rw [List.mem_singleton.1 hr];rfl))
      refine zaa s70 fun sv hsv=> ?_
      subst hsv
      refine rn ?_;exact ⟨hk,(sv,sI),trivial,by rw [zin hk,zin hk,hn3,hn2,List.append_nil,List.map_append];exact eA⟩
     ·have h3:h.evs[k].kind=2:=hkk.resolve_left (by simpa using hc62)
      have hn2:zno h t 2 k h.evs[k]= [⟨h.evs[k].o,r0,k⟩]:=yef ht h3 hr'
      have hn3:zno h t 3 k h.evs[k]= []:=zxq (fun q=>by rw [h3] at q;exact absurd q.2 (by decide))
      refine rn ?_;refine qv rfl rfl (q8 rfl rfl) ?_
      refine z8 rfl (u6 rfl rfl (by simp only [oM,List.length_cons,List.length_nil];have:=zfo h t 2 k;omega) rfl (fun s57=> ?_) (fun r hr=>by rw [List.mem_singleton.1 hr];rfl))
      refine zaa s57 fun sv hsv=> ?_
      subst hsv
      refine rn ?_;exact ⟨hk,(sR,sv),trivial,by rw [zin hk,zin hk,hn3,hn2,List.append_nil,List.map_append];exact eA⟩
 ·have qk:=zap hc20 lk
  subst qk
  refine rn ?_;refine z8 rfl (q7 rfl rfl (zh7 (y3.of_fun (ypt sR h.os.length (zn0 h t 3) (fun a ha=>ytm ha) (by omega) (by have:=zfo h t 3 h.evs.length;show (zqv h t 3 h.evs.length).length≤_;omega)))) rfl ?_)
  rintro _ _ ⟨rfl,rfl⟩
  refine rn ?_;refine z8 rfl (q7 rfl rfl (zh7 (y3.of_fun (ypt sI h.os.length (zn0 h t 2) (fun a ha=>ytm ha) (by omega) (by have:=zfo h t 2 h.evs.length;show (zqv h t 2 h.evs.length).length≤_;omega)))) rfl ?_)
  rintro _ _ ⟨rfl,rfl⟩
  refine u0 (j7 ?_)
  refine x8 (y5 ?_)
  refine zqt (w9 (zax (.cons _ (pt1 _ _ _))) (w9 (zik [iv t] [.v sI.v]) (w9 (zax (pt1 _ _ _)) (zik [iv t,zhx (zn6 h.os.length (zn0 h t 3))] [])))) ?_
  refine rn ?_;exact ze0 (.cons _ _ _ _ (.agg _ _ _ _ _ _ _ rfl inferInstance inferInstance inferInstance rfl) .nil) (.drop [_,_,_] _ _) ⟨rfl,rfl⟩
theorem yfj (h:Hist) (la:Lim 4611686018427387904 h) (s:Int):y8 Tryz.prog 65 [.agg (x3 h),iv s] (.glob 3 148 x6:: .glob 5 276 x7:: .glob 6 279 y7:: .glob 2 197 u7:: []) (fun r h'=>∃v:SV,h'= .row v.v 3 121 ((yg6 h s).map zcu):: .glob 3 148 x6:: .glob 5 276 x7:: .glob 6 279 y7:: .glob 2 197 u7:: []∧r= .tup [.v v.v,iv (ze4 h s)]):=by
 refine z6 Tryz.func65 rfl rfl rfl ?_
 refine rn ?_;refine z8 rfl (x9 rfl rfl rfl fun b2=> ?_)
 refine rn ?_;refine qv rfl rfl (y4 rfl rfl (y3.qt (y3.of_fun (yrr h la s)) ((pt1 _ _ _).trans (.cons _ ((pt1 _ _ _).trans (.cons _ ((pt1 _ _ _).trans (.cons _ (pt1 _ _ _))))))))) ?_
 refine rn ?_;refine z7 rfl (fun hc19=> ?_) (fun hc19=> ?_)
 ·have he:ze4 h s≠0:=nzT hc19
  refine rn ?_;exact zbw rfl rfl (.trans (.drop [_] _ _) (zam 3 121 _)) ⟨⟨none,0,0⟩,by rw [ym4 he];rfl,rfl⟩
 ·have he:ze4 h s=0:=nzF hc19
  have hc:v8 h=0:=zd3.2 (yik he).1
  have lE:=(zg1 hc).evs
  have lL:=zlx h s
  rw [show onE (zkr h s h.ss.length) (za0 h.evs s)=(za0 h.evs s) by rw [show zkr h s h.ss.length=0 from he,onE,if_pos rfl]]
  refine rn ?_;refine z8 rfl (q7 rfl rfl (y3.fr1 (y3.of_fun (yfi h la hc))) rfl ?_)
  rintro _ _ ⟨_,rfl,rO,rfl,rfl⟩
  refine rn ?_;refine zet (za0 h.evs s).length (fun k v=>⟨[(25,iv k),(9,.v v.v),(2,pZ b2),(8,mpv rO),(23,zbz (za0 h.evs s)),(24,iv ((za0 h.evs s).map j8).length)],.row v.v 3 121 ((((za0 h.evs s).take k).map (zu0 h)).map zcu):: .box b2 28 (x3 h)::rkS h rO:: .glob 3 148 x6:: .glob 5 276 x7:: .glob 6 279 y7:: .glob 2 197 u7:: [],[]⟩) ⟨none,0,0⟩ (w9 (k6 3 121) es) ?_
  intro k v lk
  refine rn ?_;refine z7 rfl (fun hc26=> ?_) (fun hc26=> ?_)
  ·have hk:=zan hc26
   have rk:=zaf (f:=j8) hk
   refine rn ?_;refine qv rfl rfl (y4 rfl rfl (y3.qt (y3.of_fun (yuh h la hc (za0 h.evs s)[k] rO [])) (pt2 _ _ _ _))) ?_
   refine qv rfl rfl (q8 rfl rfl) ?_
   refine z8 rfl (u6 rfl rfl (by simp only [oM,List.length_cons,List.length_nil];have:=List.length_take_le k (za0 h.evs s);omega) rfl (fun s35=> ?_) (fun r hr=>by rw [List.mem_singleton.1 hr];rfl))
   refine zaa s35 fun sv hsv=> ?_
   subst hsv
   refine rn ?_;exact ⟨hk,sv,by rw [List.take_succ_eq_append_getElem hk,List.map_append,List.map_append];exact eA⟩
  ·have qk:=zap hc26 lk
   subst qk
   rw [List.take_length]
   refine rn ?_;exact zbw rfl rfl (.trans (.perm ((pt1 _ _ _).trans (.cons _ (pt1 _ _ _))) _) (.drop [_,_] _ _)) ⟨v,by rw [zun he];rfl,by rw [he];rfl⟩
theorem yae (h:Hist) (la:Lim 4611686018427387904 h) (s:Int):y8 Tryz.prog 65 [.agg (x3 h),iv s] (.glob 3 148 x6:: .glob 5 276 x7:: .glob 6 279 y7:: .glob 2 197 u7:: []) (fun r h'=>h'= .glob 3 148 x6:: .glob 5 276 x7:: .glob 6 279 y7:: .glob 2 197 u7:: []∧r= .tup [zfe (yg6 h s),iv (ze4 h s)]):=(yfj h la s).ventR (by rintro _ _ ⟨v,rfl,rfl⟩;exact ⟨_,_,zak [] [_],rfl,rfl⟩)
abbrev yhp:AV:= .fn (.func 244) [] []
abbrev yho:AV:= .fn (.func 248) [] []
def w7:List AV:= [iv 1,yhp,yho,iv 2,yho,yho,iv 4,yhp,yhp,iv 8,yho,yhp]
def zc2 (k:Nat):Int:=if k=0 then 1 else if k=1 then 2 else if k=2 then 4 else 8
def gFn (k:Nat):Nat:=if k=0∨k=2 then 244 else 248
def gSn (k:Nat):Nat:=if k=0∨k=1 then 248 else 244
abbrev yt3 (k:Nat):AV:= .fn (.func (gFn k)) [] []
abbrev yt2 (k:Nat):AV:= .fn (.func (gSn k)) [] []
abbrev zw2 (k:Nat):List AV:= [iv (zc2 k),yt3 k,yt2 k]
theorem ynx {k:Nat} (hk:k < 4):(w7.drop (k * 3)).take 3=zw2 k:=by
 rcases (by omega:k=0∨k=1∨k=2∨k=3) with rfl|rfl|rfl|rfl <;> rfl
def zd2 (k:Nat) (d:Dos):List Acc:=if k=0∨k=2 then d.B else d.A
def zh0 (k:Nat) (d:Dos):List Acc:=if k=0∨k=1 then d.A else d.B
def giK (g:Int):Nat→Int
 |0=> -1
 |k+1=>if zc2 k=g then (k:Int) else giK g k
def zp9 (g:Int):Int:=if g=1 then 0 else if g=2 then 1 else if g=4 then 2 else if g=8 then 3 else -1
theorem yw5 (g:Int):giK g 4=zp9 g:=by
 simp only [giK,zc2,zp9]
 by_cases h1:g=1
 ·subst h1;decide
 by_cases h2:g=2
 ·subst h2;decide
 by_cases h3:g=4
 ·subst h3;decide
 by_cases h4:g=8
 ·subst h4;decide
 simp [h1,h2,h3,h4,Ne.symm h1,Ne.symm h2,Ne.symm h3,Ne.symm h4]
theorem ysh {g:Int} (h:¬zp9 g < 0):∃k,k < 4∧zp9 g=(k:Nat)∧zc2 k=g:=by
 rw [zp9] at h ⊢
 split
 ·exact ⟨0,by decide,rfl,by rename_i e;rw [e];rfl⟩
 ·split
  ·exact ⟨1,by decide,rfl,by rename_i e;rw [e];rfl⟩
  ·split
   ·exact ⟨2,by decide,rfl,by rename_i e;rw [e];rfl⟩
   ·split
    ·exact ⟨3,by decide,rfl,by rename_i e;rw [e];rfl⟩
    ·exfalso;simp_all
def znl (h:Hist) (s g:Int):Int:=if ze4 h s≠0 then ze4 h s else if zp9 g < 0 then 2 else 0
def yj6 (h:Hist) (s g:Int):List Dos:=if znl h s g=0 then zao h s else []
def yj7 (h:Hist) (s g:Int):Int:=if znl h s g=0 then zp9 g else 0
theorem zqs {h:Hist} {s g:Int} (he:ze4 h s≠0):znl h s g=ze4 h s∧yj6 h s g= []∧yj7 h s g=0:=by
 have:znl h s g=ze4 h s:=if_pos he
 exact ⟨this,by rw [yj6,this,if_neg he],by rw [yj7,this,if_neg he]⟩
theorem zqr {h:Hist} {s g:Int} (he:ze4 h s=0) (hg:zp9 g < 0):znl h s g=2∧yj6 h s g= []∧yj7 h s g=0:=by
 have:znl h s g=2:=by rw [znl,if_neg (by simpa using he),if_pos hg]
 exact ⟨this,by rw [yj6,this,if_neg (by decide)],by rw [yj7,this,if_neg (by decide)]⟩
theorem zks {h:Hist} {s g:Int} (he:ze4 h s=0) (hg:¬zp9 g < 0):znl h s g=0∧yj6 h s g=zao h s∧yj7 h s g=zp9 g:=by
 have:znl h s g=0:=by rw [znl,if_neg (by simpa using he),if_neg hg]
 exact ⟨this,by rw [yj6,this,if_pos rfl],by rw [yj7,this,if_pos rfl]⟩
def zkq (k:Nat) (e l:Dos):List Brch:=(zd2 k e).flatMap fun a=>(zh0 k l).filterMap (brk (zc2 k) e.t l.t a)
theorem yvv {g t1 t2:Int} {a b:Acc} (h1:(a.o==b.o)=true) (h2:decide (b.r < a.r)=true):brk g t1 t2 a b=some ⟨g,t1,t2,a.o,a.a,b.a⟩:=by rw [brk,h1,h2];rfl
theorem ydo {g t1 t2:Int} {a b:Acc} (h1:(a.o==b.o)=false):brk g t1 t2 a b=none:=by rw [brk,h1];rfl
theorem ydn {g t1 t2:Int} {a b:Acc} (h2:decide (b.r < a.r)=false):brk g t1 t2 a b=none:=by rw [brk,h2,Bool.and_false];rfl
theorem yn4 {α β:Type} {f:α→Option β} {l:List α} {k:Nat} {b:β} (hk:k < l.length) (h:f l[k]=some b):(l.take (k+1)).filterMap f=(l.take k).filterMap f++ [b]:=by
 rw [List.take_succ_eq_append_getElem hk,List.filterMap_append];simp [h]
theorem ycr {α β:Type} {f:α→Option β} {l:List α} {k:Nat} (hk:k < l.length) (h:f l[k]=none):(l.take (k+1)).filterMap f=(l.take k).filterMap f:=by
 rw [List.take_succ_eq_append_getElem hk,List.filterMap_append];simp [h]
def zu9 (k:Nat) (e l:Dos) (i:Nat):List Brch:=((zd2 k e).take i).flatMap fun a=>(zh0 k l).filterMap (brk (zc2 k) e.t l.t a)
theorem yta {k i:Nat} {e l:Dos} (hi:i < (zd2 k e).length):zu9 k e l (i+1)=zu9 k e l i++(zh0 k l).filterMap (brk (zc2 k) e.t l.t (zd2 k e)[i]):=by
 rw [zu9,List.take_succ_eq_append_getElem hi,List.flatMap_append];simp [zu9]
theorem yok {k i j:Nat} {e l:Dos} {d:Brch} (hi:i < (zd2 k e).length) (hj:j < (zh0 k l).length) (hd:brk (zc2 k) e.t l.t (zd2 k e)[i] (zh0 k l)[j]=some d):
 ∃rest,zkq k e l=(zu9 k e l i++((zh0 k l).take j).filterMap (brk (zc2 k) e.t l.t (zd2 k e)[i]))++d::rest:=by
 have e1:(zh0 k l).filterMap (brk (zc2 k) e.t l.t (zd2 k e)[i])=((zh0 k l).take j).filterMap (brk (zc2 k) e.t l.t (zd2 k e)[i])++d::((zh0 k l).drop (j+1)).filterMap (brk (zc2 k) e.t l.t (zd2 k e)[i]):=by
  conv=>lhs;rw [←List.take_append_drop j (zh0 k l),List.drop_eq_getElem_cons hj]
  rw [List.filterMap_append,List.filterMap_cons,hd]
 refine ⟨((zh0 k l).drop (j+1)).filterMap (brk (zc2 k) e.t l.t (zd2 k e)[i])++((zd2 k e).drop (i+1)).flatMap (fun a=>(zh0 k l).filterMap (brk (zc2 k) e.t l.t a)),?_⟩
 rw [zkq]
 conv=>lhs;rw [←List.take_append_drop i (zd2 k e),List.drop_eq_getElem_cons hi]
 rw [List.flatMap_append,List.flatMap_cons,e1,zu9]
 simp [List.append_assoc]
theorem yh9 (l:List Brch):∀r∈l.map zb9,r.all AV.one=true:=by
 intro r hr;obtain ⟨a,_,rfl⟩:=List.mem_map.1 hr;rfl
theorem yaf (d:Dos):y8 Tryz.prog 244 [.agg (zcu d)] [] (fun r h'=>h'= []∧r=zhx d.B):=by
 refine z6 Tryz.func244 rfl rfl rfl ?_
 refine rn ?_;refine z8 rfl (x9 rfl rfl rfl fun b1=> ?_)
 refine rn ?_;refine rq 1 ?_
 exact ⟨rfl,rfl⟩
theorem yad (d:Dos):y8 Tryz.prog 248 [.agg (zcu d)] [] (fun r h'=>h'= []∧r=zhx d.A):=by
 refine z6 Tryz.func248 rfl rfl rfl ?_
 refine rn ?_;refine z8 rfl (x9 rfl rfl rfl fun b1=> ?_)
 refine rn ?_;refine rq 1 ?_
 exact ⟨rfl,rfl⟩
theorem zw3 (k:Nat) (d:Dos):y3 Tryz.prog (yt3 k) [.agg (zcu d)] [] (fun r h'=>h'= []∧r=zhx (zd2 k d)):=by
 rw [yt3,gFn,zd2];split
 ·exact y3.of_fun (yaf d)
 ·exact y3.of_fun (yad d)
theorem zv6 (k:Nat) (d:Dos):y3 Tryz.prog (yt2 k) [.agg (zcu d)] [] (fun r h'=>h'= []∧r=zhx (zh0 k d)):=by
 rw [yt2,gSn,zh0];split
 ·exact y3.of_fun (yad d)
 ·exact y3.of_fun (yaf d)
theorem yfl (h:Hist) (la:Lim 4611686018427387904 h) (s g:Int):y8 Tryz.prog 58 [.agg (x3 h),iv s,iv g] (.glob 0 117 w7:: .glob 3 148 x6:: .glob 5 276 x7:: .glob 6 279 y7:: .glob 2 197 u7:: []) (fun r h'=>h'= .glob 0 117 w7:: .glob 3 148 x6:: .glob 5 276 x7:: .glob 6 279 y7:: .glob 2 197 u7:: []∧r= .tup [zfe (yj6 h s g),iv (yj7 h s g),iv (znl h s g)]):=by
 refine z6 Tryz.func58 rfl rfl rfl ?_
 refine rn ?_;refine z8 rfl (x9 rfl rfl rfl fun b3=> ?_)
 refine rn ?_;refine zbu 4 (fun _=>True) (fun k=>⟨[(15,iv (k:Nat)),(9,iv (giK g k)),(1,iv s),(2,iv g),(3,pZ b3),(14,.agg w7)],.box b3 28 (x3 h):: .glob 0 117 w7:: .glob 3 148 x6:: .glob 5 276 x7:: .glob 6 279 y7:: .glob 2 197 u7:: [],[]⟩) trivial es ?_
 intro k lk _
 refine rn ?_;refine z7 rfl (fun hc16=> ?_) (fun hc16=> ?_)
 ·have hk:k < 4:=by have q:=oT hc16;omega
  refine zad ?_;refine j7 ?_;refine x8 ?_;refine zaj ?_;refine x8 (y5 ?_)
  refine q1 ?_;refine qq rfl rfl (zg7 (i:=k) (out:=zw2 k) rfl rfl hk (by show k * 3+3≤12;omega) (ynx hk)) ?_
  refine z8 rfl (y6 rfl fun b11=> ?_)
  refine rn ?_;refine z7 rfl (fun hc22=> ?_) (fun hc22=> ?_)
  ·have hg:zc2 k=g:=by simpa using hc22
   refine rn ?_;exact ⟨hk,trivial,by rw [giK,if_pos hg];exact eA⟩
  ·have hg:¬zc2 k=g:=by simpa using hc22
   refine rn ?_;exact ⟨hk,trivial,by rw [giK,if_neg hg];exact eA⟩
 ·have qk:k=4:=by have q:=oF hc16;omega
  subst qk
  rw [yw5]
  refine rn ?_;refine qv rfl rfl (y4 rfl rfl (y3.qt (y3.of_fun (yae h la s)) ((pt2 _ _ _ _).trans (.cons _ ((pt2 _ _ _ _).trans (.cons _ ((pt2 _ _ _ _).trans (.cons _ (pt2 _ _ _ _))))))))) ?_
  refine rn ?_;refine z7 rfl (fun hc31=> ?_) (fun hc31=> ?_)
  ·have he:ze4 h s≠0:=nzT hc31
   refine rn ?_;exact ze0 (.cons _ _ _ _ (.tmp _ _ rfl) (.cons _ _ _ _ (.tmp _ _ rfl) (.cons _ _ _ _ (.tmp _ _ rfl) .nil))) (.trans (.drop [_] _ _) (.trans (zam 3 121 _) (zak [] [_,_]))) ⟨rfl,by rw [(zqs (g:=g) he).1,(zqs (g:=g) he).2.1,(zqs (g:=g) he).2.2];rfl⟩
  ·have he:ze4 h s=0:=nzF hc31
   refine rn ?_;refine z7 rfl (fun hc35=> ?_) (fun hc35=> ?_)
   ·have hg:zp9 g < 0:=oT hc35
    refine rn ?_;exact ze0 (.cons _ _ _ _ (.tmp _ _ rfl) (.cons _ _ _ _ (.tmp _ _ rfl) (.cons _ _ _ _ (.tmp _ _ rfl) .nil))) (.trans (.drop [_] _ _) (.trans (zam 3 121 _) (zak [] [_,_]))) ⟨rfl,by rw [(zqr he hg).1,(zqr he hg).2.1,(zqr he hg).2.2];rfl⟩
   ·have hg:¬zp9 g < 0:=oF hc35
    refine rn ?_;exact ze0 (.cons _ _ _ _ (.tmp _ _ rfl) (.cons _ _ _ _ (.tmp _ _ rfl) (.cons _ _ _ _ (.tmp _ _ rfl) .nil))) (.drop [_] _ _) ⟨rfl,by rw [(zks he hg).1,(zks he hg).2.1,(zks he hg).2.2,zun he];rfl⟩
theorem ylk (k:Nat) (e l:Dos) (W:List Res):y8 Tryz.prog 69 [iv (k:Int),.agg (zcu e),.agg (zcu l)] W (fun r h'=>∃bi be bl,h'= .box bl 121 (zcu l):: .box be 121 (zcu e):: .box bi 3 [iv (k:Int)]::W∧r= .fn (.func 119) [] [pZ bi,pZ bl,pZ be]):=by
 refine z6 Tryz.func69 rfl rfl rfl ?_
 refine rn ?_;refine z8 rfl (x9 rfl rfl rfl fun b3=> ?_)
 refine z8 rfl (x9 rfl rfl rfl fun b4=> ?_)
 refine z8 rfl (x9 rfl rfl rfl fun b5=> ?_)
 refine rn ?_;exact u9 rfl (.refl _ _) ⟨_,_,_,rfl,rfl⟩
theorem ylj (k:Nat) (hk:k < 4) (e l:Dos) (h1:(zd2 k e).length≤1000000) (h2:(zh0 k l).length≤1000000) (y:AV) (bi be bl:Nat) {σ:Type} (p:List Brch→σ→Prop) (q:σ→Prop) (I:List Brch→σ→List Res) (X:σ→List Res) (x0:σ) (hp0:p [] x0) (hy:∀pre d rest x,(zkq k e l)=pre++d::rest→p pre x→y3 Tryz.prog y [.agg (zb9 d)] (.box bl 121 (zcu l):: .box be 121 (zcu e):: .box bi 3 [iv ((k:Nat):Int)]:: .glob 0 117 w7::I pre x) (fun r h'=>∃x',(r=bv true∧p (pre++ [d]) x'∧h'= .box bl 121 (zcu l):: .box be 121 (zcu e):: .box bi 3 [iv ((k:Nat):Int)]:: .glob 0 117 w7::I (pre++ [d]) x')∨(r=bv false∧q x'∧h'= .box bl 121 (zcu l):: .box be 121 (zcu e):: .box bi 3 [iv ((k:Nat):Int)]:: .glob 0 117 w7::X x'))):y8 Tryz.prog 119 [y,pZ bi,pZ bl,pZ be] (.box bl 121 (zcu l):: .box be 121 (zcu e):: .box bi 3 [iv ((k:Nat):Int)]:: .glob 0 117 w7::I [] x0) (fun r h'=>∃x,(p (zkq k e l) x∧h'= .box bl 121 (zcu l):: .box be 121 (zcu e):: .box bi 3 [iv ((k:Nat):Int)]:: .glob 0 117 w7::I (zkq k e l) x)∨(q x∧h'= .box bl 121 (zcu l):: .box be 121 (zcu e):: .box bi 3 [iv ((k:Nat):Int)]:: .glob 0 117 w7::X x)):=by
 refine z6 Tryz.func119 rfl rfl rfl ?_
 refine x8 (y5 ?_)
 refine q1 ?_;refine qq rfl rfl (j6 (i:=k) rfl rfl (by omega)) ?_
 refine qq rfl rfl (zby (ziu rfl (by show 0+k * 3+3≤12;omega)) (show AV.agg _=AV.agg (zw2 k) from congrArg AV.agg (by rw [Nat.zero_add];exact ynx hk))) ?_
 refine z8 rfl (y6 rfl fun b5=> ?_)
 refine rn ?_;refine qv rfl rfl (y4 rfl rfl (y3.pure (R:=fun r=>r=zhx (zh0 k l)) (zv6 k l))) ?_
 refine rn ?_;refine qv rfl rfl (y4 rfl rfl (y3.pure (R:=fun r=>r=zhx (zd2 k e)) (zw3 k e))) ?_
 refine rn ?_;refine zes (zd2 k e).length (fun i (x:σ)=>p (zu9 k e l i) x) (fun i x=>⟨[(23,iv i),(0,y),(2,pZ bl),(3,pZ be),(5,pZ b5),(6,zhx (zh0 k l)),(21,zhx (zd2 k e)),(22,iv ((zd2 k e).map accR).length)],.box b5 116 (zw2 k):: .box bl 121 (zcu l):: .box be 121 (zcu e):: .box bi 3 [iv ((k:Nat):Int)]:: .glob 0 117 w7::I (zu9 k e l i) x,[]⟩) x0 hp0 es ?_
 intro i x li zi
 refine rn ?_;refine z7 rfl (fun hc24=> ?_) (fun hc24=> ?_)
 ·have hi:=zan hc24
  have ri:=zaf (f:=accR) hi
  refine rn ?_;refine z8 rfl (y6 rfl fun b8=> ?_)
  refine rn ?_;refine zes (zh0 k l).length (fun j (x:σ)=>p ((zu9 k e l i)++((zh0 k l).take j).filterMap (brk (zc2 k) e.t l.t (zd2 k e)[i])) x) (fun j x=>⟨[(29,iv j),(0,y),(2,pZ bl),(3,pZ be),(5,pZ b5),(6,zhx (zh0 k l)),(8,pZ b8),(21,zhx (zd2 k e)),(22,iv ((zd2 k e).map accR).length),(23,iv i),(27,zhx (zh0 k l)),(28,iv ((zh0 k l).map accR).length)],.box b8 178 (accR (zd2 k e)[i]):: .box b5 116 (zw2 k):: .box bl 121 (zcu l):: .box be 121 (zcu e):: .box bi 3 [iv ((k:Nat):Int)]:: .glob 0 117 w7::I ((zu9 k e l i)++((zh0 k l).take j).filterMap (brk (zc2 k) e.t l.t (zd2 k e)[i])) x,[]⟩) x (by simpa using zi) (by simpa using eA) ?_
  intro j x lj zj
  refine rn ?_;refine z7 rfl (fun hc30=> ?_) (fun hc30=> ?_)
  ·have hj:=zan hc30
   have rj:=zaf (f:=accR) hj
   refine rn ?_;refine z8 rfl (y6 rfl fun b10=> ?_)
   refine rn ?_;refine x4 (fun hg8_5=> ?_) (fun hg8_5=> ?_)
   ·refine rn ?_;refine x4 (fun hg8_12=> ?_) (fun hg8_12=> ?_)
    ·refine q1 ?_;refine q1 ?_;refine q1 ?_;refine q1 ?_;refine q1 ?_;refine q1 ?_;refine q1 ?_;refine q1 ?_;refine q1 ?_;refine q1 ?_;refine q1 ?_;refine q1 ?_;refine q1 ?_;refine qq rfl rfl (zag (out:= [iv (zc2 k),iv e.t,iv l.t,iv (zd2 k e)[i].o,iv (zd2 k e)[i].a,iv (zh0 k l)[j].a]) rfl (by rfl)) ?_
     have hbk:=yvv (g:=zc2 k) (t1:=e.t) (t2:=l.t) hg8_5 hg8_12
     obtain ⟨rest,hL⟩:=yok hi hj hbk
     refine z8 rfl (q7 rfl rfl (y3.fr3 (hy ((zu9 k e l i)++((zh0 k l).take j).filterMap (brk (zc2 k) e.t l.t (zd2 k e)[i])) _ rest x hL zj)) rfl ?_)
     rintro _ _ ⟨_,rfl,x',⟨rfl,hp',rfl⟩|⟨rfl,hq',rfl⟩⟩
     ·refine rn ?_;refine z7 rfl (fun hc62=> ?_) (fun hc62=> ?_)
      ·first|cases hc62|exact absurd hc62 (by decide)|(exfalso;simp_all;done)
      ·refine rn ?_;exact ⟨hj,x',by rw [yn4 hj hbk,←List.append_assoc];exact hp',by rw [yn4 hj hbk,←List.append_assoc];exact eA⟩
     ·refine rn ?_;refine z7 rfl (fun hc62=> ?_) (fun hc62=> ?_)
      ·refine rn ?_;exact ze0 .nil (.drop [_,_,_] _ _) ⟨x',.inr ⟨hq',rfl⟩⟩
      ·first|cases hc62|exact absurd hc62 (by decide)|(exfalso;simp_all;done)
    ·refine rn ?_;refine zeu rfl ?_;refine rn ?_;exact ⟨hj,x,by rw [ycr hj (ydn hg8_12)];exact zj,by rw [ycr hj (ydn hg8_12)];exact eA⟩
   ·refine rn ?_;refine zeu rfl ?_;refine rn ?_;exact ⟨hj,x,by rw [ycr hj (ydo hg8_5)];exact zj,by rw [ycr hj (ydo hg8_5)];exact eA⟩
  ·have qj:=zap hc30 lj
   refine rn ?_;have e1:((zu9 k e l i)++((zh0 k l).take j).filterMap (brk (zc2 k) e.t l.t (zd2 k e)[i]))=(zu9 k e l (i+1)):=by rw [yta hi,qj,List.take_length]
   exact ⟨hi,x,by rw [←e1];exact zj,by rw [←e1];exact eA⟩
 ·have qi:=zap hc24 li
  refine rn ?_;have e1:(zu9 k e l i)=(zkq k e l):=by rw [qi,zu9,List.take_length];rfl
  exact ze9 .nil (.drop [_] _ _) ⟨x,.inl ⟨by rw [←e1];exact zi,by rw [←e1]⟩⟩
theorem yvi {k:Nat} (hk:k < 4):w7[0+k * 3+2]? =some (yt2 k):=by
 rcases (by omega:k=0∨k=1∨k=2∨k=3) with rfl|rfl|rfl|rfl <;> rfl
theorem yvj {k:Nat} (hk:k < 4):w7[0+k * 3+1]? =some (yt3 k):=by
 rcases (by omega:k=0∨k=1∨k=2∨k=3) with rfl|rfl|rfl|rfl <;> rfl
def ytu (M:List (Int×Int)) (b:Acc):Bool:=decide (b.r < (zb6 b.o M).getD 0)
def ypq (k:Nat) (d:Dos) (M:List (Int×Int)):Bool:=(zh0 k d).any (ytu M)
def zlq (M:List (Int×Int)) (l:List Acc):List (Int×Int):=l.foldl (fun m a=>zfn a.o (max ((zb6 a.o m).getD 0) a.r) m) M
theorem yq8 {M:List (Int×Int)} {l:List Acc} {i:Nat} (hi:i < l.length):zlq M (l.take (i+1))=zfn l[i].o (max ((zb6 l[i].o (zlq M (l.take i))).getD 0) l[i].r) (zlq M (l.take i)):=by
 rw [zlq,List.take_succ_eq_append_getElem hi,List.foldl_append];rfl
theorem ybl (o:Int):∀(l:List Acc) (M:List (Int×Int)),(zb6 o M).getD 0≤(zb6 o (zlq M l)).getD 0∧∀a∈l,a.o=o→a.r≤(zb6 o (zlq M l)).getD 0
 | [],M=>⟨Int.le_refl _,by simp⟩
 |a::l,M=>by
  obtain ⟨h1,h2⟩:=ybl o l (zfn a.o (max ((zb6 a.o M).getD 0) a.r) M)
  have e:zlq M (a::l)=zlq (zfn a.o (max ((zb6 a.o M).getD 0) a.r) M) l:=rfl
  rw [zcp] at h1
  by_cases q:a.o=o
  ·subst q
   rw [if_pos rfl,Option.getD_some] at h1
   refine ⟨by rw [e];omega,fun b hb ho=> ?_⟩
   rcases List.mem_cons.1 hb with rfl|hb
   ·rw [e];omega
   ·rw [e];exact h2 b hb ho
  ·rw [if_neg q] at h1
   refine ⟨by rw [e];exact h1,fun b hb ho=> ?_⟩
   rcases List.mem_cons.1 hb with rfl|hb
   ·exact absurd ho q
   ·rw [e];exact h2 b hb ho
def zo5 (k:Nat) (L:List Dos) (j:Nat) (M:List (Int×Int)):Prop:=∀e∈L.take j,∀a∈zd2 k e,a.r≤(zb6 a.o M).getD 0
theorem yq9 (k:Nat) (L:List Dos):zo5 k L 0 []:=fun e he=>by simp at he
theorem yjc {k j:Nat} {L:List Dos} {M:List (Int×Int)} (hM:zo5 k L j M) (hj:j < L.length):zo5 k L (j+1) (zlq M (zd2 k L[j])):=by
 intro e he a ha
 rw [List.take_succ_eq_append_getElem hj,List.mem_append,List.mem_singleton] at he
 rcases he with he|rfl
 ·have h1:=hM e he a ha
  have h2:=(ybl a.o (zd2 k L[j]) M).1
  omega
 ·exact (ybl a.o _ M).2 a ha rfl
def hdW (k:Nat) (d e:Dos):Option Brch:=(zkq k e d).head?
def brW (k:Nat) (L:List Dos):Nat→List Brch
 |0=> []
 |j+1=>brW k L j++(match L[j]? with|some d=>(L.take j).filterMap (hdW k d)|none=> [])
theorem yoi {k j:Nat} {L:List Dos} (hj:j < L.length):brW k L (j+1)=brW k L j++(L.take j).filterMap (hdW k L[j]):=by rw [brW,List.getElem?_eq_getElem hj]
theorem ypp {k j:Nat} {L:List Dos} {M:List (Int×Int)} (hM:zo5 k L j M) (hj:j < L.length) (hs:ypq k L[j] M=false):brW k L (j+1)=brW k L j:=by
 rw [yoi hj]
 have:(L.take j).filterMap (hdW k L[j])= []:=by
  rw [List.filterMap_eq_nil_iff]
  intro e he
  have:zkq k e L[j]= []:=by
   rw [zkq,List.flatMap_eq_nil_iff]
   intro a ha
   rw [List.filterMap_eq_nil_iff]
   intro b hb
   by_cases q:(a.o==b.o)=true
   ·refine ydn (decide_eq_false fun hlt=> ?_)
    have h1:=hM e he a ha
    have h2:=List.any_eq_false.1 hs b hb
    rw [ytu,←eq_of_beq q] at h2
    simp only [decide_eq_true_eq] at h2
    omega
   ·exact ydo (by simpa using q)
  rw [hdW,this];rfl
 rw [this,List.append_nil]
theorem yjz {k m:Nat} {L:List Dos}:∀{n},m≤n→∃R,brW k L n=brW k L m++R
 |0,hm=>⟨[],by rw [Nat.le_zero.1 hm,List.append_nil]⟩
 |n+1,hm=>by
  by_cases e:m=n+1
  ·exact ⟨[],by rw [e,List.append_nil]⟩
  ·obtain ⟨R,hR⟩:=yjz (k:=k) (m:=m) (L:=L) (n:=n) (by omega)
   exact ⟨_,by rw [brW,hR,List.append_assoc]⟩
def brP (k:Nat) (L:List Dos) (j:Nat) (d:Dos) (i:Nat):List Brch:=brW k L j++((L.take j).take i).filterMap (hdW k d)
theorem yvy (k:Nat) (L:List Dos) (j:Nat) (d:Dos):brP k L j d 0=brW k L j:=by simp [brP]
theorem ys4 {k j i:Nat} {L:List Dos} {d:Dos} {b:Brch} {rest:List Brch} (hi:i < (L.take j).length) (h:zkq k (L.take j)[i] d=b::rest):brP k L j d (i+1)=brP k L j d i++ [b]:=by
 rw [brP,yn4 hi (show hdW k d (L.take j)[i]=some b by rw [hdW,h];rfl),brP,List.append_assoc]
theorem ys5 {k j i:Nat} {L:List Dos} {d:Dos} (hi:i < (L.take j).length) (h:zkq k (L.take j)[i] d= []):brP k L j d (i+1)=brP k L j d i:=by
 rw [brP,ycr hi (show hdW k d (L.take j)[i]=none by rw [hdW,h];rfl),brP]
theorem yvx {k j i:Nat} {L:List Dos} (hj:j < L.length) (hi:i=(L.take j).length):brP k L j L[j] i=brW k L (j+1):=by
 rw [yoi hj,brP,hi,List.take_length]
theorem ys3 {k j i:Nat} {L:List Dos} {b:Brch} {rest:List Brch} (hj:j < L.length) (hi:i < (L.take j).length) (h:zkq k (L.take j)[i] L[j]=b::rest):∃R,brW k L L.length=brP k L j L[j] i++b::R:=by
 obtain ⟨R,hR⟩:=yjz (k:=k) (L:=L) (m:=j+1) (n:=L.length) hj
 have e:(L.take j).filterMap (hdW k L[j])=((L.take j).take i).filterMap (hdW k L[j])++b::((L.take j).drop (i+1)).filterMap (hdW k L[j]):=by
  conv=>lhs;rw [←List.take_append_drop i (L.take j),List.drop_eq_getElem_cons hi]
  rw [List.filterMap_append,List.filterMap_cons,hdW,h];rfl
 exact ⟨_,by rw [hR,yoi hj,e,brP];simp only [List.append_assoc,List.cons_append];rfl⟩
def hdB (l:List Brch):Brch:=l.headD ⟨0,0,0,0,0,0⟩
theorem y3.fr11 {P:Program} {fv:AV} {args:List AV} {G:List Res} {R:AV→List Res→Prop} {a0 a1 a2 a3 a4 a5 a6 a7 a8 a9 a10:Res} (hc:y3 P fv args G R):y3 P fv args (a0::a1::a2::a3::a4::a5::a6::a7::a8::a9::a10::G) (fun r h'=>∃h'',h'=a0::a1::a2::a3::a4::a5::a6::a7::a8::a9::a10::h''∧R r h''):=hc.frL [a0,a1,a2,a3,a4,a5,a6,a7,a8,a9,a10]
theorem zjl (q:Nat) (A B:List Res) (dfs:List Nat):(Res.defs q::(A++(B++dfs.map Res.defs))).Perm (A++(B++(q::dfs).map Res.defs)):=by
 rw [←List.append_assoc,←List.append_assoc];exact List.perm_middle.symm
theorem zwg (A B:List Res) (dfs:List Nat):(A++(B++dfs.map Res.defs)).Perm (dfs.map Res.defs++(A++B)):=by
 rw [←List.append_assoc];exact List.perm_append_comm
theorem zr9 {full:Bool} (l:List Acc) (fv:AV) (p:Acc→Bool) (G:List Res) (hp:∀a∈l,y3 Tryz.prog fv [.agg (accR a)] G (fun r h'=>h'=G∧r=bv (p a))) (hlen:l.length≤4611686018427387904):y8 Tryz.prog 153 [.list full 3 (l.map accR),fv] G (fun r h'=>h'=G∧r=iv (za9 p 0 l)):=by
 refine z6 Tryz.func153 rfl rfl rfl ?_
 refine rn ?_;refine u5 (fun k:Nat=>k≤l.length∧za9 p 0 l=za9 p k (l.drop k)) (fun k=>⟨[(8,iv k),(7,iv (l.map accR).length),(0,.list full 3 (l.map accR)),(1,fv)],G,[]⟩) (fun k=>l.length - k) 0 ⟨Nat.zero_le _,by simp⟩
  (w6 (.cons _ _ _ rfl (.cons _ _ _ rfl (.cons _ _ _ rfl (.cons _ _ _ rfl (.nil)))))) ?_
 rintro k ⟨hk,hnot⟩
 refine rn ?_;refine z7 rfl (fun hc9=> ?_) (fun hc9=> ?_)
 ·have hk2:k < l.length:=by simpa using hc9
  have hrow:(l.map accR)[k]? =some (accR l[k]):=by simp [hk2]
  have hd:=List.drop_eq_getElem_cons hk2
  refine rn ?_;refine qv rfl rfl (y4 rfl rfl (hp l[k] (by simp))) ?_
  refine rn ?_;refine z7 rfl (fun hc16=> ?_) (fun hc16=> ?_)
  ·refine rn ?_;exact u9 rfl (.refl _ _) ⟨rfl,by rw [hnot,hd,za9,if_pos hc16];rfl⟩
  ·refine rn ?_;exact ⟨k+1,⟨by omega,by rw [hnot,hd,za9,if_neg (by simp [hc16])]⟩,(w6 (.cons _ _ _ rfl (.cons _ _ _ rfl (.cons _ _ _ rfl (.cons _ _ _ rfl (.nil)))))),by omega⟩
 ·have hk3:k=l.length:=by
   have:l.length≤k:=by simpa using hc9
   omega
  refine rn ?_;exact u9 rfl (.refl _ _) ⟨rfl,by rw [hnot,hk3,List.drop_length,za9];rfl⟩
theorem zna {full:Bool} (l:List Acc) (fv:AV) (p:Acc→Bool) (G:List Res) (hp:∀a∈l,y3 Tryz.prog fv [.agg (accR a)] G (fun r h'=>h'=G∧r=bv (p a))) (hlen:l.length≤4611686018427387904):y8 Tryz.prog 111 [.list full 3 (l.map accR),fv] G (fun r h'=>h'=G∧r=bv (l.any p)):=by
 refine z6 Tryz.func111 rfl rfl rfl ?_
 refine rn ?_;refine qv rfl rfl (y4 rfl rfl (y3.of_fun (zr9 l _ p G hp hlen))) ?_
 refine rn ?_;exact u9 rfl (.refl _ _) ⟨rfl,by simp only [←zeq p l 0];rfl⟩
theorem yp1 (b:Acc) (b4 bm:Nat) (M:List (Int×Int)):y8 Tryz.prog 112 [.agg (accR b),pZ b4] (.box b4 141 [mpv bm]:: .map bm (zah zcb (zb4 iv M)):: []) (fun r h'=>h'= .box b4 141 [mpv bm]:: .map bm (zah zcb (zb4 iv M)):: []∧r=bv (ytu M b)):=by
 refine z6 Tryz.func112 rfl rfl rfl ?_
 refine rn ?_;refine z8 rfl (x9 rfl rfl rfl fun b2=> ?_)
 refine q1 ?_;refine u0 (j7 ?_)
 refine x8 (y5 ?_)
 refine q1 ?_;refine q1 ?_;refine q1 ?_;refine q1 ?_;refine q1 ?_;refine qq rfl rfl (zcr (g:=iv) (enc:=zcb) (k:=b.o) (0:Int) rfl rfl) ?_
 refine rn ?_;refine rq 1 ?_
 exact ⟨rfl,rfl⟩
theorem yp0 (k:Nat) (hk:k < 4) (d:Dos) (h2:(zh0 k d).length≤1000000) (bi b4 bm:Nat) (M:List (Int×Int)):y8 Tryz.prog 110 [.agg (zcu d),pZ bi,pZ b4] (.box bi 3 [iv (k:Int)]:: .box b4 141 [mpv bm]:: .map bm (zah zcb (zb4 iv M)):: .glob 0 117 w7:: []) (fun r h'=>h'= .box bi 3 [iv (k:Int)]:: .box b4 141 [mpv bm]:: .map bm (zah zcb (zb4 iv M)):: .glob 0 117 w7:: []∧r=bv (ypq k d M)):=by
 refine z6 Tryz.func110 rfl rfl rfl ?_
 refine rn ?_;refine z8 rfl (x9 rfl rfl rfl fun b3=> ?_)
 refine rn ?_;refine j4 7 rfl ?_
 refine dq rfl rfl qrA ?_;refine dq rfl rfl (j6 (i:=k) rfl rfl (by omega)) ?_
 refine dq rfl rfl qrA ?_;refine dq rfl rfl (zab rfl (yvi hk)) ?_
 refine rn ?_;refine dv rfl rfl (by exact y4 rfl rfl (y3.pure (R:=fun r=>r=zhx (zh0 k d)) (zv6 k d))) ?_
 refine rn ?_;refine qv rfl rfl (y4 rfl rfl (y3.of_fun (zna (zh0 k d) _ (ytu M) _ (fun b _=>y3.qt (y3.of_acall (fs:= []) (cs:= [pZ b4]) (yp1 b b4 bm M)) ((pt2 _ _ _ _).trans (.cons _ (pt2 _ _ _ _)))) (Nat.le_trans h2 (by decide))))) ?_
 refine rn ?_;refine rq 1 ?_
 exact ⟨rfl,rfl⟩
theorem yi1 (k:Nat) (L:List Dos) (W:List Res):y8 Tryz.prog 59 [iv (k:Int),zfe L] W (fun r h'=>∃bi bl,h'= .box bl 101 [zfe L]:: .box bi 3 [iv (k:Int)]::W∧r= .fn (.func 109) [] [pZ bi,pZ bl]):=by
 refine z6 Tryz.func59 rfl rfl rfl ?_
 refine rn ?_;refine z8 rfl (x9 rfl rfl rfl fun b2=> ?_)
 refine z8 rfl (x9 rfl rfl rfl fun b3=> ?_)
 refine rn ?_;exact u9 rfl (.refl _ _) ⟨_,_,rfl,rfl⟩
set_option maxHeartbeats 8000000 in
theorem yi0 (k:Nat) (hk:k < 4) (L:List Dos) (hL:L.length≤1000000) (hf:∀d∈L,(zd2 k d).length≤1000000) (hs:∀d∈L,(zh0 k d).length≤1000000) (y:AV) (hone:y.cellsOf=some [y]) (bi bl:Nat) {σ:Type} (p:List Brch→σ→Prop) (q:σ→Prop) (I:List Brch→σ→List Res) (X:σ→List Res) (x0:σ) (hp0:p [] x0) (hy:∀pre d rest x,(brW k L L.length)=pre++d::rest→p pre x→y3 Tryz.prog y [.agg (zb9 d)] (.box bl 101 [zfe L]:: .box bi 3 [iv ((k:Nat):Int)]:: .glob 0 117 w7::I pre x) (fun r h'=>∃x',(r=bv true∧p (pre++ [d]) x'∧h'= .box bl 101 [zfe L]:: .box bi 3 [iv ((k:Nat):Int)]:: .glob 0 117 w7::I (pre++ [d]) x')∨(r=bv false∧q x'∧h'= .box bl 101 [zfe L]:: .box bi 3 [iv ((k:Nat):Int)]:: .glob 0 117 w7::X x'))):y8 Tryz.prog 109 [y,pZ bi,pZ bl] (.box bl 101 [zfe L]:: .box bi 3 [iv ((k:Nat):Int)]:: .glob 0 117 w7::I [] x0) (fun r h'=>∃x,(p (brW k L L.length) x∧h'= .box bl 101 [zfe L]:: .box bi 3 [iv ((k:Nat):Int)]:: .glob 0 117 w7::I (brW k L L.length) x)∨(q x∧h'= .box bl 101 [zfe L]:: .box bi 3 [iv ((k:Nat):Int)]:: .glob 0 117 w7::X x)):=by
 refine z6 Tryz.func109 rfl rfl rfl ?_
 have hyF:∀pre d rest x (W:List Res),(brW k L L.length)=pre++d::rest→p pre x→y3 Tryz.prog y [.agg (zb9 d)] (.box bl 101 [zfe L]:: .box bi 3 [iv ((k:Nat):Int)]:: .glob 0 117 w7::(I pre x++W)) (fun r h'=>∃x',(r=bv true∧p (pre++ [d]) x'∧h'= .box bl 101 [zfe L]:: .box bi 3 [iv ((k:Nat):Int)]:: .glob 0 117 w7::(I (pre++ [d]) x'++W))∨(r=bv false∧q x'∧h'= .box bl 101 [zfe L]:: .box bi 3 [iv ((k:Nat):Int)]:: .glob 0 117 w7::(X x'++W))):=fun pre d rest x W e hp=>((hy pre d rest x e hp).frame W).mono (by
  rintro _ _ ⟨_,rfl,x',⟨rfl,hp',rfl⟩|⟨rfl,hq',rfl⟩⟩
  ·exact ⟨x',.inl ⟨rfl,hp',rfl⟩⟩
  ·exact ⟨x',.inr ⟨rfl,hq',rfl⟩⟩)
 refine rn ?_;refine z8 rfl (x9 rfl hone rfl fun b3=> ?_)
 refine rn ?_;refine zj0 ?_;refine rn ?_;refine z8 rfl (zbf (enc:=zcb) rfl fun bm=> ?_)
 refine z8 rfl (y6 rfl fun b4=> ?_)
 refine rn ?_;refine zes L.length (fun j (z:σ×List (Int×Int)×List Nat)=>p (brW k L j) z.1∧zo5 k L j z.2.1) (fun j z=>⟨[(18,iv j),(1,pZ bi),(2,pZ bl),(3,pZ b3),(4,pZ b4),(5,.fn (.func 110) [] [pZ bi,pZ b4]),(16,zfe L),(17,iv (L.map zcu).length)],.box b4 141 [mpv bm]:: .map bm (zah zcb (zb4 iv z.2.1)):: .box b3 175 [y]:: .box bl 101 [zfe L]:: .box bi 3 [iv ((k:Nat):Int)]:: .glob 0 117 w7::(I (brW k L j) z.1++(z.2.2.map Res.defs)),z.2.2⟩) (x0,[],[]) ⟨hp0,yq9 k L⟩ (by simp only [List.map_nil,List.append_nil];exact es) ?_
 rintro j ⟨x,M,dfs⟩ lj ⟨hx,hM⟩
 have hx:p (brW k L j) x:=hx
 have hM:zo5 k L j M:=hM
 show aw _ _ _ _ _ ⟨[(18,iv j),(1,pZ bi),(2,pZ bl),(3,pZ b3),(4,pZ b4),(5,.fn (.func 110) [] [pZ bi,pZ b4]),(16,zfe L),(17,iv (L.map zcu).length)],.box b4 141 [mpv bm]:: .map bm (zah zcb (zb4 iv M)):: .box b3 175 [y]:: .box bl 101 [zfe L]:: .box bi 3 [iv ((k:Nat):Int)]:: .glob 0 117 w7::(I (brW k L j) x++(dfs.map Res.defs)),dfs⟩
 refine rn ?_;refine z7 rfl (fun hc19=> ?_) (fun hc19=> ?_)
 ·have hj:=zan hc19
  have rj:=zaf (f:=zcu) hj
  refine rn ?_;refine z8 rfl (y6 rfl fun b7=> ?_)
  refine rn ?_;refine qv rfl rfl (y4 rfl rfl (y3.qt (y3.of_acall (fs:= []) (cs:= [pZ bi,pZ b4]) (yp0 k hk L[j] (hs _ (List.getElem_mem hj)) bi b4 bm M)) ((pt5 _ _ _ _ _ _ _).trans (.cons _ ((pt1 _ _ _).trans (.cons _ ((pt1 _ _ _).trans (.cons _ (pt3 _ _ _ _ _))))))))) ?_
  refine rn ?_;refine j4 8 rfl ?_
  refine dq rfl rfl qrA ?_;refine dq rfl rfl (j6 (i:=k) rfl rfl (by omega)) ?_
  refine dq rfl rfl qrA ?_;refine dq rfl rfl (zab rfl (yvj hk)) ?_
  refine rn ?_;refine dv rfl rfl (by exact y4 rfl rfl (y3.pure (R:=fun r=>r=zhx (zd2 k L[j])) (zw3 k L[j]))) ?_
  refine rn ?_;refine zbu (zd2 k L[j]).length (fun _=>True) (fun u=>⟨[(33,iv u),(1,pZ bi),(2,pZ bl),(3,pZ b3),(4,pZ b4),(5,.fn (.func 110) [] [pZ bi,pZ b4]),(6,iv j),(7,pZ b7),(8,bv (ypq k L[j] M)),(16,zfe L),(17,iv (L.map zcu).length),(18,iv j),(31,zhx (zd2 k L[j])),(32,iv ((zd2 k L[j]).map accR).length)],.box b7 121 (zcu L[j]):: .box b4 141 [mpv bm]:: .map bm (zah zcb (zb4 iv (zlq M ((zd2 k L[j]).take u)))):: .box b3 175 [y]:: .box bl 101 [zfe L]:: .box bi 3 [iv ((k:Nat):Int)]:: .glob 0 117 w7::(I (brW k L j) x++(dfs.map Res.defs)),dfs⟩) trivial es ?_
  intro u lu _
  refine rn ?_;refine z7 rfl (fun hc34=> ?_) (fun hc34=> ?_)
  ·have hu:=zan hc34
   have ru:=zaf (f:=accR) hu
   have hfl:=hf _ (List.getElem_mem hj)
   refine rn ?_;refine z8 rfl (y6 rfl fun b10=> ?_)
   first|refine z8 rfl (za3 rfl rfl rfl ?_)|refine z8 rfl (zbr rfl rfl rfl rfl (Nat.le_of_ble_eq_true rfl) ?_)
   refine u0 (j7 ?_)
   refine y5 ?_;refine q1 ?_;refine q1 ?_;refine q1 ?_;refine q1 ?_;refine q1 ?_;refine q1 ?_;refine qq rfl rfl (zcr (g:=iv) (enc:=zcb) (k:=(zd2 k L[j])[u].o) (0:Int) rfl rfl) ?_
   refine rn ?_;refine z8 rfl (zbp (g:=iv) (enc:=zcb) (k:=(zd2 k L[j])[u].o) (v:=max ((zb6 (zd2 k L[j])[u].o (zlq M ((zd2 k L[j]).take u))).getD 0) (zd2 k L[j])[u].r) rfl rfl rfl ?_)
   refine rn ?_;exact ⟨hu,trivial,by rw [yq8 hu];exact eA⟩
  ·have qu:=zap hc34 lu
   subst qu
   rw [List.take_length]
   refine rn ?_;refine z7 rfl (fun hc49=> ?_) (fun hc49=> ?_)
   ·have hsw:ypq k L[j] M=false:=by simpa using hc49
    refine rn ?_;have hw:=ypp hM hj hsw
    exact ⟨hj,(x,(zlq M (zd2 k L[j])),dfs),⟨by simp only;rw [hw];exact hx,yjc hM hj⟩,by simp only;rw [hw];exact eA⟩
   ·have hsw:ypq k L[j] M=true:=by simpa using hc49
    refine zad ?_;refine j7 ?_;refine x8 (y5 ?_)
    refine q1 ?_;refine q1 ?_;refine qq rfl rfl (zbe (k:=j) rfl rfl (by rw [oM];omega)) ?_
    rw [←List.map_take]
    refine rn ?_;have hx0:=hx
    rw [←yvy k L j L[j]] at hx ⊢
    refine zes (L.take j).length (fun i (z:σ×List Nat)=>p (brP k L j L[j] i) z.1) (fun i z=>⟨[(54,iv i),(1,pZ bi),(2,pZ bl),(3,pZ b3),(4,pZ b4),(5,.fn (.func 110) [] [pZ bi,pZ b4]),(7,pZ b7),(16,zfe L),(17,iv (L.map zcu).length),(18,iv j),(52,zfe (L.take j)),(53,iv ((L.take j).map zcu).length)],.box b7 121 (zcu L[j]):: .box b4 141 [mpv bm]:: .map bm (zah zcb (zb4 iv (zlq M (zd2 k L[j])))):: .box b3 175 [y]:: .box bl 101 [zfe L]:: .box bi 3 [iv ((k:Nat):Int)]:: .glob 0 117 w7::(I (brP k L j L[j] i) z.1++(z.2.map Res.defs)),z.2⟩) (x,dfs) hx es ?_
    clear hx hx0
    rintro i ⟨x,dfs⟩ li hx
    have hx:p (brP k L j L[j] i) x:=hx
    show aw _ _ _ _ _ ⟨[(54,iv i),(1,pZ bi),(2,pZ bl),(3,pZ b3),(4,pZ b4),(5,.fn (.func 110) [] [pZ bi,pZ b4]),(7,pZ b7),(16,zfe L),(17,iv (L.map zcu).length),(18,iv j),(52,zfe (L.take j)),(53,iv ((L.take j).map zcu).length)],.box b7 121 (zcu L[j]):: .box b4 141 [mpv bm]:: .map bm (zah zcb (zb4 iv (zlq M (zd2 k L[j])))):: .box b3 175 [y]:: .box bl 101 [zfe L]:: .box bi 3 [iv ((k:Nat):Int)]:: .glob 0 117 w7::(I (brP k L j L[j] i) x++(dfs.map Res.defs)),dfs⟩
    refine rn ?_;refine z7 rfl (fun hc55=> ?_) (fun hc55=> ?_)
    ·have hi:=zan hc55
     have ri:=zaf (f:=zcu) hi
     have hil:=List.length_take_le j L
     refine rn ?_;refine z8 rfl (y6 rfl fun b12=> ?_)
     refine rn ?_;refine z8 rfl (q7 rfl rfl (y3.of_fun (ylk k (L.take j)[i] L[j] _)) rfl ?_)
     rintro _ _ ⟨ci,ce,cl,rfl,rfl⟩
     refine rn ?_;refine znz (fun pend h''=>(pend=none∧(zkq k (L.take j)[i] L[j])= []∧h''= .box cl 121 (zcu L[j]):: .box ce 121 (zcu (L.take j)[i]):: .box ci 3 [iv (k:Int)]:: .glob 0 117 w7:: .box b12 121 (zcu (L.take j)[i]):: .box b7 121 (zcu L[j]):: .box b4 141 [mpv bm]:: .map bm (zah zcb (zb4 iv (zlq M (zd2 k L[j])))):: .box b3 175 [y]:: .box bl 101 [zfe L]:: .box bi 3 [iv (k:Int)]::(I (brP k L j L[j] i) x++(dfs.map Res.defs)))∨(pend=some (.exit 6)∧∃b rest x',(zkq k (L.take j)[i] L[j])=b::rest∧p ((brP k L j L[j] i)++ [b]) x'∧h''= .box cl 121 (zcu L[j]):: .box ce 121 (zcu (L.take j)[i]):: .box ci 3 [iv (k:Int)]:: .glob 0 117 w7:: .box b12 121 (zcu (L.take j)[i]):: .box b7 121 (zcu L[j]):: .box b4 141 [mpv bm]:: .map bm (zah zcb (zb4 iv (zlq M (zd2 k L[j])))):: .box b3 175 [y]:: .box bl 101 [zfe L]:: .box bi 3 [iv (k:Int)]::(I ((brP k L j L[j] i)++ [b]) x'++(dfs.map Res.defs)))∨(pend=some .ret∧∃x',q x'∧h''= .box cl 121 (zcu L[j]):: .box ce 121 (zcu (L.take j)[i]):: .box ci 3 [iv (k:Int)]:: .glob 0 117 w7:: .box b12 121 (zcu (L.take j)[i]):: .box b7 121 (zcu L[j]):: .box b4 141 [mpv bm]:: .map bm (zah zcb (zb4 iv (zlq M (zd2 k L[j])))):: .box b3 175 [y]:: .box bl 101 [zfe L]:: .box bi 3 [iv (k:Int)]::(X x'++(dfs.map Res.defs)))) rfl (fun fn l q0 lp hlp=> ?_) (fun q0 h'' hK=> ?_) (fun q0 h'' cc hK=> ?_)
     ·suffices hy2:∀pre d' rest z,(zkq k (L.take j)[i] L[j])=pre++d'::rest→(fun (pre:List Brch) (_:Bool×σ)=>pre= []) pre z→y3 Tryz.prog (yv l) [.agg (zb9 d')] (.box cl 121 (zcu L[j]):: .box ce 121 (zcu (L.take j)[i]):: .box ci 3 [iv (k:Int)]:: .glob 0 117 w7::(fun (_:List Brch) (_:Bool×σ)=>lp .ready none:: .defs q0:: .box b12 121 (zcu (L.take j)[i]):: .box b7 121 (zcu L[j]):: .box b4 141 [mpv bm]:: .map bm (zah zcb (zb4 iv (zlq M (zd2 k L[j])))):: .box b3 175 [y]:: .box bl 101 [zfe L]:: .box bi 3 [iv (k:Int)]::(I (brP k L j L[j] i) x++(dfs.map Res.defs))) pre z) (fun r h'=>∃z',(r=bv true∧(fun (pre:List Brch) (_:Bool×σ)=>pre= []) (pre++ [d']) z'∧h'= .box cl 121 (zcu L[j]):: .box ce 121 (zcu (L.take j)[i]):: .box ci 3 [iv (k:Int)]:: .glob 0 117 w7::(fun (_:List Brch) (_:Bool×σ)=>lp .ready none:: .defs q0:: .box b12 121 (zcu (L.take j)[i]):: .box b7 121 (zcu L[j]):: .box b4 141 [mpv bm]:: .map bm (zah zcb (zb4 iv (zlq M (zd2 k L[j])))):: .box b3 175 [y]:: .box bl 101 [zfe L]:: .box bi 3 [iv (k:Int)]::(I (brP k L j L[j] i) x++(dfs.map Res.defs))) (pre++ [d']) z')∨(r=bv false∧(fun z:Bool×σ=>(z.1=true∧(∃b rest,(zkq k (L.take j)[i] L[j])=b::rest)∧p ((brP k L j L[j] i)++ [hdB (zkq k (L.take j)[i] L[j])]) z.2)∨(z.1=false∧q z.2)) z'∧h'= .box cl 121 (zcu L[j]):: .box ce 121 (zcu (L.take j)[i]):: .box ci 3 [iv (k:Int)]:: .glob 0 117 w7::(fun z:Bool×σ=>lp .done (some (bif z.1 then .exit 6 else .ret)):: .defs q0:: .box b12 121 (zcu (L.take j)[i]):: .box b7 121 (zcu L[j]):: .box b4 141 [mpv bm]:: .map bm (zah zcb (zb4 iv (zlq M (zd2 k L[j])))):: .box b3 175 [y]:: .box bl 101 [zfe L]:: .box bi 3 [iv (k:Int)]::((bif z.1 then I ((brP k L j L[j] i)++ [hdB (zkq k (L.take j)[i] L[j])]) z.2 else X z.2)++(dfs.map Res.defs))) z')) by
       refine y8.mono (y8.perm ((pt2 _ _ _ _).trans (.cons _ ((pt2 _ _ _ _).trans (.cons _ ((pt2 _ _ _ _).trans (.cons _ (pt9 _ _ _ _ _ _ _ _ _ _ _))))))) (ylj k hk (L.take j)[i] L[j] (hf _ (List.mem_of_mem_take (List.getElem_mem hi))) (hs _ (List.getElem_mem hj)) (yv l) ci ce cl (fun (pre:List Brch) (_:Bool×σ)=>pre= []) (fun z:Bool×σ=>(z.1=true∧(∃b rest,(zkq k (L.take j)[i] L[j])=b::rest)∧p ((brP k L j L[j] i)++ [hdB (zkq k (L.take j)[i] L[j])]) z.2)∨(z.1=false∧q z.2)) (fun (_:List Brch) (_:Bool×σ)=>lp .ready none:: .defs q0:: .box b12 121 (zcu (L.take j)[i]):: .box b7 121 (zcu L[j]):: .box b4 141 [mpv bm]:: .map bm (zah zcb (zb4 iv (zlq M (zd2 k L[j])))):: .box b3 175 [y]:: .box bl 101 [zfe L]:: .box bi 3 [iv (k:Int)]::(I (brP k L j L[j] i) x++(dfs.map Res.defs))) (fun z:Bool×σ=>lp .done (some (bif z.1 then .exit 6 else .ret)):: .defs q0:: .box b12 121 (zcu (L.take j)[i]):: .box b7 121 (zcu L[j]):: .box b4 141 [mpv bm]:: .map bm (zah zcb (zb4 iv (zlq M (zd2 k L[j])))):: .box b3 175 [y]:: .box bl 101 [zfe L]:: .box bi 3 [iv (k:Int)]::((bif z.1 then I ((brP k L j L[j] i)++ [hdB (zkq k (L.take j)[i] L[j])]) z.2 else X z.2)++(dfs.map Res.defs))) (false,x) rfl hy2)) ?_
       rintro _ _ ⟨⟨b,x'⟩,⟨hn,rfl⟩|⟨⟨e1,⟨b0,rest,hn⟩,hp1⟩|⟨e1,hq1⟩,rfl⟩⟩
       ·exact ⟨none,.ready,_,((pt4 _ _ _ _ _ _).trans (.cons _ (pt4 _ _ _ _ _ _))),by simp,.inl ⟨rfl,hn,rfl⟩⟩
       ·have e1:b=true:=e1
        subst e1
        have hd1:hdB (zkq k (L.take j)[i] L[j])=b0:=by rw [hn];rfl
        exact ⟨some (.exit 6),.done,_,((pt4 _ _ _ _ _ _).trans (.cons _ (pt4 _ _ _ _ _ _))),by simp,.inr (.inl ⟨rfl,b0,rest,x',hn,by rw [←hd1];exact hp1,by rw [←hd1];rfl⟩)⟩
       ·have e1:b=false:=e1
        subst e1
        exact ⟨some .ret,.done,_,((pt4 _ _ _ _ _ _).trans (.cons _ (pt4 _ _ _ _ _ _))),by simp,.inr (.inr ⟨rfl,x',hq1,rfl⟩)⟩
      intro pre d' rest z hL hpre
      obtain rfl:pre= []:=hpre
      have hL1:(zkq k (L.take j)[i] L[j])=d'::rest:=hL
      obtain ⟨R,hL2⟩:=ys3 hj hi hL1
      have hd1:hdB (zkq k (L.take j)[i] L[j])=d':=by rw [hL1];rfl
      refine y3.perm (pt4 _ _ _ _ _ _) (y3.ventE ?_)
      refine zel hlp rfl rfl ?_
      refine rn ?_;refine z8 rfl (y6 rfl fun b13=> ?_)
      refine rn ?_;refine ⟨[(13,pZ b13),(3,pZ b3)],.box b13 36 (zb9 d'):: .box cl 121 (zcu L[j]):: .box ce 121 (zcu (L.take j)[i]):: .box ci 3 [iv (k:Int)]:: .glob 0 117 w7:: .defs q0:: .box b12 121 (zcu (L.take j)[i]):: .box b7 121 (zcu L[j]):: .box b4 141 [mpv bm]:: .map bm (zah zcb (zb4 iv (zlq M (zd2 k L[j])))):: .box b3 175 [y]:: .box bl 101 [zfe L]:: .box bi 3 [iv (k:Int)]::(I (brP k L j L[j] i) x++(dfs.map Res.defs)),w9 (zax (pt1 _ _ _)) es,?_⟩
      refine zaj ?_;refine x8 ?_;refine x8 (y5 ?_)
      refine q1 ?_;refine q1 ?_;refine z8 rfl (q7 rfl rfl (y3.perm (.cons _ (.cons _ (.cons _ (.cons _ (.cons _ ((pt1 _ _ _).trans (.cons _ ((pt1 _ _ _).trans (.cons _ ((pt1 _ _ _).trans (.cons _ ((pt1 _ _ _).trans (.cons _ ((pt1 _ _ _).trans (.cons _ ((pt1 _ _ _).trans (.cons _ ((pt1 _ _ _).trans (.cons _ (pt1 _ _ _)))))))))))))))))))) (y3.fr11 (hyF (brP k L j L[j] i) d' R x (dfs.map Res.defs) hL2 hx))) rfl ?_)
      rintro _ _ ⟨_,rfl,x',⟨rfl,hp',rfl⟩|⟨rfl,hq',rfl⟩⟩
      ·refine rn ?_;refine z7 rfl (fun hc66=> ?_) (fun hc66=> ?_)
       ·first|cases hc66|exact absurd hc66 (by decide)|(exfalso;simp_all;done)
       ·refine rn ?_;exact zmk (.refl _) ⟨_,_,.trans (.perm ((pt1 _ _ _).trans (.cons _ ((pt1 _ _ _).trans (.cons _ ((pt1 _ _ _).trans (.cons _ ((pt1 _ _ _).trans (.cons _ (pt9 _ _ _ _ _ _ _ _ _ _ _))))))))) _) (.drop [_] _ _),(true,x'),.inr ⟨rfl,.inl ⟨rfl,⟨_,_,hL1⟩,by rw [hd1];exact hp'⟩,by rw [hd1];rfl⟩⟩
      ·refine rn ?_;refine z7 rfl (fun hc66=> ?_) (fun hc66=> ?_)
       ·refine rn ?_;exact zpf (.refl _) ⟨_,_,.trans (.perm ((pt1 _ _ _).trans (.cons _ ((pt1 _ _ _).trans (.cons _ ((pt1 _ _ _).trans (.cons _ ((pt1 _ _ _).trans (.cons _ (pt9 _ _ _ _ _ _ _ _ _ _ _))))))))) _) (.drop [_] _ _),(false,x'),.inr ⟨rfl,.inr ⟨rfl,hq'⟩,rfl⟩⟩
       ·first|cases hc66|exact absurd hc66 (by decide)|(exfalso;simp_all;done)
     ·obtain ⟨_,hFE,rfl⟩|⟨hc',_⟩|⟨hc',_⟩:=hK
      rotate_left
      ·cases hc'
      ·cases hc'
      refine rn ?_;exact ⟨hi,(x,q0::dfs),by simp only;rw [ys5 hi hFE];exact hx,by simp only;rw [ys5 hi hFE];exact w9 (zax ((List.Perm.cons _ (.cons _ (.cons _ (.cons _ ((pt1 _ _ _).trans (.cons _ ((pt1 _ _ _).trans (.cons _ ((pt1 _ _ _).trans (.cons _ ((pt1 _ _ _).trans (.cons _ ((pt1 _ _ _).trans (.cons _ ((pt1 _ _ _).trans (.cons _ (pt1 _ _ _))))))))))))))))).trans (zjl _ [_,_,_,_,_,_,_,_,_,_,_] _ _))) (w9 (zba (h1:= [_,_,_,_])) es)⟩
     ·obtain ⟨hc',_⟩|⟨hc',b,rest,x',hFE,hpp,rfl⟩|⟨hc',x',hqq,rfl⟩:=hK
      ·cases hc'
      ·obtain rfl:cc= .exit 6:=by simpa using hc'
       refine rn ?_;exact ⟨hi,(x',q0::dfs),by simp only;rw [ys4 hi hFE];exact hpp,by simp only;rw [ys4 hi hFE];exact w9 (zax ((List.Perm.cons _ (.cons _ (.cons _ (.cons _ ((pt1 _ _ _).trans (.cons _ ((pt1 _ _ _).trans (.cons _ ((pt1 _ _ _).trans (.cons _ ((pt1 _ _ _).trans (.cons _ ((pt1 _ _ _).trans (.cons _ ((pt1 _ _ _).trans (.cons _ (pt1 _ _ _))))))))))))))))).trans (zjl _ [_,_,_,_,_,_,_,_,_,_,_] _ _))) (w9 (zba (h1:= [_,_,_,_])) es)⟩
      ·obtain rfl:cc= .ret:=by simpa using hc'
       refine rn ?_;refine ⟨fun l h=>(by cases h),?_⟩
       exact zia (.cons _ (zwg [_,_,_,_,_,_,_,_,_,_,_] _ dfs)) .nil (.trans (.perm (.cons _ (.cons _ (.cons _ ((pt1 _ _ _).trans (.cons _ ((pt1 _ _ _).trans (.cons _ ((pt1 _ _ _).trans (.cons _ ((pt1 _ _ _).trans (.cons _ ((pt1 _ _ _).trans (.cons _ ((pt1 _ _ _).trans (.cons _ (pt1 _ _ _)))))))))))))))) _) (.drop [_,_,_,_,_,_,_,_] _ _)) ⟨x',.inr ⟨hqq,rfl⟩⟩
    ·have qi:=zap hc55 li
     refine rn ?_;have hw:=yvx (k:=k) hj qi
     exact ⟨hj,(x,(zlq M (zd2 k L[j])),dfs),⟨by simp only;rw [←hw];exact hx,yjc hM hj⟩,by simp only;rw [←hw];exact eA⟩
 ·have qj:=zap hc19 lj
  subst qj
  refine rn ?_;refine ⟨fun l h=>(by cases h),?_⟩
  exact yly (zwg [_,_,_,_,_,_] _ dfs) .nil (.drop [_,_,_] _ _) ⟨x,.inl ⟨hx,rfl⟩⟩
def br0:Brch:=⟨0,0,0,0,0,0⟩
theorem zs1 (a b:Brch):(([a.g,a.e,a.l,a.o,a.a,a.b]:List Int)== [b.g,b.e,b.l,b.o,b.a,b.b])=(a==b):=by
 rw [Bool.eq_iff_iff]
 obtain ⟨a1,a2,a3,a4,a5,a6⟩:=a
 obtain ⟨b1,b2,b3,b4,b5,b6⟩:=b
 simp
theorem yd3 {h:Hist} {s g:Int} (he:znl h s g=0):ze4 h s=0∧yj6 h s g=zao h s∧∃k:Nat,k < 4∧yj7 h s g=(k:Int)∧zc2 k=g∧zp9 g=(k:Int):=by
 by_cases hl:ze4 h s=0
 ·by_cases hg:zp9 g < 0
  ·have:=(zqr hl hg).1;omega
  ·obtain ⟨k,hk,e1,e2⟩:=ysh hg
   exact ⟨hl,(zks hl hg).2.1,k,hk,by rw [(zks hl hg).2.2,e1],e2,e1⟩
 ·have:=(zqs (g:=g) hl).1;omega
theorem zn5 (l:List Acc):∀n:Nat,(zn6 n l).length=(l.filter fun a=>decide (0≤a.o∧a.o < (n:Int))).length
 |0=>by
  have:(l.filter fun a=>decide (0≤a.o∧a.o < ((0:Nat):Int)))= []:=by
   rw [List.filter_eq_nil_iff];intro a _;simp <;> omega
  rw [this];rfl
 |n+1=>by
  have ih:=zn5 l n
  rw [zn6,zzx,List.flatMap_append,List.length_append]
  rw [zn6] at ih
  rw [ih]
  clear ih
  induction l with
  |nil=>rfl
  |cons a l ih=>
   simp only [List.filter_cons,List.flatMap_cons,List.flatMap_nil,List.append_nil] at ih ⊢
   by_cases h1:a.o=(n:Int)
   ·have e1:decide (0≤a.o∧a.o < (n:Int))=false:=decide_eq_false (by omega)
    have e2:decide (0≤a.o∧a.o < ((n+1:Nat):Int))=true:=decide_eq_true (by omega)
    have e3:(a.o==(n:Int))=true:=by simpa using h1
    rw [e1,e2,e3];simp only [↓reduceIte,List.length_cons,Bool.false_eq_true] at ih ⊢;omega
   ·have e3:(a.o==(n:Int))=false:=by simpa using h1
    by_cases h2:0≤a.o∧a.o < (n:Int)
    ·have e1:decide (0≤a.o∧a.o < (n:Int))=true:=decide_eq_true h2
     have e2:decide (0≤a.o∧a.o < ((n+1:Nat):Int))=true:=decide_eq_true (by omega)
     rw [e1,e2,e3];simp only [↓reduceIte,List.length_cons,Bool.false_eq_true] at ih ⊢;omega
    ·have e1:decide (0≤a.o∧a.o < (n:Int))=false:=decide_eq_false h2
     have e2:decide (0≤a.o∧a.o < ((n+1:Nat):Int))=false:=decide_eq_false (by omega)
     rw [e1,e2,e3];simp only [↓reduceIte,Bool.false_eq_true];exact ih
theorem zv0 (n:Nat) (l:List Acc):(zn6 n l).length≤l.length:=by rw [zn5];exact List.length_filter_le _ _
theorem zwo {h:Hist} (hc:v8 h=0) (s:Int):(zao h s).length≤3000∧∀d∈zao h s,d.A.length≤3000∧d.B.length≤3000:=by
 have lE:=(zg1 hc).evs
 refine ⟨by rw [zao,oM];exact Nat.le_trans (zlx h s) lE,fun d hd=> ?_⟩
 obtain ⟨t,_,rfl⟩:=List.mem_map.1 hd
 have h1:=zv0 h.os.length (zn0 h t 3)
 have h2:=zv0 h.os.length (zn0 h t 2)
 have h3:(zn0 h t 3).length≤h.evs.length:=zfo h t 3 h.evs.length
 have h4:(zn0 h t 2).length≤h.evs.length:=zfo h t 2 h.evs.length
 exact ⟨by show (zn6 _ _).length≤_;omega,by show (zn6 _ _).length≤_;omega⟩
theorem ycp {k n:Nat} {d:Dos} (h:d.A.length≤n∧d.B.length≤n):(zd2 k d).length≤n:=by rw [zd2];split;exact h.2;exact h.1
theorem zv5 {k n:Nat} {d:Dos} (h:d.A.length≤n∧d.B.length≤n):(zh0 k d).length≤n:=by rw [zh0];split;exact h.1;exact h.2
def seB (h:Hist) (s g:Int):List Brch:=if znl h s g=0 then brW (zp9 g).toNat (zao h s) (zao h s).length else []
theorem yuj {h:Hist} {s g:Int} (he:znl h s g≠0):seB h s g= []:=if_neg he
theorem yfm {h:Hist} {s g:Int} {k:Nat} (he:znl h s g=0) (hk:zp9 g=(k:Int)):seB h s g=brW k (zao h s) (zao h s).length:=by rw [seB,if_pos he,hk];rfl
theorem zwk {α:Type} {l pre rest:List α} {d:α} (h:l=pre++d::rest) (e:pre= []):l=d::rest:=by rw [h,e];rfl
def haK (h:Hist) (s:Int):Nat→Int
 |0=>0
 |k+1=>if brW k (zao h s) (zao h s).length= [] then bI .or .i64 (haK h s k) (zc2 k) else haK h s k
def haO (h:Hist) (s:Int):Int:=if ze4 h s=0 then haK h s 4 else 0
set_option maxHeartbeats 8000000 in
theorem yfk (h:Hist) (la:Lim 4611686018427387904 h) (s g:Int):y8 Tryz.prog 15 [.agg (x3 h),iv s,iv g] (.glob 0 117 w7:: .glob 3 148 x6:: .glob 5 276 x7:: .glob 6 279 y7:: .glob 2 197 u7:: []) (fun r h'=>h'= .glob 0 117 w7:: .glob 3 148 x6:: .glob 5 276 x7:: .glob 6 279 y7:: .glob 2 197 u7:: []∧r= .tup [.agg (zb9 ((seB h s g).head?.getD br0)),bv (seB h s g).head?.isSome,iv (znl h s g)]):=by
 refine z6 Tryz.func15 rfl rfl rfl ?_
 refine rn ?_;refine z8 rfl (x9 rfl rfl rfl fun b3=> ?_)
 refine z8 rfl (y6 rfl fun b6=> ?_)
 refine z8 rfl (y6 rfl fun b7=> ?_)
 refine z8 rfl (y6 rfl fun b8=> ?_)
 refine rn ?_;refine qv rfl rfl (y4 rfl rfl (y3.qt (y3.of_fun (yfl h la s g)) ((pt4 _ _ _ _ _ _).trans (.cons _ ((pt4 _ _ _ _ _ _).trans (.cons _ ((pt4 _ _ _ _ _ _).trans (.cons _ ((pt4 _ _ _ _ _ _).trans (.cons _ (pt4 _ _ _ _ _ _))))))))))) ?_
 refine rn ?_;refine z7 rfl (fun hc22=> ?_) (fun hc22=> ?_)
 ·have he:znl h s g≠0:=nzT hc22
  refine rn ?_;exact ze0 (.cons _ _ _ _ (.agg _ _ _ _ _ _ _ rfl inferInstance inferInstance inferInstance rfl) (.cons _ _ _ _ (.one _ _ _ _ _ _ _ rfl inferInstance inferInstance rfl) (.cons _ _ _ _ (.one _ _ _ _ _ _ _ rfl inferInstance inferInstance rfl) .nil))) (.drop [_,_,_,_] _ _) ⟨rfl,by rw [yuj he];rfl⟩
 ·have he:znl h s g=0:=nzF hc22
  obtain ⟨hl0,eO,k,hk,eI,eB,eG⟩:=yd3 he
  have hB:=zwo (zd3.2 (yik hl0).1) s
  rw [eI,eO]
  refine rn ?_;refine z8 rfl (q7 rfl rfl (y3.of_fun (yi1 k (zao h s) _)) rfl ?_)
  rintro _ _ ⟨bi,bl,rfl,rfl⟩
  refine rn ?_;refine znz (fun pend h''=>(pend=none∧(brW k (zao h s) (zao h s).length)= []∧h''= .box bl 101 [zfe (zao h s)]:: .box bi 3 [iv ((k:Nat):Int)]:: .glob 0 117 w7:: .box b8 32 [iv 0]:: .box b7 4 [bv false]:: .box b6 36 (zb9 br0):: .box b3 28 (x3 h):: .glob 3 148 x6:: .glob 5 276 x7:: .glob 6 279 y7:: .glob 2 197 u7:: [])∨(pend=some .ret∧∃d rest,(brW k (zao h s) (zao h s).length)=d::rest∧h''= .box bl 101 [zfe (zao h s)]:: .box bi 3 [iv ((k:Nat):Int)]:: .glob 0 117 w7:: .box b8 32 [iv 0]:: .box b7 4 [bv true]:: .box b6 36 (zb9 d):: .box b3 28 (x3 h):: .glob 3 148 x6:: .glob 5 276 x7:: .glob 6 279 y7:: .glob 2 197 u7:: [])) rfl (fun fn l q lp hlp=> ?_) (fun q h'' hK=> ?_) (fun q h'' cc hK=> ?_)
  ·suffices hy:∀pre d rest (x:Brch),(brW k (zao h s) (zao h s).length)=pre++d::rest→pre= []→y3 Tryz.prog (yv l) [.agg (zb9 d)] (.box bl 101 [zfe (zao h s)]:: .box bi 3 [iv ((k:Nat):Int)]:: .glob 0 117 w7::lp .ready none:: .defs q:: .box b8 32 [iv 0]:: .box b7 4 [bv false]:: .box b6 36 (zb9 br0):: .box b3 28 (x3 h):: .glob 3 148 x6:: .glob 5 276 x7:: .glob 6 279 y7:: .glob 2 197 u7:: []) (fun r h'=>∃x',(r=bv true∧pre++ [d]= []∧h'= .box bl 101 [zfe (zao h s)]:: .box bi 3 [iv ((k:Nat):Int)]:: .glob 0 117 w7::lp .ready none:: .defs q:: .box b8 32 [iv 0]:: .box b7 4 [bv false]:: .box b6 36 (zb9 br0):: .box b3 28 (x3 h):: .glob 3 148 x6:: .glob 5 276 x7:: .glob 6 279 y7:: .glob 2 197 u7:: [])∨(r=bv false∧(∃rest,(brW k (zao h s) (zao h s).length)=x'::rest)∧h'= .box bl 101 [zfe (zao h s)]:: .box bi 3 [iv ((k:Nat):Int)]:: .glob 0 117 w7::lp .done (some .ret):: .defs q:: .box b8 32 [iv 0]:: .box b7 4 [bv true]:: .box b6 36 (zb9 x'):: .box b3 28 (x3 h):: .glob 3 148 x6:: .glob 5 276 x7:: .glob 6 279 y7:: .glob 2 197 u7:: [])) by
    refine y8.mono (y8.perm ((pt2 _ _ _ _).trans (.cons _ ((pt2 _ _ _ _).trans (.cons _ (pt6 _ _ _ _ _ _ _ _))))) (yi0 k hk (zao h s) (by omega) (fun d hd=>ycp ⟨Nat.le_trans (hB.2 d hd).1 (by decide),Nat.le_trans (hB.2 d hd).2 (by decide)⟩) (fun d hd=>zv5 ⟨Nat.le_trans (hB.2 d hd).1 (by decide),Nat.le_trans (hB.2 d hd).2 (by decide)⟩) (yv l) rfl bi bl (fun pre _=>pre= []) (fun d=>∃rest,(brW k (zao h s) (zao h s).length)=d::rest) (fun _ _=>lp .ready none:: .defs q:: .box b8 32 [iv 0]:: .box b7 4 [bv false]:: .box b6 36 (zb9 br0):: .box b3 28 (x3 h):: .glob 3 148 x6:: .glob 5 276 x7:: .glob 6 279 y7:: .glob 2 197 u7:: []) (fun d=>lp .done (some .ret):: .defs q:: .box b8 32 [iv 0]:: .box b7 4 [bv true]:: .box b6 36 (zb9 d):: .box b3 28 (x3 h):: .glob 3 148 x6:: .glob 5 276 x7:: .glob 6 279 y7:: .glob 2 197 u7:: []) br0 rfl hy)) ?_
    rintro _ _ ⟨x,⟨hn,rfl⟩|⟨⟨rest,hn⟩,rfl⟩⟩
    ·exact ⟨none,.ready,_,((pt3 _ _ _ _ _).trans (.cons _ (pt3 _ _ _ _ _))),by simp,.inl ⟨rfl,hn,rfl⟩⟩
    ·exact ⟨some .ret,.done,_,((pt3 _ _ _ _ _).trans (.cons _ (pt3 _ _ _ _ _))),by simp,.inr ⟨rfl,x,rest,hn,rfl⟩⟩
   intro pre d rest x hL hpre
   refine y3.perm (pt3 _ _ _ _ _) (y3.ventE ?_)
   refine zel hlp rfl rfl ?_
   refine rn ?_;refine z8 rfl (y6 rfl fun b12=> ?_)
   refine rn ?_;refine ⟨[(12,pZ b12),(6,pZ b6),(7,pZ b7),(8,pZ b8)],.box b12 36 (zb9 d):: .box bl 101 [zfe (zao h s)]:: .box bi 3 [iv ((k:Nat):Int)]:: .glob 0 117 w7:: .defs q:: .box b8 32 [iv 0]:: .box b7 4 [bv false]:: .box b6 36 (zb9 br0):: .box b3 28 (x3 h):: .glob 3 148 x6:: .glob 5 276 x7:: .glob 6 279 y7:: .glob 2 197 u7:: [],w9 (zax (pt1 _ _ _)) es,?_⟩
   refine rn ?_;exact zpf (.refl _) ⟨_,_,.trans (.perm ((pt1 _ _ _).trans (.cons _ ((pt1 _ _ _).trans (.cons _ ((pt1 _ _ _).trans (.cons _ (pt1 _ _ _))))))) _) (.drop [_] _ _),d,.inr ⟨rfl,⟨rest,zwk hL hpre⟩,rfl⟩⟩
  ·obtain ⟨_,hn,rfl⟩|⟨hc',_⟩:=hK
   rotate_left
   ·cases hc'
   refine rn ?_;exact zia (.refl _) (.cons _ _ _ _ (.agg _ _ _ _ _ _ _ rfl inferInstance inferInstance inferInstance rfl) (.cons _ _ _ _ (.one _ _ _ _ _ _ _ rfl inferInstance inferInstance rfl) (.cons _ _ _ _ (.one _ _ _ _ _ _ _ rfl inferInstance inferInstance rfl) .nil))) (.trans (.perm (.cons _ (.cons _ ((pt1 _ _ _).trans (.cons _ ((pt1 _ _ _).trans (.cons _ ((pt1 _ _ _).trans (.cons _ (pt1 _ _ _))))))))) _) (.drop [_,_,_,_,_,_] _ _)) ⟨rfl,by rw [yfm he eG,hn,he];rfl⟩
  ·obtain ⟨hc',_⟩|⟨hc',d,rest,hn,rfl⟩:=hK
   ·cases hc'
   obtain rfl:cc= .ret:=by simpa using hc'
   refine rn ?_;exact zia (.refl _) (.cons _ _ _ _ (.agg _ _ _ _ _ _ _ rfl inferInstance inferInstance inferInstance rfl) (.cons _ _ _ _ (.one _ _ _ _ _ _ _ rfl inferInstance inferInstance rfl) (.cons _ _ _ _ (.one _ _ _ _ _ _ _ rfl inferInstance inferInstance rfl) .nil))) (.trans (.perm (.cons _ (.cons _ ((pt1 _ _ _).trans (.cons _ ((pt1 _ _ _).trans (.cons _ ((pt1 _ _ _).trans (.cons _ (pt1 _ _ _))))))))) _) (.drop [_,_,_,_,_,_] _ _)) ⟨rfl,by rw [yfm he eG,hn,he];rfl⟩
set_option maxHeartbeats 8000000 in
theorem yp2 (h:Hist) (la:Lim 4611686018427387904 h) (s:Int):y8 Tryz.prog 24 [.agg (x3 h),iv s] (.glob 0 117 w7:: .glob 3 148 x6:: .glob 5 276 x7:: .glob 6 279 y7:: .glob 2 197 u7:: []) (fun r h'=>h'= .glob 0 117 w7:: .glob 3 148 x6:: .glob 5 276 x7:: .glob 6 279 y7:: .glob 2 197 u7:: []∧r= .tup [iv (haO h s),iv (ze4 h s)]):=by
 refine z6 Tryz.func24 rfl rfl rfl ?_
 refine rn ?_;refine z8 rfl (x9 rfl rfl rfl fun b2=> ?_)
 refine rn ?_;refine qv rfl rfl (y4 rfl rfl (y3.qt (y3.of_fun (yae h la s)) ((pt2 _ _ _ _).trans (.cons _ ((pt2 _ _ _ _).trans (.cons _ ((pt2 _ _ _ _).trans (.cons _ (pt2 _ _ _ _))))))))) ?_
 refine rn ?_;refine z7 rfl (fun hc19=> ?_) (fun hc19=> ?_)
 ·have he:ze4 h s≠0:=nzT hc19
  refine rn ?_;exact zbw rfl rfl (.drop [_] _ _) ⟨rfl,by rw [haO,if_neg he];rfl⟩
 ·have hl0:ze4 h s=0:=nzF hc19
  have hB:=zwo (zd3.2 (yik hl0).1) s
  rw [zun hl0]
  refine rn ?_;refine zes 4 (fun _ (_:List Nat)=>True) (fun k dfs=>⟨[(22,iv (k:Nat)),(8,iv (haK h s k)),(6,zfe (zao h s)),(21,.agg w7)],.box b2 28 (x3 h):: .glob 0 117 w7:: .glob 3 148 x6:: .glob 5 276 x7:: .glob 6 279 y7:: .glob 2 197 u7::(dfs.map Res.defs),dfs⟩) [] trivial es ?_
  intro k dfs lk _
  refine rn ?_;refine z7 rfl (fun hc23=> ?_) (fun hc23=> ?_)
  ·have hk:k < 4:=by have q:=oT hc23;omega
   refine zad ?_;refine j7 ?_;refine x8 ?_;refine zaj ?_;refine x8 (y5 ?_)
   refine q1 ?_;refine qq rfl rfl (zg7 (i:=k) (out:=zw2 k) rfl rfl hk (by show k * 3+3≤12;omega) (ynx hk)) ?_
   refine z8 rfl (y6 rfl fun b10=> ?_)
   refine rn ?_;refine z8 rfl (y6 rfl fun b11=> ?_)
   refine rn ?_;refine z8 rfl (q7 rfl rfl (y3.of_fun (yi1 k (zao h s) _)) rfl ?_)
   rintro _ _ ⟨bi,bl,rfl,rfl⟩
   refine rn ?_;refine znz (fun pend h''=>(pend=none∧(brW k (zao h s) (zao h s).length)= []∧h''= .box bl 101 [zfe (zao h s)]:: .box bi 3 [iv ((k:Nat):Int)]:: .glob 0 117 w7:: .box b11 4 [bv false]:: .box b10 116 (zw2 k):: .box b2 28 (x3 h):: .glob 3 148 x6:: .glob 5 276 x7:: .glob 6 279 y7:: .glob 2 197 u7::(dfs.map Res.defs))∨(pend=some (.exit 2)∧(brW k (zao h s) (zao h s).length)≠ []∧h''= .box bl 101 [zfe (zao h s)]:: .box bi 3 [iv ((k:Nat):Int)]:: .glob 0 117 w7:: .box b11 4 [bv true]:: .box b10 116 (zw2 k):: .box b2 28 (x3 h):: .glob 3 148 x6:: .glob 5 276 x7:: .glob 6 279 y7:: .glob 2 197 u7::(dfs.map Res.defs))) rfl (fun fn l q lp hlp=> ?_) (fun q h'' hK=> ?_) (fun q h'' cc hK=> ?_)
   ·suffices hy:∀pre d rest (x:Unit),(brW k (zao h s) (zao h s).length)=pre++d::rest→pre= []→y3 Tryz.prog (yv l) [.agg (zb9 d)] (.box bl 101 [zfe (zao h s)]:: .box bi 3 [iv ((k:Nat):Int)]:: .glob 0 117 w7::lp .ready none:: .defs q:: .box b11 4 [bv false]:: .box b10 116 (zw2 k):: .box b2 28 (x3 h):: .glob 3 148 x6:: .glob 5 276 x7:: .glob 6 279 y7:: .glob 2 197 u7::(dfs.map Res.defs)) (fun r h'=>∃x':Unit,(r=bv true∧pre++ [d]= []∧h'= .box bl 101 [zfe (zao h s)]:: .box bi 3 [iv ((k:Nat):Int)]:: .glob 0 117 w7::lp .ready none:: .defs q:: .box b11 4 [bv false]:: .box b10 116 (zw2 k):: .box b2 28 (x3 h):: .glob 3 148 x6:: .glob 5 276 x7:: .glob 6 279 y7:: .glob 2 197 u7::(dfs.map Res.defs))∨(r=bv false∧(brW k (zao h s) (zao h s).length)≠ []∧h'= .box bl 101 [zfe (zao h s)]:: .box bi 3 [iv ((k:Nat):Int)]:: .glob 0 117 w7::lp .done (some (.exit 2)):: .defs q:: .box b11 4 [bv true]:: .box b10 116 (zw2 k):: .box b2 28 (x3 h):: .glob 3 148 x6:: .glob 5 276 x7:: .glob 6 279 y7:: .glob 2 197 u7::(dfs.map Res.defs))) by
     refine y8.mono (y8.perm ((pt2 _ _ _ _).trans (.cons _ ((pt2 _ _ _ _).trans (.cons _ (pt5 _ _ _ _ _ _ _))))) (yi0 k hk (zao h s) (by omega) (fun d hd=>ycp ⟨Nat.le_trans (hB.2 d hd).1 (by decide),Nat.le_trans (hB.2 d hd).2 (by decide)⟩) (fun d hd=>zv5 ⟨Nat.le_trans (hB.2 d hd).1 (by decide),Nat.le_trans (hB.2 d hd).2 (by decide)⟩) (yv l) rfl bi bl (fun pre _=>pre= []) (fun _=>(brW k (zao h s) (zao h s).length)≠ []) (fun _ _=>lp .ready none:: .defs q:: .box b11 4 [bv false]:: .box b10 116 (zw2 k):: .box b2 28 (x3 h):: .glob 3 148 x6:: .glob 5 276 x7:: .glob 6 279 y7:: .glob 2 197 u7::(dfs.map Res.defs)) (fun _=>lp .done (some (.exit 2)):: .defs q:: .box b11 4 [bv true]:: .box b10 116 (zw2 k):: .box b2 28 (x3 h):: .glob 3 148 x6:: .glob 5 276 x7:: .glob 6 279 y7:: .glob 2 197 u7::(dfs.map Res.defs)) () rfl hy)) ?_
     rintro _ _ ⟨x,⟨hn,rfl⟩|⟨hn,rfl⟩⟩
     ·exact ⟨none,.ready,_,((pt3 _ _ _ _ _).trans (.cons _ (pt3 _ _ _ _ _))),by simp,.inl ⟨rfl,hn,rfl⟩⟩
     ·exact ⟨some (.exit 2),.done,_,((pt3 _ _ _ _ _).trans (.cons _ (pt3 _ _ _ _ _))),by simp,.inr ⟨rfl,hn,rfl⟩⟩
    intro pre d rest x hL hpre
    refine y3.perm (pt3 _ _ _ _ _) (y3.ventE ?_)
    refine zel hlp rfl rfl ?_
    refine rn ?_;refine ⟨[(11,pZ b11)],.box bl 101 [zfe (zao h s)]:: .box bi 3 [iv ((k:Nat):Int)]:: .glob 0 117 w7:: .defs q:: .box b11 4 [bv false]:: .box b10 116 (zw2 k):: .box b2 28 (x3 h):: .glob 3 148 x6:: .glob 5 276 x7:: .glob 6 279 y7:: .glob 2 197 u7::(dfs.map Res.defs),es,?_⟩
    refine rn ?_;exact zmk (.refl _) ⟨_,_,.perm ((pt1 _ _ _).trans (.cons _ ((pt1 _ _ _).trans (.cons _ (pt1 _ _ _))))) _,(),.inr ⟨rfl,by rw [zwk hL hpre];exact List.cons_ne_nil _ _,rfl⟩⟩
   ·obtain ⟨_,hn,rfl⟩|⟨hc',_⟩:=hK
    rotate_left
    ·cases hc'
    refine rn ?_;refine z7 rfl (fun hc31=> ?_) (fun hc31=> ?_)
    ·refine rn ?_;exact ⟨hk,q::dfs,trivial,by rw [haK,if_pos hn];exact w9 (zax ((List.Perm.cons _ (.cons _ (.cons _ ((pt1 _ _ _).trans (.cons _ ((pt1 _ _ _).trans (.cons _ (pt1 _ _ _)))))))).trans (zjl _ [_,_,_,_,_,_,_,_,_,_] [] _))) (w9 (zba (h1:= [_,_,_,_])) es)⟩
    ·refine rn ?_;exact absurd hc31 (by decide)
   ·obtain ⟨hc',_⟩|⟨hc',hn,rfl⟩:=hK
    ·cases hc'
    obtain rfl:cc= .exit 2:=by simpa using hc'
    refine rn ?_;refine z7 rfl (fun hc31=> ?_) (fun hc31=> ?_)
    ·refine rn ?_;exact absurd hc31 (by decide)
    ·refine rn ?_;exact ⟨hk,q::dfs,trivial,by rw [haK,if_neg hn];exact w9 (zax ((List.Perm.cons _ (.cons _ (.cons _ ((pt1 _ _ _).trans (.cons _ ((pt1 _ _ _).trans (.cons _ (pt1 _ _ _)))))))).trans (zjl _ [_,_,_,_,_,_,_,_,_,_] [] _))) (w9 (zba (h1:= [_,_,_,_])) es)⟩
  ·have qk:k=4:=by have q:=oF hc23;omega
   subst qk
   refine rn ?_;exact zia (List.perm_append_comm (l₁:= [_,_,_,_,_,_]) (l₂:=(dfs.map Res.defs))) (.cons _ _ _ _ (.tmp _ _ rfl) (.cons _ _ _ _ (.tmp _ _ rfl) .nil)) (.drop [_] _ _) ⟨rfl,by rw [haO,if_pos hl0,hl0];rfl⟩
instance:EqInts Tryz.prog 36 6:=⟨by kernel_rfl,fun w xs ys h1 h2=>match xs,ys,h1,h2 with
 | [a0,a1,a2,a3,a4,a5],[c0,c1,c2,c3,c4,c5],_,_=>by
   rw [run_equalIn_struct w 9999 36 _ _ (by kernel_rfl) (by kernel_rfl)]
   simp only [Program.fieldsOf,Tryz.underlying36]
   simp [Op.eqFields,part,run_equalIn_int _ 9998 3 .i64 .i64 _ _ Tryz.underlying3]
   by_cases h0:a0=c0
   case neg=>simp [h0]
   subst h0
   by_cases h1:a1=c1
   case neg=>simp [h1]
   subst h1
   by_cases h2:a2=c2
   case neg=>simp [h2]
   subst h2
   by_cases h3:a3=c3
   case neg=>simp [h3]
   subst h3
   by_cases h4:a4=c4
   case neg=>simp [h4]
   subst h4
   by_cases h5:a5=c5
   case neg=>simp [h5]
   subst h5
   simp⟩
instance:EqInts Tryz.prog 81 3:=⟨by kernel_rfl,fun w xs ys h1 h2=>match xs,ys,h1,h2 with
 | [a0,a1,a2],[c0,c1,c2],_,_=>by
   rw [run_equalIn_struct w 9999 81 _ _ (by kernel_rfl) (by kernel_rfl)]
   simp only [Program.fieldsOf,Tryz.underlying81]
   simp [Op.eqFields,part,run_equalIn_int _ 9998 3 .i64 .i64 _ _ Tryz.underlying3]
   by_cases h0:a0=c0
   case neg=>simp [h0]
   subst h0
   by_cases h1:a1=c1
   case neg=>simp [h1]
   subst h1
   by_cases h2:a2=c2
   case neg=>simp [h2]
   subst h2
   simp⟩
def yrz (L:List Dos) (t:Int):Int:=za9 (fun d:Dos=>d.t==t) 0 L
def isO (h:Hist) (s:Int) (z:Brch):Bool:=
 if znl h s z.g=0 then
  (if yrz (zao h s) z.e < 0∨yrz (zao h s) z.l≤yrz (zao h s) z.e then false
   else (match (zao h s)[(yrz (zao h s) z.e).toNat]?,(zao h s)[(yrz (zao h s) z.l).toNat]? with|some e,some l=>decide (z∈zkq (zp9 z.g).toNat e l)|_,_=>false))
 else false
def yqg (h:Hist) (x:Int) (v:Ver):Int×Bool:=if zkr h x h.os.length=0 then (if v=⟨0,0⟩ then (0,true) else (zph h x v+1,decide (zph h x v ≥ 0))) else (0,false)
theorem yl0 {f g:Bool} (l m:List Seen) (hl:l.length≤4611686018427387904) (hm:m.length≤4611686018427387904):y8 Tryz.prog 116 [.list f 3 (l.map zar),.list g 3 (m.map zar)] [] (fun r h'=>h'= []∧r=bv (eqF zf4 l m)):=by
 refine z6 Tryz.func116 rfl rfl rfl ?_
 refine rn ?_;refine z7 rfl (fun hc10=> ?_) (fun hc10=> ?_)
 ·refine rn ?_;have hne:(l.length==m.length)=false:=beq_eq_false_iff_ne.2 fun q=>by simp [q] at hc10
  exact u9 rfl (.refl _ _) ⟨rfl,by rw [eqF,hne,Bool.false_and];rfl⟩
 ·have hlm:l.length=m.length:=by simp at hc10;omega
  refine rn ?_;refine u5 (fun k:Nat=>k≤l.length∧zlc zf4 l m=zlc zf4 (l.drop k) (m.drop k)) (fun k=>⟨[(13,iv k),(12,iv (l.map zar).length),(0,.list f 3 (l.map zar)),(1,.list g 3 (m.map zar))],[],[]⟩) (fun k=>l.length - k) 0 ⟨Nat.zero_le _,by simp⟩
   (w6 (.cons _ _ _ rfl (.cons _ _ _ rfl (.cons _ _ _ rfl (.cons _ _ _ rfl (.nil)))))) ?_
  rintro k ⟨hk,hz⟩
  refine rn ?_;refine z7 rfl (fun hc14=> ?_) (fun hc14=> ?_)
  ·have hk2:k < l.length:=by simpa using hc14
   have hk3:k < m.length:=by omega
   have hrow1:(l.map zar)[k]? =some (zar l[k]):=by simp [hk2]
   have hrow2:(m.map zar)[k]? =some (zar m[k]):=by simp [hk3]
   have hd1:=List.drop_eq_getElem_cons hk2
   have hd2:=List.drop_eq_getElem_cons hk3
   refine rn ?_;refine j4 8 rfl ?_
   refine rn ?_;refine z7 rfl (fun hc24=> ?_) (fun hc24=> ?_)
   ·refine rn ?_;exact u9 rfl (.refl _ _) ⟨rfl,by rw [eqF,hz,hd1,hd2,zlc,show zf4 l[k] m[k]=false from zpn hc24,Bool.false_and,Bool.and_false];rfl⟩
   ·refine rn ?_;exact ⟨k+1,⟨by omega,by rw [hz,hd1,hd2,zlc,show zf4 l[k] m[k]=true from zpo hc24,Bool.true_and]⟩,(w6 (.cons _ _ _ rfl (.cons _ _ _ rfl (.cons _ _ _ rfl (.cons _ _ _ rfl (.nil)))))),by omega⟩
  ·have hk3:k=l.length:=by
    have:l.length≤k:=by simpa using hc14
    omega
   refine rn ?_;exact u9 rfl (.refl _ _) ⟨rfl,by rw [eqF,hz,hk3,List.drop_length,zi5,hlm,beq_self_eq_true];rfl⟩
theorem yfy {f g:Bool} (l m:List ByteArray) (hl:l.length≤4611686018427387904) (hm:m.length≤4611686018427387904):y8 Tryz.prog 62 [.list f 1 (l.map za2),.list g 1 (m.map za2)] [] (fun r h'=>h'= []∧r=bv (eqF zq9 l m)):=by
 refine z6 Tryz.func62 rfl rfl rfl ?_
 refine rn ?_;refine z7 rfl (fun hc10=> ?_) (fun hc10=> ?_)
 ·refine rn ?_;have hne:(l.length==m.length)=false:=beq_eq_false_iff_ne.2 fun q=>by simp [q] at hc10
  exact u9 rfl (.refl _ _) ⟨rfl,by rw [eqF,hne,Bool.false_and];rfl⟩
 ·have hlm:l.length=m.length:=by simp at hc10;omega
  refine rn ?_;refine u5 (fun k:Nat=>k≤l.length∧zlc zq9 l m=zlc zq9 (l.drop k) (m.drop k)) (fun k=>⟨[(13,iv k),(12,iv (l.map za2).length),(0,.list f 1 (l.map za2)),(1,.list g 1 (m.map za2))],[],[]⟩) (fun k=>l.length - k) 0 ⟨Nat.zero_le _,by simp⟩
   (w6 (.cons _ _ _ rfl (.cons _ _ _ rfl (.cons _ _ _ rfl (.cons _ _ _ rfl (.nil)))))) ?_
  rintro k ⟨hk,hz⟩
  refine rn ?_;refine z7 rfl (fun hc14=> ?_) (fun hc14=> ?_)
  ·have hk2:k < l.length:=by simpa using hc14
   have hk3:k < m.length:=by omega
   have hrow1:(l.map za2)[k]? =some (za2 l[k]):=by simp [hk2]
   have hrow2:(m.map za2)[k]? =some (za2 m[k]):=by simp [hk3]
   have hd1:=List.drop_eq_getElem_cons hk2
   have hd2:=List.drop_eq_getElem_cons hk3
   refine rn ?_;refine j4 8 rfl ?_
   refine rn ?_;refine z7 rfl (fun hc24=> ?_) (fun hc24=> ?_)
   ·refine rn ?_;exact u9 rfl (.refl _ _) ⟨rfl,by rw [eqF,hz,hd1,hd2,zlc,show zq9 l[k] m[k]=false from zpn hc24,Bool.false_and,Bool.and_false];rfl⟩
   ·refine rn ?_;exact ⟨k+1,⟨by omega,by rw [hz,hd1,hd2,zlc,show zq9 l[k] m[k]=true from zpo hc24,Bool.true_and]⟩,(w6 (.cons _ _ _ rfl (.cons _ _ _ rfl (.cons _ _ _ rfl (.cons _ _ _ rfl (.nil)))))),by omega⟩
  ·have hk3:k=l.length:=by
    have:l.length≤k:=by simpa using hc14
    omega
   refine rn ?_;exact u9 rfl (.refl _ _) ⟨rfl,by rw [eqF,hz,hk3,List.drop_length,zi5,hlm,beq_self_eq_true];rfl⟩
theorem zx5 {f g:Bool} (l m:List Int) (hl:l.length≤4611686018427387904) (hm:m.length≤4611686018427387904):y8 Tryz.prog 64 [.list f 1 (l.map j8),.list g 1 (m.map j8)] [] (fun r h'=>h'= []∧r=bv (eqF zkj l m)):=by
 refine z6 Tryz.func64 rfl rfl rfl ?_
 refine rn ?_;refine z7 rfl (fun hc10=> ?_) (fun hc10=> ?_)
 ·refine rn ?_;have hne:(l.length==m.length)=false:=beq_eq_false_iff_ne.2 fun q=>by simp [q] at hc10
  exact u9 rfl (.refl _ _) ⟨rfl,by rw [eqF,hne,Bool.false_and];rfl⟩
 ·have hlm:l.length=m.length:=by simp at hc10;omega
  refine rn ?_;refine u5 (fun k:Nat=>k≤l.length∧zlc zkj l m=zlc zkj (l.drop k) (m.drop k)) (fun k=>⟨[(13,iv k),(12,iv (l.map j8).length),(0,.list f 1 (l.map j8)),(1,.list g 1 (m.map j8))],[],[]⟩) (fun k=>l.length - k) 0 ⟨Nat.zero_le _,by simp⟩
   (w6 (.cons _ _ _ rfl (.cons _ _ _ rfl (.cons _ _ _ rfl (.cons _ _ _ rfl (.nil)))))) ?_
  rintro k ⟨hk,hz⟩
  refine rn ?_;refine z7 rfl (fun hc14=> ?_) (fun hc14=> ?_)
  ·have hk2:k < l.length:=by simpa using hc14
   have hk3:k < m.length:=by omega
   have hrow1:(l.map j8)[k]? =some (j8 l[k]):=by simp [hk2]
   have hrow2:(m.map j8)[k]? =some (j8 m[k]):=by simp [hk3]
   have hd1:=List.drop_eq_getElem_cons hk2
   have hd2:=List.drop_eq_getElem_cons hk3
   refine rn ?_;refine j4 8 rfl ?_
   refine rn ?_;refine z7 rfl (fun hc24=> ?_) (fun hc24=> ?_)
   ·refine rn ?_;exact u9 rfl (.refl _ _) ⟨rfl,by rw [eqF,hz,hd1,hd2,zlc,show zkj l[k] m[k]=false from zpn hc24,Bool.false_and,Bool.and_false];rfl⟩
   ·refine rn ?_;exact ⟨k+1,⟨by omega,by rw [hz,hd1,hd2,zlc,show zkj l[k] m[k]=true from zpo hc24,Bool.true_and]⟩,(w6 (.cons _ _ _ rfl (.cons _ _ _ rfl (.cons _ _ _ rfl (.cons _ _ _ rfl (.nil)))))),by omega⟩
  ·have hk3:k=l.length:=by
    have:l.length≤k:=by simpa using hc14
    omega
   refine rn ?_;exact u9 rfl (.refl _ _) ⟨rfl,by rw [eqF,hz,hk3,List.drop_length,zi5,hlm,beq_self_eq_true];rfl⟩
theorem zit (n m:Int):y8 Tryz.prog 43 [iv n,iv m] [] (fun r h'=>h'= []∧r=bv (isB n m)):=by
 refine z6 Tryz.func43 rfl rfl rfl ?_
 refine rn ?_;refine x4 (fun hg1_2=> ?_) (fun hg1_2=> ?_)
 ·refine rn ?_;exact u9 rfl (.refl _ _) ⟨rfl,congrArg bv (by first|(simp only [isB, *,Bool.true_and,Bool.false_and,Bool.and_false,Bool.and_true,Bool.true_or,Bool.or_false,Bool.false_or,Bool.or_true,if_true,if_false,Bool.false_eq_true,Bool.not_true,Bool.not_false];done)|(simp_all [isB];done)|(simp_all [isB] <;> omega))⟩
 ·refine rn ?_;exact u9 rfl (.refl _ _) ⟨rfl,congrArg bv (by first|(simp only [isB, *,Bool.true_and,Bool.false_and,Bool.and_false,Bool.and_true,Bool.true_or,Bool.or_false,Bool.false_or,Bool.or_true,if_true,if_false,Bool.false_eq_true,Bool.not_true,Bool.not_false];done)|(simp_all [isB];done)|(simp_all [isB] <;> omega))⟩
theorem bvz0_5124 {a b:Bool} (h:a=b:=by first|(simp only [zfl, *,Bool.true_and,Bool.false_and,Bool.and_false,Bool.and_true,Bool.true_or,Bool.or_false,Bool.false_or,Bool.or_true,if_true,if_false,Bool.false_eq_true,Bool.not_true,Bool.not_false];done)|(simp_all [zfl];done)|(simp_all [zfl] <;> omega)):bv a=bv b:=congrArg bv h
theorem zf9 (v:Ver) (m:Int):y8 Tryz.prog 192 [.agg (yez v),iv m] [] (fun r h'=>h'= []∧r=bv (zfl v m)):=by
 refine z6 Tryz.func192 rfl rfl rfl ?_
 refine rn ?_;refine z8 rfl (x9 rfl rfl rfl fun b2=> ?_)
 refine rn ?_;refine x4 (fun hg1_3=> ?_) (fun hg1_3=> ?_)
 ·refine rn ?_;exact u9 rfl (.drop [_] _ _) ⟨rfl,bvz0_5124⟩
 ·refine rn ?_;refine qv rfl rfl (y4 rfl rfl (v6 (zit _ _) (Sbs.refl _))) ?_
  refine rn ?_;refine x4 (fun hg1_8=> ?_) (fun hg1_8=> ?_)
  ·refine rn ?_;refine x4 (fun hg1_13=> ?_) (fun hg1_13=> ?_)
   ·refine rn ?_;exact u9 rfl (.drop [_] _ _) ⟨rfl,bvz0_5124⟩
   ·refine rn ?_;exact u9 rfl (.drop [_] _ _) ⟨rfl,bvz0_5124⟩
  ·refine rn ?_;exact u9 rfl (.drop [_] _ _) ⟨rfl,bvz0_5124⟩
theorem bvz1_9013 {a b:Bool} (h:a=b:=by first|(simp only [zjw, *,Bool.true_and,Bool.false_and,Bool.and_false,Bool.and_true,Bool.true_or,Bool.or_false,Bool.false_or,Bool.or_true,if_true,if_false,Bool.false_eq_true,Bool.not_true,Bool.not_false];done)|(simp_all [zjw];done)|(simp_all [zjw] <;> omega)):bv a=bv b:=congrArg bv h
theorem zfm (a b:Ev) (ha:a.scan.length≤4611686018427387904) (hb:b.scan.length≤4611686018427387904):y8 Tryz.prog 63 [.agg (evR a),.agg (evR b)] [] (fun r h'=>h'= []∧r=bv (zjw a b)):=by
 refine z6 Tryz.func63 rfl rfl rfl ?_
 refine rn ?_;refine z8 rfl (x9 rfl rfl rfl fun b2=> ?_)
 refine z8 rfl (x9 rfl rfl rfl fun b3=> ?_)
 refine rn ?_;refine x4 (fun hg1_5=> ?_) (fun hg1_5=> ?_)
 ·refine rn ?_;refine x4 (fun hg1_12=> ?_) (fun hg1_12=> ?_)
  ·refine rn ?_;refine x4 (fun hg1_19=> ?_) (fun hg1_19=> ?_)
   ·refine rn ?_;refine x4 (fun hg1_26=> ?_) (fun hg1_26=> ?_)
    ·refine rn ?_;refine x4 (fun hg1_33=> ?_) (fun hg1_33=> ?_)
     ·refine rn ?_;refine x4 (fun hg1_40=> ?_) (fun hg1_40=> ?_)
      ·refine rn ?_;refine x4 (fun hg1_47=> ?_) (fun hg1_47=> ?_)
       ·refine rn ?_;refine qv rfl rfl (y4 rfl rfl (v6 (yl0 _ _ ha hb) (Sbs.refl _))) ?_
        refine rn ?_;exact u9 rfl (.drop [_,_] _ _) ⟨rfl,bvz1_9013⟩
       ·refine rn ?_;exact u9 rfl (.drop [_,_] _ _) ⟨rfl,bvz1_9013⟩
      ·refine rn ?_;exact u9 rfl (.drop [_,_] _ _) ⟨rfl,bvz1_9013⟩
     ·refine rn ?_;exact u9 rfl (.drop [_,_] _ _) ⟨rfl,bvz1_9013⟩
    ·refine rn ?_;exact u9 rfl (.drop [_,_] _ _) ⟨rfl,bvz1_9013⟩
   ·refine rn ?_;exact u9 rfl (.drop [_,_] _ _) ⟨rfl,bvz1_9013⟩
  ·refine rn ?_;exact u9 rfl (.drop [_,_] _ _) ⟨rfl,bvz1_9013⟩
 ·refine rn ?_;exact u9 rfl (.drop [_,_] _ _) ⟨rfl,bvz1_9013⟩
theorem yl3 {f:Bool} (l:List Int) (n:Int) (hl:l.length≤4611686018427387904):y8 Tryz.prog 193 [.list f 1 (l.map j8),iv n] [] (fun r h'=>h'= []∧r=iv (atI n 0 l)):=by
 refine z6 Tryz.func193 rfl rfl rfl ?_
 refine rn ?_;refine u5 (fun k:Nat=>k≤l.length∧atI n 0 l=atI n k (l.drop k)) (fun k=>⟨[(9,iv k),(8,iv (l.map j8).length),(7,.list f 1 (l.map j8)),(1,iv n)],[],[]⟩) (fun k=>l.length - k) 0 ⟨Nat.zero_le _,by simp⟩
  (w6 (.cons _ _ _ rfl (.cons _ _ _ rfl (.cons _ _ _ rfl (.cons _ _ _ rfl (.nil)))))) ?_
 rintro k ⟨hk,hz⟩
 refine rn ?_;refine z7 rfl (fun hc10=> ?_) (fun hc10=> ?_)
 ·have hk2:k < l.length:=by simpa using hc10
  have hrow:(l.map j8)[k]? =some (j8 l[k]):=by simp [hk2]
  have hd:=List.drop_eq_getElem_cons hk2
  refine rn ?_;refine z7 rfl (fun hc16=> ?_) (fun hc16=> ?_)
  ·have hx:l[k]=n:=by simpa using hc16
   refine rn ?_;exact u9 rfl (.refl _ _) ⟨rfl,congrArg iv (by rw [hz,hd,atI,if_pos hx])⟩
  ·have hx:¬l[k]=n:=by simpa using hc16
   refine rn ?_;exact ⟨k+1,⟨by omega,by rw [hz,hd,atI,if_neg hx]⟩,(w6 (.cons _ _ _ rfl (.cons _ _ _ rfl (.cons _ _ _ rfl (.cons _ _ _ rfl (.nil)))))),by omega⟩
 ·have hk3:k=l.length:=by
   have:l.length≤k:=by simpa using hc10
   omega
  refine rn ?_;exact u9 rfl (.refl _ _) ⟨rfl,congrArg iv (by rw [hz,hk3,List.drop_length];rfl)⟩
theorem yqc (h:Hist) (t c:Int) (la:Lim 4611686018427387904 h):y8 Tryz.prog 154 [.agg (x3 h),iv t,iv c] [] (fun r h'=>h'= []∧r=bv (zsb h.evs t c)):=by
 refine z6 Tryz.func154 rfl rfl rfl ?_
 refine rn ?_;refine z8 rfl (x9 rfl rfl rfl fun b3=> ?_)
 refine rn ?_;refine zcj (h.evs.length) (fun k:Nat=>h.evs.all (fun e:Ev=> !(e.t==t && e.kind==c))=(h.evs.drop k).all (fun e:Ev=> !(e.t==t && e.kind==c))) (fun k=> [(12,iv k)]) [(1,_),(2,_),(10,_),(11,_)] rfl ?_
 intro k lk zk
 refine rn ?_;refine z7 rfl (fun hc13=> ?_) (fun hc13=> ?_)
 ·have hk:=zan hc13
  have rk:=zaf (f:=evR) hk
  have bk:=la.evs
  refine rn ?_;refine z8 rfl (y6 rfl fun b8=> ?_)
  refine rn ?_;refine x4 (fun hg4_4=> ?_) (fun hg4_4=> ?_)
  ·refine rn ?_;refine z7 rfl (fun hc25=> ?_) (fun hc25=> ?_)
   ·refine rn ?_;refine rq 2 ?_
    exact ⟨rfl,congrArg bv (by rw [zsb,ztb hk (by simp_all)];rfl)⟩
   ·refine rn ?_;exact ⟨hk,zve hk zk (by simp_all),eA⟩
  ·refine rn ?_;refine zeu rfl ?_;refine rn ?_;exact ⟨hk,zve hk zk (by simp_all),eA⟩
 ·have qk:=zap hc13 lk
  have ak:=zzk qk zk
  refine rn ?_;refine rq 1 ?_
  exact ⟨rfl,congrArg bv (by rw [zsb,ak];rfl)⟩
theorem yav (h:Hist) (t:Int) (la:Lim 4611686018427387904 h):y8 Tryz.prog 113 [.agg (x3 h),iv t] [] (fun r h'=>h'= []∧r=bv (zsb h.evs t 5)):=by
 refine z6 Tryz.func113 rfl rfl rfl ?_
 refine rn ?_;refine z8 rfl (x9 rfl rfl rfl fun b2=> ?_)
 refine rn ?_;refine qv rfl rfl (y4 rfl rfl (v6 (yqc h t 5 la) (Sbs.refl _))) ?_
 refine rn ?_;refine rq 1 ?_
 exact ⟨rfl,rfl⟩
theorem ztv (ts f:List Int) (hl:ts.length≤4611686018427387904) (hm:f.length≤4611686018427387904):y8 Tryz.prog 223 [zbz ts,zbz f] [] (fun r h'=>h'= []∧r=bv (zgl ts f)):=by
 refine z6 Tryz.func223 rfl rfl rfl ?_
 refine rn ?_;refine zcj (ts.length) (fun k:Nat=>yiq ts f k) (fun k=> [(9,iv k)]) [(0,_),(1,_),(7,_),(8,_)] (fun j _ h=>absurd h (Nat.not_lt_zero _)) ?_
 intro k lk zk
 refine rn ?_;refine z7 rfl (fun hc10=> ?_) (fun hc10=> ?_)
 ·have hk:=zan hc10
  have rk:=zaf (f:=j8) hk
  refine rn ?_;refine qv rfl rfl (y4 rfl rfl (v6 (yl3 f ts[k] hm) (Sbs.refl _))) ?_
  refine rn ?_;refine x4 (fun hg4_4=> ?_) (fun hg4_4=> ?_)
  ·refine rn ?_;refine zdi rfl ?_;refine rn ?_;refine rq 0 ?_
   exact ⟨rfl,congrArg bv (by rw [yiz hk (by first|exact .inl hg4_4|exact .inr (by simpa using hc24))])⟩
  ·refine rn ?_;refine qv rfl rfl (y4 rfl rfl (v6 (yl3 ts ts[k] hl) (Sbs.refl _))) ?_
   refine rn ?_;refine z7 rfl (fun hc24=> ?_) (fun hc24=> ?_)
   ·refine rn ?_;refine rq 0 ?_
    exact ⟨rfl,congrArg bv (by rw [yiz hk (by first|exact .inl hg4_4|exact .inr (by simpa using hc24))])⟩
   ·refine rn ?_;exact ⟨hk,yla hk zk (by simp_all) (by simp_all),eA⟩
 ·have qk:=zap hc10 lk
  refine rn ?_;refine rq 0 ?_
  exact ⟨rfl,congrArg bv (by rw [ypv (qk ▸ zk)])⟩
theorem zh4 (h:Hist) (x:Int) (la:Lim 1000000 h):y8 Tryz.prog 214 [.agg (x3 h),iv x] [] (fun r h'=>h'= []∧r=zbz (za6 h x)):=by
 refine z6 Tryz.func214 rfl rfl rfl ?_
 have be:=la.evs
 have bt:=la.ts
 refine rn ?_;refine z8 rfl (x9 rfl rfl rfl fun b2=> ?_)
 refine rn0 ?_;refine x8 (y5 ?_)
 refine rn0 ?_;refine x8 ?_;refine x8 ?_;refine zim (k6 1 3) ?_
 refine rn ?_;refine zet h.ts.length (fun k s=>⟨[(13,iv k),(5,.v s.v),(1,iv x),(2,pZ b2),(12,iv (h.ts.map za2).length)],.row s.v 1 3 ((zdk h x k).map j8):: .box b2 28 (x3 h):: [],[]⟩) ⟨none,0,0⟩ es ?_
 intro k s lk
 refine rn ?_;refine z7 rfl (fun hc14=> ?_) (fun hc14=> ?_)
 ·have hk:=zan hc14
  have rk:=zaf (f:=za2) hk
  refine rn ?_;refine zvb h.evs.length (fun j wb=>wb=(h.evs.take j).any (zbn k x)) (fun j wb=> [(19,iv j),(7,bv wb)]) [(1,_),(2,_),(5,_),(6,_),(12,_),(13,_),(17,_),(18,_)] false rfl ?_
  intro j wb lj zj
  refine rn ?_;refine z7 rfl (fun hc20=> ?_) (fun hc20=> ?_)
  ·have hj:=zan hc20
   have rj:=zaf (f:=evR) hj
   refine rn ?_;refine z8 rfl (y6 rfl fun b9=> ?_)
   refine rn ?_;refine x4 (fun hg9_1=> ?_) (fun hg9_1=> ?_)
   ·refine rn ?_;refine ⟨hj,_,?_,eA⟩
    rw [zay hj,←zj]
    simp_all [zbn]
   ·refine rn ?_;refine x4 (fun hg9_5=> ?_) (fun hg9_5=> ?_)
    ·refine rn ?_;refine x4 (fun hg9_11=> ?_) (fun hg9_11=> ?_)
     ·refine rn ?_;refine ⟨hj,_,?_,eA⟩
      rw [zay hj,←zj]
      simp_all [zbn]
     ·refine rn ?_;refine ⟨hj,_,?_,eA⟩
      rw [zay hj,←zj]
      simp_all [zbn]
    ·refine rn ?_;refine ⟨hj,_,?_,eA⟩
     rw [zay hj,←zj]
     simp_all [zbn]
  ·have qj:=zap hc20 lj
   have wq:wb=h.evs.any (zbn k x):=by rw [zj,qj,List.take_length]
   refine rn ?_;refine x4 (fun hg11_1=> ?_) (fun hg11_1=> ?_)
   ·refine rn ?_;refine qv rfl rfl (y4 rfl rfl (v6 (yav h k (la.mono (by decide))) (Sbs.refl _))) ?_
    refine rn ?_;refine z7 rfl (fun hc47=> ?_) (fun hc47=> ?_)
    ·refine rn ?_;refine qv rfl rfl (q8 rfl rfl) ?_
     refine z8 rfl (u6 rfl rfl (by simp only [oM];have:=zkt h x k;simp;omega) rfl (fun s51=> ?_) (ziv [(k:Int)]))
     refine zaa s51 fun sv hsv=> ?_
     subst hsv
     refine rn ?_;first|exact ⟨hk,sv,by rw [zj5 (by simp_all) (by simp_all),List.map_append];exact eA⟩|exact ⟨hk,s,by rw [zj6 (by simp_all)];exact eA⟩
    ·refine rn ?_;first|exact ⟨hk,sv,by rw [zj5 (by simp_all) (by simp_all),List.map_append];exact eA⟩|exact ⟨hk,s,by rw [zj6 (by simp_all)];exact eA⟩
   ·refine rn ?_;refine zeu rfl ?_;refine rn ?_;first|exact ⟨hk,sv,by rw [zj5 (by simp_all) (by simp_all),List.map_append];exact eA⟩|exact ⟨hk,s,by rw [zj6 (by simp_all)];exact eA⟩
 ·have qk:=zap hc14 lk
  refine rn ?_;exact u9 rfl (.trans zcv (.drop1 _ _ _)) ⟨rfl,by rw [qk,zq6];rfl⟩
theorem yfx (h:Hist) (i:Nat) (hi:i < h.ords.length) (la:Lim 1000000 h):y8 Tryz.prog 209 [.agg (x3 h),iv i] [] (fun r h'=>h'= []∧r=bv (zjm h i h.ords[i])):=by
 refine z6 Tryz.func209 rfl rfl rfl ?_
 have ri:=zaf (f:=zcy) hi
 have bo:=la.ords
 have si:=la.ordts h.ords[i] (List.getElem_mem hi)
 refine rn ?_;refine z8 rfl (x9 rfl rfl rfl fun b2=> ?_)
 refine rn ?_;refine z8 rfl (y6 rfl fun b5=> ?_)
 first|refine z8 rfl (za3 rfl rfl rfl ?_)|refine z8 rfl (zbr rfl rfl rfl rfl (Nat.le_of_ble_eq_true rfl) ?_)
 refine u0 (j7 ?_)
 refine x8 ?_;refine x8 (y5 ?_)
 refine q1 ?_;refine q1 ?_;refine q1 ?_;refine qq rfl rfl (zbe (k:=i) rfl rfl (by simp;omega)) ?_
 rw [←List.map_take]
 refine rn ?_;refine zcj ((h.ords.take i).length) (fun j:Nat=>(h.ords.take i).all (fun p:Ord=> !(p.o==h.ords[i].o))=((h.ords.take i).drop j).all (fun p:Ord=> !(p.o==h.ords[i].o))) (fun j=> [(19,iv j)]) [(2,_),(5,_),(17,_),(18,_)] rfl ?_
 intro j lj zj
 refine rn ?_;refine z7 rfl (fun hc20=> ?_) (fun hc20=> ?_)
 ·have hj:=zan hc20
  have rj:=zaf (f:=zcy) hj
  have bj:(h.ords.take i).length≤4611686018427387904:=by simp;omega
  refine rn ?_;refine z8 rfl (y6 rfl fun b7=> ?_)
  refine rn ?_;refine z7 rfl (fun hc27=> ?_) (fun hc27=> ?_)
  ·refine rn ?_;refine rq 3 ?_
   exact ⟨rfl,congrArg bv (by rw [ygj (ztb hj (by simpa using hc27))])⟩
  ·refine rn ?_;exact ⟨hj,zve hj zj (by simpa using hc27),eA⟩
 ·have qj:=zap hc20 lj
  have aj:=zzk qj zj
  refine rn ?_;refine qv rfl rfl (y4 rfl rfl (v6 (zh4 h h.ords[i].o la) (Sbs.refl _))) ?_
  refine rn ?_;refine qv rfl rfl (y4 rfl rfl (v6 (ztv h.ords[i].ts (za6 h h.ords[i].o) (Nat.le_trans si (by decide)) (Nat.le_trans (zgj _ _) (Nat.le_trans la.ts (by decide)))) (Sbs.refl _))) ?_
  refine rn ?_;refine x4 (fun hg9_5=> ?_) (fun hg9_5=> ?_)
  ·refine rn ?_;refine rq 2 ?_
   exact ⟨rfl,congrArg bv (by rw [zwi aj];simp_all)⟩
  ·refine rn ?_;refine qv rfl rfl (y4 rfl rfl (v6 (ztv (za6 h h.ords[i].o) h.ords[i].ts (Nat.le_trans (zgj _ _) (Nat.le_trans la.ts (by decide))) (Nat.le_trans si (by decide))) (Sbs.refl _))) ?_
   refine rn ?_;refine rq 2 ?_
   exact ⟨rfl,congrArg bv (by rw [zwi aj];simp_all)⟩
theorem zx6 (h:Hist) (x:Int) (la:Lim 1000000 h):y8 Tryz.prog 210 [.agg (x3 h),iv x] [] (fun r h'=>h'= []∧r=bv (znx h x)):=by
 refine z6 Tryz.func210 rfl rfl rfl ?_
 refine rn ?_;refine z8 rfl (x9 rfl rfl rfl fun b2=> ?_)
 refine rn ?_;refine zcj (h.ords.length) (fun j:Nat=>h.ords.all (fun p:Ord=> !(p.o==x))=(h.ords.drop j).all (fun p:Ord=> !(p.o==x))) (fun j=> [(10,iv j)]) [(1,_),(2,_),(8,_),(9,_)] rfl ?_
 intro j lj zj
 refine rn ?_;refine z7 rfl (fun hc11=> ?_) (fun hc11=> ?_)
 ·have hj:=zan hc11
  have rj:=zaf (f:=zcy) hj
  have bo:=la.ords
  refine rn ?_;refine z8 rfl (y6 rfl fun b6=> ?_)
  refine rn ?_;refine z7 rfl (fun hc17=> ?_) (fun hc17=> ?_)
  ·refine rn ?_;refine rq 2 ?_
   exact ⟨rfl,congrArg bv (by rw [ymu (ztb hj (by simpa using hc17))])⟩
  ·refine rn ?_;exact ⟨hj,zve hj zj (by simpa using hc17),eA⟩
 ·have qj:=zap hc11 lj
  have aj:=zzk qj zj
  refine rn ?_;refine qv rfl rfl (y4 rfl rfl (v6 (zh4 h x la) (Sbs.refl _))) ?_
  refine rn ?_;refine rq 1 ?_
  exact ⟨rfl,congrArg bv (by rw [ymv aj];simp;omega)⟩
theorem yfz (h:Hist) (i:Nat) (hi:i < h.mats.length) (la:Lim 1000000 h):y8 Tryz.prog 211 [.agg (x3 h),iv i] [] (fun r h'=>h'= []∧r=bv (zjo h i h.mats[i])):=by
 refine z6 Tryz.func211 rfl rfl rfl ?_
 have ri:=zaf (f:=zc7) hi
 have bo:=la.mats
 have si:=la.matts h.mats[i] (List.getElem_mem hi)
 refine rn ?_;refine z8 rfl (x9 rfl rfl rfl fun b2=> ?_)
 refine rn ?_;refine z8 rfl (y6 rfl fun b5=> ?_)
 first|refine z8 rfl (za3 rfl rfl rfl ?_)|refine z8 rfl (zbr rfl rfl rfl rfl (Nat.le_of_ble_eq_true rfl) ?_)
 refine u0 (j7 ?_)
 refine x8 ?_;refine x8 (y5 ?_)
 refine q1 ?_;refine q1 ?_;refine q1 ?_;refine qq rfl rfl (zbe (k:=i) rfl rfl (by simp;omega)) ?_
 rw [←List.map_take]
 refine rn ?_;refine zcj ((h.mats.take i).length) (fun j:Nat=>(h.mats.take i).all (fun p:Mat=> !(p.p==h.mats[i].p && p.o==h.mats[i].o))=((h.mats.take i).drop j).all (fun p:Mat=> !(p.p==h.mats[i].p && p.o==h.mats[i].o))) (fun j=> [(18,iv j)]) [(2,_),(5,_),(16,_),(17,_)] rfl ?_
 intro j lj zj
 refine rn ?_;refine z7 rfl (fun hc19=> ?_) (fun hc19=> ?_)
 ·have hj:=zan hc19
  have rj:=zaf (f:=zc7) hj
  have bj:(h.mats.take i).length≤4611686018427387904:=by simp;omega
  refine rn ?_;refine z8 rfl (y6 rfl fun b7=> ?_)
  refine rn ?_;refine x4 (fun hg5_5=> ?_) (fun hg5_5=> ?_)
  ·refine rn ?_;refine z7 rfl (fun hc33=> ?_) (fun hc33=> ?_)
   ·refine rn ?_;refine rq 3 ?_
    exact ⟨rfl,congrArg bv (by rw [ygv (ztb hj (by simp_all))])⟩
   ·refine rn ?_;exact ⟨hj,zve hj zj (by simp_all),eA⟩
  ·refine rn ?_;refine zeu rfl ?_;refine rn ?_;exact ⟨hj,zve hj zj (by simp_all),eA⟩
 ·have qj:=zap hc19 lj
  have aj:=zzk qj zj
  refine rn ?_;refine j4 6 rfl ?_
  refine rn ?_;refine dv rfl rfl (by exact y4 rfl rfl (v6 (zh4 h h.mats[i].o la) (Sbs.refl _))) ?_
  refine rn ?_;refine qv rfl rfl (y4 rfl rfl (v6 (ztv h.mats[i].ts (za6 h h.mats[i].o) (Nat.le_trans si (by decide)) (Nat.le_trans (zgj _ _) (Nat.le_trans la.ts (by decide)))) (Sbs.refl _))) ?_
  refine rn ?_;refine rq 2 ?_
  exact ⟨rfl,congrArg bv (by rw [ygw aj])⟩
theorem ylz (h:Hist) (i:Nat) (hi:i < h.wants.length) (la:Lim 1000000 h):y8 Tryz.prog 212 [.agg (x3 h),iv i] [] (fun r h'=>h'= []∧r=bv (ziq h i h.wants[i])):=by
 refine z6 Tryz.func212 rfl rfl rfl ?_
 have ri:=zaf (f:=zco) hi
 have bo:=la.wants
 refine rn ?_;refine z8 rfl (x9 rfl rfl rfl fun b2=> ?_)
 refine q1 ?_;refine u0 (j7 ?_)
 refine x8 ?_;refine x8 (y5 ?_)
 refine q1 ?_;refine q1 ?_;refine q1 ?_;refine qq rfl rfl (zbe (k:=i) rfl rfl (by simp;omega)) ?_
 rw [←List.map_take]
 refine rn ?_;refine zcj ((h.wants.take i).length) (fun j:Nat=>(h.wants.take i).all (fun p:Wan=> !(p.s==h.wants[i].s))=((h.wants.take i).drop j).all (fun p:Wan=> !(p.s==h.wants[i].s))) (fun j=> [(14,iv j)]) [(1,_),(2,_),(12,_),(13,_)] rfl ?_
 intro j lj zj
 refine rn ?_;refine z7 rfl (fun hc15=> ?_) (fun hc15=> ?_)
 ·have hj:=zan hc15
  have rj:=zaf (f:=zco) hj
  have bj:(h.wants.take i).length≤4611686018427387904:=by simp;omega
  refine rn ?_;refine z8 rfl (y6 rfl fun b6=> ?_)
  refine rn ?_;refine j4 8 rfl ?_
  refine rn ?_;refine z7 rfl (fun hc26=> ?_) (fun hc26=> ?_)
  ·refine rn ?_;refine rq 2 ?_
   exact ⟨rfl,congrArg bv (by rw [ykn (ztb hj (by simpa using hc26))])⟩
  ·refine rn ?_;exact ⟨hj,zve hj zj (by simpa using hc26),eA⟩
 ·have qj:=zap hc15 lj
  have aj:=zzk qj zj
  refine rn ?_;refine zcj (h.evs.length) (fun k:Nat=>h.evs.all (fun e:Ev=> !(e.kind==1 && e.s==h.wants[i].s))=(h.evs.drop k).all (fun e:Ev=> !(e.kind==1 && e.s==h.wants[i].s))) (fun k=> [(31,iv k)]) [(1,_),(2,_),(29,_),(30,_)] rfl ?_
  intro k lk zk
  refine rn ?_;refine z7 rfl (fun hc32=> ?_) (fun hc32=> ?_)
  ·have hk:=zan hc32
   have rk:=zaf (f:=evR) hk
   have bk:=la.evs
   refine rn ?_;refine z8 rfl (y6 rfl fun b8=> ?_)
   refine rn ?_;refine j4 12 rfl ?_
   refine rn ?_;refine zex (fun hg10_3=> ?_) (fun hg10_3=> ?_)
   ·refine rn ?_;refine z7 rfl (fun hc48=> ?_) (fun hc48=> ?_)
    ·refine rn ?_;refine rq 2 ?_
     exact ⟨rfl,congrArg bv (by rw [zzt aj (ztb hk (by simp_all))])⟩
    ·refine rn ?_;exact ⟨hk,zve hk zk (by simp_all),eA⟩
   ·refine rn ?_;refine zeu rfl ?_;refine rn ?_;exact ⟨hk,zve hk zk (by simp_all),eA⟩
  ·have qk:=zap hc32 lk
   have ak:=zzk qk zk
   refine rn ?_;refine rq 1 ?_
   exact ⟨rfl,congrArg bv (by rw [zzt aj ak])⟩
theorem yar (e:Ev):y8 Tryz.prog 225 [.agg (evR e)] [] (fun r h'=>h'= []∧r=zkw (u1 e)):=by
 refine z6 Tryz.func225 rfl rfl rfl ?_
 refine rn ?_;refine z8 rfl (x9 rfl rfl rfl fun b1=> ?_)
 refine rn ?_;refine z7 rfl (fun hc5=> ?_) (fun hc5=> ?_)
 ·refine rn ?_;refine qv rfl rfl (q8 rfl rfl) ?_
  refine rn ?_;exact u9 rfl (.trans (.drop [_] _ _) (.le Sb.unfull.le)) ⟨rfl,by rw [u1,if_pos (by simpa using hc5)];rfl⟩
 ·refine rn ?_;refine rq 1 ?_
  exact ⟨rfl,by rw [u1,if_neg (by simpa using hc5)];rfl⟩
theorem zwc (l:List Ev) (t x:Int) (la:l.length≤1000000):y8 Tryz.prog 224 [zlg l,iv t,iv x] [] (fun r h'=>h'= []∧r=zlg (zce l t x)):=by
 refine z6 Tryz.func224 rfl rfl rfl ?_
 refine x8 (y5 ?_)
 refine rn0 ?_;refine x8 (y5 ?_)
 refine rn0 ?_;refine x8 ?_;refine x8 ?_;refine zim (k6 9 66) ?_
 refine rn ?_;refine zet l.length (fun k s=>⟨[(12,iv k),(7,.v s.v),(1,iv t),(2,iv x),(10,zlg l),(11,iv (l.map evR).length)],.row s.v 9 66 ((zce (l.take k) t x).map evR):: [],[]⟩) ⟨none,0,0⟩ es ?_
 intro k s lk
 refine rn ?_;refine z7 rfl (fun hc13=> ?_) (fun hc13=> ?_)
 ·have hk:=zan hc13
  have rk:=zaf (f:=evR) hk
  refine rn ?_;refine z8 rfl (y6 rfl fun b9=> ?_)
  refine rn ?_;refine x4 (fun hg5_3=> ?_) (fun hg5_3=> ?_)
  ·refine rn ?_;refine x4 (fun hg5_9=> ?_) (fun hg5_9=> ?_)
   ·refine rn ?_;refine z7 rfl (fun hc30=> ?_) (fun hc30=> ?_)
    ·refine rn ?_;refine qv rfl rfl (q8 rfl rfl) ?_
     refine z8 rfl (u6 rfl rfl (by simp only [oM];have:=yer l t x k;simp;omega) rfl (fun s34=> ?_) (yi9 [l[k]]))
     refine zaa s34 fun sv hsv=> ?_
     subst hsv
     refine rn ?_;first|exact ⟨hk,sv,by rw [zo7 hk (by simp_all),List.map_append];exact eA⟩|exact ⟨hk,s,by rw [zo8 hk (by simp_all)];exact eA⟩
    ·refine rn ?_;first|exact ⟨hk,sv,by rw [zo7 hk (by simp_all),List.map_append];exact eA⟩|exact ⟨hk,s,by rw [zo8 hk (by simp_all)];exact eA⟩
   ·refine rn ?_;refine zeu rfl ?_;refine rn ?_;first|exact ⟨hk,sv,by rw [zo7 hk (by simp_all),List.map_append];exact eA⟩|exact ⟨hk,s,by rw [zo8 hk (by simp_all)];exact eA⟩
  ·refine rn ?_;refine zeu rfl ?_;refine rn ?_;first|exact ⟨hk,sv,by rw [zo7 hk (by simp_all),List.map_append];exact eA⟩|exact ⟨hk,s,by rw [zo8 hk (by simp_all)];exact eA⟩
 ·have qk:=zap hc13 lk
  refine rn ?_;exact u9 rfl zcv ⟨rfl,by rw [qk,List.take_length];rfl⟩
theorem bvz2_7616 {a b:Bool} (h:a=b:=by subst e1;show _=(zg8 l e.t && e.kind==1|| !zg8 l e.t && e.kind !=1);rw [←zB];clear zb zo zB zO;simp_all):bv a=bv b:=congrArg bv h
theorem zyb (rl:Nat) (e:Ev) (l:List Ev) (h1:1≤rl) (h6:rl≤6) (la:l.length≤1000000) (hl:e.scan.length≤1000000):y8 Tryz.prog 213 [iv rl,.agg (evR e),zlg l] [] (fun r h'=>h'= []∧r=bv (zdd rl e l)):=by
 refine z6 Tryz.func213 rfl rfl rfl ?_
 refine rn ?_;refine z8 rfl (x9 rfl rfl rfl fun b4=> ?_)
 refine rn ?_;refine zvb l.length (fun j x=>x.1=(l.take j).any (fun y:Ev=>y.t==e.t && y.kind==1)∧x.2=(l.take j).any (fun y:Ev=>y.t==e.t && (y.kind==5||y.kind==6))) (fun j x=> [(21,iv j),(7,bv x.1),(8,bv x.2)]) [(0,_),(2,_),(4,_),(19,_),(20,_)] (false,false) ⟨rfl,rfl⟩ ?_
 rintro j ⟨bg,ov⟩ lj ⟨zb,zo⟩
 refine rn ?_;refine z7 rfl (fun hc22=> ?_) (fun hc22=> ?_)
 ·have hj:=zan hc22
  have rj:=zaf (f:=evR) hj
  refine rn ?_;refine z8 rfl (y6 rfl fun b10=> ?_)
  refine rn ?_;refine z7 rfl (fun hc29=> ?_) (fun hc29=> ?_)
  ·refine rn ?_;refine x4 (fun hg6_1=> ?_) (fun hg6_1=> ?_)
   ·refine rn ?_;refine x4 (fun hg7_1=> ?_) (fun hg7_1=> ?_)
    ·refine rn ?_;refine ⟨hj,(_,_),?_,eA⟩
     rw [zay hj,zay hj]
     generalize (l.take j).any (fun y:Ev=>y.t==e.t && y.kind==1)=A at *
     generalize (l.take j).any (fun y:Ev=>y.t==e.t && (y.kind==5||y.kind==6))=B at *
     simp_all
    ·refine rn ?_;refine x4 (fun hg7_6=> ?_) (fun hg7_6=> ?_)
     ·refine rn ?_;refine ⟨hj,(_,_),?_,eA⟩
      rw [zay hj,zay hj]
      generalize (l.take j).any (fun y:Ev=>y.t==e.t && y.kind==1)=A at *
      generalize (l.take j).any (fun y:Ev=>y.t==e.t && (y.kind==5||y.kind==6))=B at *
      simp_all
     ·refine rn ?_;refine ⟨hj,(_,_),?_,eA⟩
      rw [zay hj,zay hj]
      generalize (l.take j).any (fun y:Ev=>y.t==e.t && y.kind==1)=A at *
      generalize (l.take j).any (fun y:Ev=>y.t==e.t && (y.kind==5||y.kind==6))=B at *
      simp_all
   ·refine rn ?_;refine x4 (fun hg7_1=> ?_) (fun hg7_1=> ?_)
    ·refine rn ?_;refine ⟨hj,(_,_),?_,eA⟩
     rw [zay hj,zay hj]
     generalize (l.take j).any (fun y:Ev=>y.t==e.t && y.kind==1)=A at *
     generalize (l.take j).any (fun y:Ev=>y.t==e.t && (y.kind==5||y.kind==6))=B at *
     simp_all
    ·refine rn ?_;refine x4 (fun hg7_6=> ?_) (fun hg7_6=> ?_)
     ·refine rn ?_;refine ⟨hj,(_,_),?_,eA⟩
      rw [zay hj,zay hj]
      generalize (l.take j).any (fun y:Ev=>y.t==e.t && y.kind==1)=A at *
      generalize (l.take j).any (fun y:Ev=>y.t==e.t && (y.kind==5||y.kind==6))=B at *
      simp_all
     ·refine rn ?_;refine ⟨hj,(_,_),?_,eA⟩
      rw [zay hj,zay hj]
      generalize (l.take j).any (fun y:Ev=>y.t==e.t && y.kind==1)=A at *
      generalize (l.take j).any (fun y:Ev=>y.t==e.t && (y.kind==5||y.kind==6))=B at *
      simp_all
  ·refine rn ?_;refine ⟨hj,(_,_),?_,eA⟩
   rw [zay hj,zay hj]
   generalize (l.take j).any (fun y:Ev=>y.t==e.t && y.kind==1)=A at *
   generalize (l.take j).any (fun y:Ev=>y.t==e.t && (y.kind==5||y.kind==6))=B at *
   simp_all
 ·have qj:=zap hc22 lj
  have zB:bg=zg8 l e.t:=by rw [ydu,zxj];simpa [qj] using zb
  have zO:ov=zrw l e.t:=by rw [zrw];simpa [qj] using zo
  refine rn ?_;refine z7 rfl (fun hc49=> ?_) (fun hc49=> ?_)
  ·have e1:rl=1:=by have h:=hc49;simp at h;omega
   refine rn ?_;refine x4 (fun hg11_1=> ?_) (fun hg11_1=> ?_)
   ·refine rn ?_;refine x4 (fun hg11_6=> ?_) (fun hg11_6=> ?_)
    ·refine rn ?_;refine rq 1 ?_
     exact ⟨rfl,bvz2_7616⟩
    ·refine rn ?_;refine x4 (fun hg11_9=> ?_) (fun hg11_9=> ?_)
     ·refine rn ?_;refine rq 1 ?_
      exact ⟨rfl,bvz2_7616⟩
     ·refine rn ?_;refine rq 1 ?_
      exact ⟨rfl,bvz2_7616⟩
   ·refine rn ?_;refine x4 (fun hg11_9=> ?_) (fun hg11_9=> ?_)
    ·refine rn ?_;refine rq 1 ?_
     exact ⟨rfl,bvz2_7616⟩
    ·refine rn ?_;refine rq 1 ?_
     exact ⟨rfl,bvz2_7616⟩
  ·have n1:rl≠1:=by intro h;subst h;exact absurd hc49 (by decide)
   refine rn ?_;refine z7 rfl (fun hc66=> ?_) (fun hc66=> ?_)
   ·have e2:rl=2:=by have h:=hc66;simp at h;omega
    refine rn ?_;refine rq 1 ?_
    exact ⟨rfl,congrArg bv (by subst e2;show _=zrw l e.t;rw [←zO])⟩
   ·have n2:rl≠2:=by intro h;subst h;exact absurd hc66 (by decide)
    refine rn ?_;refine z7 rfl (fun hc69=> ?_) (fun hc69=> ?_)
    ·have e3:rl=3:=by have h:=hc69;simp at h;omega
     refine rn ?_;refine j4 15 rfl ?_
     refine rn ?_;refine zex (fun hg15_3=> ?_) (fun hg15_3=> ?_)
     ·refine rn ?_;refine dv rfl rfl (by exact y4 rfl rfl (v6 (zwc l e.t e.o la) (Sbs.refl _))) ?_
      refine dq rfl rfl qrA ?_;first|refine ds rfl rfl ?_|refine dq rfl rfl (k9 rfl rfl rfl (by rw [oM];have:=zhb l e.t e.o;omega)) ?_
      refine rn ?_;refine rq 1 ?_
      exact ⟨rfl,congrArg bv (by subst e3;simp_all [zdd])⟩
     ·refine rn ?_;refine rq 1 ?_
      exact ⟨rfl,congrArg bv (by subst e3;simp_all [zdd])⟩
    ·have n3:rl≠3:=by intro h;subst h;exact absurd hc69 (by decide)
     refine rn ?_;refine qv rfl rfl (y4 rfl rfl (v6 (yar e) (Sbs.refl _))) ?_
     refine rn ?_;refine zcj ((u1 e).length) (fun k:Nat=>OkS rl e l k) (fun k=> [(91,iv k)]) [(0,_),(2,_),(4,_),(89,_),(90,_)] (fun i _ h=>absurd h (Nat.not_lt_zero _)) ?_
     intro k lk zk
     refine rn ?_;refine z7 rfl (fun hc92=> ?_) (fun hc92=> ?_)
     ·have hk:=zan hc92
      have rk:=zaf (f:=zar) hk
      have sl:=zj8 (e:=e) (Nat.le_trans hl (by decide))
      refine rn ?_;refine z8 rfl (y6 rfl fun b12=> ?_)
      refine rn ?_;refine qv rfl rfl (y4 rfl rfl (v6 (zwc l e.t (u1 e)[k].o la) (Sbs.refl _))) ?_
      refine rn ?_;refine zvb l.length (fun m x=>x=((u1 e)[k].v.k==0||(l.take m).any (fun y:Ev=>y.kind==2 && y.o==(u1 e)[k].o && y.v==(u1 e)[k].v))) (fun m x=> [(108,iv m),(14,bv x)]) [(0,_),(2,_),(4,_),(11,_),(12,_),(13,_),(89,_),(90,_),(91,_),(106,_),(107,_)] ((u1 e)[k].v.k==0) (by simp) ?_
      intro m th lm zm
      refine rn ?_;refine z7 rfl (fun hc109=> ?_) (fun hc109=> ?_)
      ·have hm:=zan hc109
       have rm:=zaf (f:=evR) hm
       refine rn ?_;refine z8 rfl (y6 rfl fun b16=> ?_)
       refine rn ?_;refine x4 (fun hg24_1=> ?_) (fun hg24_1=> ?_)
       ·refine rn ?_;refine ⟨hm,_,?_,eA⟩
        try rw [zcq]
        rw [zay hm]
        generalize (l.take m).any (fun y:Ev=>y.kind==2 && y.o==(u1 e)[k].o && y.v==(u1 e)[k].v)=A at *
        generalize ((u1 e)[k].v.k==0)=B at *
        generalize (l[m].v==(u1 e)[k].v)=D at *
        cases A <;> cases B <;> simp_all
       ·refine rn ?_;refine x4 (fun hg24_5=> ?_) (fun hg24_5=> ?_)
        ·refine rn ?_;refine x4 (fun hg24_12=> ?_) (fun hg24_12=> ?_)
         ·refine rn ?_;refine ⟨hm,_,?_,eA⟩
          try rw [zcq]
          rw [zay hm]
          generalize (l.take m).any (fun y:Ev=>y.kind==2 && y.o==(u1 e)[k].o && y.v==(u1 e)[k].v)=A at *
          generalize ((u1 e)[k].v.k==0)=B at *
          generalize (l[m].v==(u1 e)[k].v)=D at *
          cases A <;> cases B <;> simp_all
         ·refine rn ?_;refine ⟨hm,_,?_,eA⟩
          try rw [zcq]
          rw [zay hm]
          generalize (l.take m).any (fun y:Ev=>y.kind==2 && y.o==(u1 e)[k].o && y.v==(u1 e)[k].v)=A at *
          generalize ((u1 e)[k].v.k==0)=B at *
          generalize (l[m].v==(u1 e)[k].v)=D at *
          cases A <;> cases B <;> simp_all
        ·refine rn ?_;refine ⟨hm,_,?_,eA⟩
         try rw [zcq]
         rw [zay hm]
         generalize (l.take m).any (fun y:Ev=>y.kind==2 && y.o==(u1 e)[k].o && y.v==(u1 e)[k].v)=A at *
         generalize ((u1 e)[k].v.k==0)=B at *
         generalize (l[m].v==(u1 e)[k].v)=D at *
         cases A <;> cases B <;> simp_all
      ·have qm:=zap hc109 lm
       have zT:th=((u1 e)[k].v.k==0||ze8 l (u1 e)[k].o (u1 e)[k].v):=by rw [zm,qm,List.take_length];rfl
       refine rn ?_;refine z7 rfl (fun hc134=> ?_) (fun hc134=> ?_)
       ·have e4:rl=4:=by have h:=hc134;simp at h;omega
        refine rn ?_;refine z7 rfl (fun hc137=> ?_) (fun hc137=> ?_)
        ·refine rn ?_;refine rq 2 ?_
         exact ⟨rfl,congrArg bv (by subst e4;rw [zo9 (by omega) hk (by show (!((u1 e)[k].v.k==0||ze8 l (u1 e)[k].o (u1 e)[k].v))=true;rw [←zT];exact hc137)])⟩
        ·refine rn ?_;exact ⟨hk,ybg hk zk (by first|(subst e4;show (!((u1 e)[k].v.k==0||ze8 l (u1 e)[k].o (u1 e)[k].v))=false;rw [←zT];exact hc137)|(subst e5;rw [zj9 hw1,bne,←zcq];exact hc154)|(subst e5;exact zmj hg31_3)|(subst e6;show ((u1 e).take k).any _=false;rw [zey,au];rfl)|(exfalso;omega)),eA⟩
       ·have n4:rl≠4:=by intro h;subst h;exact absurd hc134 (by decide)
        refine rn ?_;refine z7 rfl (fun hc138=> ?_) (fun hc138=> ?_)
        ·have e5:rl=5:=by have h:=hc138;simp at h;omega
         refine rn ?_;refine j4 13 rfl ?_
         refine rn ?_;refine zex (fun hg31_3=> ?_) (fun hg31_3=> ?_)
         ·try obtain ⟨w,hw1,hw2,hw3⟩:=zwq hg31_3
          refine dq rfl rfl qrA ?_;refine dq rfl rfl qrA ?_;refine dq rfl rfl qrA ?_;first|refine ds rfl rfl ?_|refine dq rfl rfl (k9 rfl rfl rfl (by rw [oM];have:=zhb l e.t (u1 e)[k].o;omega)) ?_
          first|refine ds rfl rfl ?_|refine dq rfl rfl (zky rfl rfl hw3 hw2) ?_
          refine rn ?_;refine z7 rfl (fun hc154=> ?_) (fun hc154=> ?_)
          ·refine rn ?_;refine rq 2 ?_
           exact ⟨rfl,congrArg bv (by subst e5;rw [zo9 (by omega) hk (by rw [zj9 hw1,bne,←zcq];exact hc154)])⟩
          ·refine rn ?_;exact ⟨hk,ybg hk zk (by first|(subst e4;show (!((u1 e)[k].v.k==0||ze8 l (u1 e)[k].o (u1 e)[k].v))=false;rw [←zT];exact hc137)|(subst e5;rw [zj9 hw1,bne,←zcq];exact hc154)|(subst e5;exact zmj hg31_3)|(subst e6;show ((u1 e).take k).any _=false;rw [zey,au];rfl)|(exfalso;omega)),eA⟩
         ·try obtain ⟨w,hw1,hw2,hw3⟩:=zwq hg31_3
          refine rn ?_;refine zeu rfl ?_;refine rn ?_;exact ⟨hk,ybg hk zk (by first|(subst e4;show (!((u1 e)[k].v.k==0||ze8 l (u1 e)[k].o (u1 e)[k].v))=false;rw [←zT];exact hc137)|(subst e5;rw [zj9 hw1,bne,←zcq];exact hc154)|(subst e5;exact zmj hg31_3)|(subst e6;show ((u1 e).take k).any _=false;rw [zey,au];rfl)|(exfalso;omega)),eA⟩
        ·have n5:rl≠5:=by intro h;subst h;exact absurd hc138 (by decide)
         refine rn ?_;refine z7 rfl (fun hc155=> ?_) (fun hc155=> ?_)
         ·have e6:rl=6:=by have h:=hc155;simp at h;omega
          refine rn ?_;refine qv rfl rfl (y4 rfl rfl (v6 (yar e) (Sbs.refl _))) ?_
          refine q1 ?_;refine qq rfl rfl (zbe (k:=k) rfl rfl (by simp;omega)) ?_
          rw [←List.map_take]
          refine rn ?_;refine zcj (((u1 e).take k).length) (fun u:Nat=>((u1 e).take k).all (fun p:Seen=> !(p.o==(u1 e)[k].o))=(((u1 e).take k).drop u).all (fun p:Seen=> !(p.o==(u1 e)[k].o))) (fun u=> [(162,iv u)]) [(0,_),(2,_),(4,_),(12,_),(89,_),(90,_),(91,_),(160,_),(161,_)] rfl ?_
          intro u lu zu
          refine rn ?_;refine z7 rfl (fun hc163=> ?_) (fun hc163=> ?_)
          ·have hu:=zan hc163
           have ru:=zaf (f:=zar) hu
           have bu:((u1 e).take k).length≤4611686018427387904:=by simp;omega
           refine rn ?_;refine z8 rfl (y6 rfl fun b18=> ?_)
           refine rn ?_;refine z7 rfl (fun hc170=> ?_) (fun hc170=> ?_)
           ·refine rn ?_;refine rq 3 ?_
            exact ⟨rfl,congrArg bv (by subst e6;rw [zo9 (by omega) hk (by show ((u1 e).take k).any _=true;rw [zey,ztb hu (by simpa using hc170)];rfl)])⟩
           ·refine rn ?_;exact ⟨hu,zve hu zu (by simpa using hc170),eA⟩
          ·have qu:=zap hc163 lu
           have au:=zzk qu zu
           refine rn ?_;exact ⟨hk,ybg hk zk (by first|(subst e4;show (!((u1 e)[k].v.k==0||ze8 l (u1 e)[k].o (u1 e)[k].v))=false;rw [←zT];exact hc137)|(subst e5;rw [zj9 hw1,bne,←zcq];exact hc154)|(subst e5;exact zmj hg31_3)|(subst e6;show ((u1 e).take k).any _=false;rw [zey,au];rfl)|(exfalso;omega)),eA⟩
         ·have n6:rl≠6:=by intro h;subst h;exact absurd hc155 (by decide)
          refine rn ?_;exact ⟨hk,ybg hk zk (by first|(subst e4;show (!((u1 e)[k].v.k==0||ze8 l (u1 e)[k].o (u1 e)[k].v))=false;rw [←zT];exact hc137)|(subst e5;rw [zj9 hw1,bne,←zcq];exact hc154)|(subst e5;exact zmj hg31_3)|(subst e6;show ((u1 e).take k).any _=false;rw [zey,au];rfl)|(exfalso;omega)),eA⟩
     ·have qk:=zap hc92 lk
      refine rn ?_;refine rq 1 ?_
      exact ⟨rfl,congrArg bv (by rw [yet (by omega) (qk ▸ zk)])⟩
theorem yaw (h:Hist) (rl i:Nat) (h1:1≤rl) (h10:rl≤10) (hi:i < zgu h rl) (la:Lim 1000000 h):y8 Tryz.prog 194 [.agg (x3 h),iv rl,iv i] [] (fun r h'=>h'= []∧r=bv (zg5 h rl i)):=by
 refine z6 Tryz.func194 rfl rfl rfl ?_
 refine rn ?_;refine z8 rfl (x9 rfl rfl rfl fun b3=> ?_)
 refine rn ?_;refine z7 rfl (fun hc8=> ?_) (fun hc8=> ?_)
 ·obtain rfl:rl=7:=by have q:=hc8;simp at q;omega
  have hi2:i < h.ords.length:=hi
  refine rn ?_;refine qv rfl rfl (y4 rfl rfl (v6 (yfx h i hi2 la) (Sbs.refl _))) ?_
  refine rn ?_;refine rq 1 ?_
  exact ⟨rfl,congrArg bv (by exact (zk9 hi2).symm)⟩
 ·have n7:rl≠7:=by intro q;subst q;exact absurd hc8 (by decide)
  refine rn ?_;refine z7 rfl (fun hc13=> ?_) (fun hc13=> ?_)
  ·obtain rfl:rl=8:=by have q:=hc13;simp at q;omega
   have hi2:i < h.os.length:=hi
   refine rn ?_;refine qv rfl rfl (y4 rfl rfl (v6 (zx6 h i la) (Sbs.refl _))) ?_
   refine rn ?_;refine rq 1 ?_
   exact ⟨rfl,congrArg bv (by exact (zk9 (w:=fun x _=>znx h (x:Int)) hi2).symm)⟩
  ·have n8:rl≠8:=by intro q;subst q;exact absurd hc13 (by decide)
   refine rn ?_;refine z7 rfl (fun hc18=> ?_) (fun hc18=> ?_)
   ·obtain rfl:rl=9:=by have q:=hc18;simp at q;omega
    have hi2:i < h.mats.length:=hi
    refine rn ?_;refine qv rfl rfl (y4 rfl rfl (v6 (yfz h i hi2 la) (Sbs.refl _))) ?_
    refine rn ?_;refine rq 1 ?_
    exact ⟨rfl,congrArg bv (by exact (zk9 hi2).symm)⟩
   ·have n9:rl≠9:=by intro q;subst q;exact absurd hc18 (by decide)
    refine rn ?_;refine z7 rfl (fun hc23=> ?_) (fun hc23=> ?_)
    ·obtain rfl:rl=10:=by have q:=hc23;simp at q;omega
     have hi2:i < h.wants.length:=hi
     refine rn ?_;refine qv rfl rfl (y4 rfl rfl (v6 (ylz h i hi2 la) (Sbs.refl _))) ?_
     refine rn ?_;refine rq 1 ?_
     exact ⟨rfl,congrArg bv (by exact (zk9 hi2).symm)⟩
    ·have n10:rl≠10:=by intro q;subst q;exact absurd hc23 (by decide)
     have hi2:i < h.evs.length:=by rw [←ybq n7 n8 n9 n10];exact hi
     have ri:=zaf (f:=evR) hi2
     have be:=la.evs
     have sc:=la.scans h.evs[i] (List.getElem_mem hi2)
     refine rn ?_;refine j4 10 rfl ?_
     refine dq rfl rfl qrA ?_;refine dq rfl rfl qrA ?_;refine dq rfl rfl qrA ?_;refine dq rfl rfl qrA ?_;refine dq rfl rfl qrA ?_;refine dq rfl rfl qrA ?_;refine dq rfl rfl qrA ?_;refine dq rfl rfl qrA ?_;refine dq rfl rfl qrA ?_;refine dq rfl rfl (zbe (k:=i) rfl rfl (by simp;omega)) ?_
     rw [←List.map_take]
     refine rn ?_;refine qv rfl rfl (y4 rfl rfl (v6 (zyb rl h.evs[i] (h.evs.take i) h1 (by omega) (by simp;omega) sc) (Sbs.refl _))) ?_
     refine rn ?_;refine rq 1 ?_
     exact ⟨rfl,congrArg bv (by rw [ydl n7 n8 n9 n10,zk9 hi2])⟩
theorem yfw (h:Hist) (rl:Nat) (h1:1≤rl) (h10:rl≤10) (la:Lim 1000000 h):y8 Tryz.prog 152 [.agg (x3 h),iv rl] [] (fun r h'=>h'= []∧r=iv (zwf (zew h rl))):=by
 refine z6 Tryz.func152 rfl rfl rfl ?_
 refine rn ?_;refine z8 rfl (x9 rfl rfl rfl fun b2=> ?_)
 refine rn0 ?_;refine x8 (y5 ?_)
 refine rn0 ?_;refine zhw (⟨[(5,iv (zgu h rl)),(1,iv rl),(2,pZ b2)],.box b2 28 (x3 h):: [],[]⟩) ?_ ?_
 ·refine rn ?_;refine z7 rfl (fun hc11=> ?_) (fun hc11=> ?_)
  ·obtain rfl:rl=7:=by have q:=hc11;simp at q;omega
   refine rn ?_;first|(rw [ybu];exact es)|(rw [ybt];exact es)|(rw [ybs];exact es)|(rw [zrz];exact es)|(rw [ybr n7 n8 n9 n10];exact es)
  ·have n7:rl≠7:=by intro q;subst q;exact absurd hc11 (by decide)
   refine rn ?_;refine z7 rfl (fun hc16=> ?_) (fun hc16=> ?_)
   ·obtain rfl:rl=8:=by have q:=hc16;simp at q;omega
    refine rn ?_;first|(rw [ybu];exact es)|(rw [ybt];exact es)|(rw [ybs];exact es)|(rw [zrz];exact es)|(rw [ybr n7 n8 n9 n10];exact es)
   ·have n8:rl≠8:=by intro q;subst q;exact absurd hc16 (by decide)
    refine rn ?_;refine z7 rfl (fun hc21=> ?_) (fun hc21=> ?_)
    ·obtain rfl:rl=9:=by have q:=hc21;simp at q;omega
     refine rn ?_;first|(rw [ybu];exact es)|(rw [ybt];exact es)|(rw [ybs];exact es)|(rw [zrz];exact es)|(rw [ybr n7 n8 n9 n10];exact es)
    ·have n9:rl≠9:=by intro q;subst q;exact absurd hc21 (by decide)
     refine rn ?_;refine z7 rfl (fun hc26=> ?_) (fun hc26=> ?_)
     ·obtain rfl:rl=10:=by have q:=hc26;simp at q;omega
      refine rn ?_;first|(rw [ybu];exact es)|(rw [ybt];exact es)|(rw [ybs];exact es)|(rw [zrz];exact es)|(rw [ybr n7 n8 n9 n10];exact es)
     ·have n10:rl≠10:=by intro q;subst q;exact absurd hc26 (by decide)
      refine rn ?_;first|(rw [ybu];exact es)|(rw [ybt];exact es)|(rw [ybs];exact es)|(rw [zrz];exact es)|(rw [ybr n7 n8 n9 n10];exact es)
 ·refine rn ?_;refine zcj (zgu h rl) (fun k:Nat=>∀j,j < k→zg5 h rl j=false) (fun k=> [(32,iv k)]) [(1,_),(2,_),(31,_)] (fun j q=>absurd q (Nat.not_lt_zero _)) ?_
  intro k lk zk
  refine rn ?_;refine z7 rfl (fun hc33=> ?_) (fun hc33=> ?_)
  ·have hk:k < zgu h rl:=by have q:=hc33;simp at q;omega
   have mb:zgu h rl≤1000000:=ygz la
   refine rn ?_;refine qv rfl rfl (y4 rfl rfl (v6 (yaw h rl k h1 h10 hk la) (Sbs.refl _))) ?_
   refine rn ?_;refine z7 rfl (fun hc38=> ?_) (fun hc38=> ?_)
   ·refine rn ?_;refine rq 1 ?_
    exact ⟨rfl,by rw [ybb hk hc38 zk];rfl⟩
   ·refine rn ?_;exact ⟨hk,yku zk hc38,eA⟩
  ·have qk:k=zgu h rl:=by have q:=hc33;simp at q;omega
   refine rn ?_;refine rq 1 ?_
   exact ⟨rfl,by rw [zyo (qk ▸ zk)];rfl⟩
theorem ybd {o:Option Nat} (h:decide (zwf o ≥ 0)=true):∃n,o=some n:=by
 cases o with
 |none=>exact absurd h (by decide)
 |some n=>exact ⟨n,rfl⟩
theorem ybc {o:Option Nat} (h:decide (zwf o ≥ 0)=false):o=none:=by
 cases o with
 |none=>rfl
 |some n=>have:=oF h;simp [zwf] at this
theorem zx9 (h:Hist) (la:Lim 1000000 h):y8 Tryz.prog 108 [.agg (x3 h)] [] (fun r h'=>h'= []∧r= .tup [.agg (yvw (zaw (zew h) rules10)),bv (zaw (zew h) rules10).isSome]):=by
 refine z6 Tryz.func108 rfl rfl rfl ?_
 refine rn ?_;refine z8 rfl (x9 rfl rfl rfl fun b1=> ?_)
 refine z8 rfl (y6 rfl fun b2=> ?_)
 refine rn ?_;refine zc4 (fun k:Nat=>(1≤k∧k≤11)∧zaw (zew h) rules10=zaw (zew h) (rules10.drop (k - 1))) (fun k=>⟨[(4,iv k),(1,pZ b1),(2,pZ b2)],(.box b2 152 [iv 0,iv 0]:: .box b1 28 (x3 h):: []),[]⟩) (fun k=>11 - k) 1 ⟨by omega,rfl⟩ es ?_
 rintro k ⟨⟨k1,k3⟩,zk⟩
 refine rn ?_;refine z7 rfl (fun hc7=> ?_) (fun hc7=> ?_)
 ·have k2:k≤10:=by have:=oT hc7;omega
  refine rn ?_;refine qv rfl rfl (y4 rfl rfl (v6 (yfw h k k1 k2 la) (Sbs.refl _))) ?_
  refine rn ?_;refine z7 rfl (fun hc14=> ?_) (fun hc14=> ?_)
  ·refine rn ?_;exact ze0 (.cons _ _ _ _ (.agg _ _ _ _ _ _ _ rfl inferInstance inferInstance inferInstance rfl) (.cons _ _ _ _ (.tmp _ _ rfl) .nil)) (.drop [_,_] _ _) ⟨rfl,by
    obtain ⟨n,hp⟩:=ybd hc14
    rw [zse k1 k2 zk hp,hp];rfl⟩
  ·refine rn ?_;exact ⟨k+1,⟨by omega,zos k1 k2 zk (ybc hc14)⟩,eA,by omega⟩
 ·have k2:11≤k:=by have:=oF hc7;omega
  refine rn ?_;exact ze0 (.cons _ _ _ _ (.agg _ _ _ _ _ _ _ rfl inferInstance inferInstance inferInstance rfl) (.cons _ _ _ _ (.tmp _ _ rfl) .nil)) (.drop [_,_] _ _) ⟨rfl,by rw [zot k2 k3 zk];rfl⟩
theorem ywq (l:Int):y8 Tryz.prog 191 [iv l] [] (fun r h'=>h'= []∧r=bv (zig l)):=by
 refine z6 Tryz.func191 rfl rfl rfl ?_
 refine rn ?_;refine x4 (fun hg1_2=> ?_) (fun hg1_2=> ?_)
 ·refine rn ?_;exact u9 rfl (.refl _ _) ⟨rfl,congrArg bv (by first|(simp only [zig, *,Bool.true_and,Bool.false_and,Bool.and_false,Bool.and_true,Bool.true_or,Bool.or_false,Bool.false_or,Bool.or_true,if_true,if_false,Bool.false_eq_true,Bool.not_true,Bool.not_false];done)|(simp_all [zig];done)|(simp_all [zig] <;> omega))⟩
 ·refine rn ?_;exact u9 rfl (.refl _ _) ⟨rfl,congrArg bv (by first|(simp only [zig, *,Bool.true_and,Bool.false_and,Bool.and_false,Bool.and_true,Bool.true_or,Bool.or_false,Bool.false_or,Bool.or_true,if_true,if_false,Bool.false_eq_true,Bool.not_true,Bool.not_false];done)|(simp_all [zig];done)|(simp_all [zig] <;> omega))⟩
theorem bvz3_3958 {a b:Bool} (h:a=b:=by first|(simp only [zr4, *,Bool.true_and,Bool.false_and,Bool.and_false,Bool.and_true,Bool.true_or,Bool.or_false,Bool.false_or,Bool.or_true,if_true,if_false,Bool.false_eq_true,Bool.not_true,Bool.not_false];done)|(simp_all [zr4];done)|(simp_all [zr4] <;> omega)):bv a=bv b:=congrArg bv h
theorem zyf (c:Int):y8 Tryz.prog 207 [.v (.int .i32 c)] [] (fun r h'=>h'= []∧r=bv (zr4 c)):=by
 refine z6 Tryz.func207 rfl rfl rfl ?_
 refine rn ?_;refine x4 (fun hg1_2=> ?_) (fun hg1_2=> ?_)
 ·refine rn ?_;refine x4 (fun hg1_6=> ?_) (fun hg1_6=> ?_)
  ·refine rn ?_;exact u9 rfl (.refl _ _) ⟨rfl,bvz3_3958⟩
  ·refine rn ?_;refine x4 (fun hg1_9=> ?_) (fun hg1_9=> ?_)
   ·refine rn ?_;refine x4 (fun hg1_14=> ?_) (fun hg1_14=> ?_)
    ·refine rn ?_;exact u9 rfl (.refl _ _) ⟨rfl,bvz3_3958⟩
    ·refine rn ?_;refine x4 (fun hg1_18=> ?_) (fun hg1_18=> ?_)
     ·refine rn ?_;exact u9 rfl (.refl _ _) ⟨rfl,bvz3_3958⟩
     ·refine rn ?_;exact u9 rfl (.refl _ _) ⟨rfl,bvz3_3958⟩
   ·refine rn ?_;refine x4 (fun hg1_18=> ?_) (fun hg1_18=> ?_)
    ·refine rn ?_;exact u9 rfl (.refl _ _) ⟨rfl,bvz3_3958⟩
    ·refine rn ?_;exact u9 rfl (.refl _ _) ⟨rfl,bvz3_3958⟩
 ·refine rn ?_;refine x4 (fun hg1_9=> ?_) (fun hg1_9=> ?_)
  ·refine rn ?_;refine x4 (fun hg1_14=> ?_) (fun hg1_14=> ?_)
   ·refine rn ?_;exact u9 rfl (.refl _ _) ⟨rfl,bvz3_3958⟩
   ·refine rn ?_;refine x4 (fun hg1_18=> ?_) (fun hg1_18=> ?_)
    ·refine rn ?_;exact u9 rfl (.refl _ _) ⟨rfl,bvz3_3958⟩
    ·refine rn ?_;exact u9 rfl (.refl _ _) ⟨rfl,bvz3_3958⟩
  ·refine rn ?_;refine x4 (fun hg1_18=> ?_) (fun hg1_18=> ?_)
   ·refine rn ?_;exact u9 rfl (.refl _ _) ⟨rfl,bvz3_3958⟩
   ·refine rn ?_;exact u9 rfl (.refl _ _) ⟨rfl,bvz3_3958⟩
theorem zrp (c:Int):y8 Tryz.prog 208 [.v (.int .i32 c)] [] (fun r h'=>h'= []∧r=bv (zj2 c)):=by
 refine z6 Tryz.func208 rfl rfl rfl ?_
 refine rn ?_;refine x4 (fun hg1_2=> ?_) (fun hg1_2=> ?_)
 ·refine rn ?_;exact u9 rfl (.refl _ _) ⟨rfl,congrArg bv (by first|(simp only [zj2, *,Bool.true_and,Bool.false_and,Bool.and_false,Bool.and_true,Bool.true_or,Bool.or_false,Bool.false_or,Bool.or_true,if_true,if_false,Bool.false_eq_true,Bool.not_true,Bool.not_false];done)|(simp_all [zj2];done)|(simp_all [zj2] <;> omega))⟩
 ·refine rn ?_;exact u9 rfl (.refl _ _) ⟨rfl,congrArg bv (by first|(simp only [zj2, *,Bool.true_and,Bool.false_and,Bool.and_false,Bool.and_true,Bool.true_or,Bool.or_false,Bool.false_or,Bool.or_true,if_true,if_false,Bool.false_eq_true,Bool.not_true,Bool.not_false];done)|(simp_all [zj2];done)|(simp_all [zj2] <;> omega))⟩
theorem yqb {f:Bool} (h:Hist) (l:List Int) (hl:l.length≤4611686018427387904):y8 Tryz.prog 149 [.agg (x3 h),.list f 1 (l.map j8)] [] (fun r h'=>h'= []∧r=bv (zgn h l)):=by
 refine z6 Tryz.func149 rfl rfl rfl ?_
 refine rn ?_;refine z8 rfl (x9 rfl rfl rfl fun b2=> ?_)
 refine rn ?_;refine u5 (fun k:Nat=>k≤l.length∧l.all (fun t=>isB t h.ts.length)=(l.drop k).all (fun t=>isB t h.ts.length)) (fun k=>⟨[(9,iv k),(8,iv (l.map j8).length),(7,.list f 1 (l.map j8)),(1,.list f 1 (l.map j8)),(2,pZ b2)],[.box b2 28 (x3 h)],[]⟩) (fun k=>l.length - k) 0 ⟨Nat.zero_le _,by simp⟩
  (w6 (.cons _ _ _ rfl (.cons _ _ _ rfl (.cons _ _ _ rfl (.cons _ _ _ rfl (.cons _ _ _ rfl (.nil))))))) ?_
 rintro k ⟨hk,hz⟩
 refine rn ?_;refine z7 rfl (fun hc10=> ?_) (fun hc10=> ?_)
 ·have hk2:k < l.length:=by simpa using hc10
  have hrow:(l.map j8)[k]? =some (j8 l[k]):=by simp [hk2]
  have hd:=List.drop_eq_getElem_cons hk2
  refine rn ?_;refine qv rfl rfl (y4 rfl rfl (v6 (zit _ _) (Sbs.refl _))) ?_
  refine rn ?_;refine z7 rfl (fun hc18=> ?_) (fun hc18=> ?_)
  ·have hx:isB l[k] h.ts.length=false:=by simpa using hc18
   refine rn ?_;exact u9 rfl (.drop [_] _ _) ⟨rfl,congrArg bv (by rw [zgn,hz,hd,List.all_cons,hx,Bool.false_and];rfl)⟩
  ·have hx:isB l[k] h.ts.length=true:=by simpa using hc18
   refine rn ?_;exact ⟨k+1,⟨by omega,by rw [hz,hd,List.all_cons,hx,Bool.true_and]⟩,(w6 (.cons _ _ _ rfl (.cons _ _ _ rfl (.cons _ _ _ rfl (.cons _ _ _ rfl (.cons _ _ _ rfl (.nil))))))),by omega⟩
 ·have hk3:k=l.length:=by
   have:l.length≤k:=by simpa using hc10
   omega
  refine rn ?_;exact u9 rfl (.drop [_] _ _) ⟨rfl,congrArg bv (by rw [zgn,hz,hk3,List.drop_length];simp)⟩
end Go.Proofs
