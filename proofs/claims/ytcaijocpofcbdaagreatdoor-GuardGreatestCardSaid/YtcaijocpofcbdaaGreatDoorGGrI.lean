/- The walks of the index's closures. Conditions: none. -/
import Derived.Test.YtcaijocpofcbdaaGreatDoorGGrH
set_option maxHeartbeats 4000000
set_option linter.unusedSectionVars false
set_option linter.unusedSimpArgs false
set_option linter.unusedVariables false
set_option maxRecDepth 10000
namespace Go.Proofs
open Go Go.Ab
attribute [local irreducible] QR QV OE zcc aw zco za8 zav zah thn zez zdl jch zeb
open Go.H
theorem yfq (k s:Int) (e:Ev) (b2 b3 rm:Nat) (M:List (Int×Bool)):x3 Tryz.prog 74 [iv k,.agg (evR e),pZ b2,pZ b3] [.box b2 3 [iv s],.box b3 126 [mpv rm],.map rm (j9 zbq (zbh bv M))] (fun r h'=>h'= [.box b2 3 [iv s],.box b3 126 [mpv rm],.map rm (j9 zbq (zbh bv M))]∧r= .tup [iv e.t,bv (e.s==s && (zbr e.t M).getD false)]):=by
 refine z6 Tryz.func74 rfl rfl rfl ?_
 refine rn ?_;refine z7 rfl (w6 rfl rfl rfl fun b5=> ?_)
 refine rn ?_;refine j5 13 rfl ?_
 refine rn ?_;refine ze1 (fun hg1_6=> ?_) (fun hg1_6=> ?_)
 ·refine dq rfl rfl qrA ?_;refine dq rfl rfl qrA ?_;refine dq rfl rfl qrA ?_;refine dq rfl rfl (zbz (enc:=zbq) (k:=e.t) false rfl rfl) ?_
  refine rn ?_;refine rq 1 ?_
  exact ⟨rfl,by rw [hg1_6];rfl⟩
 ·refine rn ?_;refine rq 1 ?_
  exact ⟨rfl,by rw [hg1_6];rfl⟩
theorem yfr (k s:Int) (e:Ev) (b2 b3 rm:Nat) (M:List (Int×Bool)):x3 Tryz.prog 161 [iv k,.agg (evR e),pZ b2,pZ b3] [.box b2 3 [iv s],.box b3 126 [mpv rm],.map rm (j9 zbq (zbh bv M))] (fun r h'=>h'= [.box b2 3 [iv s],.box b3 126 [mpv rm],.map rm (j9 zbq (zbh bv M))]∧r= .tup [iv e.t,bv (e.o==s && (zbr e.t M).getD false)]):=by
 refine z6 Tryz.func161 rfl rfl rfl ?_
 refine rn ?_;refine z7 rfl (w6 rfl rfl rfl fun b5=> ?_)
 refine rn ?_;refine j5 13 rfl ?_
 refine rn ?_;refine ze1 (fun hg1_6=> ?_) (fun hg1_6=> ?_)
 ·refine dq rfl rfl qrA ?_;refine dq rfl rfl qrA ?_;refine dq rfl rfl qrA ?_;refine dq rfl rfl (zbz (enc:=zbq) (k:=e.t) false rfl rfl) ?_
  refine rn ?_;refine rq 1 ?_
  exact ⟨rfl,by rw [hg1_6];rfl⟩
 ·refine rn ?_;refine rq 1 ?_
  exact ⟨rfl,by rw [hg1_6];rfl⟩
theorem ymv (x:Int) (s:Ord) (b1:Nat):x3 Tryz.prog 160 [.agg (zc7 s),pZ b1] [.box b1 3 [iv x]] (fun r h'=>h'= [.box b1 3 [iv x]]∧r=bv (s.o==x)):=by
 refine z6 Tryz.func160 rfl rfl rfl ?_
 refine rn ?_;refine z7 rfl (w6 rfl rfl rfl fun b2=> ?_)
 refine rn ?_;refine rq 1 ?_
 exact ⟨rfl,rfl⟩
theorem zxa (h:Hist) (la:h.evs.length≤1000000) (W:List Res):x3 Tryz.prog 72 [.agg (x4 h)] W (fun r h'=>∃rm,h'= .map rm (j9 zbq (zbh bv (zjq h.evs)))::W∧r=mpv rm):=by
 refine z6 Tryz.func72 rfl rfl rfl ?_
 refine rn ?_;refine z7 rfl (w6 rfl rfl rfl fun b1=> ?_)
 refine rn ?_;refine z7 rfl (zaq (enc:=zbq) rfl fun b6=> ?_)
 refine z7 rfl (x6 rfl fun b3=> ?_)
 refine rn ?_;refine z7 rfl (w7 rfl rfl (y3.of_fun (zs4 h 5 _)) rfl ?_)
 rintro _ _ ⟨e1,e2,rfl,rfl⟩
 refine rn ?_;refine zix (s':=⟨[(8,.fn (.func 158) [] [pZ e1,pZ e2]),(3,pZ b3)],.box e1 28 (x4 h):: .box e2 3 [iv 5]:: .box b3 126 [mpv b6]:: .map b6 (j9 zbq (zbh bv (zjq (h.evs.take 0)))):: .box b1 28 (x4 h)::W,[]⟩) es ?_
 refine zli (fun pend h''=>pend=none∧h''= .box b3 126 [mpv b6]:: .map b6 (j9 zbq (zbh bv (zjq (h.evs.take h.evs.length)))):: .box b1 28 (x4 h)::W) rfl (fun fn l q lp hlp=> ?_) (fun q h'' hK=> ?_) (fun q h'' c hK=> ?_)
 ·suffices hy:∀k (x:Unit),(hk:k < h.evs.length)→True→(h.evs[k].kind==5)=true→y3 Tryz.prog (yv l) [iv k,.agg (evR h.evs[k])] (.box e1 28 (x4 h):: .box e2 3 [iv 5]::lp .ready none:: .defs q:: .box b3 126 [mpv b6]:: .map b6 (j9 zbq (zbh bv (zjq (h.evs.take k)))):: .box b1 28 (x4 h)::W) (fun r h'=>∃x':Unit,(r=bv true∧True∧h'= .box e1 28 (x4 h):: .box e2 3 [iv 5]::lp .ready none:: .defs q:: .box b3 126 [mpv b6]:: .map b6 (j9 zbq (zbh bv (zjq (h.evs.take (k+1))))):: .box b1 28 (x4 h)::W)∨(r=bv false∧False∧h'= .box e1 28 (x4 h):: .box e2 3 [iv 5]:: [])) by
   refine x3.mono (x3.perm ((pt2 _ _ _ _).trans (.cons _ (pt2 _ _ _ _))) (zoy h la 5 (yv l) e1 e2 (fun _ _=>True) (fun _ _=>False) (fun k (_:Unit)=>lp .ready none:: .defs q:: .box b3 126 [mpv b6]:: .map b6 (j9 zbq (zbh bv (zjq (h.evs.take k)))):: .box b1 28 (x4 h)::W) (fun _ _=> []) () trivial hy (fun k s hk _ hn=>⟨s,trivial,by rw [yko hk hn]⟩))) ?_
   rintro _ _ (⟨s,_,rfl⟩|⟨_,_,hF,_⟩)
   ·exact ⟨none,.ready,_,.refl _,by simp,rfl,rfl⟩
   ·exact hF.elim
  intro k s hk _ hkd
  refine y3.perm (pt2 _ _ _ _) (y3.ventE ?_)
  refine zdn hlp rfl rfl ?_
  refine rn ?_;refine z7 rfl (x6 rfl fun b5=> ?_)
  refine rn ?_;refine ⟨[(5,pZ b5),(3,pZ b3)],.box b5 66 (evR h.evs[k]):: .box e1 28 (x4 h):: .box e2 3 [iv 5]:: .defs q:: .box b3 126 [mpv b6]:: .map b6 (j9 zbq (zbh bv (zjq (h.evs.take k)))):: .box b1 28 (x4 h)::W,w9 (zak (pt1 _ _ _)) es,?_⟩
  refine rn ?_;refine z7 rfl (za0 (g:=bv) (enc:=zbq) (k:=h.evs[k].t) (v:=true) rfl rfl rfl ?_)
  refine rn ?_;exact zgw (.refl _) ⟨_,_,.trans (.perm ((pt1 _ _ _).trans (.cons _ ((pt1 _ _ _).trans (.cons _ (pt1 _ _ _))))) _) (.drop [_] _ _),(),.inl ⟨rfl,trivial,by rw [ykn hk hkd]⟩⟩
 ·obtain ⟨_,rfl⟩:=hK
  refine rn ?_;exact zgk (.refl _) (.cons _ _ _ _ (.tmp _ _ rfl) .nil) (.trans (.drop1 _ _ _) (.trans (.perm (pt1 _ _ _) _) (.drop [_] _ _))) ⟨b6,by rw [List.take_length],rfl⟩
 ·obtain ⟨hc,_⟩:=hK
  exact absurd hc (by simp)
theorem zyk {h:Hist} {n many:Int} (he:zih h n many≠0) (X:List Int):(onE (zih h n many) X).map zba= []:=by rw [onE,if_neg he];rfl
theorem zxn {α:Type} (kd:Int) (g:Ev→α) (q:Ev→Bool) (l:List Ev):zjo (zn4 kd (fun _ e=>g e) (fun _ e=>q e)) l l.length=(l.filter fun e=>e.kind==kd && q e).map g:=ybl (fun _ _=>rfl) l
theorem ycx (h:Hist) (la:Lim 4611686018427387904 h) (n many:Int) (fv:AV) (hone:fv.cellsOf=some [fv]) (X:List Int) (W:List Res) (hp:zih h n many=0→y3 Tryz.prog fv [] (.glob 3 148 y7:: .glob 5 276 y9:: .glob 6 279 y4:: .glob 2 197 v7::W) (fun r h'=>∃s:SV,h'= .row s.v 1 3 (X.map zba):: .glob 3 148 y7:: .glob 5 276 y9:: .glob 6 279 y4:: .glob 2 197 v7::W∧r= .v s.v)):x3 Tryz.prog 70 [.agg (x4 h),iv n,iv many,fv] (.glob 3 148 y7:: .glob 5 276 y9:: .glob 6 279 y4:: .glob 2 197 v7::W) (fun r h'=>∃s:SV,h'= .row s.v 1 3 ((onE (zih h n many) X).map zba):: .glob 3 148 y7:: .glob 5 276 y9:: .glob 6 279 y4:: .glob 2 197 v7::W∧r= .tup [.v s.v,iv (zih h n many)]):=by
 refine z6 Tryz.func70 rfl rfl rfl ?_
 refine rn ?_;refine z7 rfl (w6 rfl rfl rfl fun b4=> ?_)
 refine rn ?_;refine qv rfl rfl (y6 rfl rfl (y3.qt (y3.of_fun (zrc h la)) ((pt1 _ _ _).trans (.cons _ ((pt1 _ _ _).trans (.cons _ ((pt1 _ _ _).trans (.cons _ (pt1 _ _ _))))))))) ?_
 refine rn ?_;refine z8 rfl (fun hc15=> ?_) (fun hc15=> ?_)
 ·have hc:q8 h≠0:=by simpa using hc15
  refine rn ?_;exact zbo rfl rfl (.trans (.drop [_] _ _) (k9 1 3 _)) ⟨⟨none,0,0⟩,by rw [zyk (by rw [yk2 hc];exact hc)];rfl,by rw [yk2 hc];rfl⟩
 ·have hc:q8 h=0:=by simpa using hc15
  refine rn ?_;refine q9 (fun hg5_2=> ?_) (fun hg5_2=> ?_)
  ·refine rn ?_;refine zrw rfl ?_;have hn:¬(0≤n∧n < many):=by first|(have q:=oT hg5_2;omega)|(have q:=oT hc24;omega)
   refine rn ?_;exact zbo rfl rfl (.trans (.drop [_] _ _) (k9 1 3 _)) ⟨⟨none,0,0⟩,by rw [zyk (by rw [yb5 hc hn];decide)];rfl,by rw [yb5 hc hn];rfl⟩
  ·refine rn ?_;refine z8 rfl (fun hc24=> ?_) (fun hc24=> ?_)
   ·have hn:¬(0≤n∧n < many):=by first|(have q:=oT hg5_2;omega)|(have q:=oT hc24;omega)
    refine rn ?_;exact zbo rfl rfl (.trans (.drop [_] _ _) (k9 1 3 _)) ⟨⟨none,0,0⟩,by rw [zyk (by rw [yb5 hc hn];decide)];rfl,by rw [yb5 hc hn];rfl⟩
   ·have hn:0≤n∧n < many:=by have q:=oF hg5_2;have q':=oF hc24;omega
    refine rn ?_;refine z7 rfl (w7 rfl rfl (y3.fr1 (hp (zyj hc hn))) rfl ?_)
    rintro _ _ ⟨_,rfl,s,rfl,rfl⟩
    refine rn ?_;exact zbo rfl rfl (.drop [_] _ _) ⟨s,by rw [zyj hc hn];rfl,by rw [zyj hc hn];rfl⟩
theorem zyl {h:Hist} {n many:Int} (he:zih h n many=0):Lim 3000 h:=zq3 (zfr (yb6 he).1).1
theorem ygy {h:Hist} {n many:Int} (he:zih h n many=0):h.evs.length≤1000000:=Nat.le_trans (zyl he).evs (by decide)
theorem zd9 {h:Hist} (he:q8 h=0):Lim 3000 h:=zq3 (zfr (zbe.1 he)).1
theorem ya0 (l:List Ev) (s:Int):zjo (zn4 1 (fun _ e=>e.t) (fun _ e=>e.s==s && (zbr e.t (zjq l)).getD false)) l l.length=zen l s:=by
 rw [zxn 1 Ev.t (fun e=>e.s==s && (zbr e.t (zjq l)).getD false),zen];simp only [zte]
theorem yfy (l:List Ev) (x:Int):zjo (zn4 2 (fun _ e=>e.t) (fun _ e=>e.o==x && (zbr e.t (zjq l)).getD false)) l l.length=yhc l x:=by
 rw [zxn 2 Ev.t (fun e=>e.o==x && (zbr e.t (zjq l)).getD false),yhc];simp only [zte]
theorem yi0 {h:Hist} {x:Int} (hc:decide (zbl (fun o:Ord=>o.o==x) 0 h.ords ≥ 0)=true):∃k,∃hk:k < h.ords.length,zbl (fun o:Ord=>o.o==x) 0 h.ords=(k:Int)∧zfm h x=h.ords[k].ts:=by
 have:=zhq (fun o:Ord=>o.o==x) h.ords 0
 cases hf:h.ords.find? (fun o=>o.o==x) with
 |none=>rw [hf] at this;simp only at this;rw [this] at hc;exact absurd hc (by decide)
 |some o=>
  rw [hf] at this
  obtain ⟨k,hk,e,eo,_⟩:=this
  exact ⟨k,hk,by rw [e,Nat.zero_add],by rw [zfm,hf,eo]⟩
theorem yiz {h:Hist} {x:Int} (hc:decide (zbl (fun o:Ord=>o.o==x) 0 h.ords ≥ 0)=false):zfm h x=za6 (yhc h.evs x):=by
 have:=zhq (fun o:Ord=>o.o==x) h.ords 0
 cases hf:h.ords.find? (fun o=>o.o==x) with
 |none=>rw [zfm,hf]
 |some o=>
  rw [hf] at this
  obtain ⟨k,hk,e,eo,_⟩:=this
  rw [e] at hc
  have:=oF hc
  omega
theorem yfs (h:Hist) (la:h.evs.length≤1000000) (s:Int) (b2 b4:Nat):x3 Tryz.prog 71 [pZ b2,pZ b4] (.glob 3 148 y7:: .glob 5 276 y9:: .glob 6 279 y4:: .glob 2 197 v7:: .box b2 28 (x4 h):: .box b4 3 [iv s]:: []) (fun r h'=>∃s':SV,h'= .row s'.v 1 3 ((zen h.evs s).map zba):: .glob 3 148 y7:: .glob 5 276 y9:: .glob 6 279 y4:: .glob 2 197 v7:: .box b2 28 (x4 h):: .box b4 3 [iv s]:: []∧r= .v s'.v):=by
 refine z6 Tryz.func71 rfl rfl rfl ?_
 refine rn ?_;refine z7 rfl (w7 rfl rfl (y3.of_fun (zxa h la _)) rfl ?_)
 rintro _ _ ⟨rm,rfl,rfl⟩
 refine z7 rfl (x6 rfl fun b3=> ?_)
 refine rn ?_;refine z7 rfl (w7 rfl rfl (y3.of_fun (ycw h la 1 _ rfl _ (fun _ e=>e.t) (fun _ e=>e.s==s && (zbr e.t (zjq h.evs)).getD false) (fun k hk _=>y3.qt (y3.of_acall (fs:= []) (cs:= [pZ b4,pZ b3]) (yfq k s h.evs[k] b4 b3 rm (zjq h.evs))) (pt7 _ _ _ _ _ _ _ _ _)))) rfl ?_)
 rintro _ _ ⟨s',rfl,rfl⟩
 refine rn ?_;exact k7 rfl (.trans (.perm ((pt1 _ _ _).trans (.cons _ (pt1 _ _ _))) _) (.drop [_,_] _ _)) ⟨s',by rw [ya0],rfl⟩
theorem yft (h:Hist) (la:Lim 4611686018427387904 h) (n:Int):x3 Tryz.prog 28 [.agg (x4 h),iv n] (.glob 3 148 y7:: .glob 5 276 y9:: .glob 6 279 y4:: .glob 2 197 v7:: []) (fun r h'=>∃s:SV,h'= .row s.v 1 3 ((onE (zih h n h.ss.length) (zen h.evs n)).map zba):: .glob 3 148 y7:: .glob 5 276 y9:: .glob 6 279 y4:: .glob 2 197 v7:: []∧r= .tup [.v s.v,iv (zih h n h.ss.length)]):=by
 refine z6 Tryz.func28 rfl rfl rfl ?_
 refine rn ?_;refine z7 rfl (w6 rfl rfl rfl fun b2=> ?_)
 refine z7 rfl (w6 rfl rfl rfl fun b3=> ?_)
 refine rn ?_;refine z7 rfl (w7 rfl rfl (y3.perm ((pt2 _ _ _ _).trans (.cons _ ((pt2 _ _ _ _).trans (.cons _ ((pt2 _ _ _ _).trans (.cons _ ((pt2 _ _ _ _).trans (.cons _ (pt1 _ _ _))))))))) (y3.of_fun (ycx h la n (h.ss.map za7).length (.fn (.func 71) [] [pZ b2,pZ b3]) rfl (zen h.evs n) [.box b2 28 (x4 h),.box b3 3 [iv n]] (fun he=>y3.of_acall (fs:= []) (cs:= [pZ b2,pZ b3]) (yfs h (ygy he) n b2 b3))))) rfl ?_)
 rintro _ _ ⟨s,rfl,rfl⟩
 refine rn ?_;exact zbo rfl rfl (.trans (.perm ((pt5 _ _ _ _ _ _ _).trans (.cons _ (pt5 _ _ _ _ _ _ _))) _) (.drop [_,_] _ _)) ⟨s,by simp only [oM],by simp only [oM];rfl⟩
theorem yjk (h:Hist) (la:Lim 4611686018427387904 h) (n:Int):x3 Tryz.prog 28 [.agg (x4 h),iv n] (.glob 3 148 y7:: .glob 5 276 y9:: .glob 6 279 y4:: .glob 2 197 v7:: []) (fun r h'=>h'= .glob 3 148 y7:: .glob 5 276 y9:: .glob 6 279 y4:: .glob 2 197 v7:: []∧r= .tup [zfy (onE (zih h n h.ss.length) (zen h.evs n)),iv (zih h n h.ss.length)]):=
 (yft h la n).ventR (by rintro _ _ ⟨s,rfl,rfl⟩;exact ⟨_,_,zag [] [_],rfl,rfl⟩)
theorem yjo (h:Hist) (la:Lim 3000 h) (x:Int) (W:List Res):x3 Tryz.prog 122 [.agg (x4 h),iv x] W (fun r h'=>∃s:SV,h'= .row s.v 1 3 ((zfm h x).map zba)::W∧r= .v s.v):=by
 refine z6 Tryz.func122 rfl rfl rfl ?_
 have le:h.evs.length≤1000000:=Nat.le_trans la.evs (by decide)
 have lo:=la.ords
 refine rn ?_;refine z7 rfl (w6 rfl rfl rfl fun b2=> ?_)
 refine z7 rfl (w6 rfl rfl rfl fun b3=> ?_)
 refine rn ?_;refine qv rfl rfl (y6 rfl rfl (y3.of_fun (ziu h.ords _ (fun o:Ord=>o.o==x) _ (fun a _=>y3.qt (y3.of_acall (fs:= []) (cs:= [pZ b3]) (ymv x a b3)) (.refl _)) (Nat.le_trans la.ords (by decide))))) ?_
 refine rn ?_;refine z8 rfl (fun hc13=> ?_) (fun hc13=> ?_)
 ·obtain ⟨k,hk,ek,hx⟩:=yi0 hc13
  have rk:=zdp (f:=zc7) hk
  rw [ek]
  refine rn ?_;refine z7 rfl (w7 rfl rfl (y3.fr (y3.rowS (y3.of_fun (zfd (h.ords[k].ts.map zba) (by rw [oM];exact Nat.le_trans (la.ordts h.ords[k] (List.getElem_mem hk)) (by decide)) (zkf _)))) (.refl _)) rfl ?_)
  rintro _ _ ⟨_,rfl,s,rfl,rfl⟩
  refine rn ?_;exact k7 rfl (.trans (.perm ((pt1 _ _ _).trans (.cons _ (pt1 _ _ _))) _) (.drop [_,_] _ _)) ⟨s,by rw [hx],rfl⟩
 ·have hx:=yiz hc13
  refine rn ?_;refine z7 rfl (w7 rfl rfl (y3.of_fun (zxa h le _)) rfl ?_)
  rintro _ _ ⟨rm,rfl,rfl⟩
  refine z7 rfl (x6 rfl fun b6=> ?_)
  refine rn ?_;refine z7 rfl (w7 rfl rfl (y3.of_fun (ycw h le 2 _ rfl _ (fun _ e=>e.t) (fun _ e=>e.o==x && (zbr e.t (zjq h.evs)).getD false) (fun k hk _=>y3.qt (y3.of_acall (fs:= []) (cs:= [pZ b3,pZ b6]) (yfr k x h.evs[k] b3 b6 rm (zjq h.evs))) (pt2 _ _ _ _)))) rfl ?_)
  rintro _ _ ⟨s,rfl,rfl⟩
  refine rn ?_;refine z7 rfl (w7 rfl rfl (zkr (y3.of_fun (ygp s _ (by have:=(zng (zn4 2 (fun _ e=>e.t) (fun _ e=>e.o==x && (zbr e.t (zjq h.evs)).getD false)) h.evs h.evs.length);omega)))) rfl ?_)
  rintro _ _ ⟨s',rfl,rfl⟩
  refine rn ?_;exact k7 rfl (.trans (.perm ((pt1 _ _ _).trans (.cons _ ((pt1 _ _ _).trans (.cons _ ((pt1 _ _ _).trans (.cons _ (pt1 _ _ _))))))) _) (.drop [_,_,_,_] _ _)) ⟨s',by rw [hx,yfy],rfl⟩
theorem yjn (h:Hist) (la:Lim 3000 h) (x:Int) (b2 b3:Nat):x3 Tryz.prog 121 [pZ b2,pZ b3] (.glob 3 148 y7:: .glob 5 276 y9:: .glob 6 279 y4:: .glob 2 197 v7:: .box b2 28 (x4 h):: .box b3 3 [iv x]:: []) (fun r h'=>∃s:SV,h'= .row s.v 1 3 ((zfm h x).map zba):: .glob 3 148 y7:: .glob 5 276 y9:: .glob 6 279 y4:: .glob 2 197 v7:: .box b2 28 (x4 h):: .box b3 3 [iv x]:: []∧r= .v s.v):=by
 refine z6 Tryz.func121 rfl rfl rfl ?_
 refine rn ?_;refine z7 rfl (w7 rfl rfl (y3.of_fun (yjo h la x _)) rfl ?_)
 rintro _ _ ⟨s,rfl,rfl⟩
 refine rn ?_;exact k7 rfl (.refl _ _) ⟨s,rfl,rfl⟩
theorem yfu (h:Hist) (la:Lim 4611686018427387904 h) (x:Int):x3 Tryz.prog 75 [.agg (x4 h),iv x] (.glob 3 148 y7:: .glob 5 276 y9:: .glob 6 279 y4:: .glob 2 197 v7:: []) (fun r h'=>∃s:SV,h'= .row s.v 1 3 ((onE (zih h x h.os.length) (zfm h x)).map zba):: .glob 3 148 y7:: .glob 5 276 y9:: .glob 6 279 y4:: .glob 2 197 v7:: []∧r= .tup [.v s.v,iv (zih h x h.os.length)]):=by
 refine z6 Tryz.func75 rfl rfl rfl ?_
 refine rn ?_;refine z7 rfl (w6 rfl rfl rfl fun b2=> ?_)
 refine z7 rfl (w6 rfl rfl rfl fun b3=> ?_)
 refine rn ?_;refine z7 rfl (w7 rfl rfl (y3.perm ((pt2 _ _ _ _).trans (.cons _ ((pt2 _ _ _ _).trans (.cons _ ((pt2 _ _ _ _).trans (.cons _ ((pt2 _ _ _ _).trans (.cons _ (pt1 _ _ _))))))))) (y3.of_fun (ycx h la x (h.os.map za7).length (.fn (.func 121) [] [pZ b2,pZ b3]) rfl (zfm h x) [.box b2 28 (x4 h),.box b3 3 [iv x]] (fun he=>y3.of_acall (fs:= []) (cs:= [pZ b2,pZ b3]) (yjn h (zyl he) x b2 b3))))) rfl ?_)
 rintro _ _ ⟨s,rfl,rfl⟩
 refine rn ?_;exact zbo rfl rfl (.trans (.perm ((pt5 _ _ _ _ _ _ _).trans (.cons _ (pt5 _ _ _ _ _ _ _))) _) (.drop [_,_] _ _)) ⟨s,by simp only [oM],by simp only [oM];rfl⟩
theorem yjl (h:Hist) (la:Lim 4611686018427387904 h) (x:Int):x3 Tryz.prog 75 [.agg (x4 h),iv x] (.glob 3 148 y7:: .glob 5 276 y9:: .glob 6 279 y4:: .glob 2 197 v7:: []) (fun r h'=>h'= .glob 3 148 y7:: .glob 5 276 y9:: .glob 6 279 y4:: .glob 2 197 v7:: []∧r= .tup [zfy (onE (zih h x h.os.length) (zfm h x)),iv (zih h x h.os.length)]):=
 (yfu h la x).ventR (by rintro _ _ ⟨s,rfl,rfl⟩;exact ⟨_,_,zag [] [_],rfl,rfl⟩)
theorem zw2 (l:List Ev) (t x:Int):∀k,k≤l.length→zbr (t,x) (zn3 (l.take k))=(zuj l t x k).map Prod.fst
 |0,_=>rfl
 |k+1,hk=>by
  have ih:=zw2 l t x k (by omega)
  rw [List.take_succ_eq_append_getElem hk,zdk,zuj,List.getElem?_eq_getElem hk]
  simp only
  by_cases hw:zr2 t x l[k]=true
  ·obtain ⟨h2,ht,hx⟩:=zll.1 hw
   rw [if_pos (by simpa using h2),zc2,if_pos (by rw [kTO,ht,hx]),if_pos hw];rfl
  ·rw [if_neg hw]
   by_cases h2:l[k].kind=2
   ·rw [if_pos (by simpa using h2),zc2,if_neg,ih]
    intro e
    rw [kTO,Prod.mk.injEq] at e
    exact hw (zll.2 ⟨h2,e.1,e.2⟩)
   ·rw [if_neg (by simpa using h2),ih]
theorem yfo (h:Hist) (t x:Int):(zbr (t,x) (zn3 h.evs)).getD ⟨0,0⟩=zy7 h x t:=by
 have:=zw2 h.evs t x h.evs.length (Nat.le_refl _)
 rw [List.take_length] at this
 rw [this,zy7,ym8]
 cases zuj h.evs t x h.evs.length <;> rfl
abbrev rkS (h:Hist) (rk:Nat):Res:= .map rk (j9 zeo (zbh iv (rkM h h.os.length)))
theorem yl9 (h:Hist) (n:Nat):rkM h (n+1)=zfu h n 0 ((zfm h n).take (zfm h n).length) (zee (ztx n ⟨0,0⟩) 0 (rkM h n)):=by rw [List.take_length];rfl
theorem yjt {h:Hist} (hc:q8 h=0) {x:Int} (h0:0≤x) (h1:x < h.os.length):(zfm h x).length≤3000:=by
 rw [(zrd (zbe.1 hc) h0 h1).2.1]
 exact Nat.le_trans (zhy h.evs x) (zd9 hc).evs
theorem yjh {h:Hist} {j:Nat} (hj:j < h.evs.length) (hw:(h.evs[j].kind==2)=true):zn3 (h.evs.take (j+1))=zee (h.evs[j].t,h.evs[j].o) h.evs[j].v (zn3 (h.evs.take j)):=by
 rw [List.take_succ_eq_append_getElem hj,zdk,if_pos hw];rfl
theorem yji {h:Hist} {j:Nat} (hj:j < h.evs.length) (hw:(h.evs[j].kind==2)=false):zn3 (h.evs.take (j+1))=zn3 (h.evs.take j):=by
 rw [List.take_succ_eq_append_getElem hj,zdk,hw];rfl
theorem ydk {h:Hist} {t kd:Int} {k:Nat} {e:Ev} {r:Int} (ht:e.t=t) (hk:e.kind=kd) (hr:zy4 h e.o e.v=some r):zk8 h t kd k e= [⟨e.o,r,k⟩]:=by
 rw [zk8,if_pos (by simp [ht,hk]),hr]
theorem zts {h:Hist} {t kd:Int} {k:Nat} {e:Ev} (hn:¬(e.t=t∧e.kind=kd)):zk8 h t kd k e= []:=by
 rw [zk8,if_neg];intro q;rw [Bool.and_eq_true,beq_iff_eq,beq_iff_eq] at q;exact hn q
theorem ydl {h:Hist} {t kd:Int} {k:Nat} {e:Ev} (hr:zy4 h e.o e.v=none):zk8 h t kd k e= []:=by
 rw [zk8];split
 ·rw [hr]
 ·rfl
theorem ziz {h:Hist} {t kd:Int} {k:Nat} (hk:k < h.evs.length):zk4 h t kd (k+1)=zk4 h t kd k++zk8 h t kd k h.evs[k]:=by rw [zk4,List.getElem?_eq_getElem hk]
theorem ycd (h:Hist) (t kd:Int) (k:Nat) (e:Ev):(zk8 h t kd k e).length≤1:=by
 rw [zk8];split
 ·split <;> simp
 ·simp
theorem zfg (h:Hist) (t kd:Int):∀k,(zk4 h t kd k).length≤k
 |0=>Nat.le_refl _
 |k+1=>by
  have h1:=zfg h t kd k
  rw [zk4,List.length_append]
  split
  ·have h2:=ycd h t kd k
   rename_i e _
   have:=h2 e;omega
  ·simp;omega
theorem yla {h:Hist} {t kd:Int} {a:Acc} (ha:a∈znx h t kd):0≤a.o∧a.o < h.os.length:=by
 obtain ⟨k,hk,_,_,ho,_,hr⟩:=ylb ha
 by_cases q:((h.os.length:Nat):Int)≤h.evs[k].o∨h.evs[k].o < 0
 ·rw [zy4,zv4 h _ _ _ q] at hr;cases hr
 ·rw [ho];omega
structure Dos where
 t:Int
 A:List Acc
 B:List Acc
abbrev zf8 (l:List Acc):AV:= .list false 3 (l.map accR)
abbrev zb2 (d:Dos):List AV:= [iv d.t,zf8 d.A,zf8 d.B]
abbrev zd6 (l:List Dos):AV:= .list false 3 (l.map zb2)
def zrm (h:Hist) (t:Int):Dos:=⟨t,zn1 h.os.length (znx h t 3),zn1 h.os.length (znx h t 2)⟩
def zaa (h:Hist) (s:Int):List Dos:=(zen h.evs s).map (zrm h)
def zdw (h:Hist) (s:Int):Int:=zih h s h.ss.length
def ya1 (h:Hist) (s:Int):List Dos:=if zdw h s=0 then zaa h s else []
theorem zs0 (h:Hist) (s:Int):(zen h.evs s).length≤h.evs.length:=by
 rw [zen,oM];exact List.length_filter_le _ _
theorem yfm {h:Hist} {s:Int} (he:zdw h s≠0):ya1 h s= []:=if_neg he
theorem zq8 {h:Hist} {s:Int} (he:zdw h s=0):ya1 h s=zaa h s:=if_pos he
instance:Chk3 Tryz.prog 139:=⟨fun e w a b c=>by kernel_rfl⟩
theorem yjm (h:Hist) (la:Lim 4611686018427387904 h) (hc:q8 h=0) (x:Int) (h0:0≤x) (h1:x < h.os.length):x3 Tryz.prog 75 [.agg (x4 h),iv x] (.glob 3 148 y7:: .glob 5 276 y9:: .glob 6 279 y4:: .glob 2 197 v7:: []) (fun r h'=>h'= .glob 3 148 y7:: .glob 5 276 y9:: .glob 6 279 y4:: .glob 2 197 v7:: []∧r= .tup [zfy (zfm h x),iv 0]):=(yjl h la x).mono fun _ _ q=>⟨q.1,by rw [q.2,zyj hc ⟨h0,h1⟩];rfl⟩
theorem zzv (h:Hist) (la:Lim 4611686018427387904 h) (hc:q8 h=0):x3 Tryz.prog 117 [.agg (x4 h)] (.glob 3 148 y7:: .glob 5 276 y9:: .glob 6 279 y4:: .glob 2 197 v7:: []) (fun r h'=>∃rk,h'=rkS h rk:: .glob 3 148 y7:: .glob 5 276 y9:: .glob 6 279 y4:: .glob 2 197 v7:: []∧r=mpv rk):=by
 refine z6 Tryz.func117 rfl rfl rfl ?_
 have lA:=zd9 hc
 have lO:=lA.os
 have lE:=lA.evs
 refine rn ?_;refine z7 rfl (w6 rfl rfl rfl fun b1=> ?_)
 refine rn ?_;refine z7 rfl (zaq (enc:=zeo) rfl fun bO=> ?_)
 refine rn ?_;refine z7 rfl (zaq (enc:=zda) rfl fun bL=> ?_)
 refine rn ?_;refine za5 h.evs.length (fun _=>True) (fun j=>⟨[(17,iv j),(1,pZ b1),(3,mpv bO),(4,mpv bL),(15,zrk h.evs),(16,iv (h.evs.map evR).length)],.map bL (j9 zda (zbh zty (zn3 (h.evs.take j)))):: .map bO (j9 zeo (zbh iv [])):: .box b1 28 (x4 h):: .glob 3 148 y7:: .glob 5 276 y9:: .glob 6 279 y4:: .glob 2 197 v7:: [],[]⟩) trivial es ?_
 intro j lj _
 refine rn ?_;refine z8 rfl (fun hc18=> ?_) (fun hc18=> ?_)
 ·have hj:=zdr hc18
  have rj:=zdp (f:=evR) hj
  refine rn ?_;refine z7 rfl (x6 rfl fun b6=> ?_)
  refine rn ?_;refine z8 rfl (fun hc23=> ?_) (fun hc23=> ?_)
  ·have hw:(h.evs[j].kind==2)=true:=by simpa using hc23
   refine y5 ?_;refine q1 ?_;refine q1 ?_;refine q1 ?_;refine q1 ?_;refine q1 ?_;refine qq rfl rfl (zgy (out:= [iv h.evs[j].t,iv h.evs[j].o]) rfl (by rfl)) ?_
   refine rn ?_;refine z7 rfl (za0 (g:=zty) (enc:=zda) (k:=(h.evs[j].t,h.evs[j].o)) (v:=h.evs[j].v) rfl rfl rfl ?_)
   refine rn ?_;exact ⟨hj,trivial,by rw [yjh hj hw];exact eA⟩
  ·have hw:(h.evs[j].kind==2)=false:=by simpa using hc23
   refine rn ?_;exact ⟨hj,trivial,by rw [yji hj hw];exact eA⟩
 ·have qj:=zdx hc18 lj
  subst qj
  rw [List.take_length]
  refine rn ?_;refine za5 h.os.length (fun _=>True) (fun k=>⟨[(36,iv k),(1,pZ b1),(3,mpv bO),(4,mpv bL),(35,iv (h.os.map za7).length)],.map bL (j9 zda (zbh zty (zn3 h.evs))):: .map bO (j9 zeo (zbh iv (rkM h k))):: .box b1 28 (x4 h):: .glob 3 148 y7:: .glob 5 276 y9:: .glob 6 279 y4:: .glob 2 197 v7:: [],[]⟩) trivial es ?_
  intro k lk _
  refine rn ?_;refine z8 rfl (fun hc37=> ?_) (fun hc37=> ?_)
  ·have hk:k < h.os.length:=by have q:=oT hc37;rw [oM] at q;omega
   have k0:(0:Int)≤(k:Int):=by omega
   have k1:(k:Int) < h.os.length:=by omega
   have hb:=yjt hc k0 k1
   refine zab ?_;refine j8 ?_;refine x9 ?_;refine zad ?_;refine x9 (y5 ?_)
   refine q1 ?_;refine q1 ?_;refine u3 (j8 ?_)
   refine x9 (y5 ?_)
   refine q1 ?_;refine q1 ?_;refine qq rfl rfl (zac (out:= [iv k,iv 0,iv 0]) rfl (by rfl)) ?_
   refine z7 rfl (za0 (g:=iv) (enc:=zeo) (k:=((k:Int),(0:Int),(0:Int))) (v:=(0:Int)) rfl rfl rfl ?_)
   refine rn ?_;refine qv rfl rfl (y6 rfl rfl (y3.qt (y3.of_fun (yjm h la hc k k0 k1)) ((pt3 _ _ _ _ _).trans (.cons _ ((pt3 _ _ _ _ _).trans (.cons _ ((pt3 _ _ _ _ _).trans (.cons _ (pt3 _ _ _ _ _))))))))) ?_
   refine rn ?_;refine za5 (zfm h k).length (fun _=>True) (fun j=>⟨[(50,iv j),(1,pZ b1),(3,mpv bO),(4,mpv bL),(7,iv k),(35,iv (h.os.map za7).length),(36,iv k),(48,zfy (zfm h k)),(49,iv ((zfm h k).map zba).length)],.map bL (j9 zda (zbh zty (zn3 h.evs))):: .map bO (j9 zeo (zbh iv (zfu h k 0 ((zfm h k).take j) (zee (ztx k ⟨0,0⟩) 0 (rkM h k))))):: .box b1 28 (x4 h):: .glob 3 148 y7:: .glob 5 276 y9:: .glob 6 279 y4:: .glob 2 197 v7:: [],[]⟩) trivial es ?_
   intro j lj _
   refine rn ?_;refine z8 rfl (fun hc51=> ?_) (fun hc51=> ?_)
   ·have hj:=zdr hc51
    have rj:=zdp (f:=zba) hj
    refine zab ?_;refine j8 ?_;refine x9 ?_;refine zad ?_;refine x9 (y5 ?_)
    refine q1 ?_;refine q1 ?_;refine q1 ?_;refine q1 ?_;refine q1 ?_;refine u3 (j8 ?_)
    refine y5 ?_;refine q1 ?_;refine q1 ?_;refine q1 ?_;refine q1 ?_;refine q1 ?_;refine qq rfl rfl (zgy (out:= [iv (zfm h k)[j],iv k]) rfl (by rfl)) ?_
    refine qq rfl rfl (za9 (zbz (g:=zty) (enc:=zda) (k:=((zfm h k)[j],(k:Int))) (⟨0,0⟩:Ver) rfl rfl) (show zty _=zty (zy7 h k (zfm h k)[j]) from congrArg zty (yfo h (zfm h k)[j] k))) ?_
    refine qq rfl rfl (zac (out:= [iv k,iv (zy7 h k (zfm h k)[j]).t,iv (zy7 h k (zfm h k)[j]).k]) rfl (by rfl)) ?_
    refine q1 ?_;refine qq rfl rfl (k6 rfl rfl rfl (by omega)) ?_
    refine z7 rfl (za0 (g:=iv) (enc:=zeo) (k:=((k:Int),(zy7 h k (zfm h k)[j]).t,(zy7 h k (zfm h k)[j]).k)) (v:=(j:Int)+1) rfl rfl rfl ?_)
    refine rn ?_;exact ⟨hj,trivial,by rw [yer hj];exact eA⟩
   ·have qj:=zdx hc51 lj
    rw [qj,List.take_length]
    refine rn ?_;exact ⟨hk,trivial,by rw [yl9,List.take_length];exact eA⟩
  ·have qk:k=h.os.length:=by have q:=oF hc37;rw [oM] at q;omega
   refine rn ?_;exact k7 rfl (.trans (.perm (.cons _ (pt1 _ _ _)) _) (.drop [_,_] _ _)) ⟨bO,by rw [qk],rfl⟩
theorem yl6 (h:Hist) (la:Lim 4611686018427387904 h) (hc:q8 h=0) (t:Int) (rO:Nat) (W:List Res):x3 Tryz.prog 118 [.agg (x4 h),iv t,mpv rO] (rkS h rO::W) (fun r h'=>h'=rkS h rO::W∧r= .agg (zb2 (zrm h t))):=by
 refine z6 Tryz.func118 rfl rfl rfl ?_
 have lA:=zd9 hc
 have lO:=lA.os
 have lE:=lA.evs
 refine rn ?_;refine z7 rfl (w6 rfl rfl rfl fun b3=> ?_)
 refine z7 rfl (x6 rfl fun b6=> ?_)
 refine rn ?_;refine z7 rfl (x6 rfl fun b7=> ?_)
 refine rn ?_;refine zer h.evs.length (fun _ (_:SV×SV)=>True) (fun k z=>⟨[(19,iv k),(1,iv t),(2,mpv rO),(6,pZ b6),(7,pZ b7),(17,zrk h.evs),(18,iv (h.evs.map evR).length)],.row z.1.v 3 178 ((zk4 h t 3 k).map accR):: .row z.2.v 3 178 ((zk4 h t 2 k).map accR):: .box b7 121 [iv t,.v z.1.v,.v z.2.v]:: .box b6 121 [iv 0,.v (.slice none 0 0),.v (.slice none 0 0)]:: .box b3 28 (x4 h)::rkS h rO::W,[]⟩) (⟨none,0,0⟩,⟨none,0,0⟩) trivial (w9 (za1 3 178) (w9 (za1 3 178) es)) ?_
 rintro k ⟨sR,sI⟩ lk -
 show aw _ _ _ _ _ ⟨[(19,iv k),(1,iv t),(2,mpv rO),(6,pZ b6),(7,pZ b7),(17,zrk h.evs),(18,iv (h.evs.map evR).length)],.row sR.v 3 178 ((zk4 h t 3 k).map accR):: .row sI.v 3 178 ((zk4 h t 2 k).map accR):: .box b7 121 [iv t,.v sR.v,.v sI.v]:: .box b6 121 [iv 0,.v (.slice none 0 0),.v (.slice none 0 0)]:: .box b3 28 (x4 h)::rkS h rO::W,[]⟩
 refine rn ?_;refine z8 rfl (fun hc20=> ?_) (fun hc20=> ?_)
 ·have hk:=zdr hc20
  have rk:=zdp (f:=evR) hk
  refine rn ?_;refine z7 rfl (x6 rfl fun b9=> ?_)
  refine rn0 ?_;refine x9 ?_;refine zgu (⟨[(37,bv (h.evs[k].t !=t||(h.evs[k].kind !=3 && h.evs[k].kind !=2))),(8,iv k),(9,pZ b9),(19,iv k),(1,iv t),(2,mpv rO),(6,pZ b6),(7,pZ b7),(17,zrk h.evs),(18,iv (h.evs.map evR).length)],.box b9 66 (evR h.evs[k]):: .row sR.v 3 178 ((zk4 h t 3 k).map accR):: .row sI.v 3 178 ((zk4 h t 2 k).map accR):: .box b7 121 [iv t,.v sR.v,.v sI.v]:: .box b6 121 [iv 0,.v (.slice none 0 0),.v (.slice none 0 0)]:: .box b3 28 (x4 h)::rkS h rO::W,[]⟩) ?_ ?_
  ·refine rn ?_;refine q9 (fun hg5_4=> ?_) (fun hg5_4=> ?_)
   ·refine rn ?_;first|(rw [hg5_4,Bool.true_or];exact eA)|(rw [hg5_4,Bool.false_or,hg5_8,Bool.true_and];exact eA)|(rw [hg5_4,Bool.false_or,hg5_8,Bool.false_and];exact eA)
   ·refine rn ?_;refine q9 (fun hg5_8=> ?_) (fun hg5_8=> ?_)
    ·refine rn ?_;first|(rw [hg5_4,Bool.true_or];exact eA)|(rw [hg5_4,Bool.false_or,hg5_8,Bool.true_and];exact eA)|(rw [hg5_4,Bool.false_or,hg5_8,Bool.false_and];exact eA)
    ·refine rn ?_;first|(rw [hg5_4,Bool.true_or];exact eA)|(rw [hg5_4,Bool.false_or,hg5_8,Bool.true_and];exact eA)|(rw [hg5_4,Bool.false_or,hg5_8,Bool.false_and];exact eA)
  ·refine z8 rfl (fun hc37=> ?_) (fun hc37=> ?_)
   ·have hn3:zk8 h t 3 k h.evs[k]= []:=zts (by rintro ⟨e1,e2⟩;have q:=hc37;rw [e1,e2] at q;simp at q)
    have hn2:zk8 h t 2 k h.evs[k]= []:=zts (by rintro ⟨e1,e2⟩;have q:=hc37;rw [e1,e2] at q;simp at q)
    refine rn ?_;exact ⟨hk,(sR,sI),trivial,by rw [ziz hk,ziz hk,hn3,hn2,List.append_nil,List.append_nil];exact eA⟩
   ·have q:=hc37
    rw [Bool.or_eq_false_iff,Bool.and_eq_false_iff] at q
    have ht:h.evs[k].t=t:=by simpa using q.1
    have hkk:h.evs[k].kind=3∨h.evs[k].kind=2:=by simpa using q.2
    refine zab ?_;refine j8 ?_;refine x9 (y5 ?_)
    refine q1 ?_;refine q1 ?_;refine q1 ?_;refine q1 ?_;refine q1 ?_;refine qq rfl rfl (zac (out:= [iv h.evs[k].o,iv h.evs[k].v.t,iv h.evs[k].v.k]) rfl (by rfl)) ?_
    refine qq rfl rfl (zok (g:=iv) (enc:=zeo) (k:=(h.evs[k].o,h.evs[k].v.t,h.evs[k].v.k)) (0:Int) rfl rfl rfl) ?_
    refine q1 ?_;refine q1 ?_;refine q1 ?_;refine q1 ?_;refine q1 ?_;refine u3 (j8 ?_)
    refine x9 (y5 ?_)
    refine q1 ?_;refine q1 ?_;refine q1 ?_;refine q1 ?_;refine qq rfl rfl (zac (out:= [iv h.evs[k].o,iv ((zbr (h.evs[k].o,h.evs[k].v.t,h.evs[k].v.k) (rkM h h.os.length)).getD 0),iv k]) rfl (by rfl)) ?_
    refine z7 rfl (x6 rfl fun b12=> ?_)
    refine rn ?_;refine z8 rfl (fun hc59=> ?_) (fun hc59=> ?_)
    ·have hr:zy4 h h.evs[k].o h.evs[k].v=none:=by
      have q:(zbr (h.evs[k].o,h.evs[k].v.t,h.evs[k].v.k) (rkM h h.os.length)).isSome=false:=by simpa using hc59
      exact Option.isNone_iff_eq_none.1 (by rw [←Option.not_isSome];show (!(zbr (h.evs[k].o,h.evs[k].v.t,h.evs[k].v.k) (rkM h h.os.length)).isSome)=true;rw [q];rfl)
     have hn3:zk8 h t 3 k h.evs[k]= []:=ydl hr
     have hn2:zk8 h t 2 k h.evs[k]= []:=ydl hr
     refine rn ?_;exact ⟨hk,(sR,sI),trivial,by rw [ziz hk,ziz hk,hn3,hn2,List.append_nil,List.append_nil];exact eA⟩
    ·obtain ⟨r0,hr⟩:∃r,(zbr (h.evs[k].o,h.evs[k].v.t,h.evs[k].v.k) (rkM h h.os.length))=some r:=Option.isSome_iff_exists.1 (by simpa using hc59)
     have hr':zy4 h h.evs[k].o h.evs[k].v=some r0:=hr
     rw [hr,Option.getD_some,Option.isSome_some]
     refine rn ?_;refine z8 rfl (fun hc62=> ?_) (fun hc62=> ?_)
     ·have h3:h.evs[k].kind=3:=by simpa using hc62
      have hn3:zk8 h t 3 k h.evs[k]= [⟨h.evs[k].o,r0,k⟩]:=ydk ht h3 hr'
      have hn2:zk8 h t 2 k h.evs[k]= []:=zts (fun q=>by rw [h3] at q;exact absurd q.2 (by decide))
      refine rn ?_;refine qv rfl rfl (u1 rfl rfl) ?_
      refine z7 rfl (j7 rfl rfl (by simp only [oM,List.length_cons,List.length_nil];have:=zfg h t 3 k;omega) rfl (fun s70=> ?_) (fun r hr=>by rw [List.mem_singleton.1 hr];rfl))
      refine zal s70 fun sv hsv=> ?_
      subst hsv
      refine rn ?_;exact ⟨hk,(sv,sI),trivial,by rw [ziz hk,ziz hk,hn3,hn2,List.append_nil,List.map_append];exact eA⟩
     ·have h3:h.evs[k].kind=2:=hkk.resolve_left (by simpa using hc62)
      have hn2:zk8 h t 2 k h.evs[k]= [⟨h.evs[k].o,r0,k⟩]:=ydk ht h3 hr'
      have hn3:zk8 h t 3 k h.evs[k]= []:=zts (fun q=>by rw [h3] at q;exact absurd q.2 (by decide))
      refine rn ?_;refine qv rfl rfl (u1 rfl rfl) ?_
      refine z7 rfl (j7 rfl rfl (by simp only [oM,List.length_cons,List.length_nil];have:=zfg h t 2 k;omega) rfl (fun s57=> ?_) (fun r hr=>by rw [List.mem_singleton.1 hr];rfl))
      refine zal s57 fun sv hsv=> ?_
      subst hsv
      refine rn ?_;exact ⟨hk,(sR,sv),trivial,by rw [ziz hk,ziz hk,hn3,hn2,List.append_nil,List.map_append];exact eA⟩
 ·have qk:=zdx hc20 lk
  subst qk
  refine rn ?_;refine z7 rfl (w7 rfl rfl (zgi (y3.of_fun (yh0 sR h.os.length (znx h t 3) (fun a ha=>yla ha) (by omega) (by have:=zfg h t 3 h.evs.length;show (zk4 h t 3 h.evs.length).length≤_;omega)))) rfl ?_)
  rintro _ _ ⟨rfl,rfl⟩
  refine rn ?_;refine z7 rfl (w7 rfl rfl (zgi (y3.of_fun (yh0 sI h.os.length (znx h t 2) (fun a ha=>yla ha) (by omega) (by have:=zfg h t 2 h.evs.length;show (zk4 h t 2 h.evs.length).length≤_;omega)))) rfl ?_)
  rintro _ _ ⟨rfl,rfl⟩
  refine u3 (j8 ?_)
  refine x9 (y5 ?_)
  refine znv (w9 (zak (.cons _ (pt1 _ _ _))) (w9 (zgs [iv t] [.v sI.v]) (w9 (zak (pt1 _ _ _)) (zgs [iv t,zf8 (zn1 h.os.length (znx h t 3))] [])))) ?_
  refine rn ?_;exact zea (.cons _ _ _ _ (.agg _ _ _ _ _ _ _ rfl inferInstance inferInstance inferInstance rfl) .nil) (.drop [_,_,_] _ _) ⟨rfl,rfl⟩
theorem zzw (h:Hist) (la:Lim 4611686018427387904 h) (s:Int):x3 Tryz.prog 65 [.agg (x4 h),iv s] (.glob 3 148 y7:: .glob 5 276 y9:: .glob 6 279 y4:: .glob 2 197 v7:: []) (fun r h'=>∃v:SV,h'= .row v.v 3 121 ((ya1 h s).map zb2):: .glob 3 148 y7:: .glob 5 276 y9:: .glob 6 279 y4:: .glob 2 197 v7:: []∧r= .tup [.v v.v,iv (zdw h s)]):=by
 refine z6 Tryz.func65 rfl rfl rfl ?_
 refine rn ?_;refine z7 rfl (w6 rfl rfl rfl fun b2=> ?_)
 refine rn ?_;refine qv rfl rfl (y6 rfl rfl (y3.qt (y3.of_fun (yjk h la s)) ((pt1 _ _ _).trans (.cons _ ((pt1 _ _ _).trans (.cons _ ((pt1 _ _ _).trans (.cons _ (pt1 _ _ _))))))))) ?_
 refine rn ?_;refine z8 rfl (fun hc19=> ?_) (fun hc19=> ?_)
 ·have he:zdw h s≠0:=nzT hc19
  refine rn ?_;exact zbo rfl rfl (.trans (.drop [_] _ _) (k9 3 121 _)) ⟨⟨none,0,0⟩,by rw [yfm he];rfl,rfl⟩
 ·have he:zdw h s=0:=nzF hc19
  have hc:q8 h=0:=zbe.2 (yb6 he).1
  have lE:=(zd9 hc).evs
  have lL:=zs0 h s
  rw [show onE (zih h s h.ss.length) (zen h.evs s)=(zen h.evs s) by rw [show zih h s h.ss.length=0 from he,onE,if_pos rfl]]
  refine rn ?_;refine z7 rfl (w7 rfl rfl (y3.fr1 (y3.of_fun (zzv h la hc))) rfl ?_)
  rintro _ _ ⟨_,rfl,rO,rfl,rfl⟩
  refine rn ?_;refine zrv (zen h.evs s).length (fun k v=>⟨[(25,iv k),(9,.v v.v),(2,pZ b2),(8,mpv rO),(23,zfy (zen h.evs s)),(24,iv ((zen h.evs s).map zba).length)],.row v.v 3 121 ((((zen h.evs s).take k).map (zrm h)).map zb2):: .box b2 28 (x4 h)::rkS h rO:: .glob 3 148 y7:: .glob 5 276 y9:: .glob 6 279 y4:: .glob 2 197 v7:: [],[]⟩) ⟨none,0,0⟩ (w9 (za1 3 121) es) ?_
  intro k v lk
  refine rn ?_;refine z8 rfl (fun hc26=> ?_) (fun hc26=> ?_)
  ·have hk:=zdr hc26
   have rk:=zdp (f:=zba) hk
   refine rn ?_;refine qv rfl rfl (y6 rfl rfl (y3.qt (y3.of_fun (yl6 h la hc (zen h.evs s)[k] rO [])) (pt2 _ _ _ _))) ?_
   refine qv rfl rfl (u1 rfl rfl) ?_
   refine z7 rfl (j7 rfl rfl (by simp only [oM,List.length_cons,List.length_nil];have:=List.length_take_le k (zen h.evs s);omega) rfl (fun s35=> ?_) (fun r hr=>by rw [List.mem_singleton.1 hr];rfl))
   refine zal s35 fun sv hsv=> ?_
   subst hsv
   refine rn ?_;exact ⟨hk,sv,by rw [List.take_succ_eq_append_getElem hk,List.map_append,List.map_append];exact eA⟩
  ·have qk:=zdx hc26 lk
   subst qk
   rw [List.take_length]
   refine rn ?_;exact zbo rfl rfl (.trans (.perm ((pt1 _ _ _).trans (.cons _ (pt1 _ _ _))) _) (.drop [_,_] _ _)) ⟨v,by rw [zq8 he];rfl,by rw [he];rfl⟩
theorem zvx (h:Hist) (la:Lim 4611686018427387904 h) (s:Int):x3 Tryz.prog 65 [.agg (x4 h),iv s] (.glob 3 148 y7:: .glob 5 276 y9:: .glob 6 279 y4:: .glob 2 197 v7:: []) (fun r h'=>h'= .glob 3 148 y7:: .glob 5 276 y9:: .glob 6 279 y4:: .glob 2 197 v7:: []∧r= .tup [zd6 (ya1 h s),iv (zdw h s)]):=(zzw h la s).ventR (by rintro _ _ ⟨v,rfl,rfl⟩;exact ⟨_,_,zag [] [_],rfl,rfl⟩)
abbrev ybo:AV:= .fn (.func 244) [] []
abbrev ybn:AV:= .fn (.func 248) [] []
def x5:List AV:= [iv 1,ybo,ybn,iv 2,ybn,ybn,iv 4,ybo,ybo,iv 8,ybn,ybo]
def zdz (k:Nat):Int:=if k=0 then 1 else if k=1 then 2 else if k=2 then 4 else 8
def gFn (k:Nat):Nat:=if k=0∨k=2 then 244 else 248
def gSn (k:Nat):Nat:=if k=0∨k=1 then 248 else 244
abbrev ylp (k:Nat):AV:= .fn (.func (gFn k)) [] []
abbrev ylo (k:Nat):AV:= .fn (.func (gSn k)) [] []
abbrev zs9 (k:Nat):List AV:= [iv (zdz k),ylp k,ylo k]
theorem ygb {k:Nat} (hk:k < 4):(x5.drop (k * 3)).take 3=zs9 k:=by
 rcases (by omega:k=0∨k=1∨k=2∨k=3) with rfl|rfl|rfl|rfl <;> rfl
def zc3 (k:Nat) (d:Dos):List Acc:=if k=0∨k=2 then d.B else d.A
def zgb (k:Nat) (d:Dos):List Acc:=if k=0∨k=1 then d.A else d.B
def giK (g:Int):Nat→Int
 |0=> -1
 |k+1=>if zdz k=g then (k:Int) else giK g k
def zne (g:Int):Int:=if g=1 then 0 else if g=2 then 1 else if g=4 then 2 else if g=8 then 3 else -1
theorem yon (g:Int):giK g 4=zne g:=by
 simp only [giK,zdz,zne]
 by_cases h1:g=1
 ·subst h1;decide
 by_cases h2:g=2
 ·subst h2;decide
 by_cases h3:g=4
 ·subst h3;decide
 by_cases h4:g=8
 ·subst h4;decide
 simp [h1,h2,h3,h4,Ne.symm h1,Ne.symm h2,Ne.symm h3,Ne.symm h4]
theorem yj8 {g:Int} (h:¬zne g < 0):∃k,k < 4∧zne g=(k:Nat)∧zdz k=g:=by
 rw [zne] at h ⊢
 split
 ·exact ⟨0,by decide,rfl,by rename_i e;rw [e];rfl⟩
 ·split
  ·exact ⟨1,by decide,rfl,by rename_i e;rw [e];rfl⟩
  ·split
   ·exact ⟨2,by decide,rfl,by rename_i e;rw [e];rfl⟩
   ·split
    ·exact ⟨3,by decide,rfl,by rename_i e;rw [e];rfl⟩
    ·exfalso;simp_all
def zlj (h:Hist) (s g:Int):Int:=if zdw h s≠0 then zdw h s else if zne g < 0 then 2 else 0
def ydh (h:Hist) (s g:Int):List Dos:=if zlj h s g=0 then zaa h s else []
def ydi (h:Hist) (s g:Int):Int:=if zlj h s g=0 then zne g else 0
theorem znu {h:Hist} {s g:Int} (he:zdw h s≠0):zlj h s g=zdw h s∧ydh h s g= []∧ydi h s g=0:=by
 have:zlj h s g=zdw h s:=if_pos he
 exact ⟨this,by rw [ydh,this,if_neg he],by rw [ydi,this,if_neg he]⟩
theorem znt {h:Hist} {s g:Int} (he:zdw h s=0) (hg:zne g < 0):zlj h s g=2∧ydh h s g= []∧ydi h s g=0:=by
 have:zlj h s g=2:=by rw [zlj,if_neg (by simpa using he),if_pos hg]
 exact ⟨this,by rw [ydh,this,if_neg (by decide)],by rw [ydi,this,if_neg (by decide)]⟩
theorem zii {h:Hist} {s g:Int} (he:zdw h s=0) (hg:¬zne g < 0):zlj h s g=0∧ydh h s g=zaa h s∧ydi h s g=zne g:=by
 have:zlj h s g=0:=by rw [zlj,if_neg (by simpa using he),if_neg hg]
 exact ⟨this,by rw [ydh,this,if_pos rfl],by rw [ydi,this,if_pos rfl]⟩
def zif (k:Nat) (e l:Dos):List Brch:=(zc3 k e).flatMap fun a=>(zgb k l).filterMap (brk (zdz k) e.t l.t a)
theorem yng {g t1 t2:Int} {a b:Acc} (h1:(a.o==b.o)=true) (h2:decide (b.r < a.r)=true):brk g t1 t2 a b=some ⟨g,t1,t2,a.o,a.a,b.a⟩:=by rw [brk,h1,h2];rfl
theorem zyc {g t1 t2:Int} {a b:Acc} (h1:(a.o==b.o)=false):brk g t1 t2 a b=none:=by rw [brk,h1];rfl
theorem zyb {g t1 t2:Int} {a b:Acc} (h2:decide (b.r < a.r)=false):brk g t1 t2 a b=none:=by rw [brk,h2,Bool.and_false];rfl
theorem ygf {α β:Type} {f:α→Option β} {l:List α} {k:Nat} {b:β} (hk:k < l.length) (h:f l[k]=some b):(l.take (k+1)).filterMap f=(l.take k).filterMap f++ [b]:=by
 rw [List.take_succ_eq_append_getElem hk,List.filterMap_append];simp [h]
theorem zxr {α β:Type} {f:α→Option β} {l:List α} {k:Nat} (hk:k < l.length) (h:f l[k]=none):(l.take (k+1)).filterMap f=(l.take k).filterMap f:=by
 rw [List.take_succ_eq_append_getElem hk,List.filterMap_append];simp [h]
def zru (k:Nat) (e l:Dos) (i:Nat):List Brch:=((zc3 k e).take i).flatMap fun a=>(zgb k l).filterMap (brk (zdz k) e.t l.t a)
theorem yky {k i:Nat} {e l:Dos} (hi:i < (zc3 k e).length):zru k e l (i+1)=zru k e l i++(zgb k l).filterMap (brk (zdz k) e.t l.t (zc3 k e)[i]):=by
 rw [zru,List.take_succ_eq_append_getElem hi,List.flatMap_append];simp [zru]
theorem ygs {k i j:Nat} {e l:Dos} {d:Brch} (hi:i < (zc3 k e).length) (hj:j < (zgb k l).length) (hd:brk (zdz k) e.t l.t (zc3 k e)[i] (zgb k l)[j]=some d):
 ∃rest,zif k e l=(zru k e l i++((zgb k l).take j).filterMap (brk (zdz k) e.t l.t (zc3 k e)[i]))++d::rest:=by
 have e1:(zgb k l).filterMap (brk (zdz k) e.t l.t (zc3 k e)[i])=((zgb k l).take j).filterMap (brk (zdz k) e.t l.t (zc3 k e)[i])++d::((zgb k l).drop (j+1)).filterMap (brk (zdz k) e.t l.t (zc3 k e)[i]):=by
  conv=>lhs;rw [←List.take_append_drop j (zgb k l),List.drop_eq_getElem_cons hj]
  rw [List.filterMap_append,List.filterMap_cons,hd]
 refine ⟨((zgb k l).drop (j+1)).filterMap (brk (zdz k) e.t l.t (zc3 k e)[i])++((zc3 k e).drop (i+1)).flatMap (fun a=>(zgb k l).filterMap (brk (zdz k) e.t l.t a)),?_⟩
 rw [zif]
 conv=>lhs;rw [←List.take_append_drop i (zc3 k e),List.drop_eq_getElem_cons hi]
 rw [List.flatMap_append,List.flatMap_cons,e1,zru]
 simp [List.append_assoc]
theorem zvy (d:Dos):x3 Tryz.prog 244 [.agg (zb2 d)] [] (fun r h'=>h'= []∧r=zf8 d.B):=by
 refine z6 Tryz.func244 rfl rfl rfl ?_
 refine rn ?_;refine z7 rfl (w6 rfl rfl rfl fun b1=> ?_)
 refine rn ?_;refine rq 1 ?_
 exact ⟨rfl,rfl⟩
theorem zvw (d:Dos):x3 Tryz.prog 248 [.agg (zb2 d)] [] (fun r h'=>h'= []∧r=zf8 d.A):=by
 refine z6 Tryz.func248 rfl rfl rfl ?_
 refine rn ?_;refine z7 rfl (w6 rfl rfl rfl fun b1=> ?_)
 refine rn ?_;refine rq 1 ?_
 exact ⟨rfl,rfl⟩
theorem zta (k:Nat) (d:Dos):y3 Tryz.prog (ylp k) [.agg (zb2 d)] [] (fun r h'=>h'= []∧r=zf8 (zc3 k d)):=by
 rw [ylp,gFn,zc3];split
 ·exact y3.of_fun (zvy d)
 ·exact y3.of_fun (zvw d)
theorem zsk (k:Nat) (d:Dos):y3 Tryz.prog (ylo k) [.agg (zb2 d)] [] (fun r h'=>h'= []∧r=zf8 (zgb k d)):=by
 rw [ylo,gSn,zgb];split
 ·exact y3.of_fun (zvw d)
 ·exact y3.of_fun (zvy d)
theorem zzy (h:Hist) (la:Lim 4611686018427387904 h) (s g:Int):x3 Tryz.prog 58 [.agg (x4 h),iv s,iv g] (.glob 0 117 x5:: .glob 3 148 y7:: .glob 5 276 y9:: .glob 6 279 y4:: .glob 2 197 v7:: []) (fun r h'=>h'= .glob 0 117 x5:: .glob 3 148 y7:: .glob 5 276 y9:: .glob 6 279 y4:: .glob 2 197 v7:: []∧r= .tup [zd6 (ydh h s g),iv (ydi h s g),iv (zlj h s g)]):=by
 refine z6 Tryz.func58 rfl rfl rfl ?_
 refine rn ?_;refine z7 rfl (w6 rfl rfl rfl fun b3=> ?_)
 refine rn ?_;refine za5 4 (fun _=>True) (fun k=>⟨[(15,iv (k:Nat)),(9,iv (giK g k)),(1,iv s),(2,iv g),(3,pZ b3),(14,.agg x5)],.box b3 28 (x4 h):: .glob 0 117 x5:: .glob 3 148 y7:: .glob 5 276 y9:: .glob 6 279 y4:: .glob 2 197 v7:: [],[]⟩) trivial es ?_
 intro k lk _
 refine rn ?_;refine z8 rfl (fun hc16=> ?_) (fun hc16=> ?_)
 ·have hk:k < 4:=by have q:=oT hc16;omega
  refine zab ?_;refine j8 ?_;refine x9 ?_;refine zad ?_;refine x9 (y5 ?_)
  refine q1 ?_;refine qq rfl rfl (zfi (i:=k) (out:=zs9 k) rfl rfl hk (by show k * 3+3≤12;omega) (ygb hk)) ?_
  refine z7 rfl (x6 rfl fun b11=> ?_)
  refine rn ?_;refine z8 rfl (fun hc22=> ?_) (fun hc22=> ?_)
  ·have hg:zdz k=g:=by simpa using hc22
   refine rn ?_;exact ⟨hk,trivial,by rw [giK,if_pos hg];exact eA⟩
  ·have hg:¬zdz k=g:=by simpa using hc22
   refine rn ?_;exact ⟨hk,trivial,by rw [giK,if_neg hg];exact eA⟩
 ·have qk:k=4:=by have q:=oF hc16;omega
  subst qk
  rw [yon]
  refine rn ?_;refine qv rfl rfl (y6 rfl rfl (y3.qt (y3.of_fun (zvx h la s)) ((pt2 _ _ _ _).trans (.cons _ ((pt2 _ _ _ _).trans (.cons _ ((pt2 _ _ _ _).trans (.cons _ (pt2 _ _ _ _))))))))) ?_
  refine rn ?_;refine z8 rfl (fun hc31=> ?_) (fun hc31=> ?_)
  ·have he:zdw h s≠0:=nzT hc31
   refine rn ?_;exact zea (.cons _ _ _ _ (.tmp _ _ rfl) (.cons _ _ _ _ (.tmp _ _ rfl) (.cons _ _ _ _ (.tmp _ _ rfl) .nil))) (.trans (.drop [_] _ _) (.trans (k9 3 121 _) (zag [] [_,_]))) ⟨rfl,by rw [(znu (g:=g) he).1,(znu (g:=g) he).2.1,(znu (g:=g) he).2.2];rfl⟩
  ·have he:zdw h s=0:=nzF hc31
   refine rn ?_;refine z8 rfl (fun hc35=> ?_) (fun hc35=> ?_)
   ·have hg:zne g < 0:=oT hc35
    refine rn ?_;exact zea (.cons _ _ _ _ (.tmp _ _ rfl) (.cons _ _ _ _ (.tmp _ _ rfl) (.cons _ _ _ _ (.tmp _ _ rfl) .nil))) (.trans (.drop [_] _ _) (.trans (k9 3 121 _) (zag [] [_,_]))) ⟨rfl,by rw [(znt he hg).1,(znt he hg).2.1,(znt he hg).2.2];rfl⟩
   ·have hg:¬zne g < 0:=oF hc35
    refine rn ?_;exact zea (.cons _ _ _ _ (.tmp _ _ rfl) (.cons _ _ _ _ (.tmp _ _ rfl) (.cons _ _ _ _ (.tmp _ _ rfl) .nil))) (.drop [_] _ _) ⟨rfl,by rw [(zii he hg).1,(zii he hg).2.1,(zii he hg).2.2,zq8 he];rfl⟩
theorem yej (k:Nat) (e l:Dos) (W:List Res):x3 Tryz.prog 69 [iv (k:Int),.agg (zb2 e),.agg (zb2 l)] W (fun r h'=>∃bi be bl,h'= .box bl 121 (zb2 l):: .box be 121 (zb2 e):: .box bi 3 [iv (k:Int)]::W∧r= .fn (.func 119) [] [pZ bi,pZ bl,pZ be]):=by
 refine z6 Tryz.func69 rfl rfl rfl ?_
 refine rn ?_;refine z7 rfl (w6 rfl rfl rfl fun b3=> ?_)
 refine z7 rfl (w6 rfl rfl rfl fun b4=> ?_)
 refine z7 rfl (w6 rfl rfl rfl fun b5=> ?_)
 refine rn ?_;exact k7 rfl (.refl _ _) ⟨_,_,_,rfl,rfl⟩
theorem yei (k:Nat) (hk:k < 4) (e l:Dos) (h1:(zc3 k e).length≤1000000) (h2:(zgb k l).length≤1000000) (y:AV) (bi be bl:Nat) {σ:Type} (p:List Brch→σ→Prop) (q:σ→Prop) (I:List Brch→σ→List Res) (X:σ→List Res) (x0:σ) (hp0:p [] x0) (hy:∀pre d rest x,(zif k e l)=pre++d::rest→p pre x→y3 Tryz.prog y [.agg (zc6 d)] (.box bl 121 (zb2 l):: .box be 121 (zb2 e):: .box bi 3 [iv ((k:Nat):Int)]:: .glob 0 117 x5::I pre x) (fun r h'=>∃x',(r=bv true∧p (pre++ [d]) x'∧h'= .box bl 121 (zb2 l):: .box be 121 (zb2 e):: .box bi 3 [iv ((k:Nat):Int)]:: .glob 0 117 x5::I (pre++ [d]) x')∨(r=bv false∧q x'∧h'= .box bl 121 (zb2 l):: .box be 121 (zb2 e):: .box bi 3 [iv ((k:Nat):Int)]:: .glob 0 117 x5::X x'))):x3 Tryz.prog 119 [y,pZ bi,pZ bl,pZ be] (.box bl 121 (zb2 l):: .box be 121 (zb2 e):: .box bi 3 [iv ((k:Nat):Int)]:: .glob 0 117 x5::I [] x0) (fun r h'=>∃x,(p (zif k e l) x∧h'= .box bl 121 (zb2 l):: .box be 121 (zb2 e):: .box bi 3 [iv ((k:Nat):Int)]:: .glob 0 117 x5::I (zif k e l) x)∨(q x∧h'= .box bl 121 (zb2 l):: .box be 121 (zb2 e):: .box bi 3 [iv ((k:Nat):Int)]:: .glob 0 117 x5::X x)):=by
 refine z6 Tryz.func119 rfl rfl rfl ?_
 refine x9 (y5 ?_)
 refine q1 ?_;refine qq rfl rfl (u6 (i:=k) rfl rfl (by omega)) ?_
 refine qq rfl rfl (za9 (zgx rfl (by show 0+k * 3+3≤12;omega)) (show AV.agg _=AV.agg (zs9 k) from congrArg AV.agg (by rw [Nat.zero_add];exact ygb hk))) ?_
 refine z7 rfl (x6 rfl fun b5=> ?_)
 refine rn ?_;refine qv rfl rfl (y6 rfl rfl (y3.pure (R:=fun r=>r=zf8 (zgb k l)) (zsk k l))) ?_
 refine rn ?_;refine qv rfl rfl (y6 rfl rfl (y3.pure (R:=fun r=>r=zf8 (zc3 k e)) (zta k e))) ?_
 refine rn ?_;refine zer (zc3 k e).length (fun i (x:σ)=>p (zru k e l i) x) (fun i x=>⟨[(23,iv i),(0,y),(2,pZ bl),(3,pZ be),(5,pZ b5),(6,zf8 (zgb k l)),(21,zf8 (zc3 k e)),(22,iv ((zc3 k e).map accR).length)],.box b5 116 (zs9 k):: .box bl 121 (zb2 l):: .box be 121 (zb2 e):: .box bi 3 [iv ((k:Nat):Int)]:: .glob 0 117 x5::I (zru k e l i) x,[]⟩) x0 hp0 es ?_
 intro i x li zi
 refine rn ?_;refine z8 rfl (fun hc24=> ?_) (fun hc24=> ?_)
 ·have hi:=zdr hc24
  have ri:=zdp (f:=accR) hi
  refine rn ?_;refine z7 rfl (x6 rfl fun b8=> ?_)
  refine rn ?_;refine zer (zgb k l).length (fun j (x:σ)=>p ((zru k e l i)++((zgb k l).take j).filterMap (brk (zdz k) e.t l.t (zc3 k e)[i])) x) (fun j x=>⟨[(29,iv j),(0,y),(2,pZ bl),(3,pZ be),(5,pZ b5),(6,zf8 (zgb k l)),(8,pZ b8),(21,zf8 (zc3 k e)),(22,iv ((zc3 k e).map accR).length),(23,iv i),(27,zf8 (zgb k l)),(28,iv ((zgb k l).map accR).length)],.box b8 178 (accR (zc3 k e)[i]):: .box b5 116 (zs9 k):: .box bl 121 (zb2 l):: .box be 121 (zb2 e):: .box bi 3 [iv ((k:Nat):Int)]:: .glob 0 117 x5::I ((zru k e l i)++((zgb k l).take j).filterMap (brk (zdz k) e.t l.t (zc3 k e)[i])) x,[]⟩) x (by simpa using zi) (by simpa using eA) ?_
  intro j x lj zj
  refine rn ?_;refine z8 rfl (fun hc30=> ?_) (fun hc30=> ?_)
  ·have hj:=zdr hc30
   have rj:=zdp (f:=accR) hj
   refine rn ?_;refine z7 rfl (x6 rfl fun b10=> ?_)
   refine rn ?_;refine q9 (fun hg8_5=> ?_) (fun hg8_5=> ?_)
   ·refine rn ?_;refine q9 (fun hg8_12=> ?_) (fun hg8_12=> ?_)
    ·refine q1 ?_;refine q1 ?_;refine q1 ?_;refine q1 ?_;refine q1 ?_;refine q1 ?_;refine q1 ?_;refine q1 ?_;refine q1 ?_;refine q1 ?_;refine q1 ?_;refine q1 ?_;refine q1 ?_;refine qq rfl rfl (zac (out:= [iv (zdz k),iv e.t,iv l.t,iv (zc3 k e)[i].o,iv (zc3 k e)[i].a,iv (zgb k l)[j].a]) rfl (by rfl)) ?_
     have hbk:=yng (g:=zdz k) (t1:=e.t) (t2:=l.t) hg8_5 hg8_12
     obtain ⟨rest,hL⟩:=ygs hi hj hbk
     refine z7 rfl (w7 rfl rfl (y3.fr3 (hy ((zru k e l i)++((zgb k l).take j).filterMap (brk (zdz k) e.t l.t (zc3 k e)[i])) _ rest x hL zj)) rfl ?_)
     rintro _ _ ⟨_,rfl,x',⟨rfl,hp',rfl⟩|⟨rfl,hq',rfl⟩⟩
     ·refine rn ?_;refine z8 rfl (fun hc62=> ?_) (fun hc62=> ?_)
      ·first|cases hc62|exact absurd hc62 (by decide)|(exfalso;simp_all;done)
      ·refine rn ?_;exact ⟨hj,x',by rw [ygf hj hbk,←List.append_assoc];exact hp',by rw [ygf hj hbk,←List.append_assoc];exact eA⟩
     ·refine rn ?_;refine z8 rfl (fun hc62=> ?_) (fun hc62=> ?_)
      ·refine rn ?_;exact zea .nil (.drop [_,_,_] _ _) ⟨x',.inr ⟨hq',rfl⟩⟩
      ·first|cases hc62|exact absurd hc62 (by decide)|(exfalso;simp_all;done)
    ·refine rn ?_;refine zpv rfl ?_;refine rn ?_;exact ⟨hj,x,by rw [zxr hj (zyb hg8_12)];exact zj,by rw [zxr hj (zyb hg8_12)];exact eA⟩
   ·refine rn ?_;refine zpv rfl ?_;refine rn ?_;exact ⟨hj,x,by rw [zxr hj (zyc hg8_5)];exact zj,by rw [zxr hj (zyc hg8_5)];exact eA⟩
  ·have qj:=zdx hc30 lj
   refine rn ?_;have e1:((zru k e l i)++((zgb k l).take j).filterMap (brk (zdz k) e.t l.t (zc3 k e)[i]))=(zru k e l (i+1)):=by rw [yky hi,qj,List.take_length]
   exact ⟨hi,x,by rw [←e1];exact zj,by rw [←e1];exact eA⟩
 ·have qi:=zdx hc24 li
  refine rn ?_;have e1:(zru k e l i)=(zif k e l):=by rw [qi,zru,List.take_length];rfl
  exact zd1 .nil (.drop [_] _ _) ⟨x,.inl ⟨by rw [←e1];exact zi,by rw [←e1]⟩⟩
theorem ym3 {k:Nat} (hk:k < 4):x5[0+k * 3+2]? =some (ylo k):=by
 rcases (by omega:k=0∨k=1∨k=2∨k=3) with rfl|rfl|rfl|rfl <;> rfl
theorem ym4 {k:Nat} (hk:k < 4):x5[0+k * 3+1]? =some (ylp k):=by
 rcases (by omega:k=0∨k=1∨k=2∨k=3) with rfl|rfl|rfl|rfl <;> rfl
def yli (M:List (Int×Int)) (b:Acc):Bool:=decide (b.r < (zbr b.o M).getD 0)
def yhv (k:Nat) (d:Dos) (M:List (Int×Int)):Bool:=(zgb k d).any (yli M)
def zjd (M:List (Int×Int)) (l:List Acc):List (Int×Int):=l.foldl (fun m a=>zee a.o (max ((zbr a.o m).getD 0) a.r) m) M
theorem yi7 {M:List (Int×Int)} {l:List Acc} {i:Nat} (hi:i < l.length):zjd M (l.take (i+1))=zee l[i].o (max ((zbr l[i].o (zjd M (l.take i))).getD 0) l[i].r) (zjd M (l.take i)):=by
 rw [zjd,List.take_succ_eq_append_getElem hi,List.foldl_append];rfl
theorem zwo (o:Int):∀(l:List Acc) (M:List (Int×Int)),(zbr o M).getD 0≤(zbr o (zjd M l)).getD 0∧∀a∈l,a.o=o→a.r≤(zbr o (zjd M l)).getD 0
 | [],M=>⟨Int.le_refl _,by simp⟩
 |a::l,M=>by
  obtain ⟨h1,h2⟩:=zwo o l (zee a.o (max ((zbr a.o M).getD 0) a.r) M)
  have e:zjd M (a::l)=zjd (zee a.o (max ((zbr a.o M).getD 0) a.r) M) l:=rfl
  rw [zc2] at h1
  by_cases q:a.o=o
  ·subst q
   rw [if_pos rfl,Option.getD_some] at h1
   refine ⟨by rw [e];omega,fun b hb ho=> ?_⟩
   rcases List.mem_cons.1 hb with rfl|hb
   ·rw [e];omega
   ·rw [e];exact h2 b hb ho
  ·rw [if_neg q] at h1
   refine ⟨by rw [e];exact h1,fun b hb ho=> ?_⟩
   rcases List.mem_cons.1 hb with rfl|hb
   ·exact absurd ho q
   ·rw [e];exact h2 b hb ho
def zmo (k:Nat) (L:List Dos) (j:Nat) (M:List (Int×Int)):Prop:=∀e∈L.take j,∀a∈zc3 k e,a.r≤(zbr a.o M).getD 0
theorem yi8 (k:Nat) (L:List Dos):zmo k L 0 []:=fun e he=>by simp at he
theorem ycs {k j:Nat} {L:List Dos} {M:List (Int×Int)} (hM:zmo k L j M) (hj:j < L.length):zmo k L (j+1) (zjd M (zc3 k L[j])):=by
 intro e he a ha
 rw [List.take_succ_eq_append_getElem hj,List.mem_append,List.mem_singleton] at he
 rcases he with he|rfl
 ·have h1:=hM e he a ha
  have h2:=(zwo a.o (zc3 k L[j]) M).1
  omega
 ·exact (zwo a.o _ M).2 a ha rfl
def hdW (k:Nat) (d e:Dos):Option Brch:=(zif k e d).head?
def brW (k:Nat) (L:List Dos):Nat→List Brch
 |0=> []
 |j+1=>brW k L j++(match L[j]? with|some d=>(L.take j).filterMap (hdW k d)|none=> [])
theorem ygr {k j:Nat} {L:List Dos} (hj:j < L.length):brW k L (j+1)=brW k L j++(L.take j).filterMap (hdW k L[j]):=by rw [brW,List.getElem?_eq_getElem hj]
theorem yhu {k j:Nat} {L:List Dos} {M:List (Int×Int)} (hM:zmo k L j M) (hj:j < L.length) (hs:yhv k L[j] M=false):brW k L (j+1)=brW k L j:=by
 rw [ygr hj]
 have:(L.take j).filterMap (hdW k L[j])= []:=by
  rw [List.filterMap_eq_nil_iff]
  intro e he
  have:zif k e L[j]= []:=by
   rw [zif,List.flatMap_eq_nil_iff]
   intro a ha
   rw [List.filterMap_eq_nil_iff]
   intro b hb
   by_cases q:(a.o==b.o)=true
   ·refine zyb (decide_eq_false fun hlt=> ?_)
    have h1:=hM e he a ha
    have h2:=List.any_eq_false.1 hs b hb
    rw [yli,←eq_of_beq q] at h2
    simp only [decide_eq_true_eq] at h2
    omega
   ·exact zyc (by simpa using q)
  rw [hdW,this];rfl
 rw [this,List.append_nil]
theorem ydc {k m:Nat} {L:List Dos}:∀{n},m≤n→∃R,brW k L n=brW k L m++R
 |0,hm=>⟨[],by rw [Nat.le_zero.1 hm,List.append_nil]⟩
 |n+1,hm=>by
  by_cases e:m=n+1
  ·exact ⟨[],by rw [e,List.append_nil]⟩
  ·obtain ⟨R,hR⟩:=ydc (k:=k) (m:=m) (L:=L) (n:=n) (by omega)
   exact ⟨_,by rw [brW,hR,List.append_assoc]⟩
def brP (k:Nat) (L:List Dos) (j:Nat) (d:Dos) (i:Nat):List Brch:=brW k L j++((L.take j).take i).filterMap (hdW k d)
theorem yni (k:Nat) (L:List Dos) (j:Nat) (d:Dos):brP k L j d 0=brW k L j:=by simp [brP]
theorem yks {k j i:Nat} {L:List Dos} {d:Dos} {b:Brch} {rest:List Brch} (hi:i < (L.take j).length) (h:zif k (L.take j)[i] d=b::rest):brP k L j d (i+1)=brP k L j d i++ [b]:=by
 rw [brP,ygf hi (show hdW k d (L.take j)[i]=some b by rw [hdW,h];rfl),brP,List.append_assoc]
theorem ykt {k j i:Nat} {L:List Dos} {d:Dos} (hi:i < (L.take j).length) (h:zif k (L.take j)[i] d= []):brP k L j d (i+1)=brP k L j d i:=by
 rw [brP,zxr hi (show hdW k d (L.take j)[i]=none by rw [hdW,h];rfl),brP]
theorem ynh {k j i:Nat} {L:List Dos} (hj:j < L.length) (hi:i=(L.take j).length):brP k L j L[j] i=brW k L (j+1):=by
 rw [ygr hj,brP,hi,List.take_length]
theorem ykr {k j i:Nat} {L:List Dos} {b:Brch} {rest:List Brch} (hj:j < L.length) (hi:i < (L.take j).length) (h:zif k (L.take j)[i] L[j]=b::rest):∃R,brW k L L.length=brP k L j L[j] i++b::R:=by
 obtain ⟨R,hR⟩:=ydc (k:=k) (L:=L) (m:=j+1) (n:=L.length) hj
 have e:(L.take j).filterMap (hdW k L[j])=((L.take j).take i).filterMap (hdW k L[j])++b::((L.take j).drop (i+1)).filterMap (hdW k L[j]):=by
  conv=>lhs;rw [←List.take_append_drop i (L.take j),List.drop_eq_getElem_cons hi]
  rw [List.filterMap_append,List.filterMap_cons,hdW,h];rfl
 exact ⟨_,by rw [hR,ygr hj,e,brP];simp only [List.append_assoc,List.cons_append];rfl⟩
def hdB (l:List Brch):Brch:=l.headD ⟨0,0,0,0,0,0⟩
theorem y3.fr11 {P:Program} {fv:AV} {args:List AV} {G:List Res} {R:AV→List Res→Prop} {a0 a1 a2 a3 a4 a5 a6 a7 a8 a9 a10:Res} (hc:y3 P fv args G R):y3 P fv args (a0::a1::a2::a3::a4::a5::a6::a7::a8::a9::a10::G) (fun r h'=>∃h'',h'=a0::a1::a2::a3::a4::a5::a6::a7::a8::a9::a10::h''∧R r h''):=hc.frL [a0,a1,a2,a3,a4,a5,a6,a7,a8,a9,a10]
theorem zhi (q:Nat) (A B:List Res) (dfs:List Nat):(Res.defs q::(A++(B++dfs.map Res.defs))).Perm (A++(B++(q::dfs).map Res.defs)):=by
 rw [←List.append_assoc,←List.append_assoc];exact List.perm_middle.symm
theorem zst (A B:List Res) (dfs:List Nat):(A++(B++dfs.map Res.defs)).Perm (dfs.map Res.defs++(A++B)):=by
 rw [←List.append_assoc];exact List.perm_append_comm
theorem zo2 {full:Bool} (l:List Acc) (fv:AV) (p:Acc→Bool) (G:List Res) (hp:∀a∈l,y3 Tryz.prog fv [.agg (accR a)] G (fun r h'=>h'=G∧r=bv (p a))) (hlen:l.length≤4611686018427387904):x3 Tryz.prog 153 [.list full 3 (l.map accR),fv] G (fun r h'=>h'=G∧r=iv (zbl p 0 l)):=by
 refine z6 Tryz.func153 rfl rfl rfl ?_
 refine rn ?_;refine u9 (fun k:Nat=>k≤l.length∧zbl p 0 l=zbl p k (l.drop k)) (fun k=>⟨[(8,iv k),(7,iv (l.map accR).length),(0,.list full 3 (l.map accR)),(1,fv)],G,[]⟩) (fun k=>l.length - k) 0 ⟨Nat.zero_le _,by simp⟩
  (x8 (.cons _ _ _ rfl (.cons _ _ _ rfl (.cons _ _ _ rfl (.cons _ _ _ rfl (.nil)))))) ?_
 rintro k ⟨hk,hnot⟩
 refine rn ?_;refine z8 rfl (fun hc9=> ?_) (fun hc9=> ?_)
 ·have hk2:k < l.length:=by simpa using hc9
  have hrow:(l.map accR)[k]? =some (accR l[k]):=by simp [hk2]
  have hd:=List.drop_eq_getElem_cons hk2
  refine rn ?_;refine qv rfl rfl (y6 rfl rfl (hp l[k] (by simp))) ?_
  refine rn ?_;refine z8 rfl (fun hc16=> ?_) (fun hc16=> ?_)
  ·refine rn ?_;exact k7 rfl (.refl _ _) ⟨rfl,by rw [hnot,hd,zbl,if_pos hc16];rfl⟩
  ·refine rn ?_;exact ⟨k+1,⟨by omega,by rw [hnot,hd,zbl,if_neg (by simp [hc16])]⟩,(x8 (.cons _ _ _ rfl (.cons _ _ _ rfl (.cons _ _ _ rfl (.cons _ _ _ rfl (.nil)))))),by omega⟩
 ·have hk3:k=l.length:=by
   have:l.length≤k:=by simpa using hc9
   omega
  refine rn ?_;exact k7 rfl (.refl _ _) ⟨rfl,by rw [hnot,hk3,List.drop_length,zbl];rfl⟩
theorem zkv {full:Bool} (l:List Acc) (fv:AV) (p:Acc→Bool) (G:List Res) (hp:∀a∈l,y3 Tryz.prog fv [.agg (accR a)] G (fun r h'=>h'=G∧r=bv (p a))) (hlen:l.length≤4611686018427387904):x3 Tryz.prog 111 [.list full 3 (l.map accR),fv] G (fun r h'=>h'=G∧r=bv (l.any p)):=by
 refine z6 Tryz.func111 rfl rfl rfl ?_
 refine rn ?_;refine qv rfl rfl (y6 rfl rfl (y3.of_fun (zo2 l _ p G hp hlen))) ?_
 refine rn ?_;exact k7 rfl (.refl _ _) ⟨rfl,by simp only [←zeq p l 0];rfl⟩
theorem yh7 (b:Acc) (b4 bm:Nat) (M:List (Int×Int)):x3 Tryz.prog 112 [.agg (accR b),pZ b4] (.box b4 141 [mpv bm]:: .map bm (j9 zbq (zbh iv M)):: []) (fun r h'=>h'= .box b4 141 [mpv bm]:: .map bm (j9 zbq (zbh iv M)):: []∧r=bv (yli M b)):=by
 refine z6 Tryz.func112 rfl rfl rfl ?_
 refine rn ?_;refine z7 rfl (w6 rfl rfl rfl fun b2=> ?_)
 refine q1 ?_;refine u3 (j8 ?_)
 refine x9 (y5 ?_)
 refine q1 ?_;refine q1 ?_;refine q1 ?_;refine q1 ?_;refine q1 ?_;refine qq rfl rfl (zbz (g:=iv) (enc:=zbq) (k:=b.o) (0:Int) rfl rfl) ?_
 refine rn ?_;refine rq 1 ?_
 exact ⟨rfl,rfl⟩
theorem yh6 (k:Nat) (hk:k < 4) (d:Dos) (h2:(zgb k d).length≤1000000) (bi b4 bm:Nat) (M:List (Int×Int)):x3 Tryz.prog 110 [.agg (zb2 d),pZ bi,pZ b4] (.box bi 3 [iv (k:Int)]:: .box b4 141 [mpv bm]:: .map bm (j9 zbq (zbh iv M)):: .glob 0 117 x5:: []) (fun r h'=>h'= .box bi 3 [iv (k:Int)]:: .box b4 141 [mpv bm]:: .map bm (j9 zbq (zbh iv M)):: .glob 0 117 x5:: []∧r=bv (yhv k d M)):=by
 refine z6 Tryz.func110 rfl rfl rfl ?_
 refine rn ?_;refine z7 rfl (w6 rfl rfl rfl fun b3=> ?_)
 refine rn ?_;refine j5 7 rfl ?_
 refine dq rfl rfl qrA ?_;refine dq rfl rfl (u6 (i:=k) rfl rfl (by omega)) ?_
 refine dq rfl rfl qrA ?_;refine dq rfl rfl (j4 rfl (ym3 hk)) ?_
 refine rn ?_;refine dv rfl rfl (by exact y6 rfl rfl (y3.pure (R:=fun r=>r=zf8 (zgb k d)) (zsk k d))) ?_
 refine rn ?_;refine qv rfl rfl (y6 rfl rfl (y3.of_fun (zkv (zgb k d) _ (yli M) _ (fun b _=>y3.qt (y3.of_acall (fs:= []) (cs:= [pZ b4]) (yh7 b b4 bm M)) ((pt2 _ _ _ _).trans (.cons _ (pt2 _ _ _ _)))) (Nat.le_trans h2 (by decide))))) ?_
 refine rn ?_;refine rq 1 ?_
 exact ⟨rfl,rfl⟩
theorem ycl (k:Nat) (L:List Dos) (W:List Res):x3 Tryz.prog 59 [iv (k:Int),zd6 L] W (fun r h'=>∃bi bl,h'= .box bl 101 [zd6 L]:: .box bi 3 [iv (k:Int)]::W∧r= .fn (.func 109) [] [pZ bi,pZ bl]):=by
 refine z6 Tryz.func59 rfl rfl rfl ?_
 refine rn ?_;refine z7 rfl (w6 rfl rfl rfl fun b2=> ?_)
 refine z7 rfl (w6 rfl rfl rfl fun b3=> ?_)
 refine rn ?_;exact k7 rfl (.refl _ _) ⟨_,_,rfl,rfl⟩
set_option maxHeartbeats 8000000 in
theorem yck (k:Nat) (hk:k < 4) (L:List Dos) (hL:L.length≤1000000) (hf:∀d∈L,(zc3 k d).length≤1000000) (hs:∀d∈L,(zgb k d).length≤1000000) (y:AV) (hone:y.cellsOf=some [y]) (bi bl:Nat) {σ:Type} (p:List Brch→σ→Prop) (q:σ→Prop) (I:List Brch→σ→List Res) (X:σ→List Res) (x0:σ) (hp0:p [] x0) (hy:∀pre d rest x,(brW k L L.length)=pre++d::rest→p pre x→y3 Tryz.prog y [.agg (zc6 d)] (.box bl 101 [zd6 L]:: .box bi 3 [iv ((k:Nat):Int)]:: .glob 0 117 x5::I pre x) (fun r h'=>∃x',(r=bv true∧p (pre++ [d]) x'∧h'= .box bl 101 [zd6 L]:: .box bi 3 [iv ((k:Nat):Int)]:: .glob 0 117 x5::I (pre++ [d]) x')∨(r=bv false∧q x'∧h'= .box bl 101 [zd6 L]:: .box bi 3 [iv ((k:Nat):Int)]:: .glob 0 117 x5::X x'))):x3 Tryz.prog 109 [y,pZ bi,pZ bl] (.box bl 101 [zd6 L]:: .box bi 3 [iv ((k:Nat):Int)]:: .glob 0 117 x5::I [] x0) (fun r h'=>∃x,(p (brW k L L.length) x∧h'= .box bl 101 [zd6 L]:: .box bi 3 [iv ((k:Nat):Int)]:: .glob 0 117 x5::I (brW k L L.length) x)∨(q x∧h'= .box bl 101 [zd6 L]:: .box bi 3 [iv ((k:Nat):Int)]:: .glob 0 117 x5::X x)):=by
 refine z6 Tryz.func109 rfl rfl rfl ?_
 have hyF:∀pre d rest x (W:List Res),(brW k L L.length)=pre++d::rest→p pre x→y3 Tryz.prog y [.agg (zc6 d)] (.box bl 101 [zd6 L]:: .box bi 3 [iv ((k:Nat):Int)]:: .glob 0 117 x5::(I pre x++W)) (fun r h'=>∃x',(r=bv true∧p (pre++ [d]) x'∧h'= .box bl 101 [zd6 L]:: .box bi 3 [iv ((k:Nat):Int)]:: .glob 0 117 x5::(I (pre++ [d]) x'++W))∨(r=bv false∧q x'∧h'= .box bl 101 [zd6 L]:: .box bi 3 [iv ((k:Nat):Int)]:: .glob 0 117 x5::(X x'++W))):=fun pre d rest x W e hp=>((hy pre d rest x e hp).frame W).mono (by
  rintro _ _ ⟨_,rfl,x',⟨rfl,hp',rfl⟩|⟨rfl,hq',rfl⟩⟩
  ·exact ⟨x',.inl ⟨rfl,hp',rfl⟩⟩
  ·exact ⟨x',.inr ⟨rfl,hq',rfl⟩⟩)
 refine rn ?_;refine z7 rfl (w6 rfl hone rfl fun b3=> ?_)
 refine rn ?_;refine zhv ?_;refine rn ?_;refine z7 rfl (zaq (enc:=zbq) rfl fun bm=> ?_)
 refine z7 rfl (x6 rfl fun b4=> ?_)
 refine rn ?_;refine zer L.length (fun j (z:σ×List (Int×Int)×List Nat)=>p (brW k L j) z.1∧zmo k L j z.2.1) (fun j z=>⟨[(18,iv j),(1,pZ bi),(2,pZ bl),(3,pZ b3),(4,pZ b4),(5,.fn (.func 110) [] [pZ bi,pZ b4]),(16,zd6 L),(17,iv (L.map zb2).length)],.box b4 141 [mpv bm]:: .map bm (j9 zbq (zbh iv z.2.1)):: .box b3 175 [y]:: .box bl 101 [zd6 L]:: .box bi 3 [iv ((k:Nat):Int)]:: .glob 0 117 x5::(I (brW k L j) z.1++(z.2.2.map Res.defs)),z.2.2⟩) (x0,[],[]) ⟨hp0,yi8 k L⟩ (by simp only [List.map_nil,List.append_nil];exact es) ?_
 rintro j ⟨x,M,dfs⟩ lj ⟨hx,hM⟩
 have hx:p (brW k L j) x:=hx
 have hM:zmo k L j M:=hM
 show aw _ _ _ _ _ ⟨[(18,iv j),(1,pZ bi),(2,pZ bl),(3,pZ b3),(4,pZ b4),(5,.fn (.func 110) [] [pZ bi,pZ b4]),(16,zd6 L),(17,iv (L.map zb2).length)],.box b4 141 [mpv bm]:: .map bm (j9 zbq (zbh iv M)):: .box b3 175 [y]:: .box bl 101 [zd6 L]:: .box bi 3 [iv ((k:Nat):Int)]:: .glob 0 117 x5::(I (brW k L j) x++(dfs.map Res.defs)),dfs⟩
 refine rn ?_;refine z8 rfl (fun hc19=> ?_) (fun hc19=> ?_)
 ·have hj:=zdr hc19
  have rj:=zdp (f:=zb2) hj
  refine rn ?_;refine z7 rfl (x6 rfl fun b7=> ?_)
  refine rn ?_;refine qv rfl rfl (y6 rfl rfl (y3.qt (y3.of_acall (fs:= []) (cs:= [pZ bi,pZ b4]) (yh6 k hk L[j] (hs _ (List.getElem_mem hj)) bi b4 bm M)) ((pt5 _ _ _ _ _ _ _).trans (.cons _ ((pt1 _ _ _).trans (.cons _ ((pt1 _ _ _).trans (.cons _ (pt3 _ _ _ _ _))))))))) ?_
  refine rn ?_;refine j5 8 rfl ?_
  refine dq rfl rfl qrA ?_;refine dq rfl rfl (u6 (i:=k) rfl rfl (by omega)) ?_
  refine dq rfl rfl qrA ?_;refine dq rfl rfl (j4 rfl (ym4 hk)) ?_
  refine rn ?_;refine dv rfl rfl (by exact y6 rfl rfl (y3.pure (R:=fun r=>r=zf8 (zc3 k L[j])) (zta k L[j]))) ?_
  refine rn ?_;refine za5 (zc3 k L[j]).length (fun _=>True) (fun u=>⟨[(33,iv u),(1,pZ bi),(2,pZ bl),(3,pZ b3),(4,pZ b4),(5,.fn (.func 110) [] [pZ bi,pZ b4]),(6,iv j),(7,pZ b7),(8,bv (yhv k L[j] M)),(16,zd6 L),(17,iv (L.map zb2).length),(18,iv j),(31,zf8 (zc3 k L[j])),(32,iv ((zc3 k L[j]).map accR).length)],.box b7 121 (zb2 L[j]):: .box b4 141 [mpv bm]:: .map bm (j9 zbq (zbh iv (zjd M ((zc3 k L[j]).take u)))):: .box b3 175 [y]:: .box bl 101 [zd6 L]:: .box bi 3 [iv ((k:Nat):Int)]:: .glob 0 117 x5::(I (brW k L j) x++(dfs.map Res.defs)),dfs⟩) trivial es ?_
  intro u lu _
  refine rn ?_;refine z8 rfl (fun hc34=> ?_) (fun hc34=> ?_)
  ·have hu:=zdr hc34
   have ru:=zdp (f:=accR) hu
   have hfl:=hf _ (List.getElem_mem hj)
   refine rn ?_;refine z7 rfl (x6 rfl fun b10=> ?_)
   first|refine z7 rfl (za3 rfl rfl rfl ?_)|refine z7 rfl (zbs rfl rfl rfl rfl (Nat.le_of_ble_eq_true rfl) ?_)
   refine u3 (j8 ?_)
   refine y5 ?_;refine q1 ?_;refine q1 ?_;refine q1 ?_;refine q1 ?_;refine q1 ?_;refine q1 ?_;refine qq rfl rfl (zbz (g:=iv) (enc:=zbq) (k:=(zc3 k L[j])[u].o) (0:Int) rfl rfl) ?_
   refine rn ?_;refine z7 rfl (za0 (g:=iv) (enc:=zbq) (k:=(zc3 k L[j])[u].o) (v:=max ((zbr (zc3 k L[j])[u].o (zjd M ((zc3 k L[j]).take u))).getD 0) (zc3 k L[j])[u].r) rfl rfl rfl ?_)
   refine rn ?_;exact ⟨hu,trivial,by rw [yi7 hu];exact eA⟩
  ·have qu:=zdx hc34 lu
   subst qu
   rw [List.take_length]
   refine rn ?_;refine z8 rfl (fun hc49=> ?_) (fun hc49=> ?_)
   ·have hsw:yhv k L[j] M=false:=by simpa using hc49
    refine rn ?_;have hw:=yhu hM hj hsw
    exact ⟨hj,(x,(zjd M (zc3 k L[j])),dfs),⟨by simp only;rw [hw];exact hx,ycs hM hj⟩,by simp only;rw [hw];exact eA⟩
   ·have hsw:yhv k L[j] M=true:=by simpa using hc49
    refine zab ?_;refine j8 ?_;refine x9 (y5 ?_)
    refine q1 ?_;refine q1 ?_;refine qq rfl rfl (zdy (k:=j) rfl rfl (by rw [oM];omega)) ?_
    rw [←List.map_take]
    refine rn ?_;have hx0:=hx
    rw [←yni k L j L[j]] at hx ⊢
    refine zer (L.take j).length (fun i (z:σ×List Nat)=>p (brP k L j L[j] i) z.1) (fun i z=>⟨[(54,iv i),(1,pZ bi),(2,pZ bl),(3,pZ b3),(4,pZ b4),(5,.fn (.func 110) [] [pZ bi,pZ b4]),(7,pZ b7),(16,zd6 L),(17,iv (L.map zb2).length),(18,iv j),(52,zd6 (L.take j)),(53,iv ((L.take j).map zb2).length)],.box b7 121 (zb2 L[j]):: .box b4 141 [mpv bm]:: .map bm (j9 zbq (zbh iv (zjd M (zc3 k L[j])))):: .box b3 175 [y]:: .box bl 101 [zd6 L]:: .box bi 3 [iv ((k:Nat):Int)]:: .glob 0 117 x5::(I (brP k L j L[j] i) z.1++(z.2.map Res.defs)),z.2⟩) (x,dfs) hx es ?_
    clear hx hx0
    rintro i ⟨x,dfs⟩ li hx
    have hx:p (brP k L j L[j] i) x:=hx
    show aw _ _ _ _ _ ⟨[(54,iv i),(1,pZ bi),(2,pZ bl),(3,pZ b3),(4,pZ b4),(5,.fn (.func 110) [] [pZ bi,pZ b4]),(7,pZ b7),(16,zd6 L),(17,iv (L.map zb2).length),(18,iv j),(52,zd6 (L.take j)),(53,iv ((L.take j).map zb2).length)],.box b7 121 (zb2 L[j]):: .box b4 141 [mpv bm]:: .map bm (j9 zbq (zbh iv (zjd M (zc3 k L[j])))):: .box b3 175 [y]:: .box bl 101 [zd6 L]:: .box bi 3 [iv ((k:Nat):Int)]:: .glob 0 117 x5::(I (brP k L j L[j] i) x++(dfs.map Res.defs)),dfs⟩
    refine rn ?_;refine z8 rfl (fun hc55=> ?_) (fun hc55=> ?_)
    ·have hi:=zdr hc55
     have ri:=zdp (f:=zb2) hi
     have hil:=List.length_take_le j L
     refine rn ?_;refine z7 rfl (x6 rfl fun b12=> ?_)
     refine rn ?_;refine z7 rfl (w7 rfl rfl (y3.of_fun (yej k (L.take j)[i] L[j] _)) rfl ?_)
     rintro _ _ ⟨ci,ce,cl,rfl,rfl⟩
     refine rn ?_;refine zli (fun pend h''=>(pend=none∧(zif k (L.take j)[i] L[j])= []∧h''= .box cl 121 (zb2 L[j]):: .box ce 121 (zb2 (L.take j)[i]):: .box ci 3 [iv (k:Int)]:: .glob 0 117 x5:: .box b12 121 (zb2 (L.take j)[i]):: .box b7 121 (zb2 L[j]):: .box b4 141 [mpv bm]:: .map bm (j9 zbq (zbh iv (zjd M (zc3 k L[j])))):: .box b3 175 [y]:: .box bl 101 [zd6 L]:: .box bi 3 [iv (k:Int)]::(I (brP k L j L[j] i) x++(dfs.map Res.defs)))∨(pend=some (.exit 6)∧∃b rest x',(zif k (L.take j)[i] L[j])=b::rest∧p ((brP k L j L[j] i)++ [b]) x'∧h''= .box cl 121 (zb2 L[j]):: .box ce 121 (zb2 (L.take j)[i]):: .box ci 3 [iv (k:Int)]:: .glob 0 117 x5:: .box b12 121 (zb2 (L.take j)[i]):: .box b7 121 (zb2 L[j]):: .box b4 141 [mpv bm]:: .map bm (j9 zbq (zbh iv (zjd M (zc3 k L[j])))):: .box b3 175 [y]:: .box bl 101 [zd6 L]:: .box bi 3 [iv (k:Int)]::(I ((brP k L j L[j] i)++ [b]) x'++(dfs.map Res.defs)))∨(pend=some .ret∧∃x',q x'∧h''= .box cl 121 (zb2 L[j]):: .box ce 121 (zb2 (L.take j)[i]):: .box ci 3 [iv (k:Int)]:: .glob 0 117 x5:: .box b12 121 (zb2 (L.take j)[i]):: .box b7 121 (zb2 L[j]):: .box b4 141 [mpv bm]:: .map bm (j9 zbq (zbh iv (zjd M (zc3 k L[j])))):: .box b3 175 [y]:: .box bl 101 [zd6 L]:: .box bi 3 [iv (k:Int)]::(X x'++(dfs.map Res.defs)))) rfl (fun fn l q0 lp hlp=> ?_) (fun q0 h'' hK=> ?_) (fun q0 h'' cc hK=> ?_)
     ·suffices hy2:∀pre d' rest z,(zif k (L.take j)[i] L[j])=pre++d'::rest→(fun (pre:List Brch) (_:Bool×σ)=>pre= []) pre z→y3 Tryz.prog (yv l) [.agg (zc6 d')] (.box cl 121 (zb2 L[j]):: .box ce 121 (zb2 (L.take j)[i]):: .box ci 3 [iv (k:Int)]:: .glob 0 117 x5::(fun (_:List Brch) (_:Bool×σ)=>lp .ready none:: .defs q0:: .box b12 121 (zb2 (L.take j)[i]):: .box b7 121 (zb2 L[j]):: .box b4 141 [mpv bm]:: .map bm (j9 zbq (zbh iv (zjd M (zc3 k L[j])))):: .box b3 175 [y]:: .box bl 101 [zd6 L]:: .box bi 3 [iv (k:Int)]::(I (brP k L j L[j] i) x++(dfs.map Res.defs))) pre z) (fun r h'=>∃z',(r=bv true∧(fun (pre:List Brch) (_:Bool×σ)=>pre= []) (pre++ [d']) z'∧h'= .box cl 121 (zb2 L[j]):: .box ce 121 (zb2 (L.take j)[i]):: .box ci 3 [iv (k:Int)]:: .glob 0 117 x5::(fun (_:List Brch) (_:Bool×σ)=>lp .ready none:: .defs q0:: .box b12 121 (zb2 (L.take j)[i]):: .box b7 121 (zb2 L[j]):: .box b4 141 [mpv bm]:: .map bm (j9 zbq (zbh iv (zjd M (zc3 k L[j])))):: .box b3 175 [y]:: .box bl 101 [zd6 L]:: .box bi 3 [iv (k:Int)]::(I (brP k L j L[j] i) x++(dfs.map Res.defs))) (pre++ [d']) z')∨(r=bv false∧(fun z:Bool×σ=>(z.1=true∧(∃b rest,(zif k (L.take j)[i] L[j])=b::rest)∧p ((brP k L j L[j] i)++ [hdB (zif k (L.take j)[i] L[j])]) z.2)∨(z.1=false∧q z.2)) z'∧h'= .box cl 121 (zb2 L[j]):: .box ce 121 (zb2 (L.take j)[i]):: .box ci 3 [iv (k:Int)]:: .glob 0 117 x5::(fun z:Bool×σ=>lp .done (some (bif z.1 then .exit 6 else .ret)):: .defs q0:: .box b12 121 (zb2 (L.take j)[i]):: .box b7 121 (zb2 L[j]):: .box b4 141 [mpv bm]:: .map bm (j9 zbq (zbh iv (zjd M (zc3 k L[j])))):: .box b3 175 [y]:: .box bl 101 [zd6 L]:: .box bi 3 [iv (k:Int)]::((bif z.1 then I ((brP k L j L[j] i)++ [hdB (zif k (L.take j)[i] L[j])]) z.2 else X z.2)++(dfs.map Res.defs))) z')) by
       refine x3.mono (x3.perm ((pt2 _ _ _ _).trans (.cons _ ((pt2 _ _ _ _).trans (.cons _ ((pt2 _ _ _ _).trans (.cons _ (pt9 _ _ _ _ _ _ _ _ _ _ _))))))) (yei k hk (L.take j)[i] L[j] (hf _ (List.mem_of_mem_take (List.getElem_mem hi))) (hs _ (List.getElem_mem hj)) (yv l) ci ce cl (fun (pre:List Brch) (_:Bool×σ)=>pre= []) (fun z:Bool×σ=>(z.1=true∧(∃b rest,(zif k (L.take j)[i] L[j])=b::rest)∧p ((brP k L j L[j] i)++ [hdB (zif k (L.take j)[i] L[j])]) z.2)∨(z.1=false∧q z.2)) (fun (_:List Brch) (_:Bool×σ)=>lp .ready none:: .defs q0:: .box b12 121 (zb2 (L.take j)[i]):: .box b7 121 (zb2 L[j]):: .box b4 141 [mpv bm]:: .map bm (j9 zbq (zbh iv (zjd M (zc3 k L[j])))):: .box b3 175 [y]:: .box bl 101 [zd6 L]:: .box bi 3 [iv (k:Int)]::(I (brP k L j L[j] i) x++(dfs.map Res.defs))) (fun z:Bool×σ=>lp .done (some (bif z.1 then .exit 6 else .ret)):: .defs q0:: .box b12 121 (zb2 (L.take j)[i]):: .box b7 121 (zb2 L[j]):: .box b4 141 [mpv bm]:: .map bm (j9 zbq (zbh iv (zjd M (zc3 k L[j])))):: .box b3 175 [y]:: .box bl 101 [zd6 L]:: .box bi 3 [iv (k:Int)]::((bif z.1 then I ((brP k L j L[j] i)++ [hdB (zif k (L.take j)[i] L[j])]) z.2 else X z.2)++(dfs.map Res.defs))) (false,x) rfl hy2)) ?_
       rintro _ _ ⟨⟨b,x'⟩,⟨hn,rfl⟩|⟨⟨e1,⟨b0,rest,hn⟩,hp1⟩|⟨e1,hq1⟩,rfl⟩⟩
       ·exact ⟨none,.ready,_,((pt4 _ _ _ _ _ _).trans (.cons _ (pt4 _ _ _ _ _ _))),by simp,.inl ⟨rfl,hn,rfl⟩⟩
       ·have e1:b=true:=e1
        subst e1
        have hd1:hdB (zif k (L.take j)[i] L[j])=b0:=by rw [hn];rfl
        exact ⟨some (.exit 6),.done,_,((pt4 _ _ _ _ _ _).trans (.cons _ (pt4 _ _ _ _ _ _))),by simp,.inr (.inl ⟨rfl,b0,rest,x',hn,by rw [←hd1];exact hp1,by rw [←hd1];rfl⟩)⟩
       ·have e1:b=false:=e1
        subst e1
        exact ⟨some .ret,.done,_,((pt4 _ _ _ _ _ _).trans (.cons _ (pt4 _ _ _ _ _ _))),by simp,.inr (.inr ⟨rfl,x',hq1,rfl⟩)⟩
      intro pre d' rest z hL hpre
      obtain rfl:pre= []:=hpre
      have hL1:(zif k (L.take j)[i] L[j])=d'::rest:=hL
      obtain ⟨R,hL2⟩:=ykr hj hi hL1
      have hd1:hdB (zif k (L.take j)[i] L[j])=d':=by rw [hL1];rfl
      refine y3.perm (pt4 _ _ _ _ _ _) (y3.ventE ?_)
      refine zdn hlp rfl rfl ?_
      refine rn ?_;refine z7 rfl (x6 rfl fun b13=> ?_)
      refine rn ?_;refine ⟨[(13,pZ b13),(3,pZ b3)],.box b13 36 (zc6 d'):: .box cl 121 (zb2 L[j]):: .box ce 121 (zb2 (L.take j)[i]):: .box ci 3 [iv (k:Int)]:: .glob 0 117 x5:: .defs q0:: .box b12 121 (zb2 (L.take j)[i]):: .box b7 121 (zb2 L[j]):: .box b4 141 [mpv bm]:: .map bm (j9 zbq (zbh iv (zjd M (zc3 k L[j])))):: .box b3 175 [y]:: .box bl 101 [zd6 L]:: .box bi 3 [iv (k:Int)]::(I (brP k L j L[j] i) x++(dfs.map Res.defs)),w9 (zak (pt1 _ _ _)) es,?_⟩
      refine zad ?_;refine x9 ?_;refine x9 (y5 ?_)
      refine q1 ?_;refine q1 ?_;refine z7 rfl (w7 rfl rfl (y3.perm (.cons _ (.cons _ (.cons _ (.cons _ (.cons _ ((pt1 _ _ _).trans (.cons _ ((pt1 _ _ _).trans (.cons _ ((pt1 _ _ _).trans (.cons _ ((pt1 _ _ _).trans (.cons _ ((pt1 _ _ _).trans (.cons _ ((pt1 _ _ _).trans (.cons _ ((pt1 _ _ _).trans (.cons _ (pt1 _ _ _)))))))))))))))))))) (y3.fr11 (hyF (brP k L j L[j] i) d' R x (dfs.map Res.defs) hL2 hx))) rfl ?_)
      rintro _ _ ⟨_,rfl,x',⟨rfl,hp',rfl⟩|⟨rfl,hq',rfl⟩⟩
      ·refine rn ?_;refine z8 rfl (fun hc66=> ?_) (fun hc66=> ?_)
       ·first|cases hc66|exact absurd hc66 (by decide)|(exfalso;simp_all;done)
       ·refine rn ?_;exact zj7 (.refl _) ⟨_,_,.trans (.perm ((pt1 _ _ _).trans (.cons _ ((pt1 _ _ _).trans (.cons _ ((pt1 _ _ _).trans (.cons _ ((pt1 _ _ _).trans (.cons _ (pt9 _ _ _ _ _ _ _ _ _ _ _))))))))) _) (.drop [_] _ _),(true,x'),.inr ⟨rfl,.inl ⟨rfl,⟨_,_,hL1⟩,by rw [hd1];exact hp'⟩,by rw [hd1];rfl⟩⟩
      ·refine rn ?_;refine z8 rfl (fun hc66=> ?_) (fun hc66=> ?_)
       ·refine rn ?_;exact zmu (.refl _) ⟨_,_,.trans (.perm ((pt1 _ _ _).trans (.cons _ ((pt1 _ _ _).trans (.cons _ ((pt1 _ _ _).trans (.cons _ ((pt1 _ _ _).trans (.cons _ (pt9 _ _ _ _ _ _ _ _ _ _ _))))))))) _) (.drop [_] _ _),(false,x'),.inr ⟨rfl,.inr ⟨rfl,hq'⟩,rfl⟩⟩
       ·first|cases hc66|exact absurd hc66 (by decide)|(exfalso;simp_all;done)
     ·obtain ⟨_,hFE,rfl⟩|⟨hc',_⟩|⟨hc',_⟩:=hK
      rotate_left
      ·cases hc'
      ·cases hc'
      refine rn ?_;exact ⟨hi,(x,q0::dfs),by simp only;rw [ykt hi hFE];exact hx,by simp only;rw [ykt hi hFE];exact w9 (zak ((List.Perm.cons _ (.cons _ (.cons _ (.cons _ ((pt1 _ _ _).trans (.cons _ ((pt1 _ _ _).trans (.cons _ ((pt1 _ _ _).trans (.cons _ ((pt1 _ _ _).trans (.cons _ ((pt1 _ _ _).trans (.cons _ ((pt1 _ _ _).trans (.cons _ (pt1 _ _ _))))))))))))))))).trans (zhi _ [_,_,_,_,_,_,_,_,_,_,_] _ _))) (w9 (zbd (h1:= [_,_,_,_])) es)⟩
     ·obtain ⟨hc',_⟩|⟨hc',b,rest,x',hFE,hpp,rfl⟩|⟨hc',x',hqq,rfl⟩:=hK
      ·cases hc'
      ·obtain rfl:cc= .exit 6:=by simpa using hc'
       refine rn ?_;exact ⟨hi,(x',q0::dfs),by simp only;rw [yks hi hFE];exact hpp,by simp only;rw [yks hi hFE];exact w9 (zak ((List.Perm.cons _ (.cons _ (.cons _ (.cons _ ((pt1 _ _ _).trans (.cons _ ((pt1 _ _ _).trans (.cons _ ((pt1 _ _ _).trans (.cons _ ((pt1 _ _ _).trans (.cons _ ((pt1 _ _ _).trans (.cons _ ((pt1 _ _ _).trans (.cons _ (pt1 _ _ _))))))))))))))))).trans (zhi _ [_,_,_,_,_,_,_,_,_,_,_] _ _))) (w9 (zbd (h1:= [_,_,_,_])) es)⟩
      ·obtain rfl:cc= .ret:=by simpa using hc'
       refine rn ?_;refine ⟨fun l h=>(by cases h),?_⟩
       exact zgk (.cons _ (zst [_,_,_,_,_,_,_,_,_,_,_] _ dfs)) .nil (.trans (.perm (.cons _ (.cons _ (.cons _ ((pt1 _ _ _).trans (.cons _ ((pt1 _ _ _).trans (.cons _ ((pt1 _ _ _).trans (.cons _ ((pt1 _ _ _).trans (.cons _ ((pt1 _ _ _).trans (.cons _ ((pt1 _ _ _).trans (.cons _ (pt1 _ _ _)))))))))))))))) _) (.drop [_,_,_,_,_,_,_,_] _ _)) ⟨x',.inr ⟨hqq,rfl⟩⟩
    ·have qi:=zdx hc55 li
     refine rn ?_;have hw:=ynh (k:=k) hj qi
     exact ⟨hj,(x,(zjd M (zc3 k L[j])),dfs),⟨by simp only;rw [←hw];exact hx,ycs hM hj⟩,by simp only;rw [←hw];exact eA⟩
 ·have qj:=zdx hc19 lj
  subst qj
  refine rn ?_;refine ⟨fun l h=>(by cases h),?_⟩
  exact yes (zst [_,_,_,_,_,_] _ dfs) .nil (.drop [_,_,_] _ _) ⟨x,.inl ⟨hx,rfl⟩⟩
def br0:Brch:=⟨0,0,0,0,0,0⟩
theorem yg0 {h:Hist} {s g:Int} (he:zlj h s g=0):zdw h s=0∧ydh h s g=zaa h s∧∃k:Nat,k < 4∧ydi h s g=(k:Int)∧zdz k=g∧zne g=(k:Int):=by
 by_cases hl:zdw h s=0
 ·by_cases hg:zne g < 0
  ·have:=(znt hl hg).1;omega
  ·obtain ⟨k,hk,e1,e2⟩:=yj8 hg
   exact ⟨hl,(zii hl hg).2.1,k,hk,by rw [(zii hl hg).2.2,e1],e2,e1⟩
 ·have:=(znu (g:=g) hl).1;omega
theorem zlv (l:List Acc):∀n:Nat,(zn1 n l).length=(l.filter fun a=>decide (0≤a.o∧a.o < (n:Int))).length
 |0=>by
  have:(l.filter fun a=>decide (0≤a.o∧a.o < ((0:Nat):Int)))= []:=by
   rw [List.filter_eq_nil_iff];intro a _;simp <;> omega
  rw [this];rfl
 |n+1=>by
  have ih:=zlv l n
  rw [zn1,yhm,List.flatMap_append,List.length_append]
  rw [zn1] at ih
  rw [ih]
  clear ih
  induction l with
  |nil=>rfl
  |cons a l ih=>
   simp only [List.filter_cons,List.flatMap_cons,List.flatMap_nil,List.append_nil] at ih ⊢
   by_cases h1:a.o=(n:Int)
   ·have e1:decide (0≤a.o∧a.o < (n:Int))=false:=decide_eq_false (by omega)
    have e2:decide (0≤a.o∧a.o < ((n+1:Nat):Int))=true:=decide_eq_true (by omega)
    have e3:(a.o==(n:Int))=true:=by simpa using h1
    rw [e1,e2,e3];simp only [↓reduceIte,List.length_cons,Bool.false_eq_true] at ih ⊢;omega
   ·have e3:(a.o==(n:Int))=false:=by simpa using h1
    by_cases h2:0≤a.o∧a.o < (n:Int)
    ·have e1:decide (0≤a.o∧a.o < (n:Int))=true:=decide_eq_true h2
     have e2:decide (0≤a.o∧a.o < ((n+1:Nat):Int))=true:=decide_eq_true (by omega)
     rw [e1,e2,e3];simp only [↓reduceIte,List.length_cons,Bool.false_eq_true] at ih ⊢;omega
    ·have e1:decide (0≤a.o∧a.o < (n:Int))=false:=decide_eq_false h2
     have e2:decide (0≤a.o∧a.o < ((n+1:Nat):Int))=false:=decide_eq_false (by omega)
     rw [e1,e2,e3];simp only [↓reduceIte,Bool.false_eq_true];exact ih
theorem zse (n:Nat) (l:List Acc):(zn1 n l).length≤l.length:=by rw [zlv];exact List.length_filter_le _ _
theorem zs1 {h:Hist} (hc:q8 h=0) (s:Int):(zaa h s).length≤3000∧∀d∈zaa h s,d.A.length≤3000∧d.B.length≤3000:=by
 have lE:=(zd9 hc).evs
 refine ⟨by rw [zaa,oM];exact Nat.le_trans (zs0 h s) lE,fun d hd=> ?_⟩
 obtain ⟨t,_,rfl⟩:=List.mem_map.1 hd
 have h1:=zse h.os.length (znx h t 3)
 have h2:=zse h.os.length (znx h t 2)
 have h3:(znx h t 3).length≤h.evs.length:=zfg h t 3 h.evs.length
 have h4:(znx h t 2).length≤h.evs.length:=zfg h t 2 h.evs.length
 exact ⟨by show (zn1 _ _).length≤_;omega,by show (zn1 _ _).length≤_;omega⟩
theorem zxq {k n:Nat} {d:Dos} (h:d.A.length≤n∧d.B.length≤n):(zc3 k d).length≤n:=by rw [zc3];split;exact h.2;exact h.1
theorem zsj {k n:Nat} {d:Dos} (h:d.A.length≤n∧d.B.length≤n):(zgb k d).length≤n:=by rw [zgb];split;exact h.1;exact h.2
def seB (h:Hist) (s g:Int):List Brch:=if zlj h s g=0 then brW (zne g).toNat (zaa h s) (zaa h s).length else []
theorem yl8 {h:Hist} {s g:Int} (he:zlj h s g≠0):seB h s g= []:=if_neg he
theorem yel {h:Hist} {s g:Int} {k:Nat} (he:zlj h s g=0) (hk:zne g=(k:Int)):seB h s g=brW k (zaa h s) (zaa h s).length:=by rw [seB,if_pos he,hk];rfl
theorem zsw {α:Type} {l pre rest:List α} {d:α} (h:l=pre++d::rest) (e:pre= []):l=d::rest:=by rw [h,e];rfl
def haK (h:Hist) (s:Int):Nat→Int
 |0=>0
 |k+1=>if brW k (zaa h s) (zaa h s).length= [] then bI .or .i64 (haK h s k) (zdz k) else haK h s k
def haO (h:Hist) (s:Int):Int:=if zdw h s=0 then haK h s 4 else 0
set_option maxHeartbeats 8000000 in
theorem zzx (h:Hist) (la:Lim 4611686018427387904 h) (s g:Int):x3 Tryz.prog 15 [.agg (x4 h),iv s,iv g] (.glob 0 117 x5:: .glob 3 148 y7:: .glob 5 276 y9:: .glob 6 279 y4:: .glob 2 197 v7:: []) (fun r h'=>h'= .glob 0 117 x5:: .glob 3 148 y7:: .glob 5 276 y9:: .glob 6 279 y4:: .glob 2 197 v7:: []∧r= .tup [.agg (zc6 ((seB h s g).head?.getD br0)),bv (seB h s g).head?.isSome,iv (zlj h s g)]):=by
 refine z6 Tryz.func15 rfl rfl rfl ?_
 refine rn ?_;refine z7 rfl (w6 rfl rfl rfl fun b3=> ?_)
 refine z7 rfl (x6 rfl fun b6=> ?_)
 refine z7 rfl (x6 rfl fun b7=> ?_)
 refine z7 rfl (x6 rfl fun b8=> ?_)
 refine rn ?_;refine qv rfl rfl (y6 rfl rfl (y3.qt (y3.of_fun (zzy h la s g)) ((pt4 _ _ _ _ _ _).trans (.cons _ ((pt4 _ _ _ _ _ _).trans (.cons _ ((pt4 _ _ _ _ _ _).trans (.cons _ ((pt4 _ _ _ _ _ _).trans (.cons _ (pt4 _ _ _ _ _ _))))))))))) ?_
 refine rn ?_;refine z8 rfl (fun hc22=> ?_) (fun hc22=> ?_)
 ·have he:zlj h s g≠0:=nzT hc22
  refine rn ?_;exact zea (.cons _ _ _ _ (.agg _ _ _ _ _ _ _ rfl inferInstance inferInstance inferInstance rfl) (.cons _ _ _ _ (.one _ _ _ _ _ _ _ rfl inferInstance inferInstance rfl) (.cons _ _ _ _ (.one _ _ _ _ _ _ _ rfl inferInstance inferInstance rfl) .nil))) (.drop [_,_,_,_] _ _) ⟨rfl,by rw [yl8 he];rfl⟩
 ·have he:zlj h s g=0:=nzF hc22
  obtain ⟨hl0,eO,k,hk,eI,eB,eG⟩:=yg0 he
  have hB:=zs1 (zbe.2 (yb6 hl0).1) s
  rw [eI,eO]
  refine rn ?_;refine z7 rfl (w7 rfl rfl (y3.of_fun (ycl k (zaa h s) _)) rfl ?_)
  rintro _ _ ⟨bi,bl,rfl,rfl⟩
  refine rn ?_;refine zli (fun pend h''=>(pend=none∧(brW k (zaa h s) (zaa h s).length)= []∧h''= .box bl 101 [zd6 (zaa h s)]:: .box bi 3 [iv ((k:Nat):Int)]:: .glob 0 117 x5:: .box b8 32 [iv 0]:: .box b7 4 [bv false]:: .box b6 36 (zc6 br0):: .box b3 28 (x4 h):: .glob 3 148 y7:: .glob 5 276 y9:: .glob 6 279 y4:: .glob 2 197 v7:: [])∨(pend=some .ret∧∃d rest,(brW k (zaa h s) (zaa h s).length)=d::rest∧h''= .box bl 101 [zd6 (zaa h s)]:: .box bi 3 [iv ((k:Nat):Int)]:: .glob 0 117 x5:: .box b8 32 [iv 0]:: .box b7 4 [bv true]:: .box b6 36 (zc6 d):: .box b3 28 (x4 h):: .glob 3 148 y7:: .glob 5 276 y9:: .glob 6 279 y4:: .glob 2 197 v7:: [])) rfl (fun fn l q lp hlp=> ?_) (fun q h'' hK=> ?_) (fun q h'' cc hK=> ?_)
  ·suffices hy:∀pre d rest (x:Brch),(brW k (zaa h s) (zaa h s).length)=pre++d::rest→pre= []→y3 Tryz.prog (yv l) [.agg (zc6 d)] (.box bl 101 [zd6 (zaa h s)]:: .box bi 3 [iv ((k:Nat):Int)]:: .glob 0 117 x5::lp .ready none:: .defs q:: .box b8 32 [iv 0]:: .box b7 4 [bv false]:: .box b6 36 (zc6 br0):: .box b3 28 (x4 h):: .glob 3 148 y7:: .glob 5 276 y9:: .glob 6 279 y4:: .glob 2 197 v7:: []) (fun r h'=>∃x',(r=bv true∧pre++ [d]= []∧h'= .box bl 101 [zd6 (zaa h s)]:: .box bi 3 [iv ((k:Nat):Int)]:: .glob 0 117 x5::lp .ready none:: .defs q:: .box b8 32 [iv 0]:: .box b7 4 [bv false]:: .box b6 36 (zc6 br0):: .box b3 28 (x4 h):: .glob 3 148 y7:: .glob 5 276 y9:: .glob 6 279 y4:: .glob 2 197 v7:: [])∨(r=bv false∧(∃rest,(brW k (zaa h s) (zaa h s).length)=x'::rest)∧h'= .box bl 101 [zd6 (zaa h s)]:: .box bi 3 [iv ((k:Nat):Int)]:: .glob 0 117 x5::lp .done (some .ret):: .defs q:: .box b8 32 [iv 0]:: .box b7 4 [bv true]:: .box b6 36 (zc6 x'):: .box b3 28 (x4 h):: .glob 3 148 y7:: .glob 5 276 y9:: .glob 6 279 y4:: .glob 2 197 v7:: [])) by
    refine x3.mono (x3.perm ((pt2 _ _ _ _).trans (.cons _ ((pt2 _ _ _ _).trans (.cons _ (pt6 _ _ _ _ _ _ _ _))))) (yck k hk (zaa h s) (by omega) (fun d hd=>zxq ⟨Nat.le_trans (hB.2 d hd).1 (by decide),Nat.le_trans (hB.2 d hd).2 (by decide)⟩) (fun d hd=>zsj ⟨Nat.le_trans (hB.2 d hd).1 (by decide),Nat.le_trans (hB.2 d hd).2 (by decide)⟩) (yv l) rfl bi bl (fun pre _=>pre= []) (fun d=>∃rest,(brW k (zaa h s) (zaa h s).length)=d::rest) (fun _ _=>lp .ready none:: .defs q:: .box b8 32 [iv 0]:: .box b7 4 [bv false]:: .box b6 36 (zc6 br0):: .box b3 28 (x4 h):: .glob 3 148 y7:: .glob 5 276 y9:: .glob 6 279 y4:: .glob 2 197 v7:: []) (fun d=>lp .done (some .ret):: .defs q:: .box b8 32 [iv 0]:: .box b7 4 [bv true]:: .box b6 36 (zc6 d):: .box b3 28 (x4 h):: .glob 3 148 y7:: .glob 5 276 y9:: .glob 6 279 y4:: .glob 2 197 v7:: []) br0 rfl hy)) ?_
    rintro _ _ ⟨x,⟨hn,rfl⟩|⟨⟨rest,hn⟩,rfl⟩⟩
    ·exact ⟨none,.ready,_,((pt3 _ _ _ _ _).trans (.cons _ (pt3 _ _ _ _ _))),by simp,.inl ⟨rfl,hn,rfl⟩⟩
    ·exact ⟨some .ret,.done,_,((pt3 _ _ _ _ _).trans (.cons _ (pt3 _ _ _ _ _))),by simp,.inr ⟨rfl,x,rest,hn,rfl⟩⟩
   intro pre d rest x hL hpre
   refine y3.perm (pt3 _ _ _ _ _) (y3.ventE ?_)
   refine zdn hlp rfl rfl ?_
   refine rn ?_;refine z7 rfl (x6 rfl fun b12=> ?_)
   refine rn ?_;refine ⟨[(12,pZ b12),(6,pZ b6),(7,pZ b7),(8,pZ b8)],.box b12 36 (zc6 d):: .box bl 101 [zd6 (zaa h s)]:: .box bi 3 [iv ((k:Nat):Int)]:: .glob 0 117 x5:: .defs q:: .box b8 32 [iv 0]:: .box b7 4 [bv false]:: .box b6 36 (zc6 br0):: .box b3 28 (x4 h):: .glob 3 148 y7:: .glob 5 276 y9:: .glob 6 279 y4:: .glob 2 197 v7:: [],w9 (zak (pt1 _ _ _)) es,?_⟩
   refine rn ?_;exact zmu (.refl _) ⟨_,_,.trans (.perm ((pt1 _ _ _).trans (.cons _ ((pt1 _ _ _).trans (.cons _ ((pt1 _ _ _).trans (.cons _ (pt1 _ _ _))))))) _) (.drop [_] _ _),d,.inr ⟨rfl,⟨rest,zsw hL hpre⟩,rfl⟩⟩
  ·obtain ⟨_,hn,rfl⟩|⟨hc',_⟩:=hK
   rotate_left
   ·cases hc'
   refine rn ?_;exact zgk (.refl _) (.cons _ _ _ _ (.agg _ _ _ _ _ _ _ rfl inferInstance inferInstance inferInstance rfl) (.cons _ _ _ _ (.one _ _ _ _ _ _ _ rfl inferInstance inferInstance rfl) (.cons _ _ _ _ (.one _ _ _ _ _ _ _ rfl inferInstance inferInstance rfl) .nil))) (.trans (.perm (.cons _ (.cons _ ((pt1 _ _ _).trans (.cons _ ((pt1 _ _ _).trans (.cons _ ((pt1 _ _ _).trans (.cons _ (pt1 _ _ _))))))))) _) (.drop [_,_,_,_,_,_] _ _)) ⟨rfl,by rw [yel he eG,hn,he];rfl⟩
  ·obtain ⟨hc',_⟩|⟨hc',d,rest,hn,rfl⟩:=hK
   ·cases hc'
   obtain rfl:cc= .ret:=by simpa using hc'
   refine rn ?_;exact zgk (.refl _) (.cons _ _ _ _ (.agg _ _ _ _ _ _ _ rfl inferInstance inferInstance inferInstance rfl) (.cons _ _ _ _ (.one _ _ _ _ _ _ _ rfl inferInstance inferInstance rfl) (.cons _ _ _ _ (.one _ _ _ _ _ _ _ rfl inferInstance inferInstance rfl) .nil))) (.trans (.perm (.cons _ (.cons _ ((pt1 _ _ _).trans (.cons _ ((pt1 _ _ _).trans (.cons _ ((pt1 _ _ _).trans (.cons _ (pt1 _ _ _))))))))) _) (.drop [_,_,_,_,_,_] _ _)) ⟨rfl,by rw [yel he eG,hn,he];rfl⟩
set_option maxHeartbeats 8000000 in
theorem yh8 (h:Hist) (la:Lim 4611686018427387904 h) (s:Int):x3 Tryz.prog 24 [.agg (x4 h),iv s] (.glob 0 117 x5:: .glob 3 148 y7:: .glob 5 276 y9:: .glob 6 279 y4:: .glob 2 197 v7:: []) (fun r h'=>h'= .glob 0 117 x5:: .glob 3 148 y7:: .glob 5 276 y9:: .glob 6 279 y4:: .glob 2 197 v7:: []∧r= .tup [iv (haO h s),iv (zdw h s)]):=by
 refine z6 Tryz.func24 rfl rfl rfl ?_
 refine rn ?_;refine z7 rfl (w6 rfl rfl rfl fun b2=> ?_)
 refine rn ?_;refine qv rfl rfl (y6 rfl rfl (y3.qt (y3.of_fun (zvx h la s)) ((pt2 _ _ _ _).trans (.cons _ ((pt2 _ _ _ _).trans (.cons _ ((pt2 _ _ _ _).trans (.cons _ (pt2 _ _ _ _))))))))) ?_
 refine rn ?_;refine z8 rfl (fun hc19=> ?_) (fun hc19=> ?_)
 ·have he:zdw h s≠0:=nzT hc19
  refine rn ?_;exact zbo rfl rfl (.drop [_] _ _) ⟨rfl,by rw [haO,if_neg he];rfl⟩
 ·have hl0:zdw h s=0:=nzF hc19
  have hB:=zs1 (zbe.2 (yb6 hl0).1) s
  rw [zq8 hl0]
  refine rn ?_;refine zer 4 (fun _ (_:List Nat)=>True) (fun k dfs=>⟨[(22,iv (k:Nat)),(8,iv (haK h s k)),(6,zd6 (zaa h s)),(21,.agg x5)],.box b2 28 (x4 h):: .glob 0 117 x5:: .glob 3 148 y7:: .glob 5 276 y9:: .glob 6 279 y4:: .glob 2 197 v7::(dfs.map Res.defs),dfs⟩) [] trivial es ?_
  intro k dfs lk _
  refine rn ?_;refine z8 rfl (fun hc23=> ?_) (fun hc23=> ?_)
  ·have hk:k < 4:=by have q:=oT hc23;omega
   refine zab ?_;refine j8 ?_;refine x9 ?_;refine zad ?_;refine x9 (y5 ?_)
   refine q1 ?_;refine qq rfl rfl (zfi (i:=k) (out:=zs9 k) rfl rfl hk (by show k * 3+3≤12;omega) (ygb hk)) ?_
   refine z7 rfl (x6 rfl fun b10=> ?_)
   refine rn ?_;refine z7 rfl (x6 rfl fun b11=> ?_)
   refine rn ?_;refine z7 rfl (w7 rfl rfl (y3.of_fun (ycl k (zaa h s) _)) rfl ?_)
   rintro _ _ ⟨bi,bl,rfl,rfl⟩
   refine rn ?_;refine zli (fun pend h''=>(pend=none∧(brW k (zaa h s) (zaa h s).length)= []∧h''= .box bl 101 [zd6 (zaa h s)]:: .box bi 3 [iv ((k:Nat):Int)]:: .glob 0 117 x5:: .box b11 4 [bv false]:: .box b10 116 (zs9 k):: .box b2 28 (x4 h):: .glob 3 148 y7:: .glob 5 276 y9:: .glob 6 279 y4:: .glob 2 197 v7::(dfs.map Res.defs))∨(pend=some (.exit 2)∧(brW k (zaa h s) (zaa h s).length)≠ []∧h''= .box bl 101 [zd6 (zaa h s)]:: .box bi 3 [iv ((k:Nat):Int)]:: .glob 0 117 x5:: .box b11 4 [bv true]:: .box b10 116 (zs9 k):: .box b2 28 (x4 h):: .glob 3 148 y7:: .glob 5 276 y9:: .glob 6 279 y4:: .glob 2 197 v7::(dfs.map Res.defs))) rfl (fun fn l q lp hlp=> ?_) (fun q h'' hK=> ?_) (fun q h'' cc hK=> ?_)
   ·suffices hy:∀pre d rest (x:Unit),(brW k (zaa h s) (zaa h s).length)=pre++d::rest→pre= []→y3 Tryz.prog (yv l) [.agg (zc6 d)] (.box bl 101 [zd6 (zaa h s)]:: .box bi 3 [iv ((k:Nat):Int)]:: .glob 0 117 x5::lp .ready none:: .defs q:: .box b11 4 [bv false]:: .box b10 116 (zs9 k):: .box b2 28 (x4 h):: .glob 3 148 y7:: .glob 5 276 y9:: .glob 6 279 y4:: .glob 2 197 v7::(dfs.map Res.defs)) (fun r h'=>∃x':Unit,(r=bv true∧pre++ [d]= []∧h'= .box bl 101 [zd6 (zaa h s)]:: .box bi 3 [iv ((k:Nat):Int)]:: .glob 0 117 x5::lp .ready none:: .defs q:: .box b11 4 [bv false]:: .box b10 116 (zs9 k):: .box b2 28 (x4 h):: .glob 3 148 y7:: .glob 5 276 y9:: .glob 6 279 y4:: .glob 2 197 v7::(dfs.map Res.defs))∨(r=bv false∧(brW k (zaa h s) (zaa h s).length)≠ []∧h'= .box bl 101 [zd6 (zaa h s)]:: .box bi 3 [iv ((k:Nat):Int)]:: .glob 0 117 x5::lp .done (some (.exit 2)):: .defs q:: .box b11 4 [bv true]:: .box b10 116 (zs9 k):: .box b2 28 (x4 h):: .glob 3 148 y7:: .glob 5 276 y9:: .glob 6 279 y4:: .glob 2 197 v7::(dfs.map Res.defs))) by
     refine x3.mono (x3.perm ((pt2 _ _ _ _).trans (.cons _ ((pt2 _ _ _ _).trans (.cons _ (pt5 _ _ _ _ _ _ _))))) (yck k hk (zaa h s) (by omega) (fun d hd=>zxq ⟨Nat.le_trans (hB.2 d hd).1 (by decide),Nat.le_trans (hB.2 d hd).2 (by decide)⟩) (fun d hd=>zsj ⟨Nat.le_trans (hB.2 d hd).1 (by decide),Nat.le_trans (hB.2 d hd).2 (by decide)⟩) (yv l) rfl bi bl (fun pre _=>pre= []) (fun _=>(brW k (zaa h s) (zaa h s).length)≠ []) (fun _ _=>lp .ready none:: .defs q:: .box b11 4 [bv false]:: .box b10 116 (zs9 k):: .box b2 28 (x4 h):: .glob 3 148 y7:: .glob 5 276 y9:: .glob 6 279 y4:: .glob 2 197 v7::(dfs.map Res.defs)) (fun _=>lp .done (some (.exit 2)):: .defs q:: .box b11 4 [bv true]:: .box b10 116 (zs9 k):: .box b2 28 (x4 h):: .glob 3 148 y7:: .glob 5 276 y9:: .glob 6 279 y4:: .glob 2 197 v7::(dfs.map Res.defs)) () rfl hy)) ?_
     rintro _ _ ⟨x,⟨hn,rfl⟩|⟨hn,rfl⟩⟩
     ·exact ⟨none,.ready,_,((pt3 _ _ _ _ _).trans (.cons _ (pt3 _ _ _ _ _))),by simp,.inl ⟨rfl,hn,rfl⟩⟩
     ·exact ⟨some (.exit 2),.done,_,((pt3 _ _ _ _ _).trans (.cons _ (pt3 _ _ _ _ _))),by simp,.inr ⟨rfl,hn,rfl⟩⟩
    intro pre d rest x hL hpre
    refine y3.perm (pt3 _ _ _ _ _) (y3.ventE ?_)
    refine zdn hlp rfl rfl ?_
    refine rn ?_;refine ⟨[(11,pZ b11)],.box bl 101 [zd6 (zaa h s)]:: .box bi 3 [iv ((k:Nat):Int)]:: .glob 0 117 x5:: .defs q:: .box b11 4 [bv false]:: .box b10 116 (zs9 k):: .box b2 28 (x4 h):: .glob 3 148 y7:: .glob 5 276 y9:: .glob 6 279 y4:: .glob 2 197 v7::(dfs.map Res.defs),es,?_⟩
    refine rn ?_;exact zj7 (.refl _) ⟨_,_,.perm ((pt1 _ _ _).trans (.cons _ ((pt1 _ _ _).trans (.cons _ (pt1 _ _ _))))) _,(),.inr ⟨rfl,by rw [zsw hL hpre];exact List.cons_ne_nil _ _,rfl⟩⟩
   ·obtain ⟨_,hn,rfl⟩|⟨hc',_⟩:=hK
    rotate_left
    ·cases hc'
    refine rn ?_;refine z8 rfl (fun hc31=> ?_) (fun hc31=> ?_)
    ·refine rn ?_;exact ⟨hk,q::dfs,trivial,by rw [haK,if_pos hn];exact w9 (zak ((List.Perm.cons _ (.cons _ (.cons _ ((pt1 _ _ _).trans (.cons _ ((pt1 _ _ _).trans (.cons _ (pt1 _ _ _)))))))).trans (zhi _ [_,_,_,_,_,_,_,_,_,_] [] _))) (w9 (zbd (h1:= [_,_,_,_])) es)⟩
    ·refine rn ?_;exact absurd hc31 (by decide)
   ·obtain ⟨hc',_⟩|⟨hc',hn,rfl⟩:=hK
    ·cases hc'
    obtain rfl:cc= .exit 2:=by simpa using hc'
    refine rn ?_;refine z8 rfl (fun hc31=> ?_) (fun hc31=> ?_)
    ·refine rn ?_;exact absurd hc31 (by decide)
    ·refine rn ?_;exact ⟨hk,q::dfs,trivial,by rw [haK,if_neg hn];exact w9 (zak ((List.Perm.cons _ (.cons _ (.cons _ ((pt1 _ _ _).trans (.cons _ ((pt1 _ _ _).trans (.cons _ (pt1 _ _ _)))))))).trans (zhi _ [_,_,_,_,_,_,_,_,_,_] [] _))) (w9 (zbd (h1:= [_,_,_,_])) es)⟩
  ·have qk:k=4:=by have q:=oF hc23;omega
   subst qk
   refine rn ?_;exact zgk (List.perm_append_comm (l₁:= [_,_,_,_,_,_]) (l₂:=(dfs.map Res.defs))) (.cons _ _ _ _ (.tmp _ _ rfl) (.cons _ _ _ _ (.tmp _ _ rfl) .nil)) (.drop [_] _ _) ⟨rfl,by rw [haO,if_pos hl0,hl0];rfl⟩
instance:EqInts Tryz.prog 81 3:=⟨by kernel_rfl,fun w xs ys h1 h2=>match xs,ys,h1,h2 with
 | [a0,a1,a2],[c0,c1,c2],_,_=>by
   rw [run_equalIn_struct w 9999 81 _ _ (by kernel_rfl) (by kernel_rfl)]
   simp only [Program.fieldsOf,Tryz.underlying81]
   simp [Op.eqFields,part,run_equalIn_int _ 9998 3 .i64 .i64 _ _ Tryz.underlying3]
   by_cases h0:a0=c0
   case neg=>simp [h0]
   subst h0
   by_cases h1:a1=c1
   case neg=>simp [h1]
   subst h1
   by_cases h2:a2=c2
   case neg=>simp [h2]
   subst h2
   simp⟩
def yjs (L:List Dos) (t:Int):Int:=zbl (fun d:Dos=>d.t==t) 0 L
def isO (h:Hist) (s:Int) (z:Brch):Bool:=
 if zlj h s z.g=0 then
  (if yjs (zaa h s) z.e < 0∨yjs (zaa h s) z.l≤yjs (zaa h s) z.e then false
   else (match (zaa h s)[(yjs (zaa h s) z.e).toNat]?,(zaa h s)[(yjs (zaa h s) z.l).toNat]? with|some e,some l=>decide (z∈zif (zne z.g).toNat e l)|_,_=>false))
 else false
def yig (h:Hist) (x:Int) (v:Ver):Int×Bool:=if zih h x h.os.length=0 then (if v=⟨0,0⟩ then (0,true) else (yif h x v+1,decide (yif h x v ≥ 0))) else (0,false)
def kdR (rd:Bool):Int:=bif rd then 3 else 2
def rdA (g:Int):Bool:=g==2||g==8
def rdB (g:Int):Bool:=g==1||g==2
def ynx (h:Hist) (t kd x:Int) (k:Nat):List Acc:=(zk4 h t kd k).filter fun a=>a.o==x
def hF (g t1 t2 x:Int) (a b:Acc):Option Brch:=if b.r < a.r then some ⟨g,t1,t2,x,a.a,b.a⟩ else none
def bG (h:Hist) (g t1 t2 x:Int) (i:Nat):List Brch:=(ynx h t1 (kdR (rdA g)) x i).flatMap fun a=>(ynx h t2 (kdR (rdB g)) x h.evs.length).filterMap (hF g t1 t2 x a)
def yop (h:Hist) (g t1 t2:Int) (k:Nat):List Brch:=(upR k).flatMap fun x=>bG h g t1 t2 x h.evs.length
def eR (h:Hist) (g:Int) (l:List Int) (t2:Int) (i:Nat):List Brch:=(l.take i).flatMap fun t1=>yop h g t1 t2 h.os.length
abbrev ydb (l:List Brch):AV:= .list false 6 (l.map zc6)
def isG (g:Int):Bool:=g==1||g==2||g==4||g==8
def nmR (n:NV) (h:Hist) (L:List Res):List Res:= .row n.vT.v 1 9 (h.ts.map za7):: .row n.vS.v 1 9 (h.ss.map za7):: .row n.vO.v 1 9 (h.os.map za7):: .row n.vP.v 1 9 (h.ps.map za7)::L
def ygi (e:Ev):List AV:= [iv e.kind,iv e.t,iv e.s,iv e.l,iv e.o,iv e.v.t,iv e.v.k,iv e.p,.v (.slice none 0 0)]
theorem ygl {α:Type} [DecidableEq α] {l m:List α} {k:Nat} (h1:k < l.length) (h2:k < m.length) (h:l.take k=m.take k) (e:l[k]=m[k]):l.take (k+1)=m.take (k+1):=by
 rw [List.take_succ_eq_append_getElem h1,List.take_succ_eq_append_getElem h2,h,e]
theorem ymp {α:Type} {l m:List α} {k:Nat} (h1:k < l.length) (h2:k < m.length) (e:l[k]≠m[k]):l≠m:=fun q=>e (by subst q;rfl)
theorem ygm {a b:Nat} (h:((a:Int) !=(b:Int))=false):a=b:=Int.ofNat.inj (by simpa using h)
theorem yge (h:Hist) (t:Int) {k:Nat} (hk:k < 4):zc3 k (zrm h t)=zn1 h.os.length (znx h t (kdA (zdz k))):=by
 rcases (by omega:k=0∨k=1∨k=2∨k=3) with rfl|rfl|rfl|rfl <;> rfl
theorem yea (h:Hist) (t:Int) {k:Nat} (hk:k < 4):zgb k (zrm h t)=zn1 h.os.length (znx h t (kdB (zdz k))):=by
 rcases (by omega:k=0∨k=1∨k=2∨k=3) with rfl|rfl|rfl|rfl <;> rfl
theorem ygt (h:Hist) (t1 t2:Int) {k:Nat} (hk:k < 4):zif k (zrm h t1) (zrm h t2)=ykx h.os.length (zdz k) t1 t2 (znx h t1 (kdA (zdz k))) (znx h t2 (kdB (zdz k))):=by
 rw [zif,yge h t1 hk,yea h t2 hk];rfl
theorem zyd (h:Hist) (s:Int) {k:Nat} (hk:k < 4):∀j,brW k (zaa h s) j=brL h.os.length (zdz k) (zxz h s (zdz k)) j
 |0=>rfl
 |j+1=>by
  rw [brW,brL,zyd h s hk j,zaa,zxz,List.getElem?_map,List.getElem?_map]
  cases (zen h.evs s)[j]? with
  |none=>rfl
  |some t2=>
   simp only [Option.map_some]
   rw [←List.map_take,←List.map_take,List.filterMap_map,List.filterMap_map]
   congr 1
   refine znh fun t1 _=> ?_
   simp only [Function.comp,hdW]
   rw [ygt h t1 t2 hk];rfl
theorem znp (h:Hist) (s:Int) {k:Nat} (hk:k < 4):brW k (zaa h s) (zaa h s).length=brS h s (zdz k):=by
 rw [zyd h s hk,brS,zaa,zxz,oM,oM]
theorem yf1 {h:Hist} {s:Int} (hl:zdw h s=0):haO h s=zk6 h s:=by
 rw [haO,if_pos hl]
 simp only [haK,zk6,List.foldl_cons,List.foldl_nil]
 rw [znp h s (by decide:0 < 4),znp h s (by decide:1 < 4),znp h s (by decide:2 < 4),znp h s (by decide:3 < 4)]
 simp only [show zdz 0=1 from rfl,show zdz 1=2 from rfl,show zdz 2=4 from rfl,show zdz 3=8 from rfl]
 by_cases h1:brS h s 1= [] <;> by_cases h2:brS h s 2= [] <;> by_cases h3:brS h s 4= [] <;> by_cases h4:brS h s 8= [] <;> simp only [h1,h2,h3,h4,if_true,if_false,↓reduceIte] <;> decide
theorem zm8 {n m:Int}:isB n m=true ↔ 0≤n∧n < m:=by unfold isB;simp
theorem zwx {h:Hist} (hc:q8 h=0) {s:Int} (hb:isB s h.ss.length=true):zdw h s=0:=zyj hc (zm8.1 hb)
theorem yj7 {g:Int}:zne g < 0 ↔ isG g=false:=by
 unfold zne isG
 by_cases h1:g=1
 ·subst h1;decide
 by_cases h2:g=2
 ·subst h2;decide
 by_cases h3:g=4
 ·subst h3;decide
 by_cases h4:g=8
 ·subst h4;decide
 simp [h1,h2,h3,h4]
theorem yk4 {h:Hist} (hc:q8 h=0) {s:Int} (hb:isB s h.ss.length=true) {g:Int} (hg:isG g=true):zlj h s g=0:=(zii (zwx hc hb) fun q=>by rw [yj7.1 q] at hg;cases hg).1
end Go.Proofs
namespace Go.Ab
open Go
section
variable {P:Program} {h:List Res} {f:Operand→Option AV} {dst:Option Tmp} {ty:TypeId} {pos:String} {after:Array Edge} {guard:Option (Nat×Bool)} {x:Operand}
theorem ycp {T T':TypeId} {k:IntKind} {a b c:Int} {y:Operand} (hx:f x=some (.v (.int k a))) (hy:f y=some (.v (.int k b))) (hb:b≠0) (hc:a.tmod b=c):
 QR P h f ⟨dst,.binOp .rem T x y T',ty,pos,after,guard⟩ (.v (.int k c)):=fun X ρ w he=>by
 refine ⟨_,run_v _ ?_,.v _⟩
 rw [(he.rel x _ hx).v_eq,(he.rel y _ hy).v_eq,zdt]
 simp [binOp,Op.intDiv,hb,hc]
end
end Go.Ab
set_option maxRecDepth 10000
namespace Go.Proofs
open Go Go.Ab
attribute [local irreducible] QR QV OE zcc aw zco za8 zav zah thn zez zdl jch zeb
open Go.H
theorem take_min {α β:Type} {f:α→β} (l:List α) (n:Nat):(l.map f).take (min (l.map f).length n)=(l.take n).map f:=by
 rw [←List.map_take,oM]
 congr 1
 by_cases h:l.length≤n
 ·rw [Nat.min_eq_left h,List.take_length,List.take_of_length_le h]
 ·rw [Nat.min_eq_right (by omega)]
theorem yh5:∀{k:Nat},k < 4→zlz .shl .i64 1 (k:Nat)=some (zdz k)
 |0,_=>rfl
 |1,_=>rfl
 |2,_=>rfl
 |3,_=>rfl
end Go.Proofs
