/- The walks of the reference's Committed, Begun, Line, Installed, Next, Rank. Conditions: none. -/
import Derived.Test.YtcaijocpofcbdaaGreatDoorSHaJ
set_option linter.unusedSectionVars false
set_option linter.unusedSimpArgs false
set_option linter.unusedVariables false
set_option maxRecDepth 10000
namespace Go.Proofs
open Go Go.Ab
attribute [local irreducible] QR QV OE zcw aw zdx zcv zb3 za2 thn zgt zeq jch zf2
open Go.H
theorem yqf {α β:Type} {l:List α} {q:α→Bool} {f:α→β} {k:Nat} (hk:k < l.length) (h:q l[k]=true):((l.take (k+1)).filter q).map f=((l.take k).filter q).map f++ [f l[k]]:=by
 rw [List.take_succ_eq_append_getElem hk,List.filter_append,List.filter_cons_of_pos h,List.map_append];rfl
theorem yqg {α β:Type} {l:List α} {q:α→Bool} {f:α→β} {k:Nat} (hk:k < l.length) (h:q l[k]=false):((l.take (k+1)).filter q).map f=((l.take k).filter q).map f:=by
 rw [List.take_succ_eq_append_getElem hk,List.filter_append,List.filter_cons_of_neg (by rw [h];decide)];simp
theorem ylh {α β:Type} (l:List α) (q:α→Bool) (f:α→β) (k:Nat):(((l.take k).filter q).map f).length≤l.length:=by
 rw [List.length_map];exact Nat.le_trans (List.length_filter_le _ _) (by rw [List.length_take];omega)
theorem yfi {h:Hist} {x:Int} {k:Nat} (hk:k < h.ords.length) (hx:(h.ords[k].o==x)=true) (hz:((h.ords.take k).all fun o:Ord=> !(o.o==x))=true):zkt h x=h.ords[k].ts:=by
 have:h.ords.find? (fun o=>o.o==x)=some h.ords[k]:=by
  rw [List.find?_eq_some_iff_getElem]
  exact ⟨hx,k,hk,rfl,fun j hj=>by have:=List.all_eq_true.1 hz h.ords[j] (zil (by omega) hj);exact this⟩
 rw [zkt,this]
theorem yk3 {h:Hist} {x:Int} (hz:(h.ords.all fun o:Ord=> !(o.o==x))=true):zkt h x=za0 h x:=by
 have:h.ords.find? (fun o=>o.o==x)=none:=by
  rw [List.find?_eq_none];intro s hs q
  have:=List.all_eq_true.1 hz s hs
  rw [q] at this;cases this
 rw [zkt,this]
theorem yk4 {h:Hist} {N:Nat} (la:Lim N h) (x:Int):(zkt h x).length≤N:=by
 unfold zkt
 split
 ·rename_i o ho;exact la.ordts o (List.mem_of_find?_eq_some ho)
 ·exact Nat.le_trans (zf7 _ _) la.ts
def rkQ (h:Hist) (x:Int) (v:Ver) (t:Int):Bool:=yie (zv4 h.evs t x)==v
def zoz (h:Hist) (x:Int) (v:Ver):Int×Bool:=if v=⟨0,0⟩ then (0,true) else if zbh (rkQ h x v) 0 (zkt h x) ≥ 0 then (zbh (rkQ h x v) 0 (zkt h x)+1,true) else (0,false)
theorem ym1 {h:Hist} {x:Int} {v:Ver} {k:Nat} (hv:v≠⟨0,0⟩) (hk:k < (zkt h x).length) (hq:rkQ h x v (zkt h x)[k]=true) (hz:(((zkt h x).take k).all fun t=> !rkQ h x v t)=true):zoz h x v=((k:Int)+1,true):=by
 have:zbh (rkQ h x v) 0 (zkt h x)=(k:Int):=by
  have:=ybk (p:=rkQ h x v) (l:=zkt h x) (i:=0) hk hq (fun j hj=>by
   have:=List.all_eq_true.1 hz (zkt h x)[j] (zil (by omega) hj)
   simpa using this)
  rw [this];congr 1;omega
 rw [zoz,if_neg hv,this,if_pos (by omega)]
theorem yq0 {h:Hist} {x:Int} {v:Ver} (hv:v≠⟨0,0⟩) (hz:((zkt h x).all fun t=> !rkQ h x v t)=true):zoz h x v=(0,false):=by
 have:decide (zbh (rkQ h x v) 0 (zkt h x) ≥ 0)=false:=by
  rw [zeh,List.any_eq_false];intro t ht
  have:=List.all_eq_true.1 hz t ht
  simpa using this
 rw [zoz,if_neg hv,if_neg (of_decide_eq_false this)]
theorem zzg (h:Hist) (la:Lim 1000000 h) (n:Int):x4 Tryz.prog 60 [.agg (x5 h),iv n] [] (fun r h'=>h'= []∧r=zb8 (zaw h.evs n)):=by
 refine z6 Tryz.func60 rfl rfl rfl ?_
 have be:=la.evs
 refine rn ?_;refine z8 rfl (x9 rfl rfl rfl fun b2=> ?_)
 refine rn ?_;refine ze0 h.evs.length (fun k s=>⟨[(11,iv k),(5,.v s.v),(1,iv n),(2,pZ b2),(9,zm4 h.evs),(10,iv (h.evs.map evR).length)],.row s.v 1 3 ((((h.evs.take k).filter (fun e:Ev=>e.kind==1 && (e.s==n && zrq h.evs e.t 5))).map Ev.t).map zad):: .box b2 28 (x5 h):: [],[]⟩) ⟨none,0,0⟩ (v6 (zar 1 3) es) ?_
 intro k s lk
 refine rn ?_;refine z7 rfl (fun hc12=> ?_) (fun hc12=> ?_)
 ·have hk:=zao hc12
  have rk:=zac (f:=evR) hk
  refine rn ?_;refine z8 rfl (y6 rfl fun b7=> ?_)
  refine rn ?_;refine y9 (fun hg5_3=> ?_) (fun hg5_3=> ?_)
  ·refine rn ?_;refine y9 (fun hg5_9=> ?_) (fun hg5_9=> ?_)
   ·refine rn ?_;refine qv rfl rfl (y4 rfl rfl (v7 (zzk h h.evs[k].t (la.mono (by decide))) (Sbs.refl _))) ?_
    refine rn ?_;refine z7 rfl (fun hc29=> ?_) (fun hc29=> ?_)
    ·refine rn ?_;refine qv rfl rfl (q9 rfl rfl) ?_
     refine z8 rfl (j7 rfl rfl (by rw [List.length_map];simp only [List.length_cons,List.length_nil];have:=ylh h.evs (fun e:Ev=>e.kind==1 && (e.s==n && zrq h.evs e.t 5)) Ev.t k;omega) rfl (fun s34=> ?_) (zju [h.evs[k].t]))
     refine zaj s34 fun sv hsv=> ?_
     subst hsv
     refine rn ?_;first|exact ⟨hk,sv,by rw [yqf hk (by first|(rw [hg5_3,hg5_9,hc29];rfl)|(rw [hg5_3,hg5_9];rfl)|(rw [hg5_3];rfl)),List.map_append];exact eA⟩|exact ⟨hk,s,by rw [yqg hk (by first|(rw [hg5_3,hg5_9,hc29];rfl)|(rw [hg5_3,hg5_9];rfl)|(rw [hg5_3];rfl))];exact eA⟩
    ·refine rn ?_;first|exact ⟨hk,sv,by rw [yqf hk (by first|(rw [hg5_3,hg5_9,hc29];rfl)|(rw [hg5_3,hg5_9];rfl)|(rw [hg5_3];rfl)),List.map_append];exact eA⟩|exact ⟨hk,s,by rw [yqg hk (by first|(rw [hg5_3,hg5_9,hc29];rfl)|(rw [hg5_3,hg5_9];rfl)|(rw [hg5_3];rfl))];exact eA⟩
   ·refine rn ?_;refine ze2 rfl ?_;refine rn ?_;first|exact ⟨hk,sv,by rw [yqf hk (by first|(rw [hg5_3,hg5_9,hc29];rfl)|(rw [hg5_3,hg5_9];rfl)|(rw [hg5_3];rfl)),List.map_append];exact eA⟩|exact ⟨hk,s,by rw [yqg hk (by first|(rw [hg5_3,hg5_9,hc29];rfl)|(rw [hg5_3,hg5_9];rfl)|(rw [hg5_3];rfl))];exact eA⟩
  ·refine rn ?_;refine ze2 rfl ?_;refine rn ?_;first|exact ⟨hk,sv,by rw [yqf hk (by first|(rw [hg5_3,hg5_9,hc29];rfl)|(rw [hg5_3,hg5_9];rfl)|(rw [hg5_3];rfl)),List.map_append];exact eA⟩|exact ⟨hk,s,by rw [yqg hk (by first|(rw [hg5_3,hg5_9,hc29];rfl)|(rw [hg5_3,hg5_9];rfl)|(rw [hg5_3];rfl))];exact eA⟩
 ·have qk:=zap hc12 lk
  refine rn ?_;exact u9 rfl (.trans zd3 (.drop [_] _ _)) ⟨rfl,by rw [qk,List.take_length];rfl⟩
theorem zzi (h:Hist) (la:Lim 1000000 h) (x:Int):x4 Tryz.prog 195 [.agg (x5 h),iv x] [] (fun r h'=>h'= []∧r=zb8 (zkt h x)):=by
 refine z6 Tryz.func195 rfl rfl rfl ?_
 have bo:=la.ords
 refine rn ?_;refine z8 rfl (x9 rfl rfl rfl fun b2=> ?_)
 refine rn ?_;refine zbp (h.ords.length) (fun k:Nat=>((h.ords.take k).all fun o:Ord=> !(o.o==x))=true) (fun k=> [(10,iv k)]) [(1,_),(2,_),(8,_),(9,_)] rfl ?_
 intro k lk zk
 refine rn ?_;refine z7 rfl (fun hc11=> ?_) (fun hc11=> ?_)
 ·have hk:=zao hc11
  have rk:=zac (f:=zdk) hk
  refine rn ?_;refine z8 rfl (y6 rfl fun b6=> ?_)
  refine rn ?_;refine z7 rfl (fun hc17=> ?_) (fun hc17=> ?_)
  ·refine rn ?_;refine rq 2 ?_
   exact ⟨rfl,by rw [yfi hk hc17 zk];rfl⟩
  ·refine rn ?_;exact ⟨hk,by rw [zwf hk,zk,hc17];rfl,eA⟩
 ·have qk:=zap hc11 lk
  rw [qk,List.take_length] at zk
  refine rn ?_;refine qv rfl rfl (y4 rfl rfl (v7 (zhp h x la) (Sbs.refl _))) ?_
  refine rn ?_;refine rq 1 ?_
  exact ⟨rfl,by rw [yk3 zk];rfl⟩
theorem zqy (h:Hist) (la:Lim 1000000 h) (x:Int) (v:Ver):x4 Tryz.prog 155 [.agg (x5 h),iv x,.agg (ydc v)] [] (fun r h'=>h'= []∧r= .tup [iv (zoz h x v).1,bv (zoz h x v).2]):=by
 refine z6 Tryz.func155 rfl rfl rfl ?_
 have be:=la.evs
 have bi:=yk4 la x
 refine rn ?_;refine z8 rfl (x9 rfl rfl rfl fun b3=> ?_)
 refine z8 rfl (x9 rfl rfl rfl fun b5=> ?_)
 refine q1 ?_;refine q1 ?_;refine u5 (k8 ?_)
 refine x8 ?_;refine x8 (y5 ?_)
 refine q1 ?_;refine qq rfl rfl (zai (out:= [iv 0,iv 0]) rfl (by rfl)) ?_
 refine rn ?_;refine z7 rfl (fun hc15=> ?_) (fun hc15=> ?_)
 ·have hv:v=⟨0,0⟩:=eq_of_beq (by rw [←zcg];exact hc15)
  refine rn ?_;refine rq 2 ?_
  exact ⟨rfl,by rw [zoz,if_pos hv];rfl⟩
 ·have hv:v≠⟨0,0⟩:=beq_eq_false_iff_ne.1 (by rw [←zcg];exact hc15)
  refine rn ?_;refine qv rfl rfl (y4 rfl rfl (v7 (zzi h la x) (Sbs.refl _))) ?_
  refine rn ?_;refine zbp ((zkt h x).length) (fun k:Nat=>(((zkt h x).take k).all fun t=> !rkQ h x v t)=true) (fun k=> [(20,iv k)]) [(1,_),(3,_),(5,_),(18,_),(19,_)] rfl ?_
  intro k lk zk
  refine rn ?_;refine z7 rfl (fun hc21=> ?_) (fun hc21=> ?_)
  ·have hk:=zao hc21
   have rk:=zac (f:=zad) hk
   refine rn ?_;refine qv rfl rfl (y4 rfl rfl (v7 (zw2 h la.evs (zkt h x)[k] x) (Sbs.refl _))) ?_
   refine rn ?_;refine z8 rfl (y6 rfl fun b10=> ?_)
   refine rn ?_;refine z7 rfl (fun hc35=> ?_) (fun hc35=> ?_)
   ·have hq:(yie (zv4 h.evs (zkt h x)[k] x)==v)=true:=by rw [←zcg];exact hc35
    refine x8 (y5 ?_)
    refine q1 ?_;refine qq rfl rfl (k9 rfl rfl rfl (by omega)) ?_
    refine rn ?_;refine rq 3 ?_
    exact ⟨rfl,by rw [ym1 hv hk hq zk];rfl⟩
   ·have hq:(yie (zv4 h.evs (zkt h x)[k] x)==v)=false:=by rw [←zcg];exact hc35
    refine rn ?_;exact ⟨hk,by rw [zwf hk,zk,rkQ,hq];rfl,eA⟩
  ·have qk:=zap hc21 lk
   rw [qk,List.take_length] at zk
   refine rn ?_;refine rq 2 ?_
   exact ⟨rfl,by rw [yq0 hv zk];rfl⟩
theorem zqv {h:Hist} (hc:j5 h=0) {x:Int} (h0:0≤x) (h1:x < h.os.length) (v:Ver):zoz h x v=((zvd h x v).getD 0,(zvd h x v).isSome):=by
 have hs:=zdy.1 hc
 rw [zvd,zza hs v h0 h1 _ (Nat.le_refl _) h1,zoz,←yhf hs h0 h1]
 by_cases hv:v=⟨0,0⟩
 ·rw [if_pos hv,if_pos hv];rfl
 ·rw [if_neg hv,if_neg hv]
  have e:zbh (rkQ h x v) 0 (zf5 h x)=zs6 h x v:=rfl
  rw [e]
  by_cases q:zs6 h x v ≥ 0
  ·rw [if_pos q,if_pos q];rfl
  ·rw [if_neg q,if_neg q];rfl
def kdR (rd:Bool):Int:=bif rd then 3 else 2
def ze5 (h:Hist) (x:Int) (rd:Bool) (e:Ev):Option Int:=if e.o=x∧e.kind=kdR rd then zvd h x e.v else none
theorem zm0 {h:Hist} {x:Int} {rd:Bool} {e:Ev} (hn:¬(e.o=x∧e.kind=kdR rd)):ze5 h x rd e=none:=if_neg hn
theorem zue {h:Hist} {x:Int} {rd:Bool} {e:Ev} (hy:e.o=x∧e.kind=kdR rd):ze5 h x rd e=zvd h x e.v:=if_pos hy
def rdA (g:Int):Bool:=g==2||g==8
def rdB (g:Int):Bool:=g==1||g==2
theorem yoi (g:Int):kdA g=kdR (rdA g):=by
 unfold kdA kdR rdA
 by_cases h1:g=2
 ·subst h1;rfl
 ·by_cases h2:g=8
  ·subst h2;rfl
  ·have e1:(g==2)=false:=by simpa using h1
   have e2:(g==8)=false:=by simpa using h2
   rw [if_neg (by omega),e1,e2];rfl
theorem yoh (g:Int):kdB g=kdR (rdB g):=by
 unfold kdB kdR rdB
 by_cases h1:g=1
 ·subst h1;rfl
 ·by_cases h2:g=2
  ·subst h2;rfl
  ·have e1:(g==1)=false:=by simpa using h1
   have e2:(g==2)=false:=by simpa using h2
   rw [if_neg (by omega),e1,e2];rfl
theorem yde {a b c d:Bool} (h1:a=c) (h2:b=d):zex [bv a,bv b]= .tup [bv c,bv d]:=by rw [h1,h2];rfl
def zx7 (h:Hist) (t kd x:Int) (k:Nat):List Acc:=(zp5 h t kd k).filter fun a=>a.o==x
theorem ycs {h:Hist} {t x:Int} {rd:Bool} {k:Nat} {r:Int} (hk:k < h.evs.length) (ht:h.evs[k].t=t) (hr:ze5 h x rd h.evs[k]=some r):zx7 h t (kdR rd) x (k+1)=zx7 h t (kdR rd) x k++ [⟨x,r,k⟩]:=by
 rw [ze5] at hr
 split at hr
 ·rename_i q
  rw [zx7,zie hk,List.filter_append,yct ht q.2 (by rw [q.1];exact hr),q.1]
  simp [zx7]
 ·cases hr
theorem yh2 {h:Hist} {t x:Int} {rd:Bool} {k:Nat} (hk:k < h.evs.length) (hn:h.evs[k].t≠t∨ze5 h x rd h.evs[k]=none):zx7 h t (kdR rd) x (k+1)=zx7 h t (kdR rd) x k:=by
 have:(zm5 h t (kdR rd) k h.evs[k]).filter (fun a=>a.o==x)= []:=by
  rw [List.filter_eq_nil_iff]
  intro a ha hx
  obtain ⟨e1,e2,e3,e4,e5⟩:=zwk ha
  have hx:a.o=x:=by simpa using hx
  rcases hn with hn|hn
  ·exact hn e1
  ·rw [zue ⟨by rw [←e3,hx],e2⟩,←hx,e3,e5] at hn;cases hn
 rw [zx7,zie hk,List.filter_append,this,List.append_nil];rfl
def hF (g t1 t2 x:Int) (a b:Acc):Option Brch:=if b.r < a.r then some ⟨g,t1,t2,x,a.a,b.a⟩ else none
def bG (h:Hist) (g t1 t2 x:Int) (i:Nat):List Brch:=(zx7 h t1 (kdR (rdA g)) x i).flatMap fun a=>(zx7 h t2 (kdR (rdB g)) x h.evs.length).filterMap (hF g t1 t2 x a)
def zsk (h:Hist) (g t1 t2:Int) (k:Nat):List Brch:=(upR k).flatMap fun x=>bG h g t1 t2 x h.evs.length
theorem yps (h:Hist) (g t1 t2:Int) (k:Nat):zsk h g t1 t2 (k+1)=zsk h g t1 t2 k++bG h g t1 t2 k h.evs.length:=by
 rw [zsk,zyh,List.flatMap_append];simp [zsk]
theorem ytj {h:Hist} {g t1 t2 x r:Int} {i:Nat} (hi:i < h.evs.length) (ht:h.evs[i].t=t1) (hr:ze5 h x (rdA g) h.evs[i]=some r):bG h g t1 t2 x (i+1)=bG h g t1 t2 x i++(zx7 h t2 (kdR (rdB g)) x h.evs.length).filterMap (hF g t1 t2 x ⟨x,r,i⟩):=by
 rw [bG,ycs hi ht hr,List.flatMap_append];simp [bG]
theorem ysp {h:Hist} {g t1 t2 x:Int} {i:Nat} (hi:i < h.evs.length) (hn:h.evs[i].t≠t1∨ze5 h x (rdA g) h.evs[i]=none):bG h g t1 t2 x (i+1)=bG h g t1 t2 x i:=by
 rw [bG,yh2 hi hn];rfl
def bJ (h:Hist) (g t1 t2 x:Int) (a:Acc) (j:Nat):List Brch:=(zx7 h t2 (kdR (rdB g)) x j).filterMap (hF g t1 t2 x a)
theorem yth {h:Hist} {g t1 t2 x r:Int} {a:Acc} {j:Nat} (hj:j < h.evs.length) (ht:h.evs[j].t=t2) (hr:ze5 h x (rdB g) h.evs[j]=some r) (hlt:r < a.r):bJ h g t1 t2 x a (j+1)=bJ h g t1 t2 x a j++ [⟨g,t1,t2,x,a.a,j⟩]:=by
 rw [bJ,ycs hj ht hr,List.filterMap_append];simp [bJ,hF,hlt]
theorem yti {h:Hist} {g t1 t2 x r:Int} {a:Acc} {j:Nat} (hj:j < h.evs.length) (ht:h.evs[j].t=t2) (hr:ze5 h x (rdB g) h.evs[j]=some r) (hlt:¬r < a.r):bJ h g t1 t2 x a (j+1)=bJ h g t1 t2 x a j:=by
 rw [bJ,ycs hj ht hr,List.filterMap_append];simp [bJ,hF,hlt]
theorem yso {h:Hist} {g t1 t2 x:Int} {a:Acc} {j:Nat} (hj:j < h.evs.length) (hn:h.evs[j].t≠t2∨ze5 h x (rdB g) h.evs[j]=none):bJ h g t1 t2 x a (j+1)=bJ h g t1 t2 x a j:=by
 rw [bJ,yh2 hj hn];rfl
theorem yf9 (h:Hist) (g t1 t2:Int):zsk h g t1 t2 h.os.length=ypq h.os.length g t1 t2 (zp4 h t1 (kdA g)) (zp4 h t2 (kdB g)):=by
 rw [zsk,ypq,yoi,yoh];rfl
theorem zpm {α β:Type} {f:α→List β} {c:Nat}:∀{l:List α},(∀a∈l,(f a).length≤c)→(l.flatMap f).length≤l.length * c
 | [],_=>by simp
 |a::l,h=>by
  have h1:=zpm (l:=l) fun x hx=>h x (by simp [hx])
  have h2:=h a (by simp)
  rw [List.flatMap_cons,List.length_append,List.length_cons,Nat.succ_mul];omega
theorem zp6 (h:Hist) (t kd x:Int) (k:Nat):(zx7 h t kd x k).length≤k:=Nat.le_trans (List.length_filter_le _ _) (zfd h t kd k)
theorem ypt (h:Hist) (g t1 t2 x:Int) (a:Acc) (j:Nat):(bJ h g t1 t2 x a j).length≤j:=Nat.le_trans (List.length_filterMap_le _ _) (zp6 _ _ _ _ _)
theorem yhu (h:Hist) (g t1 t2 x:Int) (i:Nat):(bG h g t1 t2 x i).length≤i * h.evs.length:=by
 refine Nat.le_trans (zpm (c:=h.evs.length) fun a _=>Nat.le_trans (List.length_filterMap_le _ _) (zp6 _ _ _ _ _)) ?_
 exact Nat.mul_le_mul_right _ (zp6 _ _ _ _ _)
theorem yf8 (h:Hist) (g t1 t2:Int) (k:Nat):(zsk h g t1 t2 k).length≤k * (h.evs.length * h.evs.length):=by
 refine Nat.le_trans (zpm (c:=h.evs.length * h.evs.length) fun x _=>yhu _ _ _ _ _ _) ?_
 rw [upR,List.length_map,List.length_range];exact Nat.le_refl _
theorem yhv {h:Hist} (hE:h.evs.length≤70) (hc:j5 h=0) {g t1 t2 x:Int} {k i j:Nat} {a:Acc} (hk:k≤h.os.length) (hi:i≤h.evs.length) (hj:j≤h.evs.length):(zsk h g t1 t2 k++bG h g t1 t2 x i++bJ h g t1 t2 x a j).length≤15000000:=by
 have lA:=zej hc
 have lO:=lA.os;have lE:=hE
 have e1:h.evs.length * h.evs.length≤70 * 70:=Nat.mul_le_mul lE lE
 have e2:k * (h.evs.length * h.evs.length)≤3000 * (70 * 70):=Nat.mul_le_mul (by omega) e1
 have e3:i * h.evs.length≤70 * 70:=Nat.mul_le_mul (by omega) lE
 have h1:=yf8 h g t1 t2 k
 have h2:=yhu h g t1 t2 x i
 have h3:=ypt h g t1 t2 x a j
 rw [List.length_append,List.length_append];omega
theorem ycc {h:Hist} (hE:h.evs.length≤70) (hc:j5 h=0) (g t1 t2:Int):(zsk h g t1 t2 h.os.length).length≤15000000:=by
 have:=yhv hE hc (g:=g) (t1:=t1) (t2:=t2) (x:=0) (a:=⟨0,0,0⟩) (k:=h.os.length) (i:=0) (j:=0) (Nat.le_refl _) (Nat.zero_le _) (Nat.zero_le _)
 rw [List.length_append,List.length_append] at this;omega
def eR (h:Hist) (g:Int) (l:List Int) (t2:Int) (i:Nat):List Brch:=(l.take i).flatMap fun t1=>zsk h g t1 t2 h.os.length
theorem ytg {h:Hist} {g:Int} {l:List Int} {t2:Int} {i:Nat} (hi:i < l.length):eR h g l t2 (i+1)=eR h g l t2 i++zsk h g l[i] t2 h.os.length:=by
 rw [eR,List.take_succ_eq_append_getElem hi,List.flatMap_append];simp [eR]
def eL (h:Hist) (g:Int) (l:List Int):Nat→List Brch
 |0=> []
 |k+1=>eL h g l k++(match l[k]? with|some t2=>eR h g (l.take k) t2 (l.take k).length|none=> [])
theorem ysm {h:Hist} {g:Int} {l:List Int} {k:Nat} (hk:k < l.length):eL h g l (k+1)=eL h g l k++eR h g (l.take k) l[k] (l.take k).length:=by rw [eL,List.getElem?_eq_getElem hk]
theorem ybq (h:Hist) (g:Int) (l:List Int):∀k,eL h g l k=zpp h.os.length g (l.map (doi h g)) k
 |0=>rfl
 |k+1=>by
  rw [eL,zpp,ybq h g l k,List.getElem?_map]
  cases l[k]? with
  |none=>rfl
  |some t2=>
   simp only [Option.map_some]
   rw [eR,List.take_length,←List.map_take,List.flatMap_map]
   congr 1
   exact zc7 fun t1 _=>yf9 h g t1 t2
theorem yhm (h:Hist) (s g:Int):eL h g (zaw h.evs s) (zaw h.evs s).length=eaS h s g:=by rw [ybq,eaS,zt4,List.length_map]
theorem yhk {h:Hist} (hE:h.evs.length≤70) (hc:j5 h=0) (g:Int) (l:List Int) (t2:Int) (i:Nat):(eR h g l t2 i).length≤i * 15000000:=by
 refine Nat.le_trans (zpm (c:=15000000) fun t1 _=>ycc hE hc g t1 t2) ?_
 exact Nat.mul_le_mul_right _ (by rw [List.length_take];exact Nat.min_le_left _ _)
theorem yhl {h:Hist} (hE:h.evs.length≤70) (hc:j5 h=0) (g:Int) (l:List Int):∀k,k≤l.length→(eL h g l k).length≤k * (l.length * 15000000)
 |0,_=>by simp [eL]
 |k+1,hk=>by
  have h1:=yhl hE hc g l k (by omega)
  have h2:=yhk hE hc g (l.take k) l[k] (l.take k).length
  have h3:(l.take k).length * 15000000≤l.length * 15000000:=Nat.mul_le_mul_right _ (by rw [List.length_take];omega)
  rw [ysm hk,List.length_append,Nat.succ_mul];omega
theorem yhn {h:Hist} (hE:h.evs.length≤70) (hc:j5 h=0) (g:Int) {l:List Int} (hl:l.length≤70) {k i:Nat} (t2:Int) (hk:k≤l.length) (hi:i≤70):(eL h g l k++eR h g (l.take k) t2 i).length≤80000000000:=by
 have h1:=yhl hE hc g l k hk
 have h2:=yhk hE hc g (l.take k) t2 i
 have h3:k * (l.length * 15000000)≤70 * (70 * 15000000):=Nat.mul_le_mul (by omega) (Nat.mul_le_mul_right _ hl)
 rw [List.length_append];omega
theorem zpq {h:Hist} (hE:h.evs.length≤70) (hc:j5 h=0) (s g:Int):(eaS h s g).length≤80000000000:=by
 have lL:=zlf h s
 have lE:=hE
 have:=yhn hE hc g (l:=zaw h.evs s) (by omega) (k:=(zaw h.evs s).length) (i:=0) 0 (Nat.le_refl _) (by omega)
 rw [yhm,List.length_append] at this;omega
abbrev zhf (l:List Brch):AV:= .list false 6 (l.map zah)
set_option maxHeartbeats 4000000 in
theorem ym7 (h:Hist) (la:Lim 3000 h) (hc:j5 h=0) (hE:h.evs.length≤70) (i x:Nat) (hi:i < h.evs.length) (hx:x < h.os.length):x4 Tryz.prog 115 [.agg (x5 h),iv (i:Int),iv (x:Int),bv true] [] (fun r h'=>h'= []∧r= .tup [iv ((ze5 h x true h.evs[i]).getD 0),bv (ze5 h x true h.evs[i]).isSome]):=by
 refine z6 Tryz.func115 rfl rfl rfl ?_
 refine rn ?_;refine z8 rfl (x9 rfl rfl rfl fun b4=> ?_)
 refine q1 ?_;refine q1 ?_;refine u5 (k8 ?_)
 refine x8 (y5 ?_)
 refine q1 ?_;refine q1 ?_;refine q1 ?_;refine qq rfl rfl (zbl rfl rfl (zac (f:=evR) hi)) ?_
 refine rn ?_;refine z8 rfl (y6 rfl fun b10=> ?_)
 refine rn ?_;refine y9 (fun hg2_4=> ?_) (fun hg2_4=> ?_)
 ·refine rn ?_;refine z7 rfl (fun hc35=> ?_) (fun hc35=> ?_)
  ·have hn:¬(h.evs[i].o=(x:Int)∧h.evs[i].kind=kdR true):=by
    intro qq
    have q1:h.evs[i].kind=3:=qq.2
    first|(have w:=hg2_4;rw [qq.1] at w;simp at w;done)|(have w:=hg2_11;rw [q1] at w;simp at w;done)|(have w:=hc35;rw [q1] at w;simp at w;done)
   refine rn ?_;refine rq 2 ?_
   exact ⟨rfl,by rw [zm0 hn];rfl⟩
  ·first|cases hc35|exact absurd hc35 (by decide)|(exfalso;simp_all;done)
 ·refine q1 ?_;refine q1 ?_;refine q1 ?_;refine q1 ?_;refine qq rfl rfl (zl9 rfl rfl) ?_
  refine rn ?_;refine y9 (fun hg2_11=> ?_) (fun hg2_11=> ?_)
  ·refine rn ?_;refine z7 rfl (fun hc35=> ?_) (fun hc35=> ?_)
   ·have hn:¬(h.evs[i].o=(x:Int)∧h.evs[i].kind=kdR true):=by
     intro qq
     have q1:h.evs[i].kind=3:=qq.2
     first|(have w:=hg2_4;rw [qq.1] at w;simp at w;done)|(have w:=hg2_11;rw [q1] at w;simp at w;done)|(have w:=hc35;rw [q1] at w;simp at w;done)
    refine rn ?_;refine rq 2 ?_
    exact ⟨rfl,by rw [zm0 hn];rfl⟩
   ·first|cases hc35|exact absurd hc35 (by decide)|(exfalso;simp_all;done)
  ·refine rn ?_;refine z7 rfl (fun hc35=> ?_) (fun hc35=> ?_)
   ·first|cases hc35|exact absurd hc35 (by decide)|(exfalso;simp_all;done)
   ·have hyy:h.evs[i].o=(x:Int)∧h.evs[i].kind=kdR true:=⟨by simpa using hg2_4,by simpa [kdR] using hg2_11⟩
    refine rn ?_;refine qv rfl rfl (y4 rfl rfl (v7 ((zqy h (la.mono (by decide)) (x:Int) h.evs[i].v).mono fun _ _ q=>⟨q.1,by rw [q.2,zqv hc (by omega) (by omega),←zue hyy]⟩) (Sbs.refl _))) ?_
    refine rn ?_;refine rq 2 ?_
    exact ⟨rfl,rfl⟩
set_option maxHeartbeats 4000000 in
theorem ym8 (h:Hist) (la:Lim 3000 h) (hc:j5 h=0) (hE:h.evs.length≤70) (i x:Nat) (hi:i < h.evs.length) (hx:x < h.os.length):x4 Tryz.prog 115 [.agg (x5 h),iv (i:Int),iv (x:Int),bv false] [] (fun r h'=>h'= []∧r= .tup [iv ((ze5 h x false h.evs[i]).getD 0),bv (ze5 h x false h.evs[i]).isSome]):=by
 refine z6 Tryz.func115 rfl rfl rfl ?_
 refine rn ?_;refine z8 rfl (x9 rfl rfl rfl fun b4=> ?_)
 refine q1 ?_;refine q1 ?_;refine u5 (k8 ?_)
 refine x8 (y5 ?_)
 refine q1 ?_;refine q1 ?_;refine q1 ?_;refine qq rfl rfl (zbl rfl rfl (zac (f:=evR) hi)) ?_
 refine rn ?_;refine z8 rfl (y6 rfl fun b10=> ?_)
 refine rn ?_;refine y9 (fun hg2_4=> ?_) (fun hg2_4=> ?_)
 ·refine rn ?_;refine z7 rfl (fun hc35=> ?_) (fun hc35=> ?_)
  ·have hn:¬(h.evs[i].o=(x:Int)∧h.evs[i].kind=kdR false):=by
    intro qq
    have q1:h.evs[i].kind=2:=qq.2
    first|(have w:=hg2_4;rw [qq.1] at w;simp at w;done)|(have w:=hg2_11;rw [q1] at w;simp at w;done)|(have w:=hc35;rw [q1] at w;simp at w;done)
   refine rn ?_;refine rq 2 ?_
   exact ⟨rfl,by rw [zm0 hn];rfl⟩
  ·first|cases hc35|exact absurd hc35 (by decide)|(exfalso;simp_all;done)
 ·refine q1 ?_;refine q1 ?_;refine q1 ?_;refine q1 ?_;refine qq rfl rfl (zl9 rfl rfl) ?_
  refine rn ?_;refine y9 (fun hg2_11=> ?_) (fun hg2_11=> ?_)
  ·refine rn ?_;refine z7 rfl (fun hc35=> ?_) (fun hc35=> ?_)
   ·have hn:¬(h.evs[i].o=(x:Int)∧h.evs[i].kind=kdR false):=by
     intro qq
     have q1:h.evs[i].kind=2:=qq.2
     first|(have w:=hg2_4;rw [qq.1] at w;simp at w;done)|(have w:=hg2_11;rw [q1] at w;simp at w;done)|(have w:=hc35;rw [q1] at w;simp at w;done)
    refine rn ?_;refine rq 2 ?_
    exact ⟨rfl,by rw [zm0 hn];rfl⟩
   ·first|cases hc35|exact absurd hc35 (by decide)|(exfalso;simp_all;done)
  ·refine rn ?_;refine z7 rfl (fun hc35=> ?_) (fun hc35=> ?_)
   ·have hn:¬(h.evs[i].o=(x:Int)∧h.evs[i].kind=kdR false):=by
     intro qq
     have q1:h.evs[i].kind=2:=qq.2
     first|(have w:=hg2_4;rw [qq.1] at w;simp at w;done)|(have w:=hg2_11;rw [q1] at w;simp at w;done)|(have w:=hc35;rw [q1] at w;simp at w;done)
    refine rn ?_;refine rq 2 ?_
    exact ⟨rfl,by rw [zm0 hn];rfl⟩
   ·have hyy:h.evs[i].o=(x:Int)∧h.evs[i].kind=kdR false:=⟨by simpa using hg2_4,by simpa [kdR] using hc35⟩
    refine rn ?_;refine qv rfl rfl (y4 rfl rfl (v7 ((zqy h (la.mono (by decide)) (x:Int) h.evs[i].v).mono fun _ _ q=>⟨q.1,by rw [q.2,zqv hc (by omega) (by omega),←zue hyy]⟩) (Sbs.refl _))) ?_
    refine rn ?_;refine rq 2 ?_
    exact ⟨rfl,rfl⟩
theorem zzn (h:Hist) (la:Lim 3000 h) (hc:j5 h=0) (hE:h.evs.length≤70) (i x:Nat) (hi:i < h.evs.length) (hx:x < h.os.length) (rd:Bool):x4 Tryz.prog 115 [.agg (x5 h),iv (i:Int),iv (x:Int),bv rd] [] (fun r h'=>h'= []∧r= .tup [iv ((ze5 h x rd h.evs[i]).getD 0),bv (ze5 h x rd h.evs[i]).isSome]):=by
 cases rd
 ·exact ym8 h la hc hE i x hi hx
 ·exact ym7 h la hc hE i x hi hx
theorem zzo (g:Int):x4 Tryz.prog 114 [iv g] [] (fun r h'=>h'= []∧r= .tup [bv (rdA g),bv (rdB g)]):=by
 refine z6 Tryz.func114 rfl rfl rfl ?_
 refine rn ?_;refine y9 (fun hg1_2=> ?_) (fun hg1_2=> ?_)
 ·refine rn ?_;refine y9 (fun hg1_8=> ?_) (fun hg1_8=> ?_)
  ·refine rn ?_;refine rq 0 ?_
   exact ⟨rfl,yde (by simp only [rdA,hg1_2,Bool.true_or,Bool.false_or]) (by simp only [rdB,hg1_8,Bool.true_or,Bool.false_or])⟩
  ·refine rn ?_;refine rq 0 ?_
   exact ⟨rfl,yde (by simp only [rdA,hg1_2,Bool.true_or,Bool.false_or]) (by simp only [rdB,hg1_8,Bool.true_or,Bool.false_or])⟩
 ·refine rn ?_;refine y9 (fun hg1_8=> ?_) (fun hg1_8=> ?_)
  ·refine rn ?_;refine rq 0 ?_
   exact ⟨rfl,yde (by simp only [rdA,hg1_2,Bool.true_or,Bool.false_or]) (by simp only [rdB,hg1_8,Bool.true_or,Bool.false_or])⟩
  ·refine rn ?_;refine rq 0 ?_
   exact ⟨rfl,yde (by simp only [rdA,hg1_2,Bool.true_or,Bool.false_or]) (by simp only [rdB,hg1_8,Bool.true_or,Bool.false_or])⟩
theorem zw0 (g:Int):x4 Tryz.prog 18 [iv g] [] (fun r h'=>h'= []∧r=bv (g==1||g==2||g==4||g==8)):=by
 refine z6 Tryz.func18 rfl rfl rfl ?_
 refine rn ?_;refine y9 (fun hg1_2=> ?_) (fun hg1_2=> ?_)
 ·refine rn ?_;refine rq 0 ?_
  exact ⟨rfl,congrArg bv (by simp_all)⟩
 ·refine rn ?_;refine y9 (fun hg1_6=> ?_) (fun hg1_6=> ?_)
  ·refine rn ?_;refine rq 0 ?_
   exact ⟨rfl,congrArg bv (by simp_all)⟩
  ·refine rn ?_;refine y9 (fun hg1_10=> ?_) (fun hg1_10=> ?_)
   ·refine rn ?_;refine rq 0 ?_
    exact ⟨rfl,congrArg bv (by simp_all)⟩
   ·refine rn ?_;refine rq 0 ?_
    exact ⟨rfl,congrArg bv (by simp_all)⟩
set_option maxHeartbeats 8000000 in
theorem zzm (h:Hist) (la:Lim 3000 h) (hc:j5 h=0) (hE:h.evs.length≤70) (g t1 t2:Int):x4 Tryz.prog 61 [.agg (x5 h),iv g,iv t1,iv t2] [] (fun r h'=>∃v:SV,h'= [.row v.v 6 36 ((zsk h g t1 t2 h.os.length).map zah)]∧r= .v v.v):=by
 refine z6 Tryz.func61 rfl rfl rfl ?_
 have lO:=la.os
 have lE:=la.evs
 refine rn ?_;refine z8 rfl (x9 rfl rfl rfl fun b4=> ?_)
 refine rn ?_;refine qv rfl rfl (y4 rfl rfl (v7 (zzo g) (Sbs.refl _))) ?_
 refine rn ?_;refine ze0 h.os.length (fun x v=>⟨[(29,iv x),(9,.v v.v),(1,iv g),(2,iv t1),(3,iv t2),(4,pZ b4),(10,bv (rdA g)),(11,bv (rdB g)),(28,iv (h.os.map ze7).length)],.row v.v 6 36 ((zsk h g t1 t2 x).map zah):: .box b4 28 (x5 h):: [],[]⟩) ⟨none,0,0⟩ (v6 (zar 6 36) es) ?_
 intro x v lx
 refine rn ?_;refine z7 rfl (fun hc30=> ?_) (fun hc30=> ?_)
 ·have hx:x < h.os.length:=by have q:=of_decide_eq_true hc30;rw [List.length_map] at q;omega
  refine rn ?_;refine ze0 h.evs.length (fun i v=>⟨[(35,iv i),(9,.v v.v),(1,iv g),(2,iv t1),(3,iv t2),(4,pZ b4),(10,bv (rdA g)),(11,bv (rdB g)),(12,iv x),(28,iv (h.os.map ze7).length),(29,iv x),(33,zm4 h.evs),(34,iv (h.evs.map evR).length)],.row v.v 6 36 ((zsk h g t1 t2 x++bG h g t1 t2 x i).map zah):: .box b4 28 (x5 h):: [],[]⟩) v (by rw [show bG h g t1 t2 x 0= [] from rfl,List.append_nil];exact es) ?_
  intro i v li
  refine rn ?_;refine z7 rfl (fun hc36=> ?_) (fun hc36=> ?_)
  ·have hi:=zao hc36
   have ri:=zac (f:=evR) hi
   refine rn ?_;refine z8 rfl (y6 rfl fun b14=> ?_)
   refine rn ?_;refine qv rfl rfl (y4 rfl rfl (v7 (zzn h la hc hE i x hi hx (rdA g)) (Sbs.refl _))) ?_
   refine rn ?_;refine y9 (fun hg10_4=> ?_) (fun hg10_4=> ?_)
   ·refine rn ?_;refine zdf rfl ?_;have hn:h.evs[i].t≠t1∨(ze5 h x (rdA g) h.evs[i])=none:=by
     first|(have w:=hg10_4;exact .inl (by simpa using w))|(have w:=hc55;exact .inr (by simpa using w))
    refine rn ?_;exact ⟨hi,v,by rw [ysp hi hn];exact eA⟩
   ·refine rn ?_;refine z7 rfl (fun hc55=> ?_) (fun hc55=> ?_)
    ·have hn:h.evs[i].t≠t1∨(ze5 h x (rdA g) h.evs[i])=none:=by
      first|(have w:=hg10_4;exact .inl (by simpa using w))|(have w:=hc55;exact .inr (by simpa using w))
     refine rn ?_;exact ⟨hi,v,by rw [ysp hi hn];exact eA⟩
    ·have ht1:h.evs[i].t=t1:=by simpa using hg10_4
     obtain ⟨r1,hr1⟩:∃r,(ze5 h x (rdA g) h.evs[i])=some r:=Option.isSome_iff_exists.1 (by simpa using hc55)
     rw [hr1,Option.getD_some,Option.isSome_some]
     refine rn ?_;refine ze0 h.evs.length (fun j v=>⟨[(59,iv j),(9,.v v.v),(1,iv g),(2,iv t1),(3,iv t2),(4,pZ b4),(10,bv (rdA g)),(11,bv (rdB g)),(12,iv x),(13,iv i),(15,iv r1),(28,iv (h.os.map ze7).length),(29,iv x),(33,zm4 h.evs),(34,iv (h.evs.map evR).length),(35,iv i),(57,zm4 h.evs),(58,iv (h.evs.map evR).length)],.row v.v 6 36 ((zsk h g t1 t2 x++bG h g t1 t2 x i++bJ h g t1 t2 x ⟨x,r1,i⟩ j).map zah):: .box b14 66 (evR h.evs[i]):: .box b4 28 (x5 h):: [],[]⟩) v (by rw [show bJ h g t1 t2 x ⟨x,r1,i⟩ 0= [] from rfl,List.append_nil];exact v6 (zay (pt1 _ _ _)) es) ?_
     intro j v lj
     refine rn ?_;refine z7 rfl (fun hc60=> ?_) (fun hc60=> ?_)
     ·have hj:=zao hc60
      have rj:=zac (f:=evR) hj
      refine rn ?_;refine z8 rfl (y6 rfl fun b18=> ?_)
      refine rn ?_;refine qv rfl rfl (y4 rfl rfl (v7 (zzn h la hc hE j x hj hx (rdB g)) (Sbs.refl _))) ?_
      refine rn ?_;refine y9 (fun hg15_4=> ?_) (fun hg15_4=> ?_)
      ·refine rn ?_;refine y9 (fun hg15_7=> ?_) (fun hg15_7=> ?_)
       ·refine rn ?_;refine z7 rfl (fun hc83=> ?_) (fun hc83=> ?_)
        ·have ht2:h.evs[j].t=t2:=by simpa using hg15_4
         obtain ⟨r2,hr2⟩:∃r,(ze5 h x (rdB g) h.evs[j])=some r:=Option.isSome_iff_exists.1 hg15_7
         have hlt:r2 < r1:=by have w:=of_decide_eq_true hc83;rw [hr2] at w;exact w
         refine y5 ?_;refine q1 ?_;refine q1 ?_;refine q1 ?_;refine q1 ?_;refine q1 ?_;refine q1 ?_;refine q1 ?_;refine qq rfl rfl (zai (out:= [iv g,iv t1,iv t2,iv x,iv i,iv j]) rfl (by rfl)) ?_
         refine qv rfl rfl (q9 rfl rfl) ?_
         refine z8 rfl (j7 rfl rfl (by simp only [List.length_map,List.length_cons,List.length_nil];have:=yhv hE hc (g:=g) (t1:=t1) (t2:=t2) (x:=x) (a:=⟨x,r1,i⟩) (k:=x) (i:=i) (j:=j) (by omega) (by omega) (by omega);omega) rfl (fun s93=> ?_) (fun r hr=>by rw [List.mem_singleton.1 hr];rfl))
         refine zaj s93 fun sv hsv=> ?_
         subst hsv
         refine rn ?_;exact ⟨hj,sv,by rw [yth hj ht2 hr2 hlt,←List.append_assoc];simp only [List.map_append];exact eA⟩
        ·skip
         refine rn ?_;have ht2:h.evs[j].t=t2:=by simpa using hg15_4
         obtain ⟨r2,hr2⟩:∃r,(ze5 h x (rdB g) h.evs[j])=some r:=Option.isSome_iff_exists.1 hg15_7
         have hlt:¬r2 < r1:=by have w:=of_decide_eq_false hc83;rw [hr2] at w;exact w
         exact ⟨hj,v,by rw [yti hj ht2 hr2 hlt];exact eA⟩
       ·refine rn ?_;refine ze2 rfl ?_;skip
        refine rn ?_;have hn2:(ze5 h x (rdB g) h.evs[j])=none:=by have w:=hg15_7;simpa using w
        exact ⟨hj,v,by rw [yso hj (.inr hn2)];exact eA⟩
      ·refine rn ?_;refine ze2 rfl ?_;skip
       refine rn ?_;have hn2:h.evs[j].t≠t2:=by simpa using hg15_4
       exact ⟨hj,v,by rw [yso hj (.inl hn2)];exact eA⟩
     ·have qj:=zap hc60 lj
      subst qj
      refine rn ?_;exact ⟨hi,v,by rw [ytj hi ht1 hr1,←List.append_assoc];exact eD 1⟩
  ·have qi:=zap hc36 li
   subst qi
   refine rn ?_;exact ⟨hx,v,by rw [yps];exact eA⟩
 ·have qx:x=h.os.length:=by have q:=of_decide_eq_false hc30;rw [List.length_map] at q;omega
  refine rn ?_;exact u9 rfl (.trans (.perm (pt1 _ _ _) _) (.drop [_] _ _)) ⟨v,by rw [qx],rfl⟩
theorem yd8 (h:Hist) (la:Lim 3000 h) (hc:j5 h=0) (hE:h.evs.length≤70) (g t1 t2:Int):x4 Tryz.prog 61 [.agg (x5 h),iv g,iv t1,iv t2] [] (fun r h'=>h'= []∧r=zhf (zsk h g t1 t2 h.os.length)):=(zzm h la hc hE g t1 t2).ventR (by rintro _ _ ⟨v,rfl,rfl⟩;exact ⟨_,_,zd3,rfl,rfl⟩)
set_option maxHeartbeats 8000000 in
theorem znx (h:Hist) (la:Lim 3000 h) (hc:j5 h=0) (hE:h.evs.length≤70) (s g:Int):x4 Tryz.prog 20 [.agg (x5 h),iv s,iv g] [] (fun r h'=>∃v:SV,h'= [.row v.v 6 36 ((eaS h s g).map zah)]∧r= .v v.v):=by
 refine z6 Tryz.func20 rfl rfl rfl ?_
 have lE:=la.evs
 have lL:=zlf h s
 have lL3:(zaw h.evs s).length≤70:=by omega
 refine rn ?_;refine z8 rfl (x9 rfl rfl rfl fun b3=> ?_)
 refine rn ?_;refine qv rfl rfl (y4 rfl rfl (v7 (zzg h (la.mono (by decide)) s) (Sbs.refl _))) ?_
 refine rn ?_;refine ze0 (zaw h.evs s).length (fun k v=>⟨[(18,iv k),(7,.v v.v),(2,iv g),(3,pZ b3),(8,zb8 (zaw h.evs s)),(16,zb8 (zaw h.evs s)),(17,iv ((zaw h.evs s).map zad).length)],.row v.v 6 36 ((eL h g (zaw h.evs s) k).map zah):: .box b3 28 (x5 h):: [],[]⟩) ⟨none,0,0⟩ (v6 (zar 6 36) es) ?_
 intro k v lk
 refine rn ?_;refine z7 rfl (fun hc19=> ?_) (fun hc19=> ?_)
 ·have hk:=zao hc19
  have rk:=zac (f:=zad) hk
  refine zab ?_;refine k8 ?_;refine x8 ?_;refine zal ?_;refine x8 (y5 ?_)
  refine q1 ?_;refine q1 ?_;refine q1 ?_;refine q1 ?_;refine q1 ?_;refine u5 (k8 ?_)
  refine x8 (y5 ?_)
  refine q1 ?_;refine q1 ?_;refine qq rfl rfl (za5 (k:=k) rfl rfl (by rw [List.length_map];omega)) ?_
  rw [←List.map_take]
  refine rn ?_;refine ze0 ((zaw h.evs s).take k).length (fun i v=>⟨[(27,iv i),(7,.v v.v),(2,iv g),(3,pZ b3),(8,zb8 (zaw h.evs s)),(10,iv (zaw h.evs s)[k]),(16,zb8 (zaw h.evs s)),(17,iv ((zaw h.evs s).map zad).length),(18,iv k),(25,zb8 ((zaw h.evs s).take k)),(26,iv (((zaw h.evs s).take k).map zad).length)],.row v.v 6 36 ((eL h g (zaw h.evs s) k++eR h g ((zaw h.evs s).take k) (zaw h.evs s)[k] i).map zah):: .box b3 28 (x5 h):: [],[]⟩) v (by rw [show eR h g ((zaw h.evs s).take k) (zaw h.evs s)[k] 0= [] by simp [eR],List.append_nil];exact es) ?_
  intro i v li
  refine rn ?_;refine z7 rfl (fun hc28=> ?_) (fun hc28=> ?_)
  ·have hi:=zao hc28
   have ri:=zac (f:=zad) hi
   have htl:=List.length_take_le k (zaw h.evs s)
   refine rn ?_;refine qv rfl rfl (y4 rfl rfl (v7 (yd8 h la hc hE g ((zaw h.evs s).take k)[i] (zaw h.evs s)[k]) (Sbs.refl _))) ?_
   refine z8 rfl (j7 rfl rfl (by have q1:=yhn hE hc g lL3 (k:=k) (i:=i) (zaw h.evs s)[k] (by omega) (by omega);have q2:=ycc hE hc g ((zaw h.evs s).take k)[i] (zaw h.evs s)[k];simp only [List.length_map];omega) rfl (fun s37=> ?_) (zpw _))
   refine zaj s37 fun sv hsv=> ?_
   subst hsv
   refine rn ?_;exact ⟨hi,sv,by rw [ytg hi,←List.append_assoc];simp only [List.map_append];exact eA⟩
  ·have qi:=zap hc28 li
   refine rn ?_;exact ⟨hk,v,by rw [ysm hk,qi];exact eA⟩
 ·have qk:=zap hc19 lk
  refine rn ?_;exact u9 rfl (.trans (.perm (pt1 _ _ _) _) (.drop [_] _ _)) ⟨v,by rw [←yhm,qk],rfl⟩
theorem zqz (h:Hist) (la:Lim 3000 h) (hc:j5 h=0) (hE:h.evs.length≤70) (s g:Int):x4 Tryz.prog 20 [.agg (x5 h),iv s,iv g] [] (fun r h'=>h'= []∧r=zhf (eaS h s g)):=(znx h la hc hE s g).ventR (by rintro _ _ ⟨v,rfl,rfl⟩;exact ⟨_,_,zd3,rfl,rfl⟩)
theorem yrh {α:Type} {z:α} {l:List α} {k:Nat} (hk:k < l.length) (hz:z ∉ l.take k) (hn:l[k]≠z):z ∉ l.take (k+1):=by
 rw [List.take_succ_eq_append_getElem hk,List.mem_append,List.mem_singleton]
 exact fun q=>q.elim hz fun e=>hn e.symm
def isG (g:Int):Bool:=g==1||g==2||g==4||g==8
def hrK (h:Hist) (s:Int) (k:Nat):Int:=(zkv.take k).foldl (fun n g=>if eaS h s g= [] then n+g else n) 0
theorem yos {h:Hist} {s:Int} {k:Nat} (hk:k < zkv.length):hrK h s (k+1)=if eaS h s zkv[k]= [] then hrK h s k+zkv[k] else hrK h s k:=by
 rw [hrK,List.take_succ_eq_append_getElem hk,List.foldl_append];rfl
theorem yr9:∀b∈zkv,0≤b∧b≤8:=by decide
theorem yot (h:Hist) (s:Int):∀k,k≤4→0≤hrK h s k∧hrK h s k≤15:=by
 intro k hk
 rcases (by omega:k=0∨k=1∨k=2∨k=3∨k=4) with rfl|rfl|rfl|rfl|rfl <;> simp only [hrK,zkv,List.take,List.foldl_cons,List.foldl_nil] <;> repeat' split
 all_goals omega
theorem zz2 (a b:Int×Int):(([a.1,a.2]:List Int)== [b.1,b.2])=(a==b):=by
 rw [Bool.eq_iff_iff]
 obtain ⟨a1,a2⟩:=a
 obtain ⟨b1,b2⟩:=b
 simp
set_option maxHeartbeats 4000000 in
theorem zzh (h:Hist) (la:Lim 3000 h) (hc:j5 h=0) (hE:h.evs.length≤70) (s:Int) (z:Brch):x4 Tryz.prog 27 [.agg (x5 h),iv s,.agg (zah z)] [] (fun r h'=>h'= []∧r=bv (isG z.g && decide (z∈(eaS h s z.g)))):=by
 refine z6 Tryz.func27 rfl rfl rfl ?_
 have bl:=zpq hE hc s z.g
 refine rn ?_;refine z8 rfl (x9 rfl rfl rfl fun b3=> ?_)
 refine z8 rfl (x9 rfl rfl rfl fun b5=> ?_)
 refine rn ?_;refine qv rfl rfl (y4 rfl rfl (v7 (zw0 z.g) (Sbs.refl _))) ?_
 refine rn ?_;refine z7 rfl (fun hc12=> ?_) (fun hc12=> ?_)
 ·have hg:isG z.g=false:=zq8 hc12
  refine rn ?_;refine rq 2 ?_
  exact ⟨rfl,by rw [hg];rfl⟩
 ·have hg:isG z.g=true:=zq9 hc12
  refine rn ?_;refine qv rfl rfl (y4 rfl rfl (v7 (zqz h la hc hE s z.g) (Sbs.refl _))) ?_
  refine rn ?_;refine zbp ((eaS h s z.g).length) (fun k:Nat=>z ∉ (eaS h s z.g).take k) (fun k=> [(19,iv k)]) [(5,_),(17,_),(18,_)] (by simp) ?_
  intro k lk zk
  refine rn ?_;refine z7 rfl (fun hc20=> ?_) (fun hc20=> ?_)
  ·have hk:=zao hc20
   have rk:=zac (f:=zah) hk
   refine rn ?_;refine z8 rfl (y6 rfl fun b8=> ?_)
   refine rn ?_;refine z7 rfl (fun hc25=> ?_) (fun hc25=> ?_)
   ·have hz:(eaS h s z.g)[k]=z:=eq_of_beq (by rw [←zji];simpa using hc25)
    refine rn ?_;refine rq 3 ?_
    exact ⟨rfl,by rw [hg,decide_eq_true (by have w:=List.getElem_mem hk;rw [hz] at w;exact w)];rfl⟩
   ·have hz:¬(eaS h s z.g)[k]=z:=fun e=>by rw [←beq_iff_eq,←zji] at e;simp [e] at hc25
    refine rn ?_;exact ⟨hk,yrh hk zk hz,eA⟩
  ·have qk:=zap hc20 lk
   refine rn ?_;refine rq 2 ?_
   exact ⟨rfl,by rw [hg,decide_eq_false (by rw [qk,List.take_length] at zk;exact zk)];rfl⟩
set_option maxHeartbeats 4000000 in
theorem zvf (h:Hist) (la:Lim 3000 h) (hc:j5 h=0) (hE:h.evs.length≤70) (s:Int):x4 Tryz.prog 25 [.agg (x5 h),iv s] [] (fun r h'=>h'= []∧r=iv (yql h s)):=by
 refine z6 Tryz.func25 rfl rfl rfl ?_
 refine rn ?_;refine z8 rfl (x9 rfl rfl rfl fun b2=> ?_)
 refine rn ?_;refine qv rfl rfl (q9 rfl rfl) ?_
 refine rn ?_;refine zbt 4 (fun _=>True) (fun k=>⟨[(10,iv (k:Nat)),(5,iv (hrK h s k)),(1,iv s),(2,pZ b2),(8,.list true 1 (zkv.map zad)),(9,iv 4)],.box b2 28 (x5 h):: [],[]⟩) trivial es ?_
 intro k lk _
 refine rn ?_;refine z7 rfl (fun hc11=> ?_) (fun hc11=> ?_)
 ·have hk:k < 4:=by have q:=of_decide_eq_true hc11;omega
  have rk:=zac (f:=zad) (l:=zkv) hk
  have hb:=yr9 _ (List.getElem_mem (l:=zkv) hk)
  have hin:=yot h s k lk
  refine rn ?_;refine qv rfl rfl (y4 rfl rfl (v7 (zqz h la hc hE s zkv[k]) (Sbs.refl _))) ?_
  refine rn ?_;refine z7 rfl (fun hc19=> ?_) (fun hc19=> ?_)
  ·have hz:eaS h s zkv[k]= []:=by have w:=hc19;simpa using w
   refine rn ?_;exact ⟨hk,trivial,by rw [yos hk,if_pos hz];exact eA⟩
  ·have hz:¬eaS h s zkv[k]= []:=by have w:=hc19;intro e;rw [e] at w;simp at w
   refine rn ?_;exact ⟨hk,trivial,by rw [yos hk,if_neg hz];exact eA⟩
 ·have qk:k=4:=by have q:=of_decide_eq_false hc11;omega
  refine rn ?_;refine rq 1 ?_
  exact ⟨rfl,by rw [qk];rfl⟩
theorem zwx (h:Hist) (s:Int):x4 Tryz.prog 17 [.agg (x5 h),iv s] [] (fun r h'=>h'= []∧r=bv (isB s h.ss.length)):=by
 refine z6 Tryz.func17 rfl rfl rfl ?_
 refine rn ?_;refine z8 rfl (x9 rfl rfl rfl fun b2=> ?_)
 refine rn ?_;refine qv rfl rfl (y4 rfl rfl (v7 (zhz _ _) (Sbs.refl _))) ?_
 refine rn ?_;refine rq 1 ?_
 exact ⟨rfl,by rw [List.length_map];rfl⟩
def nmR (n:NV) (h:Hist) (L:List Res):List Res:= .row n.vT.v 1 9 (h.ts.map ze7):: .row n.vS.v 1 9 (h.ss.map ze7):: .row n.vO.v 1 9 (h.os.map ze7):: .row n.vP.v 1 9 (h.ps.map ze7)::L
theorem zxf (l:List Ev):(l.map evR).take (min (l.map evR).length 60)=(l.take 60).map evR:=by
 rw [List.length_map,←List.map_take,Nat.min_comm,←List.take_take,List.take_length]
def zrz (e:Ev):List AV:= [iv e.kind,iv e.t,iv e.s,iv e.l,iv e.o,iv e.v.t,iv e.v.k,iv e.p,.v (.slice none 0 0)]
theorem ylk {α:Type} [DecidableEq α] {l m:List α} {k:Nat} (h1:k < l.length) (h2:k < m.length) (h:l.take k=m.take k) (e:l[k]=m[k]):l.take (k+1)=m.take (k+1):=by
 rw [List.take_succ_eq_append_getElem h1,List.take_succ_eq_append_getElem h2,h,e]
theorem yri {α:Type} {l m:List α} {k:Nat} (h1:k < l.length) (h2:k < m.length) (e:l[k]≠m[k]):l≠m:=fun q=>e (by subst q;rfl)
set_option maxHeartbeats 4000000 in
theorem ynr (h:Hist) (la:Big h):x4 Tryz.prog 13 [.agg (x5 h)] [] (fun r h'=>∃(sE sO:SV) (O:List (SV×H.Ord)),O.map (·.2)=h.ords∧h'= .row sE.v 9 66 ((h.evs.take 60).map evR):: .row sO.v 2 99 (O.map zxi)::otR 3 O∧r= .agg [zc4 h.ts,zc4 h.ss,zc4 h.os,zc4 h.ps,.v sE.v,.v sO.v,zo8 h.mats,zsq h.wants]):=by
 refine z6 Tryz.func13 rfl rfl rfl ?_
 refine rn ?_;refine z8 rfl (x9 rfl rfl rfl fun b1=> ?_)
 refine z8 rfl (y6 rfl fun b2=> ?_)
 refine rn ?_;refine zlr 12 rfl ?_
 refine mq rfl rfl qrA ?_;refine mq rfl rfl qrA ?_;refine mq rfl rfl qrA ?_;refine mq rfl rfl qrA ?_;refine mq rfl rfl qrA ?_;refine mq rfl rfl (zma (h.evs.map evR).length 60 rfl rfl) ?_
 refine mq rfl rfl (zih (rows':=(h.evs.take 60).map evR) rfl rfl (Nat.min_le_left _ _) (zxf h.evs)) ?_
 refine yai (yg8 9 66 ((h.evs.take 60).map evR)) rfl rfl rfl (zrb (y3.of_fun (zxt _ (by rw [List.length_map,List.length_take];omega) (yg4 _)))) ?_
 refine rn ?_;refine yai (yg8 2 99 (h.ords.map zdk)) rfl rfl rfl (zrb (y3.of_fun (zsb _ (by rw [List.length_map];have:=la.ords;omega) (yj4 _)))) ?_
 refine rn ?_;refine yqe ⟨.refl _,?_⟩
 refine rn ?_;refine zmg fun s11=> ?_
 refine rn ?_;refine zmg fun s14=> ?_
 refine rn0 ?_;refine x8 ?_;refine x8 ?_;refine zgr (zay ((pt2 _ _ _ _).trans (.cons _ ((pt2 _ _ _ _).trans (.cons _ (pt1 _ _ _)))))) ?_
 refine rn ?_;refine j3 (fun x:Nat×List (SV×H.Ord)=>x.1≤h.ords.length∧x.2.map (·.2)=h.ords.take x.1) (fun x=>⟨[(20,iv x.1),(19,iv (h.ords.map zdk).length),(1,pZ b1),(2,pZ b2)],.box b2 28 yk5:: .box b1 28 [zc4 h.ts,zc4 h.ss,zc4 h.os,zc4 h.ps,.v s11.v,.v s14.v,zo8 h.mats,zsq h.wants]:: .row s11.v 9 66 ((h.evs.take 60).map evR):: .row s14.v 2 99 (x.2.map zxi++(h.ords.drop x.1).map zdk)::otR 3 x.2,[]⟩) (fun x=>h.ords.length - x.1) (0,[]) ⟨by omega,rfl⟩
  (w8 (.cons _ _ _ rfl (.cons _ _ _ rfl (.cons _ _ _ rfl (.cons _ _ _ rfl (.nil)))))) ?_
 rintro ⟨k,x⟩ ⟨hk,hx⟩
 simp only at hk hx
 have hxl:=yew hx hk
 refine rn ?_;refine z7 rfl (fun hc21=> ?_) (fun hc21=> ?_)
 ·have hk2:k < h.ords.length:=by have q:=of_decide_eq_true hc21;rw [List.length_map] at q;omega
  obtain ⟨e,he⟩:∃e,e=h.ords[k]:=⟨_,rfl⟩
  have hd:=List.drop_eq_getElem_cons hk2
  rw [←he] at hd
  have hrow:(x.map zxi++(h.ords.drop k).map zdk)[k]? =some (zdk e):=yke hxl hd
  have hmem:e∈h.ords:=by rw [he];exact List.getElem_mem hk2
  have hle:=la.lim.ords
  have hk3:k < (x.map zxi++(h.ords.drop k).map zdk).length:=by rw [ykd hxl hk];exact hk2
  refine rn ?_;refine zlr 10 rfl ?_
  refine mq rfl rfl qrA ?_;refine mq rfl rfl qrA ?_;refine mq rfl rfl qrA ?_;refine mq rfl rfl qrA ?_;refine mq rfl rfl qrA ?_;refine mq rfl rfl qrA ?_;refine mq rfl rfl (u1 rfl rfl hk3) ?_
  refine mq rfl rfl qrA ?_;refine mq rfl rfl (zh7 rfl hrow rfl) ?_
  refine yai (yg8 1 3 (e.ts.map zad)) rfl rfl rfl (zrb (y3.of_fun (zkl _ (by rw [List.length_map];have:=(la.ordts e hmem);omega) (zju _)))) ?_
  refine yqe ⟨.refl _,?_⟩
  refine rn ?_;refine zmg fun s32=> ?_
  refine rn2 ?_;refine qq rfl rfl (u1 rfl rfl hk3) ?_
  refine rn ?_;refine z8 rfl (zb5 rfl rfl rfl hrow rfl (Nat.le_of_ble_eq_true rfl) ?_)
  refine rn ?_;have hset:=ykc (f:=zxi) (g:=zdk) (a:=(s32,e)) (r:=(zdk e).take 1++ [.v s32.v]++(zdk e).drop (1+1)) hxl hd rfl
  have htl:otR 3 (x++ [(s32,e)])=otR 3 x++ [.row s32.v 1 3 (e.ts.map zad)]:=by simp [otR]
  exact ⟨(k+1,x++ [(s32,e)]),⟨by omega,yev hx hk2 he⟩,by simp only [htl];exact v6 (zay (zew [_] _)) (by rw [←hset];exact (w8 (.cons _ _ _ rfl (.cons _ _ _ rfl (.cons _ _ _ rfl (.cons _ _ _ rfl (.nil))))))),by simp only;omega⟩
 ·obtain rfl:k=h.ords.length:=by
   have q:=of_decide_eq_false hc21
   rw [List.length_map] at q
   omega
  rw [List.take_length] at hx
  rw [List.drop_length,List.map_nil,List.append_nil]
  refine rn ?_;exact zfw (.cons _ _ _ _ (.agg _ _ _ _ _ _ _ rfl inferInstance inferInstance inferInstance rfl) .nil) (.drop [_,_] _ _) ⟨s11,s14,x,hx,rfl,rfl⟩
theorem yns (h:Hist) (la:Big h):x4 Tryz.prog 13 [.agg (x5 h)] [] (fun r h'=>h'= []∧r= .agg (x5 (u4 h))):=
 (ynr h la).ventR (by
  rintro _ _ ⟨sE,sO,O,hO,rfl,rfl⟩
  exact ⟨_,_,zxg [] sE.v sO.v (u4 h) O 66 99 3 _ hO (by simp [u4]) (by simp) (fun r hr=>by simp [hr]),rfl,rfl⟩)
theorem yll {a b:Nat} (h:((a:Int) !=(b:Int))=false):a=b:=Int.ofNat.inj (by simpa using h)
theorem yfw {f g:Bool} (l m:List (Int×Int)) (hl:l.length≤4611686018427387904) (hm:m.length≤4611686018427387904):x4 Tryz.prog 21 [.list f 2 (l.map zvk),.list g 2 (m.map zvk)] [] (fun r h'=>h'= []∧r=bv (decide (l=m))):=by
 refine z6 Tryz.func21 rfl rfl rfl ?_
 refine rn ?_;refine z7 rfl (fun hc10=> ?_) (fun hc10=> ?_)
 ·have hne:l.length≠m.length:=by have w:=hc10;intro e;rw [List.length_map,List.length_map,e] at w;simp at w
  refine rn ?_;refine rq 0 ?_
  exact ⟨rfl,by rw [decide_eq_false (fun e=>hne (by rw [e]))];rfl⟩
 ·have hlm:l.length=m.length:=by have w:=hc10;rw [List.length_map,List.length_map] at w;exact yll w
  refine rn ?_;refine zbp (l.length) (fun k:Nat=>l.take k=m.take k) (fun k=> [(13,iv k)]) [(0,_),(1,_),(12,_)] rfl ?_
  intro k lk zk
  refine rn ?_;refine z7 rfl (fun hc14=> ?_) (fun hc14=> ?_)
  ·have hk:=zao hc14
   have rk:=zac (f:=zvk) hk
   have hk2:k < m.length:=by omega
   have rk2:=zac (f:=zvk) hk2
   refine rn ?_;refine j6 8 rfl ?_
   refine dq rfl rfl qrA ?_;refine dq rfl rfl qrA ?_;refine dq rfl rfl (zbl rfl rfl rk) ?_
   refine dq rfl rfl qrA ?_;refine dq rfl rfl qrA ?_;refine dq rfl rfl qrA ?_;refine dq rfl rfl (zbl rfl rfl rk2) ?_
   refine rn2 ?_;refine qq rfl rfl (zvg rfl rfl rfl rfl) ?_
   refine rn ?_;refine z7 rfl (fun hc24=> ?_) (fun hc24=> ?_)
   ·have hne:l[k]≠m[k]:=fun e=>by have w:=zq8 hc24;rw [zz2,e] at w;simp at w
    refine rn ?_;refine rq 0 ?_
    exact ⟨rfl,by rw [decide_eq_false (yri hk hk2 hne)];rfl⟩
   ·have heq:l[k]=m[k]:=by have w:=zq9 hc24;rw [zz2] at w;simpa using w
    refine rn ?_;exact ⟨hk,ylk hk hk2 zk heq,eA⟩
  ·have qk:=zap hc14 lk
   refine rn ?_;refine rq 0 ?_
   exact ⟨rfl,by rw [decide_eq_true (by have w:=zk;rw [qk,List.take_length,hlm,List.take_length] at w;exact w)];rfl⟩
set_option maxHeartbeats 4000000 in
theorem zk5 (s:SV) (l es:List Ev) (t:Int) (b1:Nat) (hl:l.length≤1000) (he:es.length≤1000):x4 Tryz.prog 105 [iv t,.list true 9 (es.map zrz),pZ b1] [.row s.v 9 66 ((l).map zrz),.box b1 28 [.list true 1 [[sv (wT 48)],[sv (wT 49)],[sv (wT 50)],[sv (wT 51)]],.list true 1 [[sv zkn]],.list true 1 [[sv bxx]],.v (.slice none 0 0),.v s.v,.v (.slice none 0 0),.v (.slice none 0 0),.v (.slice none 0 0)]] (fun r h'=>∃s':SV,h'= [.row s'.v 9 66 ((dsE l t es).map zrz),.box b1 28 [.list true 1 [[sv (wT 48)],[sv (wT 49)],[sv (wT 50)],[sv (wT 51)]],.list true 1 [[sv zkn]],.list true 1 [[sv bxx]],.v (.slice none 0 0),.v s'.v,.v (.slice none 0 0),.v (.slice none 0 0),.v (.slice none 0 0)]]∧r= .tup []):=by
 refine z6 Tryz.func105 rfl rfl rfl ?_
 refine x8 (y5 ?_)
 refine q1 ?_;refine q1 ?_;refine q1 ?_;refine qq rfl rfl (zai (out:=zrz (yr1 t)) rfl (by rfl)) ?_
 refine qv rfl rfl (q9 rfl rfl) ?_
 refine z8 rfl (j7 rfl rfl (by simp only [List.length_map,List.length_append,List.length_cons,List.length_nil,List.length_take];omega) rfl (fun s12=> ?_) (fun r hr=>by rw [List.mem_singleton.1 hr];rfl))
 refine zaj s12 fun sw hsw=> ?_
 subst hsw
 refine rn ?_;refine ze0 es.length (fun k s=>⟨[(16,iv k),(0,iv t),(2,pZ b1),(14,.list true 9 (es.map zrz)),(15,iv (es.map zrz).length)],.row s.v 9 66 ((l++ [yr1 t]++(es.take k).map (ymt t)).map zrz):: .box b1 28 [.list true 1 [[sv (wT 48)],[sv (wT 49)],[sv (wT 50)],[sv (wT 51)]],.list true 1 [[sv zkn]],.list true 1 [[sv bxx]],.v (.slice none 0 0),.v s.v,.v (.slice none 0 0),.v (.slice none 0 0),.v (.slice none 0 0)]:: [],[]⟩) sw (by simp only [List.take_zero,List.map_nil,List.append_nil,List.map_append];exact Go.Ab.es) ?_
 intro k s lk
 refine rn ?_;refine z7 rfl (fun hc17=> ?_) (fun hc17=> ?_)
 ·have hk:=zao hc17
  have rk:=zac (f:=zrz) hk
  refine rn ?_;refine z8 rfl (y6 rfl fun b6=> ?_)
  refine rn ?_;refine qv rfl rfl (q9 rfl rfl) ?_
  refine z8 rfl (j7 rfl rfl (by simp only [List.length_map,List.length_append,List.length_cons,List.length_nil,List.length_take];omega) rfl (fun s26=> ?_) (fun r hr=>by rw [List.mem_singleton.1 hr];rfl))
  refine zaj s26 fun sw hsw=> ?_
  subst hsw
  refine rn ?_;exact ⟨hk,sw,by rw [List.take_succ_eq_append_getElem hk];simp only [List.map_append,←List.append_assoc];exact eA⟩
 ·have qk:=zap hc17 lk
  refine zhi ?_;refine zgy ?_;refine zgy ?_;refine zdv ?_;refine k8 ?_;refine y5 ?_;refine q1 ?_;refine q1 ?_;refine q1 ?_;refine qq rfl rfl (zai (out:=zrz (ysl t)) rfl (by rfl)) ?_
  refine qv rfl rfl (q9 rfl rfl) ?_
  refine z8 rfl (j7 rfl rfl (by simp only [List.length_map,List.length_append,List.length_cons,List.length_nil,List.length_take];omega) rfl (fun s34=> ?_) (fun r hr=>by rw [List.mem_singleton.1 hr];rfl))
  refine zaj s34 fun sw hsw=> ?_
  subst hsw
  refine rn ?_;refine ygz ?_;exact ⟨sw,by rw [dsE];rw [qk,List.take_length];simp only [List.map_append];rfl,rfl⟩
set_option maxHeartbeats 8000000 in
theorem yds  :x4 Tryz.prog 52 [] [] (fun r h'=>∃s:SV,h'= [.row s.v 9 66 ((seE).map zrz)]∧r= .agg [.list true 1 [[sv (wT 48)],[sv (wT 49)],[sv (wT 50)],[sv (wT 51)]],.list true 1 [[sv zkn]],.list true 1 [[sv bxx]],.v (.slice none 0 0),.v s.v,.list true 2 [[iv 0,.list true 1 [[iv 3],[iv 0]]]],.v (.slice none 0 0),.v (.slice none 0 0)]):=by
 refine z6 Tryz.func52 rfl rfl rfl ?_
 refine rn ?_;refine z8 rfl (y6 rfl fun b0=> ?_)
 refine rn ?_;refine qv rfl rfl (q9 rfl rfl) ?_
 refine qv rfl rfl (q9 rfl rfl) ?_
 refine qv rfl rfl (q9 rfl rfl) ?_
 refine rn ?_;refine z8 rfl (y6 rfl fun b1=> ?_)
 refine rn0 ?_;refine x8 (y5 ?_)
 refine rn0 ?_;refine x8 ?_;refine zgr (s':=⟨[(0,pZ b0),(1,pZ b1),(2,.fn (.func 105) [] [pZ b1])],.row (⟨none,0,0⟩:SV).v 9 66 ((([]:List Ev)).map zrz):: .box b1 28 [.list true 1 [[sv (wT 48)],[sv (wT 49)],[sv (wT 50)],[sv (wT 51)]],.list true 1 [[sv zkn]],.list true 1 [[sv bxx]],.v (.slice none 0 0),.v (⟨none,0,0⟩:SV).v,.v (.slice none 0 0),.v (.slice none 0 0),.v (.slice none 0 0)]:: .box b0 28 yk5:: [],[]⟩) (v6 (zar 9 66) es) ?_
 refine y5 ?_;refine q1 ?_;refine qq rfl rfl (zai (out:= [iv 0,iv 1]) rfl (by rfl)) ?_
 refine qq rfl rfl (zai (out:=zrz (seW 0 1)) rfl (by rfl)) ?_
 refine qv rfl rfl (q9 rfl rfl) ?_
 refine z8 rfl (w9 rfl rfl (y3.fr (y3.of_acall (fs:= []) (cs:= [pZ b1]) (zk5 ⟨none,0,0⟩ (([]:List Ev)) [seW 0 1] 0 b1 (by decide) (by decide))) (.refl _)) rfl ?_)
 rintro _ _ ⟨_,rfl,s1,rfl,rfl⟩
 refine u5 (k8 ?_)
 refine x8 (y5 ?_)
 refine q1 ?_;refine qq rfl rfl (zai (out:=zrz (seR 0 0)) rfl (by rfl)) ?_
 refine qv rfl rfl (q9 rfl rfl) ?_
 refine z8 rfl (w9 rfl rfl (y3.fr (y3.of_acall (fs:= []) (cs:= [pZ b1]) (zk5 s1 (dsE [] 0 [seW 0 1]) [seR 0 0] 1 b1 (by decide) (by decide))) (.refl _)) rfl ?_)
 rintro _ _ ⟨_,rfl,s2,rfl,rfl⟩
 refine u5 (k8 ?_)
 refine x8 (y5 ?_)
 refine q1 ?_;refine qq rfl rfl (zai (out:= [iv 0,iv 1]) rfl (by rfl)) ?_
 refine qq rfl rfl (zai (out:=zrz (seR 0 1)) rfl (by rfl)) ?_
 refine qv rfl rfl (q9 rfl rfl) ?_
 refine z8 rfl (w9 rfl rfl (y3.fr (y3.of_acall (fs:= []) (cs:= [pZ b1]) (zk5 s2 (dsE (dsE [] 0 [seW 0 1]) 1 [seR 0 0]) [seR 0 1] 2 b1 (by decide) (by decide))) (.refl _)) rfl ?_)
 rintro _ _ ⟨_,rfl,s3,rfl,rfl⟩
 refine u5 (k8 ?_)
 refine x8 (y5 ?_)
 refine q1 ?_;refine qq rfl rfl (zai (out:=zrz (seR 0 0)) rfl (by rfl)) ?_
 refine qq rfl rfl (zai (out:= [iv 3,iv 1]) rfl (by rfl)) ?_
 refine qq rfl rfl (zai (out:=zrz (seW 3 1)) rfl (by rfl)) ?_
 refine qv rfl rfl (q9 rfl rfl) ?_
 refine z8 rfl (w9 rfl rfl (y3.fr (y3.of_acall (fs:= []) (cs:= [pZ b1]) (zk5 s3 (dsE (dsE (dsE [] 0 [seW 0 1]) 1 [seR 0 0]) 2 [seR 0 1]) [seR 0 0,seW 3 1] 3 b1 (by decide) (by decide))) (.refl _)) rfl ?_)
 rintro _ _ ⟨_,rfl,s4,rfl,rfl⟩
 refine rn0 ?_;refine x8 ?_;show aw _ _ _ _ _ ⟨_,.row s4.v 9 66 ((seE).map zrz):: .box b1 28 [.list true 1 [[sv (wT 48)],[sv (wT 49)],[sv (wT 50)],[sv (wT 51)]],.list true 1 [[sv zkn]],.list true 1 [[sv bxx]],.v (.slice none 0 0),.v s4.v,.v (.slice none 0 0),.v (.slice none 0 0),.v (.slice none 0 0)]:: .box b0 28 yk5:: [],_⟩
 refine rn ?_;refine qv rfl rfl (q9 rfl rfl) ?_
 refine qq rfl rfl (zai (out:= [iv 0,.list true 1 [[iv 3],[iv 0]]]) rfl (by rfl)) ?_
 refine qv rfl rfl (q9 rfl rfl) ?_
 refine rn ?_;exact zfw (.cons _ _ _ _ (.agg _ _ _ _ _ _ _ rfl inferInstance inferInstance inferInstance rfl) .nil) (.trans (.perm ((pt1 _ _ _).trans (.cons _ (pt1 _ _ _))) _) (.drop [_,_] _ _)) ⟨s4,rfl,rfl⟩
theorem zou:x4 Tryz.prog 52 [] [] (fun r h'=>h'= []∧r= .agg (x5 seH)):=
 yds.ventR (by
  rintro _ _ ⟨s,rfl,rfl⟩
  exact ⟨_,_,.trans (zca [.list true 1 [[sv (wT 48)],[sv (wT 49)],[sv (wT 50)],[sv (wT 51)]],.list true 1 [[sv zkn]],.list true 1 [[sv bxx]],.v (.slice none 0 0)] [.list true 2 [[iv 0,.list true 1 [[iv 3],[iv 0]]]],.v (.slice none 0 0),.v (.slice none 0 0)]) (.le (Sb.aggs (bs:=x5 seH) (by exact ⟨.unfull,.unfull,.unfull,.nil _ _,(.lists (by simp [seE,dsE]) ⟨⟨.refl _,.refl _,.refl _,.refl _,.refl _,.refl _,.refl _,.refl _,.nil _ _,trivial⟩,⟨.refl _,.refl _,.refl _,.refl _,.refl _,.refl _,.refl _,.refl _,.nil _ _,trivial⟩,⟨.refl _,.refl _,.refl _,.refl _,.refl _,.refl _,.refl _,.refl _,.nil _ _,trivial⟩,⟨.refl _,.refl _,.refl _,.refl _,.refl _,.refl _,.refl _,.refl _,.nil _ _,trivial⟩,⟨.refl _,.refl _,.refl _,.refl _,.refl _,.refl _,.refl _,.refl _,.nil _ _,trivial⟩,⟨.refl _,.refl _,.refl _,.refl _,.refl _,.refl _,.refl _,.refl _,.nil _ _,trivial⟩,⟨.refl _,.refl _,.refl _,.refl _,.refl _,.refl _,.refl _,.refl _,.nil _ _,trivial⟩,⟨.refl _,.refl _,.refl _,.refl _,.refl _,.refl _,.refl _,.refl _,.nil _ _,trivial⟩,⟨.refl _,.refl _,.refl _,.refl _,.refl _,.refl _,.refl _,.refl _,.nil _ _,trivial⟩,⟨.refl _,.refl _,.refl _,.refl _,.refl _,.refl _,.refl _,.refl _,.nil _ _,trivial⟩,⟨.refl _,.refl _,.refl _,.refl _,.refl _,.refl _,.refl _,.refl _,.nil _ _,trivial⟩,⟨.refl _,.refl _,.refl _,.refl _,.refl _,.refl _,.refl _,.refl _,.nil _ _,trivial⟩,⟨.refl _,.refl _,.refl _,.refl _,.refl _,.refl _,.refl _,.refl _,.nil _ _,trivial⟩,trivial⟩),(.lists (by simp) ⟨⟨.refl _,.unfull,trivial⟩,trivial⟩),.nil _ _,.nil _ _,trivial⟩)).le),rfl,rfl⟩)
theorem yfa:Lim 4611686018427387904 seH:=⟨by decide,by decide,by decide,by decide,by decide,by decide,by decide,by decide,by decide,by decide,by decide⟩
theorem zow:zb7 seH 0=0:=zxx zu8 (by decide)
theorem zu7:zb7 seH 1=2:=zxy zu8 (by decide)
theorem zu9 (g:Int) (hg:¬znj g < 0):zh2 seH 0 g=0:=(zis zow hg).1
theorem ys2:seB seH 0 2= [⟨2,2,3,0,7,10⟩]:=by rw [zy4 (k:=1) (zu9 2 (by decide)) (by decide)];decide+kernel
theorem ys0:(seB seH 0 1).map prB= [(0,1),(0,3)]:=by rw [zy4 (k:=0) (zu9 1 (by decide)) (by decide)];decide+kernel
theorem ys1:haO seH 0=0:=by rw [haO,if_pos zow];decide+kernel
theorem ymx:zh2 seH 1 2=2:=by rw [(zj6 (g:=2) (show zb7 seH 1≠0 by rw [zu7];decide)).1,zu7]
theorem sA1:x4 Tryz.prog 15 [.agg (x5 seH),iv 0,iv 2] (.glob 0 117 w7:: .glob 3 148 x6:: .glob 5 276 x7:: .glob 6 279 y7:: .glob 2 197 u6:: []) (fun r h'=>h'= .glob 0 117 w7:: .glob 3 148 x6:: .glob 5 276 x7:: .glob 6 279 y7:: .glob 2 197 u6:: []∧r= .tup [.agg (zah ⟨2,2,3,0,7,10⟩),bv true,iv 0]):=(zu6 seH yfa 0 2).mono fun _ _ q=>⟨q.1,by rw [q.2,ys2,zu9 2 (by decide)];rfl⟩
theorem sA2:x4 Tryz.prog 16 [.agg (x5 seH),iv 0,iv 1] (.glob 0 117 w7:: .glob 3 148 x6:: .glob 5 276 x7:: .glob 6 279 y7:: .glob 2 197 u6:: []) (fun r h'=>h'= .glob 0 117 w7:: .glob 3 148 x6:: .glob 5 276 x7:: .glob 6 279 y7:: .glob 2 197 u6:: []∧r= .tup [ynq [(0,1),(0,3)],iv 0]):=(ydv seH yfa 0 1).mono fun _ _ q=>⟨q.1,by rw [q.2,ys0,zu9 1 (by decide)]⟩
theorem sA3:x4 Tryz.prog 24 [.agg (x5 seH),iv 0] (.glob 0 117 w7:: .glob 3 148 x6:: .glob 5 276 x7:: .glob 6 279 y7:: .glob 2 197 u6:: []) (fun r h'=>h'= .glob 0 117 w7:: .glob 3 148 x6:: .glob 5 276 x7:: .glob 6 279 y7:: .glob 2 197 u6:: []∧r= .tup [iv 0,iv 0]):=(ygv seH yfa 0).mono fun _ _ q=>⟨q.1,by rw [q.2,ys1,zow]⟩
theorem sA4:x4 Tryz.prog 15 [.agg (x5 seH),iv 1,iv 2] (.glob 0 117 w7:: .glob 3 148 x6:: .glob 5 276 x7:: .glob 6 279 y7:: .glob 2 197 u6:: []) (fun r h'=>h'= .glob 0 117 w7:: .glob 3 148 x6:: .glob 5 276 x7:: .glob 6 279 y7:: .glob 2 197 u6:: []∧r= .tup [.agg (zah br0),bv false,iv 2]):=(zu6 seH yfa 1 2).mono fun _ _ q=>⟨q.1,by rw [q.2,yi6 (by rw [ymx];decide),ymx];rfl⟩
theorem sEq {f g:Bool}:x4 Tryz.prog 21 [.list f 2 ([(0,1),(0,3)].map zvk),.list g 2 ([(0,1),(0,3)].map zvk)] [] (fun r h'=>h'= []∧r=bv true):=(yfw [(0,1),(0,3)] [(0,1),(0,3)] (by decide) (by decide)).mono fun _ _ q=>⟨q.1,by rw [q.2,decide_eq_true rfl]⟩
set_option maxHeartbeats 4000000 in
theorem yid  :x4 Tryz.prog 12 [] (.glob 0 117 w7:: .glob 3 148 x6:: .glob 5 276 x7:: .glob 6 279 y7:: .glob 2 197 u6:: []) (fun r h'=>h'= .glob 0 117 w7:: .glob 3 148 x6:: .glob 5 276 x7:: .glob 6 279 y7:: .glob 2 197 u6:: []∧r=bv true):=by
 refine z6 Tryz.func12 rfl rfl rfl ?_
 refine rn ?_;refine qv rfl rfl (y4 rfl rfl (y3.pure (R:=fun r=>r= .agg (x5 seH)) (y3.of_fun zou))) ?_
 refine qv rfl rfl (y4 rfl rfl (y3.qt (y3.of_fun sA1) (.refl _))) ?_
 refine rn ?_;refine z8 rfl (y6 rfl fun b1=> ?_)
 refine rn ?_;refine qv rfl rfl (y4 rfl rfl (y3.pure (R:=fun r=>r= .agg (x5 seH)) (y3.of_fun zou))) ?_
 refine qv rfl rfl (y4 rfl rfl (y3.qt (y3.of_fun sA2) ((pt1 _ _ _).trans (.cons _ ((pt1 _ _ _).trans (.cons _ ((pt1 _ _ _).trans (.cons _ ((pt1 _ _ _).trans (.cons _ (pt1 _ _ _))))))))))) ?_
 refine rn ?_;refine qv rfl rfl (y4 rfl rfl (y3.pure (R:=fun r=>r= .agg (x5 seH)) (y3.of_fun zou))) ?_
 refine qv rfl rfl (y4 rfl rfl (y3.qt (y3.of_fun sA3) ((pt1 _ _ _).trans (.cons _ ((pt1 _ _ _).trans (.cons _ ((pt1 _ _ _).trans (.cons _ ((pt1 _ _ _).trans (.cons _ (pt1 _ _ _))))))))))) ?_
 refine rn ?_;refine qv rfl rfl (y4 rfl rfl (y3.pure (R:=fun r=>r= .agg (x5 seH)) (y3.of_fun zou))) ?_
 refine qv rfl rfl (y4 rfl rfl (y3.qt (y3.of_fun sA4) ((pt1 _ _ _).trans (.cons _ ((pt1 _ _ _).trans (.cons _ ((pt1 _ _ _).trans (.cons _ ((pt1 _ _ _).trans (.cons _ (pt1 _ _ _))))))))))) ?_
 refine rn ?_;refine z8 rfl (y6 rfl fun b8=> ?_)
 first|refine z8 rfl (zam rfl rfl rfl ?_)|refine z8 rfl (zba rfl rfl rfl rfl (Nat.le_of_ble_eq_true rfl) ?_)
 refine q1 ?_;refine q1 ?_;refine u5 (k8 ?_)
 refine x8 (y5 ?_)
 refine q1 ?_;refine q1 ?_;refine q1 ?_;refine q1 ?_;refine q1 ?_;refine q1 ?_;refine q1 ?_;refine q1 ?_;refine q1 ?_;refine q1 ?_;refine q1 ?_;refine q1 ?_;refine q1 ?_;refine q1 ?_;refine q1 ?_;refine q1 ?_;refine q1 ?_;refine q1 ?_;refine q1 ?_;refine q1 ?_;refine q1 ?_;refine q1 ?_;refine q1 ?_;refine q1 ?_;refine q1 ?_;refine q1 ?_;refine q1 ?_;refine q1 ?_;refine q1 ?_;refine q1 ?_;refine q1 ?_;refine q1 ?_;refine q1 ?_;refine qq rfl rfl (zcn (out:= [iv 0,iv 1]) rfl (by rfl)) ?_
 refine qq rfl rfl (zcn (out:= [iv 0,iv 3]) rfl (by rfl)) ?_
 refine qv rfl rfl (q9 rfl rfl) ?_
 refine qv rfl rfl (y4 rfl rfl (y3.pure (R:=fun r=>r=bv true) (y3.of_fun sEq))) ?_
 refine rn ?_;refine rq 2 ?_
 exact ⟨rfl,rfl⟩
theorem ylc (h:Hist) (t:Int) {k:Nat} (hk:k < 4):zdw k (zr1 h t)=zqa h.os.length (zp4 h t (kdA (zer k))):=by
 rcases (by omega:k=0∨k=1∨k=2∨k=3) with rfl|rfl|rfl|rfl <;> rfl
theorem yiw (h:Hist) (t:Int) {k:Nat} (hk:k < 4):zhm k (zr1 h t)=zqa h.os.length (zp4 h t (kdB (zer k))):=by
 rcases (by omega:k=0∨k=1∨k=2∨k=3) with rfl|rfl|rfl|rfl <;> rfl
theorem zpz (h:Hist) (t1 t2:Int) {k:Nat} (hk:k < 4):zhg k (zr1 h t1) (zr1 h t2)=yf6 h.os.length (zer k) t1 t2 (zp4 h t1 (kdA (zer k))) (zp4 h t2 (kdB (zer k))):=by
 rw [zhg,ylc h t1 hk,yiw h t2 hk];rfl
theorem yb9 (h:Hist) (s:Int) {k:Nat} (hk:k < 4):∀j,brW k (q7 h s) j=brL h.os.length (zer k) (zt4 h s (zer k)) j
 |0=>rfl
 |j+1=>by
  rw [brW,brL,yb9 h s hk j,q7,zt4,List.getElem?_map,List.getElem?_map]
  cases (zaw h.evs s)[j]? with
  |none=>rfl
  |some t2=>
   simp only [Option.map_some]
   rw [←List.map_take,←List.map_take,List.filterMap_map,List.filterMap_map]
   congr 1
   refine zpl fun t1 _=> ?_
   simp only [Function.comp,hdW]
   rw [zpz h t1 t2 hk];rfl
theorem zpx (h:Hist) (s:Int) {k:Nat} (hk:k < 4):brW k (q7 h s) (q7 h s).length=brS h s (zer k):=by
 rw [yb9 h s hk,brS,q7,zt4,List.length_map,List.length_map]
theorem yk6 {h:Hist} {s:Int} (hl:zb7 h s=0):haO h s=yqk h s:=by
 rw [haO,if_pos hl]
 simp only [haK,yqk,List.foldl_cons,List.foldl_nil]
 rw [zpx h s (by decide:0 < 4),zpx h s (by decide:1 < 4),zpx h s (by decide:2 < 4),zpx h s (by decide:3 < 4)]
 simp only [show zer 0=1 from rfl,show zer 1=2 from rfl,show zer 2=4 from rfl,show zer 3=8 from rfl]
 by_cases h1:brS h s 1= [] <;> by_cases h2:brS h s 2= [] <;> by_cases h3:brS h s 4= [] <;> by_cases h4:brS h s 8= [] <;> simp only [h1,h2,h3,h4,if_true,if_false,↓reduceIte] <;> decide
theorem yoa (h:Hist) (s:Int):(q7 h s).map Dos.t=zaw h.evs s:=by rw [q7,List.map_map];exact List.map_id' _
theorem ya4:∀{L:List Dos} {i:Nat},(L.map Dos.t).Nodup→(hi:i < L.length)→∀m:Nat,zbh (fun d:Dos=>d.t==L[i].t) m L=((m+i:Nat):Int)
 |d::L,0,_,_,m=>by rw [zbh,if_pos (by simp)];rfl
 |d::L,i+1,hn,hi,m=>by
  rw [List.map_cons,List.nodup_cons] at hn
  have hi':i < L.length:=by simpa using hi
  rw [zbh,if_neg,show (d::L)[i+1]=L[i] from rfl,ya4 hn.2 hi' (m+1)]
  ·congr 1;omega
  ·intro q
   have q:d.t=L[i].t:=by simpa using q
   exact hn.1 (by rw [q];exact List.mem_map_of_mem (List.getElem_mem _))
theorem ykz {h:Hist} {s:Int} {z:Brch} (hs:zbg h=true) (he:zh2 h s z.g=0):isO h s z=decide (z∈eaS h s z.g):=by
 obtain ⟨_,_,k,hk,_,eB,eG⟩:=zp1 he
 have hn:((q7 h s).map Dos.t).Nodup:=by rw [yoa];exact zxl hs s
 have at':∀i,(hi:i < (q7 h s).length)→zia (q7 h s) (q7 h s)[i].t=(i:Int):=fun i hi=>by rw [zia,ya4 hn hi 0];simp
 have lt:∀i,(hi:i < (q7 h s).length)→(q7 h s)[i]=zr1 h ((zaw h.evs s)[i]'(by simpa [q7] using hi)):=fun i hi=>by simp [q7]
 have key:z∈eaS h s z.g ↔ ∃i j,∃hi:i < (q7 h s).length,∃hj:j < (q7 h s).length,i < j∧z∈zhg k (q7 h s)[i] (q7 h s)[j]:=by
  rw [eaS,yfx]
  constructor
  ·rintro ⟨i,j,hj,hij,_,hz⟩
   have hj':j < (q7 h s).length:=by simpa [zt4,q7] using hj
   refine ⟨i,j,by omega,hj',hij,?_⟩
   rw [lt i (by omega),lt j hj',zpz _ _ _ hk,eB]
   rw [zpr,zpr] at hz;exact hz
  ·rintro ⟨i,j,hi,hj,hij,hz⟩
   have hj':j < (zt4 h s z.g).length:=by simpa [zt4,q7] using hj
   refine ⟨i,j,hj',hij,hj',?_⟩
   rw [lt i hi,lt j hj,zpz _ _ _ hk,eB] at hz
   rw [zpr,zpr];exact hz
 have pr:∀i j,(hi:i < (q7 h s).length)→(hj:j < (q7 h s).length)→z∈zhg k (q7 h s)[i] (q7 h s)[j]→z.e=(q7 h s)[i].t∧z.l=(q7 h s)[j].t:=fun i j hi hj hz=>by
  rw [lt i hi,lt j hj,zpz _ _ _ hk] at hz
  have:=ypo hz
  rw [lt i hi,lt j hj];exact this.2
 by_cases hq:zia (q7 h s) z.e < 0∨zia (q7 h s) z.l≤zia (q7 h s) z.e
 ·rw [ykx he hq]
  symm;rw [decide_eq_false_iff_not,key]
  rintro ⟨i,j,hi,hj,hij,hz⟩
  obtain ⟨e1,e2⟩:=pr i j hi hj hz
  rw [e1,e2,at' i hi,at' j hj] at hq
  omega
 ·have r1:=zpe (L:=q7 h s) (t:=z.e)
  have r2:=zpe (L:=q7 h s) (t:=z.l)
  obtain ⟨i,e1⟩:∃i:Nat,zia (q7 h s) z.e=(i:Int):=⟨_,(Int.toNat_of_nonneg (by omega)).symm⟩
  obtain ⟨j,e2⟩:∃j:Nat,zia (q7 h s) z.l=(j:Int):=⟨_,(Int.toNat_of_nonneg (by omega)).symm⟩
  rw [ykw he eG e1 e2 (by omega) (by omega) (by omega),decide_eq_decide,key]
  constructor
  ·intro hz;exact ⟨i,j,by omega,by omega,by omega,hz⟩
  ·rintro ⟨i',j',hi,hj,hij,hz⟩
   obtain ⟨a1,a2⟩:=pr i' j' hi hj hz
   rw [a1,at' i' hi] at e1
   rw [a2,at' j' hj] at e2
   obtain rfl:i'=i:=by omega
   obtain rfl:j'=j:=by omega
   exact hz
theorem ya3 {n m:Int}:isB n m=true ↔ 0≤n∧n < m:=by unfold isB;simp
theorem ykl {h:Hist} (hc:j5 h≠0) (s:Int):zb7 h s=j5 h:=yl1 hc
theorem zts {h:Hist} (hc:j5 h=0) {s:Int} (hb:isB s h.ss.length=true):zb7 h s=0:=zxx hc (ya3.1 hb)
theorem ykm {h:Hist} (hc:j5 h=0) {s:Int} (hb:isB s h.ss.length=false):zb7 h s=2:=zxy hc fun q=>by rw [ya3.2 q] at hb;cases hb
theorem yhg {g:Int}:znj g < 0 ↔ isG g=false:=by
 unfold znj isG
 by_cases h1:g=1
 ·subst h1;decide
 by_cases h2:g=2
 ·subst h2;decide
 by_cases h3:g=4
 ·subst h3;decide
 by_cases h4:g=8
 ·subst h4;decide
 simp [h1,h2,h3,h4]
theorem ypx {h:Hist} (hc:j5 h=0) {s:Int} (hb:isB s h.ss.length=true) {g:Int} (hg:isG g=false):zh2 h s g=2:=(zm2 (zts hc hb) (yhg.2 hg)).1
theorem ypw {h:Hist} (hc:j5 h=0) {s:Int} (hb:isB s h.ss.length=true) {g:Int} (hg:isG g=true):zh2 h s g=0:=(zis (zts hc hb) fun q=>by rw [yhg.1 q] at hg;cases hg).1
theorem zi5 {f g:Bool} (l m:List ByteArray) (hl:l.length≤4611686018427387904) (hm:m.length≤4611686018427387904):x4 Tryz.prog 62 [.list f 1 (l.map ze7),.list g 1 (m.map ze7)] [] (fun r h'=>h'= []∧r=bv (decide (l=m))):=
 (yd6 l m hl hm).mono (fun r h' q=>⟨q.1,by rw [q.2,zhb zus]⟩)
theorem zl6 {f g:Bool} (l m:List Int) (hl:l.length≤4611686018427387904) (hm:m.length≤4611686018427387904):x4 Tryz.prog 64 [.list f 1 (l.map zad),.list g 1 (m.map zad)] [] (fun r h'=>h'= []∧r=bv (decide (l=m))):=
 (zwy l m hl hm).mono (fun r h' q=>⟨q.1,by rw [q.2,zhb zpf]⟩)
theorem zzj (a b:Ev) (ha:a.scan.length≤4611686018427387904) (hb:b.scan.length≤4611686018427387904):x4 Tryz.prog 63 [.agg (evR a),.agg (evR b)] [] (fun r h'=>h'= []∧r=bv (decide (a=b))):=
 (zfa a b ha hb).mono (fun r h' q=>⟨q.1,by rw [q.2,zt2]⟩)
theorem zcx {a b:Hist} (h:a≠b):zsz a b=false:=by
 cases q:zsz a b with
 |false=>rfl
 |true=>exact absurd ((zl2 a b).1 q) h
theorem yi7 {a b:Hist} (h:a=b):zsz a b=true:=(zl2 a b).2 h
set_option maxHeartbeats 4000000 in
theorem yjj (a b:Hist) (la:Lim 4611686018427387904 a) (lb:Lim 4611686018427387904 b):x4 Tryz.prog 22 [.agg (x5 a),.agg (x5 b)] [] (fun r h'=>h'= []∧r=bv (zsz a b)):=by
 refine z6 Tryz.func22 rfl rfl rfl ?_
 refine rn ?_;refine z8 rfl (x9 rfl rfl rfl fun b2=> ?_)
 refine z8 rfl (x9 rfl rfl rfl fun b3=> ?_)
 refine rn ?_;refine qv rfl rfl (y4 rfl rfl (v7 (zi5 a.ts b.ts la.ts lb.ts) (Sbs.refl _))) ?_
 refine rn ?_;refine y9 (fun hg1_6=> ?_) (fun hg1_6=> ?_)
 ·refine rn ?_;refine zdf rfl ?_;refine rn ?_;exact u9 rfl (.drop [_,_] _ _) ⟨rfl,congrArg bv (Eq.symm (zcx fun q=>by subst q;simp_all))⟩
 ·refine rn ?_;refine qv rfl rfl (y4 rfl rfl (v7 (zi5 a.ss b.ss la.ss lb.ss) (Sbs.refl _))) ?_
  refine rn ?_;refine y9 (fun hg1_14=> ?_) (fun hg1_14=> ?_)
  ·refine rn ?_;refine zdf rfl ?_;refine rn ?_;exact u9 rfl (.drop [_,_] _ _) ⟨rfl,congrArg bv (Eq.symm (zcx fun q=>by subst q;simp_all))⟩
  ·refine rn ?_;refine qv rfl rfl (y4 rfl rfl (v7 (zi5 a.os b.os la.os lb.os) (Sbs.refl _))) ?_
   refine rn ?_;refine y9 (fun hg1_22=> ?_) (fun hg1_22=> ?_)
   ·refine rn ?_;refine zdf rfl ?_;refine rn ?_;exact u9 rfl (.drop [_,_] _ _) ⟨rfl,congrArg bv (Eq.symm (zcx fun q=>by subst q;simp_all))⟩
   ·refine rn ?_;refine qv rfl rfl (y4 rfl rfl (v7 (zi5 a.ps b.ps la.ps lb.ps) (Sbs.refl _))) ?_
    refine rn ?_;refine y9 (fun hg1_30=> ?_) (fun hg1_30=> ?_)
    ·refine rn ?_;refine zdf rfl ?_;refine rn ?_;exact u9 rfl (.drop [_,_] _ _) ⟨rfl,congrArg bv (Eq.symm (zcx fun q=>by subst q;simp_all))⟩
    ·refine rn ?_;refine y9 (fun hg1_39=> ?_) (fun hg1_39=> ?_)
     ·refine rn ?_;refine zdf rfl ?_;refine rn ?_;exact u9 rfl (.drop [_,_] _ _) ⟨rfl,congrArg bv (Eq.symm (zcx fun q=>by subst q;simp_all))⟩
     ·refine rn ?_;refine y9 (fun hg1_48=> ?_) (fun hg1_48=> ?_)
      ·refine rn ?_;refine zdf rfl ?_;refine rn ?_;exact u9 rfl (.drop [_,_] _ _) ⟨rfl,congrArg bv (Eq.symm (zcx fun q=>by subst q;simp_all))⟩
      ·refine rn ?_;refine y9 (fun hg1_57=> ?_) (fun hg1_57=> ?_)
       ·refine rn ?_;refine zdf rfl ?_;refine rn ?_;exact u9 rfl (.drop [_,_] _ _) ⟨rfl,congrArg bv (Eq.symm (zcx fun q=>by subst q;simp_all))⟩
       ·refine rn ?_;refine z7 rfl (fun hc78=> ?_) (fun hc78=> ?_)
        ·refine rn ?_;exact u9 rfl (.drop [_,_] _ _) ⟨rfl,congrArg bv (Eq.symm (zcx fun q=>by subst q;simp_all))⟩
        ·have Ets:a.ts=b.ts:=by simp_all
         have Ess:a.ss=b.ss:=by simp_all
         have Eos:a.os=b.os:=by simp_all
         have Eps:a.ps=b.ps:=by simp_all
         have Levs:a.evs.length=b.evs.length:=by simp at *;omega
         have Lords:a.ords.length=b.ords.length:=by simp at *;omega
         have Lmats:a.mats.length=b.mats.length:=by simp at *;omega
         have Lwants:a.wants.length=b.wants.length:=by simp at *;omega
         refine rn ?_;refine j3 (fun k:Nat=>k≤a.evs.length∧a.evs.take k=b.evs.take k) (fun k=>⟨[(82,iv k),(81,iv (a.evs.map evR).length),(2,pZ b2),(3,pZ b3)],[.box b3 28 (x5 b),.box b2 28 (x5 a)],[]⟩) (fun k=>a.evs.length - k) 0 ⟨Nat.zero_le _,by simp⟩
          (w8 (.cons _ _ _ rfl (.cons _ _ _ rfl (.cons _ _ _ rfl (.cons _ _ _ rfl (.nil)))))) ?_
         rintro k ⟨hk,ht⟩
         refine rn ?_;refine z7 rfl (fun hc83=> ?_) (fun hc83=> ?_)
         ·have hbig:=la.evs
          have hk2:k < a.evs.length:=by simpa using hc83
          have hk3:k < b.evs.length:=by omega
          obtain ⟨x,hx0⟩:∃x,x=a.evs[k]:=⟨_,rfl⟩
          obtain ⟨y,hy0⟩:∃y,y=b.evs[k]:=⟨_,rfl⟩
          have hrow1:(a.evs.map evR)[k]? =some (evR x):=by rw [hx0];simp [hk2]
          have hrow2:(b.evs.map evR)[k]? =some (evR y):=by rw [hy0];simp [hk3]
          refine rn ?_;refine j6 10 rfl ?_
          refine rn ?_;refine qv rfl rfl (y4 rfl rfl (v7 (zzj x y (la.scans _ (by rw [hx0];exact List.getElem_mem _)) (lb.scans _ (by rw [hy0];exact List.getElem_mem _))) (Sbs.refl _))) ?_
          refine rn ?_;refine z7 rfl (fun hc96=> ?_) (fun hc96=> ?_)
          ·have hne:x≠y:=by clear hx0 hy0 hrow1 hrow2 ht;intro q;subst q;simp_all
           refine rn ?_;exact u9 rfl (.drop [_,_] _ _) ⟨rfl,congrArg bv (Eq.symm (zcx fun q=>by subst q;exact hne (hx0.trans hy0.symm)))⟩
          ·have hxy:x=y:=by simpa using hc96
           refine rn ?_;exact ⟨k+1,⟨by omega,by rw [List.take_succ_eq_append_getElem hk2,List.take_succ_eq_append_getElem hk3,ht,←hx0,←hy0,hxy]⟩,(w8 (.cons _ _ _ rfl (.cons _ _ _ rfl (.cons _ _ _ rfl (.cons _ _ _ rfl (.nil)))))),by omega⟩
         ·have hk2:¬k < a.evs.length:=by simpa using hc83
          have Eevs:a.evs=b.evs:=by
           have hk3:k=a.evs.length:=by omega
           rw [hk3,List.take_length] at ht
           rw [ht,Levs,List.take_length]
          clear ht hk
          refine rn ?_;refine j3 (fun k:Nat=>k≤a.ords.length∧a.ords.take k=b.ords.take k) (fun k=>⟨[(101,iv k),(100,iv (a.ords.map zdk).length),(99,zxh a.ords),(2,pZ b2),(3,pZ b3)],[.box b3 28 (x5 b),.box b2 28 (x5 a)],[]⟩) (fun k=>a.ords.length - k) 0 ⟨Nat.zero_le _,by simp⟩
           (w8 (.cons _ _ _ rfl (.cons _ _ _ rfl (.cons _ _ _ rfl (.cons _ _ _ rfl (.cons _ _ _ rfl (.nil))))))) ?_
          rintro k ⟨hk,ht⟩
          refine rn ?_;refine z7 rfl (fun hc102=> ?_) (fun hc102=> ?_)
          ·have hbig:=la.ords
           have hk2:k < a.ords.length:=by simpa using hc102
           have hk3:k < b.ords.length:=by omega
           obtain ⟨x,hx0⟩:∃x,x=a.ords[k]:=⟨_,rfl⟩
           obtain ⟨y,hy0⟩:∃y,y=b.ords[k]:=⟨_,rfl⟩
           have hrow1:(a.ords.map zdk)[k]? =some (zdk x):=by rw [hx0];simp [hk2]
           have hrow2:(b.ords.map zdk)[k]? =some (zdk y):=by rw [hy0];simp [hk3]
           refine rn ?_;refine z8 rfl (y6 rfl fun b7=> ?_)
           refine rn ?_;refine z8 rfl (y6 rfl fun b8=> ?_)
           refine rn ?_;refine y9 (fun hg13_5=> ?_) (fun hg13_5=> ?_)
           ·refine rn ?_;refine zdf rfl ?_;have hne:x≠y:=by clear hx0 hy0 hrow1 hrow2 ht;intro q;subst q;simp_all
            refine rn ?_;exact u9 rfl (.drop [_,_,_,_] _ _) ⟨rfl,congrArg bv (Eq.symm (zcx fun q=>by subst q;exact hne (hx0.trans hy0.symm)))⟩
           ·refine rn ?_;refine qv rfl rfl (y4 rfl rfl (v7 (zl6 x.ts y.ts (la.ordts _ (by rw [hx0];exact List.getElem_mem _)) (lb.ordts _ (by rw [hy0];exact List.getElem_mem _))) (Sbs.refl _))) ?_
            refine rn ?_;refine z7 rfl (fun hc123=> ?_) (fun hc123=> ?_)
            ·have hne:x≠y:=by clear hx0 hy0 hrow1 hrow2 ht;intro q;subst q;simp_all
             refine rn ?_;exact u9 rfl (.drop [_,_,_,_] _ _) ⟨rfl,congrArg bv (Eq.symm (zcx fun q=>by subst q;exact hne (hx0.trans hy0.symm)))⟩
            ·have hxy:x=y:=by clear hx0 hy0 hrow1 hrow2 ht;cases x;cases y;simp_all
             refine rn ?_;exact ⟨k+1,⟨by omega,by rw [List.take_succ_eq_append_getElem hk2,List.take_succ_eq_append_getElem hk3,ht,←hx0,←hy0,hxy]⟩,(v6 (zcs (h1:= [_,_])) (w8 (.cons _ _ _ rfl (.cons _ _ _ rfl (.cons _ _ _ rfl (.cons _ _ _ rfl (.cons _ _ _ rfl (.nil)))))))),by omega⟩
          ·have hk2:¬k < a.ords.length:=by simpa using hc102
           have Eords:a.ords=b.ords:=by
            have hk3:k=a.ords.length:=by omega
            rw [hk3,List.take_length] at ht
            rw [ht,Lords,List.take_length]
           clear ht hk
           refine rn ?_;refine j3 (fun k:Nat=>k≤a.mats.length∧a.mats.take k=b.mats.take k) (fun k=>⟨[(128,iv k),(127,iv (a.mats.map ze4).length),(126,zo8 a.mats),(2,pZ b2),(3,pZ b3)],[.box b3 28 (x5 b),.box b2 28 (x5 a)],[]⟩) (fun k=>a.mats.length - k) 0 ⟨Nat.zero_le _,by simp⟩
            (w8 (.cons _ _ _ rfl (.cons _ _ _ rfl (.cons _ _ _ rfl (.cons _ _ _ rfl (.cons _ _ _ rfl (.nil))))))) ?_
           rintro k ⟨hk,ht⟩
           refine rn ?_;refine z7 rfl (fun hc129=> ?_) (fun hc129=> ?_)
           ·have hbig:=la.mats
            have hk2:k < a.mats.length:=by simpa using hc129
            have hk3:k < b.mats.length:=by omega
            obtain ⟨x,hx0⟩:∃x,x=a.mats[k]:=⟨_,rfl⟩
            obtain ⟨y,hy0⟩:∃y,y=b.mats[k]:=⟨_,rfl⟩
            have hrow1:(a.mats.map ze4)[k]? =some (ze4 x):=by rw [hx0];simp [hk2]
            have hrow2:(b.mats.map ze4)[k]? =some (ze4 y):=by rw [hy0];simp [hk3]
            refine rn ?_;refine z8 rfl (y6 rfl fun b10=> ?_)
            refine rn ?_;refine z8 rfl (y6 rfl fun b11=> ?_)
            refine rn ?_;refine y9 (fun hg20_5=> ?_) (fun hg20_5=> ?_)
            ·refine rn ?_;refine zdf rfl ?_;have hne:x≠y:=by clear hx0 hy0 hrow1 hrow2 ht;intro q;subst q;simp_all
             refine rn ?_;exact u9 rfl (.drop [_,_,_,_] _ _) ⟨rfl,congrArg bv (Eq.symm (zcx fun q=>by subst q;exact hne (hx0.trans hy0.symm)))⟩
            ·refine rn ?_;refine y9 (fun hg20_12=> ?_) (fun hg20_12=> ?_)
             ·refine rn ?_;refine zdf rfl ?_;have hne:x≠y:=by clear hx0 hy0 hrow1 hrow2 ht;intro q;subst q;simp_all
              refine rn ?_;exact u9 rfl (.drop [_,_,_,_] _ _) ⟨rfl,congrArg bv (Eq.symm (zcx fun q=>by subst q;exact hne (hx0.trans hy0.symm)))⟩
             ·refine rn ?_;refine y9 (fun hg20_19=> ?_) (fun hg20_19=> ?_)
              ·refine rn ?_;refine zdf rfl ?_;have hne:x≠y:=by clear hx0 hy0 hrow1 hrow2 ht;intro q;subst q;simp_all
               refine rn ?_;exact u9 rfl (.drop [_,_,_,_] _ _) ⟨rfl,congrArg bv (Eq.symm (zcx fun q=>by subst q;exact hne (hx0.trans hy0.symm)))⟩
              ·refine rn ?_;refine qv rfl rfl (y4 rfl rfl (v7 (zl6 x.ts y.ts (la.matts _ (by rw [hx0];exact List.getElem_mem _)) (lb.matts _ (by rw [hy0];exact List.getElem_mem _))) (Sbs.refl _))) ?_
               refine rn ?_;refine z7 rfl (fun hc164=> ?_) (fun hc164=> ?_)
               ·have hne:x≠y:=by clear hx0 hy0 hrow1 hrow2 ht;intro q;subst q;simp_all
                refine rn ?_;exact u9 rfl (.drop [_,_,_,_] _ _) ⟨rfl,congrArg bv (Eq.symm (zcx fun q=>by subst q;exact hne (hx0.trans hy0.symm)))⟩
               ·have hxy:x=y:=by clear hx0 hy0 hrow1 hrow2 ht;cases x;cases y;simp_all
                refine rn ?_;exact ⟨k+1,⟨by omega,by rw [List.take_succ_eq_append_getElem hk2,List.take_succ_eq_append_getElem hk3,ht,←hx0,←hy0,hxy]⟩,(v6 (zcs (h1:= [_,_])) (w8 (.cons _ _ _ rfl (.cons _ _ _ rfl (.cons _ _ _ rfl (.cons _ _ _ rfl (.cons _ _ _ rfl (.nil)))))))),by omega⟩
           ·have hk2:¬k < a.mats.length:=by simpa using hc129
            have Emats:a.mats=b.mats:=by
             have hk3:k=a.mats.length:=by omega
             rw [hk3,List.take_length] at ht
             rw [ht,Lmats,List.take_length]
            clear ht hk
            refine rn ?_;refine j3 (fun k:Nat=>k≤a.wants.length∧a.wants.take k=b.wants.take k) (fun k=>⟨[(169,iv k),(168,iv (a.wants.map zff).length),(2,pZ b2),(3,pZ b3)],[.box b3 28 (x5 b),.box b2 28 (x5 a)],[]⟩) (fun k=>a.wants.length - k) 0 ⟨Nat.zero_le _,by simp⟩
             (w8 (.cons _ _ _ rfl (.cons _ _ _ rfl (.cons _ _ _ rfl (.cons _ _ _ rfl (.nil)))))) ?_
            rintro k ⟨hk,ht⟩
            refine rn ?_;refine z7 rfl (fun hc170=> ?_) (fun hc170=> ?_)
            ·have hbig:=la.wants
             have hk2:k < a.wants.length:=by simpa using hc170
             have hk3:k < b.wants.length:=by omega
             obtain ⟨x,hx0⟩:∃x,x=a.wants[k]:=⟨_,rfl⟩
             obtain ⟨y,hy0⟩:∃y,y=b.wants[k]:=⟨_,rfl⟩
             have hrow1:(a.wants.map zff)[k]? =some (zff x):=by rw [hx0];simp [hk2]
             have hrow2:(b.wants.map zff)[k]? =some (zff y):=by rw [hy0];simp [hk3]
             refine rn ?_;refine j6 10 rfl ?_
             refine rn ?_;refine z7 rfl (fun hc182=> ?_) (fun hc182=> ?_)
             ·have hne:x≠y:=by clear hx0 hy0 hrow1 hrow2 ht;intro q;subst q;simp_all
              refine rn ?_;exact u9 rfl (.drop [_,_] _ _) ⟨rfl,congrArg bv (Eq.symm (zcx fun q=>by subst q;exact hne (hx0.trans hy0.symm)))⟩
             ·have hxy:x=y:=by clear hx0 hy0 hrow1 hrow2 ht;cases x;cases y;simp_all
              refine rn ?_;exact ⟨k+1,⟨by omega,by rw [List.take_succ_eq_append_getElem hk2,List.take_succ_eq_append_getElem hk3,ht,←hx0,←hy0,hxy]⟩,(w8 (.cons _ _ _ rfl (.cons _ _ _ rfl (.cons _ _ _ rfl (.cons _ _ _ rfl (.nil)))))),by omega⟩
            ·have hk2:¬k < a.wants.length:=by simpa using hc170
             have Ewants:a.wants=b.wants:=by
              have hk3:k=a.wants.length:=by omega
              rw [hk3,List.take_length] at ht
              rw [ht,Lwants,List.take_length]
             clear ht hk
             refine rn ?_;exact u9 rfl (.drop [_,_] _ _) ⟨rfl,congrArg bv (Eq.symm (yi7 (by cases a;cases b;simp_all)))⟩
theorem ymy (h:Hist) (la:Lim 4611686018427387904 h):x4 Tryz.prog 22 [.agg (x5 h),.agg (x5 h)] [] (fun r h'=>h'= []∧r=bv true):=(yjj h h la la).mono fun _ _ q=>⟨q.1,by rw [q.2,zwt]⟩
end Go.Proofs
namespace Go.Ab
open Go
section
variable {P:Program} {h:List Res} {f:Operand→Option AV} {dst:Option Tmp} {ty:TypeId} {pos:String} {after:Array Edge} {guard:Option (Nat×Bool)} {x:Operand}
theorem yg0 {T T':TypeId} {k:IntKind} {a b c:Int} {y:Operand} (hx:f x=some (.v (.int k a))) (hy:f y=some (.v (.int k b))) (hb:b≠0) (hc:a.tmod b=c):
 QR P h f ⟨dst,.binOp .rem T x y T',ty,pos,after,guard⟩ (.v (.int k c)):=fun X ρ w he=>by
 refine ⟨_,run_v _ ?_,.v _⟩
 rw [(he.rel x _ hx).v_eq,(he.rel y _ hy).v_eq,zdn]
 simp [binOp,Op.intDiv,hb,hc]
end
end Go.Ab
set_option maxRecDepth 10000
namespace Go.Proofs
open Go Go.Ab
attribute [local irreducible] QR QV OE zcw aw zdx zcv zb3 za2 thn zgt zeq jch zf2
open Go.H
def zch (h:Hist) (s:Int):Bool:=decide (j5 h=0) && isB s h.ss.length
def ntC (h:Hist):Int:=if j5 h=0 then 2 else j5 h
def zx6 (h:Hist) (s:Int) (i:Nat) (l:List Brch):List Brch:=(if zch h s=true then eaS h s (zer (i % 4)) else [])++l.take 4
def brT (z:Brch):Brch:=⟨z.g,z.e,z.l,z.o,z.a,IntKind.i64.wrap (z.b+1)⟩
def yii (c d:Brch) (k:Nat):Brch:=if k=0 then c else d
theorem zyj {c d:Brch} {k:Nat} (hk:k < 2):((zah c++zah d).drop (k * 6)).take 6=zah (yii c d k):=by
 match k,hk with
 |0,_=>rfl
 |1,_=>rfl
theorem take_min {α β:Type} {f:α→β} (l:List α) (n:Nat):(l.map f).take (min (l.map f).length n)=(l.take n).map f:=by
 rw [←List.map_take,List.length_map]
 congr 1
 by_cases h:l.length≤n
 ·rw [Nat.min_eq_left h,List.take_length,List.take_of_length_le h]
 ·rw [Nat.min_eq_right (by omega)]
theorem yq1 {h:Hist} (hc:j5 h=0) (s:Int):ntC h=2∧zch h s=isB s h.ss.length:=⟨if_pos hc,by rw [zch,decide_eq_true hc,Bool.true_and]⟩
theorem ysf {h:Hist} (hc:j5 h≠0) (s:Int):ntC h=j5 h∧zch h s=false:=⟨if_neg hc,by rw [zch,decide_eq_false hc,Bool.false_and]⟩
theorem ycz {h:Hist} {s:Int} (hr:zch h s=true):j5 h=0∧isB s h.ss.length=true:=by
 rw [zch,Bool.and_eq_true] at hr
 exact ⟨of_decide_eq_true hr.1,hr.2⟩
theorem yar {h:Hist} {s:Int} (hr:zch h s=false):zb7 h s=ntC h∧zb7 h s≠0:=by
 by_cases hc:j5 h=0
 ·have hb:isB s h.ss.length=false:=by rw [←(yq1 hc s).2,hr]
  rw [ykm hc hb,ntC,if_pos hc];exact ⟨rfl,by decide⟩
 ·rw [ykl hc,ntC,if_neg hc];exact ⟨rfl,hc⟩
theorem ysi {h:Hist} {s:Int} (hr:zch h s=true) (i:Nat) (l:List Brch):haO h s=yql h s∧zb7 h s=0∧zx6 h s i l=eaS h s (zer (i % 4))++l.take 4:=by
 have hl:=zts (ycz hr).1 (ycz hr).2
 exact ⟨by rw [yk6 hl,yov],hl,by rw [zx6,if_pos hr]⟩
theorem ysj {h:Hist} {s:Int} (hr:zch h s=false) (i:Nat) (l:List Brch):haO h s=0∧zb7 h s=ntC h∧zx6 h s i l=l.take 4:=by
 have hl:=yar hr
 exact ⟨by rw [haO,if_neg hl.2],hl.1,by rw [zx6,hr];rfl⟩
theorem yqh {h:Hist} {s:Int} (hr:zch h s=true) (z:Brch):isO h s z=(isG z.g && decide (z∈eaS h s z.g)):=by
 obtain ⟨hc,hb⟩:=ycz hr
 cases hg:isG z.g with
 |true=>rw [ykz (zdy.1 hc) (ypw hc hb hg),Bool.true_and]
 |false=>rw [yky (by rw [ypx hc hb hg];decide),Bool.false_and]
theorem yqj {h:Hist} {s:Int} (hr:zch h s=false) (z:Brch):isO h s z=false:=yky (by rw [(zj6 (g:=z.g) (yar hr).2).1];exact (yar hr).2)
theorem zwg {h:Hist} (hE:h.evs.length≤70) (s:Int) (i:Nat) (l:List Brch):(zx6 h s i l).length≤90000000000:=by
 have h4:(l.take 4).length≤4:=by rw [List.length_take];omega
 rw [zx6,List.length_append]
 split
 ·rename_i hr
  have:=zpq hE (ycz hr).1 s (zer (i % 4))
  omega
 ·simp only [List.length_nil];omega
theorem ygt:∀{k:Nat},k < 4→zqo .shl .i64 1 (k:Nat)=some (zer k)
 |0,_=>rfl
 |1,_=>rfl
 |2,_=>rfl
 |3,_=>rfl
theorem zny (h:Hist) (la:Lim 3000 h) (hc:j5 h=0) (hE:h.evs.length≤70) (s g:Int):x4 Tryz.prog 20 [.agg (x5 h),iv s,iv g] [] (fun r h'=>∃v:Value,h'= [.row v 6 36 ((eaS h s g).map zah)]∧r= .v v):=(znx h la hc hE s g).mono (by rintro _ _ ⟨v,rfl,rfl⟩;exact ⟨_,rfl,rfl⟩)
theorem zhv (l m:List Brch):zhf (l++m)= .list false 6 (l.map zah++m.map zah):=by rw [zhf,List.map_append]
set_option maxHeartbeats 4000000 in
theorem zwr (x:Hist) (ss:List Int) (zs:List Brch) (lb:Big x) (hl:ss.length≤4611686018427387904) (hz:zs.length≤4611686018427387904):x4 Tryz.prog 5 [.agg (x5 x),zb8 ss,zhf zs] (.glob 0 117 w7:: .glob 3 148 x6:: .glob 5 276 x7:: .glob 6 279 y7:: .glob 2 197 u6:: []) (fun r h'=>h'= .glob 0 117 w7:: .glob 3 148 x6:: .glob 5 276 x7:: .glob 6 279 y7:: .glob 2 197 u6:: []∧r=bv true):=by
 refine z6 Tryz.func5 rfl rfl rfl ?_
 refine rn ?_;refine z8 rfl (x9 rfl rfl rfl fun b3=> ?_)
 refine rn ?_;refine qv rfl rfl (y4 rfl rfl (y3.qt (y3.of_fun yid) ((pt1 _ _ _).trans (.cons _ ((pt1 _ _ _).trans (.cons _ ((pt1 _ _ _).trans (.cons _ ((pt1 _ _ _).trans (.cons _ (pt1 _ _ _))))))))))) ?_
 refine rn ?_;refine z7 rfl (fun hc23=> ?_) (fun hc23=> ?_)
 ·exact absurd hc23 (by decide)
 ·refine rn ?_;refine qv rfl rfl (y4 rfl rfl (v7 (yns x lb) (Sbs.refl _))) ?_
  refine z8 rfl (y6 rfl fun b7=> ?_)
  refine rn ?_;refine qv rfl rfl (y4 rfl rfl (v7 (zw4 (u4 x) (zf1 lb.lim)) (Sbs.refl _))) ?_
  refine q1 ?_;refine u5 (k8 ?_)
  refine x8 ?_;refine x8 (y5 ?_)
  refine q1 ?_;refine q1 ?_;refine q1 ?_;refine qq rfl rfl (zma (ss.map zad).length 4 rfl rfl) ?_
  refine q1 ?_;refine q1 ?_;refine qq rfl rfl (zma (ss.map zad).length 4 rfl rfl) ?_
  refine qq rfl rfl (zbq (zl8 (k:=min (ss.map zad).length 4) rfl rfl rfl (Nat.min_le_left _ _)) (show AV.list true 1 _= .list true 1 ((ss.take 4).map zad) by rw [take_min])) ?_
  refine qv rfl rfl (q9 rfl rfl) ?_
  refine qv rfl rfl (zzs rfl rfl (by simp only [List.length_map,List.length_take,List.length_cons,List.length_nil];omega)) ?_
  rw [show (ss.take 4).map zad++ [[iv 0]]=(ss.take 4++ [0]).map zad by rw [List.map_append];rfl]
  obtain ⟨L,hL⟩:∃L,ss.take 4++ [0]=L:=⟨_,rfl⟩
  rw [hL]
  have hL5:L.length≤5:=by
   rw [←hL,List.length_append,List.length_take,List.length_cons,List.length_nil];omega
  refine rn ?_;refine zbp (L.length) (fun i:Nat=>True) (fun i=> [(39,iv i)]) [(2,_),(3,_),(7,_),(8,_),(37,_),(38,_)] trivial ?_
  intro i li _
  refine rn ?_;refine z7 rfl (fun hc40=> ?_) (fun hc40=> ?_)
  ·have hi:=zao hc40
   have ri:=zac (f:=zad) hi
   obtain ⟨s,hs0⟩:∃s,L[i]=s:=⟨_,rfl⟩
   rw [hs0] at ri
   refine rn ?_;refine qv rfl rfl (y4 rfl rfl (y3.qt (y3.of_fun (ygv (u4 x) (zf1 lb.lim) s)) ((pt2 _ _ _ _).trans (.cons _ ((pt2 _ _ _ _).trans (.cons _ ((pt2 _ _ _ _).trans (.cons _ ((pt2 _ _ _ _).trans (.cons _ (pt2 _ _ _ _))))))))))) ?_
   refine rn ?_;refine y9 (fun hg10_2=> ?_) (fun hg10_2=> ?_)
   ·refine rn ?_;refine qv rfl rfl (y4 rfl rfl (v7 (zwx (u4 x) s) (Sbs.refl _))) ?_
    refine rn0 ?_;refine ze1 (⟨[(9,iv i),(10,iv s),(11,iv (haO (u4 x) s)),(12,iv (zb7 (u4 x) s)),(13,iv 0),(14,iv (ntC (u4 x))),(15,bv (zch (u4 x) s)),(2,zhf zs),(3,pZ b3),(7,pZ b7),(8,iv (j5 (u4 x))),(37,.list false 1 (L.map zad)),(38,iv (L.map zad).length),(39,iv i)],.box b7 28 (x5 (u4 x)):: .box b3 28 (x5 x):: .glob 0 117 w7:: .glob 3 148 x6:: .glob 5 276 x7:: .glob 6 279 y7:: .glob 2 197 u6:: [],[]⟩) ?_ ?_
    ·refine rn ?_;refine z7 rfl (fun hc59=> ?_) (fun hc59=> ?_)
     ·first
      |have hq:ntC (u4 x)=2∧zch (u4 x) s=false:=absurd (hg10_2.symm.trans hc59) (by decide)
      |have hq:=yq1 (h:=(u4 x)) (eq_of_beq hc59) s
      refine rn ?_;rw [hq.1,hq.2]
      exact eA
     ·first
      |have hq:ntC (u4 x)=j5 (u4 x)∧zch (u4 x) s=isB s (u4 x).ss.length:=absurd (hg10_2.symm.trans hc59) (by decide)
      |have hq:=ysf (h:=(u4 x)) (by simpa using hc59) s
      refine rn ?_;rw [hq.1,hq.2]
      exact eA
    ·refine x8 (y5 ?_)
     refine q1 ?_;refine q1 ?_;refine q1 ?_;refine qq rfl rfl (zma (zs.map zah).length 4 rfl rfl) ?_
     refine qq rfl rfl (zih (rows':=(zs.take 4).map zah) rfl rfl (Nat.min_le_left _ _) (take_min _ _)) ?_
     refine rn0 ?_;refine ze1 (⟨[(9,iv i),(10,iv s),(11,iv (haO (u4 x) s)),(12,iv (zb7 (u4 x) s)),(13,iv (haO (u4 x) s)),(14,iv (zb7 (u4 x) s)),(15,bv (zch (u4 x) s)),(16,zhf (zx6 (u4 x) s i zs)),(2,zhf zs),(3,pZ b3),(7,pZ b7),(8,iv (j5 (u4 x))),(37,.list false 1 (L.map zad)),(38,iv (L.map zad).length),(39,iv i)],.box b7 28 (x5 (u4 x)):: .box b3 28 (x5 x):: .glob 0 117 w7:: .glob 3 148 x6:: .glob 5 276 x7:: .glob 6 279 y7:: .glob 2 197 u6:: [],[]⟩) ?_ ?_
     ·refine rn ?_;refine z7 rfl (fun hc65=> ?_) (fun hc65=> ?_)
      ·have hr:zch (u4 x) s=true:=hc65
       have hc:=(ycz hr).1
       have hq:=ysi hr i zs
       have heL:=zpq (Nat.le_trans (zce x) (by decide)) hc s (zer (i % 4))
       refine rn ?_;refine qv rfl rfl (y4 rfl rfl (v7 (zvf (u4 x) ((zej hc).mono (by decide):Lim 3000 (u4 x)) hc (Nat.le_trans (zce x) (by decide)) s) (Sbs.refl _))) ?_
       refine rn ?_;refine zlr 7 rfl ?_
       refine mq rfl rfl qrA ?_;refine mq rfl rfl qrA ?_;refine mq rfl rfl qrA ?_;refine mq rfl rfl (yg0 (c:=((i % 4:Nat):Int)) rfl rfl (by decide) (by rfl)) ?_
       refine mq rfl rfl (zgd (c:=zer (i % 4)) rfl rfl (ygt (Nat.mod_lt i (by decide))) (Int.natCast_nonneg _)) ?_
       refine yai (yg8 6 36 ((eaS (u4 x) s (zer (i % 4))).map zah)) rfl rfl rfl (zrb (y3.of_fun (zny (u4 x) ((zej hc).mono (by decide):Lim 3000 (u4 x)) hc (Nat.le_trans (zce x) (by decide)) s (zer (i % 4))))) ?_
       refine rn ?_;refine yqe ⟨.refl _,?_⟩
       refine rn ?_;refine zmg fun s74=> ?_
       refine rn ?_;refine z8 rfl (j7 rfl rfl (by simp only [List.length_map,List.length_take];omega) rfl (fun s77=> ?_) (zpw _))
       refine zaj s77 fun sv hsv=> ?_
       subst hsv
       refine rn ?_;first
       |(rw [hq.1,hq.2.1,hq.2.2,zhv];exact zht (by repeat (first|exact .nil|refine .cons _ _ _ rfl ?_|refine .row _ _ rfl ?_)))
       |(rw [hq.1,hq.2.1,hq.2.2];exact eA)
      ·have hr:zch (u4 x) s=false:=hc65
       have hq:=ysj hr i zs
       refine rn ?_;first
       |(rw [hq.1,hq.2.1,hq.2.2,zhv];exact zht (by repeat (first|exact .nil|refine .cons _ _ _ rfl ?_|refine .row _ _ rfl ?_)))
       |(rw [hq.1,hq.2.1,hq.2.2];exact eA)
     ·refine x8 ?_;refine x8 (y5 ?_)
      refine q1 ?_;refine q1 ?_;refine qq rfl rfl (zh9 (c:=false) rfl rfl (congrArg some (bne_self_eq_false _))) ?_
      refine q1 ?_;refine q1 ?_;refine q1 ?_;refine qq rfl rfl (zh9 (c:=false) rfl rfl (congrArg some (bne_self_eq_false _))) ?_
      refine rn ?_;refine z7 rfl (fun hc84=> ?_) (fun hc84=> ?_)
      ·exact absurd hc84 (by decide)
      ·refine rn ?_;have hAl:=zwg (Nat.le_trans (zce x) (by decide)) s i zs
       refine zbp ((zx6 (u4 x) s i zs).length) (fun k:Nat=>True) (fun k=> [(87,iv k)]) [(2,_),(3,_),(7,_),(8,_),(10,_),(15,_),(37,_),(38,_),(39,_),(85,_),(86,_)] trivial ?_
       intro k lk _
       refine rn ?_;refine z7 rfl (fun hc88=> ?_) (fun hc88=> ?_)
       ·have hk:=zao hc88
        have rk:=zac (f:=zah) hk
        obtain ⟨z,hz0⟩:∃z,(zx6 (u4 x) s i zs)[k]=z:=⟨_,rfl⟩
        rw [hz0] at rk
        refine rn ?_;refine z8 rfl (y6 rfl fun b18=> ?_)
        refine rn ?_;refine z7 rfl (fun hc93=> ?_) (fun hc93=> ?_)
        ·refine rn ?_;exact ⟨hi,trivial,eA⟩
        ·refine rn ?_;refine z8 rfl (y6 rfl fun b19=> ?_)
         first|refine z8 rfl (zam rfl rfl rfl ?_)|refine z8 rfl (zba rfl rfl rfl rfl (Nat.le_of_ble_eq_true rfl) ?_)
         refine u5 (k8 ?_)
         refine x8 (y5 ?_)
         refine q1 ?_;refine q1 ?_;refine qq rfl rfl (zz0 rfl rfl) ?_
         refine rn0 ?_;refine x8 ?_;show aw _ _ _ _ _ ⟨_,.box b19 36 (zah (brT z))::_,_⟩
         refine y5 ?_;refine q1 ?_;refine q1 ?_;refine qq rfl rfl (zcn (out:=zah z++zah (brT z)) rfl (by rfl)) ?_
         refine rn ?_;refine zbp (2) (fun m:Nat=>True) (fun m=> [(102,iv m)]) [(2,_),(3,_),(7,_),(8,_),(10,_),(15,_),(37,_),(38,_),(39,_),(85,_),(86,_),(87,_),(101,_)] trivial ?_
         intro m lm _
         refine rn ?_;refine z7 rfl (fun hc103=> ?_) (fun hc103=> ?_)
         ·have hm:m < 2:=by have q:=of_decide_eq_true hc103;omega
          refine zab ?_;refine k8 ?_;refine x8 ?_;refine zal ?_;refine x8 (y5 ?_)
          refine qq rfl rfl (zdb (out:=zah (yii z (brT z) m)) rfl rfl hm (by show m * 6+6≤12;omega) (zyj hm)) ?_
          refine z8 rfl (y6 rfl fun b21=> ?_)
          refine rn ?_;refine qv rfl rfl (y4 rfl rfl (y3.qt (y3.of_fun (ymw (u4 x) (zf1 lb.lim) s (yii z (brT z) m))) ((pt5 _ _ _ _ _ _ _).trans (.cons _ ((pt5 _ _ _ _ _ _ _).trans (.cons _ ((pt5 _ _ _ _ _ _ _).trans (.cons _ ((pt5 _ _ _ _ _ _ _).trans (.cons _ (pt5 _ _ _ _ _ _ _))))))))))) ?_
          refine rn ?_;refine y9 (fun hg28_5=> ?_) (fun hg28_5=> ?_)
          ·refine rn ?_;refine qv rfl rfl (y4 rfl rfl (v7 (zzh (u4 x) ((zej (ycz hg28_5).1).mono (by decide):Lim 3000 (u4 x)) (ycz hg28_5).1 (Nat.le_trans (zce x) (by decide)) s (yii z (brT z) m)) (Sbs.refl _))) ?_
           refine rn ?_;refine z7 rfl (fun hc116=> ?_) (fun hc116=> ?_)
           ·exact absurd hc116 (by first|(rw [yqj hg28_5];decide)|(rw [yqh hg28_5];simp))
           ·refine rn ?_;exact ⟨hm,trivial,eA⟩
          ·refine rn ?_;refine z7 rfl (fun hc116=> ?_) (fun hc116=> ?_)
           ·exact absurd hc116 (by first|(rw [yqj hg28_5];decide)|(rw [yqh hg28_5];simp))
           ·refine rn ?_;exact ⟨hm,trivial,eA⟩
         ·refine rn ?_;exact ⟨hk,trivial,eA⟩
       ·have qk:=zap hc88 lk
        refine rn ?_;exact ⟨hi,trivial,eA⟩
   ·refine rn0 ?_;refine ze1 (⟨[(9,iv i),(10,iv s),(11,iv (haO (u4 x) s)),(12,iv (zb7 (u4 x) s)),(13,iv 0),(14,iv (ntC (u4 x))),(15,bv (zch (u4 x) s)),(2,zhf zs),(3,pZ b3),(7,pZ b7),(8,iv (j5 (u4 x))),(37,.list false 1 (L.map zad)),(38,iv (L.map zad).length),(39,iv i)],.box b7 28 (x5 (u4 x)):: .box b3 28 (x5 x):: .glob 0 117 w7:: .glob 3 148 x6:: .glob 5 276 x7:: .glob 6 279 y7:: .glob 2 197 u6:: [],[]⟩) ?_ ?_
    ·refine rn ?_;refine z7 rfl (fun hc59=> ?_) (fun hc59=> ?_)
     ·first
      |have hq:ntC (u4 x)=2∧zch (u4 x) s=false:=absurd (hg10_2.symm.trans hc59) (by decide)
      |have hq:=yq1 (h:=(u4 x)) (eq_of_beq hc59) s
      refine rn ?_;rw [hq.1,hq.2]
      exact eA
     ·first
      |have hq:ntC (u4 x)=j5 (u4 x)∧zch (u4 x) s=isB s (u4 x).ss.length:=absurd (hg10_2.symm.trans hc59) (by decide)
      |have hq:=ysf (h:=(u4 x)) (by simpa using hc59) s
      refine rn ?_;rw [hq.1,hq.2]
      exact eA
    ·refine x8 (y5 ?_)
     refine q1 ?_;refine q1 ?_;refine q1 ?_;refine qq rfl rfl (zma (zs.map zah).length 4 rfl rfl) ?_
     refine qq rfl rfl (zih (rows':=(zs.take 4).map zah) rfl rfl (Nat.min_le_left _ _) (take_min _ _)) ?_
     refine rn0 ?_;refine ze1 (⟨[(9,iv i),(10,iv s),(11,iv (haO (u4 x) s)),(12,iv (zb7 (u4 x) s)),(13,iv (haO (u4 x) s)),(14,iv (zb7 (u4 x) s)),(15,bv (zch (u4 x) s)),(16,zhf (zx6 (u4 x) s i zs)),(2,zhf zs),(3,pZ b3),(7,pZ b7),(8,iv (j5 (u4 x))),(37,.list false 1 (L.map zad)),(38,iv (L.map zad).length),(39,iv i)],.box b7 28 (x5 (u4 x)):: .box b3 28 (x5 x):: .glob 0 117 w7:: .glob 3 148 x6:: .glob 5 276 x7:: .glob 6 279 y7:: .glob 2 197 u6:: [],[]⟩) ?_ ?_
     ·refine rn ?_;refine z7 rfl (fun hc65=> ?_) (fun hc65=> ?_)
      ·have hr:zch (u4 x) s=true:=hc65
       have hc:=(ycz hr).1
       have hq:=ysi hr i zs
       have heL:=zpq (Nat.le_trans (zce x) (by decide)) hc s (zer (i % 4))
       refine rn ?_;refine qv rfl rfl (y4 rfl rfl (v7 (zvf (u4 x) ((zej hc).mono (by decide):Lim 3000 (u4 x)) hc (Nat.le_trans (zce x) (by decide)) s) (Sbs.refl _))) ?_
       refine rn ?_;refine zlr 7 rfl ?_
       refine mq rfl rfl qrA ?_;refine mq rfl rfl qrA ?_;refine mq rfl rfl qrA ?_;refine mq rfl rfl (yg0 (c:=((i % 4:Nat):Int)) rfl rfl (by decide) (by rfl)) ?_
       refine mq rfl rfl (zgd (c:=zer (i % 4)) rfl rfl (ygt (Nat.mod_lt i (by decide))) (Int.natCast_nonneg _)) ?_
       refine yai (yg8 6 36 ((eaS (u4 x) s (zer (i % 4))).map zah)) rfl rfl rfl (zrb (y3.of_fun (zny (u4 x) ((zej hc).mono (by decide):Lim 3000 (u4 x)) hc (Nat.le_trans (zce x) (by decide)) s (zer (i % 4))))) ?_
       refine rn ?_;refine yqe ⟨.refl _,?_⟩
       refine rn ?_;refine zmg fun s74=> ?_
       refine rn ?_;refine z8 rfl (j7 rfl rfl (by simp only [List.length_map,List.length_take];omega) rfl (fun s77=> ?_) (zpw _))
       refine zaj s77 fun sv hsv=> ?_
       subst hsv
       refine rn ?_;first
       |(rw [hq.1,hq.2.1,hq.2.2,zhv];exact zht (by repeat (first|exact .nil|refine .cons _ _ _ rfl ?_|refine .row _ _ rfl ?_)))
       |(rw [hq.1,hq.2.1,hq.2.2];exact eA)
      ·have hr:zch (u4 x) s=false:=hc65
       have hq:=ysj hr i zs
       refine rn ?_;first
       |(rw [hq.1,hq.2.1,hq.2.2,zhv];exact zht (by repeat (first|exact .nil|refine .cons _ _ _ rfl ?_|refine .row _ _ rfl ?_)))
       |(rw [hq.1,hq.2.1,hq.2.2];exact eA)
     ·refine x8 ?_;refine x8 (y5 ?_)
      refine q1 ?_;refine q1 ?_;refine qq rfl rfl (zh9 (c:=false) rfl rfl (congrArg some (bne_self_eq_false _))) ?_
      refine q1 ?_;refine q1 ?_;refine q1 ?_;refine qq rfl rfl (zh9 (c:=false) rfl rfl (congrArg some (bne_self_eq_false _))) ?_
      refine rn ?_;refine z7 rfl (fun hc84=> ?_) (fun hc84=> ?_)
      ·exact absurd hc84 (by decide)
      ·refine rn ?_;have hAl:=zwg (Nat.le_trans (zce x) (by decide)) s i zs
       refine zbp ((zx6 (u4 x) s i zs).length) (fun k:Nat=>True) (fun k=> [(87,iv k)]) [(2,_),(3,_),(7,_),(8,_),(10,_),(15,_),(37,_),(38,_),(39,_),(85,_),(86,_)] trivial ?_
       intro k lk _
       refine rn ?_;refine z7 rfl (fun hc88=> ?_) (fun hc88=> ?_)
       ·have hk:=zao hc88
        have rk:=zac (f:=zah) hk
        obtain ⟨z,hz0⟩:∃z,(zx6 (u4 x) s i zs)[k]=z:=⟨_,rfl⟩
        rw [hz0] at rk
        refine rn ?_;refine z8 rfl (y6 rfl fun b18=> ?_)
        refine rn ?_;refine z7 rfl (fun hc93=> ?_) (fun hc93=> ?_)
        ·refine rn ?_;exact ⟨hi,trivial,eA⟩
        ·refine rn ?_;refine z8 rfl (y6 rfl fun b19=> ?_)
         first|refine z8 rfl (zam rfl rfl rfl ?_)|refine z8 rfl (zba rfl rfl rfl rfl (Nat.le_of_ble_eq_true rfl) ?_)
         refine u5 (k8 ?_)
         refine x8 (y5 ?_)
         refine q1 ?_;refine q1 ?_;refine qq rfl rfl (zz0 rfl rfl) ?_
         refine rn0 ?_;refine x8 ?_;show aw _ _ _ _ _ ⟨_,.box b19 36 (zah (brT z))::_,_⟩
         refine y5 ?_;refine q1 ?_;refine q1 ?_;refine qq rfl rfl (zcn (out:=zah z++zah (brT z)) rfl (by rfl)) ?_
         refine rn ?_;refine zbp (2) (fun m:Nat=>True) (fun m=> [(102,iv m)]) [(2,_),(3,_),(7,_),(8,_),(10,_),(15,_),(37,_),(38,_),(39,_),(85,_),(86,_),(87,_),(101,_)] trivial ?_
         intro m lm _
         refine rn ?_;refine z7 rfl (fun hc103=> ?_) (fun hc103=> ?_)
         ·have hm:m < 2:=by have q:=of_decide_eq_true hc103;omega
          refine zab ?_;refine k8 ?_;refine x8 ?_;refine zal ?_;refine x8 (y5 ?_)
          refine qq rfl rfl (zdb (out:=zah (yii z (brT z) m)) rfl rfl hm (by show m * 6+6≤12;omega) (zyj hm)) ?_
          refine z8 rfl (y6 rfl fun b21=> ?_)
          refine rn ?_;refine qv rfl rfl (y4 rfl rfl (y3.qt (y3.of_fun (ymw (u4 x) (zf1 lb.lim) s (yii z (brT z) m))) ((pt5 _ _ _ _ _ _ _).trans (.cons _ ((pt5 _ _ _ _ _ _ _).trans (.cons _ ((pt5 _ _ _ _ _ _ _).trans (.cons _ ((pt5 _ _ _ _ _ _ _).trans (.cons _ (pt5 _ _ _ _ _ _ _))))))))))) ?_
          refine rn ?_;refine y9 (fun hg28_5=> ?_) (fun hg28_5=> ?_)
          ·refine rn ?_;refine qv rfl rfl (y4 rfl rfl (v7 (zzh (u4 x) ((zej (ycz hg28_5).1).mono (by decide):Lim 3000 (u4 x)) (ycz hg28_5).1 (Nat.le_trans (zce x) (by decide)) s (yii z (brT z) m)) (Sbs.refl _))) ?_
           refine rn ?_;refine z7 rfl (fun hc116=> ?_) (fun hc116=> ?_)
           ·exact absurd hc116 (by first|(rw [yqj hg28_5];decide)|(rw [yqh hg28_5];simp))
           ·refine rn ?_;exact ⟨hm,trivial,eA⟩
          ·refine rn ?_;refine z7 rfl (fun hc116=> ?_) (fun hc116=> ?_)
           ·exact absurd hc116 (by first|(rw [yqj hg28_5];decide)|(rw [yqh hg28_5];simp))
           ·refine rn ?_;exact ⟨hm,trivial,eA⟩
         ·refine rn ?_;exact ⟨hk,trivial,eA⟩
       ·have qk:=zap hc88 lk
        refine rn ?_;exact ⟨hi,trivial,eA⟩
  ·have qi:=zap hc40 li
   refine rn ?_;refine j6 3 rfl ?_
   refine rn ?_;refine dv rfl rfl (by exact y4 rfl rfl (v7 (yns x lb) (Sbs.refl _))) ?_
   refine rn ?_;refine qv rfl rfl (y4 rfl rfl (v7 (ymy (u4 x) (zf1 lb.lim)) (Sbs.refl _))) ?_
   refine rn ?_;first|(refine rq 2 ?_;exact ⟨rfl,rfl⟩)|(refine rq 3 ?_;exact ⟨rfl,rfl⟩)|(refine rq 4 ?_;exact ⟨rfl,rfl⟩)
end Go.Proofs
