/- What package history answers, as plain functions: what is spoken of, whether a history may be, numbered anew, completed, a transaction's events. .. -/
import Derived.Test.YtcaijocpofcbdaaGreatDoorSAsC
set_option linter.unusedSimpArgs false
set_option linter.unusedVariables false
namespace Go.H
open Go Go.Ab
def zeq (s:ByteArray) (goes:Int→Bool) (i:Nat) (c:Int):Bool:=zoa s i c && goes c
def zjm (c:Int):Bool:=ybt c||ztv c
def zg5 (s:ByteArray):Bool:=(!(s.toList== [])) && decide ((s.size:Int)≤24) && (!ztv (bt s 0)) && ((zcw s (zeq s zjm) 0:Int)==s.size)
def zdr:List ByteArray→List ByteArray→Bool
 |_,[]=>true
 |met,s::r=>zg5 s && (!zxk s met) && zdr (met++ [s]) r
def zhs (most:Nat) (l:List ByteArray):Bool:=decide ((l.length:Int)≤most) && zdr [] l
def zsw (h:Hist):Bool:=decide ((h.evs.length:Int)≤3000) && decide (max (max (h.ords.length:Int) h.mats.length) h.wants.length≤3000)
def okK (h:Hist):Nat→Bool
 |0=>zsw h
 |k+1=>okK h k && zhs (ye1 k) (nmK h k)
def zah (h:Hist):Bool:=
 okK h 4 && h.evs.all (zd9 h) && h.ords.all (zsh h) && h.mats.all (zxo h) && h.wants.all (zyt h)
theorem zqa (h:Hist):okK h 0=(decide (((h.evs.map evR).length:Int)≤3000) && decide (max (max ((h.ords.map zdk).length:Int) (h.mats.map zf0).length) (h.wants.map zfq).length≤3000)):=by
 simp [okK,zsw]
theorem zgu {h:Hist} {k:Nat} (hk:okK h k=false):∀n,okK h (k+n)=false
 |0=>hk
 |n+1=>by
  have ih:=zgu hk n
  show (okK h (k+n) && _)=false
  rw [ih,Bool.false_and]
def okj (h:Hist) (k j:Nat):Bool:=okK h k && decide (((nmK h k).length:Int)≤ye1 k)
theorem zy5 (h:Hist) (k:Nat):okj h k 0=(okK h k && decide ((((nmK h k).map zg2).length:Int)≤ye1 k)):=by simp [okj]
theorem yhl {o:Bool} {l m r:List ByteArray} {x:ByteArray} (hf:zdr [] l=zdr m (x::r)) (h:(o && zg5 x && !zxk x m)=false):o=false∨zdr [] l=false:=by
 cases o with
 |false=>exact .inl rfl
 |true=>rw [Bool.true_and] at h;rw [hf,zdr,h,Bool.false_and];exact .inr rfl
theorem yet {o a b:Bool} (h:(o && a && !b)=true):o=true∧a=true∧b=false:=by
 cases o <;> cases a <;> cases b <;> simp_all
theorem yer {h:Hist} {k:Nat} (h0:zdr [] (nmK h k)=true):okj h k 0=okK h (k+1):=by
 simp [okj,okK,zhs,h0]
theorem yes {h:Hist} {k:Nat} (hk:k < 4) (h0:okj h k 0=false∨zdr [] (nmK h k)=false):okK h 4=false:=by
 have h1:okK h (k+1)=false:=by
  rcases h0 with h0|h0
  ·simp only [okK,zhs];simp only [okj] at h0;rw [←Bool.and_assoc,h0,Bool.false_and]
  ·simp [okK,zhs,h0]
 have:=zgu h1 (3 - k)
 rwa [show k+1+(3 - k)=4 by omega] at this
def ze3 (v:Ver):List (Nat×Int):=if decide (v.k > 0) then [(0,v.t)] else []
def zs5 (s:Seen):List (Nat×Int):=(2,s.o)::ze3 s.v
def ze5 (e:Ev):List (Nat×Int):=if e.kind=1 then [(1,e.s)] else if e.kind=2∨e.kind=3 then (2,e.o)::ze3 e.v else if e.kind=4 then [(3,e.p)] else []
theorem zud {e:Ev} (h:e.kind=1):ze5 e= [(1,e.s)]:=by rw [ze5,if_pos h]
theorem zjd {e:Ev} (h:e.kind=2∨e.kind=3):ze5 e=(2,e.o)::ze3 e.v:=by rw [ze5,if_neg (by omega),if_pos h]
theorem zuc {e:Ev} (h:e.kind=4):ze5 e= [(3,e.p)]:=by rw [ze5,if_neg (by omega),if_neg (by omega),if_pos h]
theorem zue {e:Ev} (h1:e.kind≠1) (h2:e.kind≠2) (h3:e.kind≠3) (h4:e.kind≠4):ze5 e= []:=by rw [ze5,if_neg h1,if_neg (by omega),if_neg h4]
def evL (e:Ev):List (Nat×Int):=(0,e.t)::(ze5 e++e.scan.flatMap zs5)
def tsL (l:List Int):List (Nat×Int):=l.map fun t=>(0,t)
def ybd (r:Ord):List (Nat×Int):=(2,r.o)::tsL r.ts
def zxn (r:Mat):List (Nat×Int):=(3,r.p)::(2,r.o)::tsL r.ts
def zvz (r:Wan):List (Nat×Int):= [(1,r.s)]
def zcb (h:Hist):List (Nat×Int):=h.evs.flatMap evL++(h.ords.flatMap ybd++(h.mats.flatMap zxn++h.wants.flatMap zvz))
def goes {σ α:Type} (step:σ→α→Option σ):Option σ→List α→Option σ
 |st,[]=>st
 |st,x::r=>goes step (st.bind fun s=>step s x) r
theorem zjf {σ α:Type} (step:σ→α→Option σ):∀(l m:List α) (st:Option σ),goes step st (l++m)=goes step (goes step st l) m
 | [],m,st=>rfl
 |x::l,m,st=>zjf step l m _
def Rem {σ α:Type} (step:σ→α→Option σ) (ok:α→Prop) (st:Option σ) (l:List α) (F:Option σ):Prop:=goes step st l=F∧∀x∈l,ok x
section
variable {σ α:Type} {step:σ→α→Option σ} {ok:α→Prop} {st F:Option σ} {l m:List α} {x:α}
theorem Rem.cons (h:Rem step ok st (x::l) F):ok x∧Rem step ok (goes step st [x]) l F:=⟨h.2 x (by simp),h.1,fun y hy=>h.2 y (by simp [hy])⟩
theorem Rem.app (h:Rem step ok st (l++m) F):(∀x∈l,ok x)∧Rem step ok (goes step st l) m F:=⟨fun y hy=>h.2 y (by simp [hy]),by rw [←zjf];exact h.1,fun y hy=>h.2 y (by simp [hy])⟩
theorem Rem.fin (h:Rem step ok st [] F):st=F:=h.1
end
def zc6 (m:List Int) (x:Nat×Int):Option (List Int):=
 let a:=m.getD x.1 0
 if x.2 > a then none else some (m.set x.1 (max a (x.2+1)))
def zm2 (h:Hist):Option (List Int):=goes zc6 (some [0,0,0,0]) (zcb h)
def zr0 (h:Hist):List Int:= [h.ts.length,h.ss.length,h.os.length,h.ps.length]
def zer (h:Hist):Bool:=zah h && (zm2 h==some (zr0 h))
def zcl (h:Hist):Int:=if zer h then 0 else 210
def yfh:Hist:=⟨[],[],[],[],[],[],[],[]⟩
def ofL (t:Int):Nat→List Ev→List Int
 |_,[]=> []
 |i,e::r=>if e.t=t then (i:Int)::ofL t (i+1) r else ofL t (i+1) r
def yga (l:List Ev) (t:Int):Bool:=l.any fun e=>e.t==t && e.kind==1
def yhj (l:List Ev) (t:Int):Bool:=l.any fun e=>e.t==t && (e.kind==5||e.kind==6)
def ygl (t:Nat):Ev:=⟨6,t,0,0,0,⟨0,0⟩,0,[]⟩
def yep (h:Hist):List Nat:=(List.range h.ts.length).filter fun t=>yga h.evs t && !yhj h.evs t
def zzj (h:Hist):Hist:={h with evs:=h.evs++(yep h).map ygl}
def zu1 (h:Hist):Int:=if zer h then (if h.evs.length+(yep h).length≤3000 then 0 else 6) else 210
def zzi (h:Hist):Hist:=if zu1 h=0 then zzj h else yfh
def ofR (h:Hist) (t:Int):List Int:=if zer h then ofL t 0 h.evs else []
def zmm {σ α:Type} (f:σ→α→α×σ):σ→List α→List α×σ
 |s,[]=>([],s)
 |s,x::r=>((f s x).1::(zmm f (f s x).2 r).1,(zmm f (f s x).2 r).2)
section
variable {σ:Type} (f:σ→Nat→Int→Int×σ)
def zsq (s:σ) (v:Ver):Ver×σ:=if decide (v.k > 0) then (⟨(f s 0 v.t).1,v.k⟩,(f s 0 v.t).2) else (v,s)
def zwc (s:σ) (x:Seen):Seen×σ:=
 let a:=f s 2 x.o
 let b:=zsq f a.2 x.v
 (⟨a.1,b.1⟩,b.2)
def zwd (s:σ) (e:Ev):Ev×σ:=
 if e.kind=1 then let a:=f s 1 e.s;({e with s:=a.1},a.2) else
 if e.kind=2∨e.kind=3 then let a:=f s 2 e.o;let b:=zsq f a.2 e.v;({e with o:=a.1,v:=b.1},b.2) else
 if e.kind=4 then let a:=f s 3 e.p;({e with p:=a.1},a.2) else (e,s)
def ydf (s:σ) (e:Ev):Ev×σ:=
 let a:=f s 0 e.t
 let b:=zwd f a.2 {e with t:=a.1}
 let c:=zmm (zwc f) b.2 e.scan
 ({b.1 with scan:=c.1},c.2)
def zyv (s:σ) (l:List Int):List Int×σ:=zmm (fun s n=>f s 0 n) s l
def zz3 (s:σ) (r:Ord):Ord×σ:=
 let a:=f s 2 r.o
 let b:=zyv f a.2 r.ts
 (⟨a.1,b.1⟩,b.2)
def zz4 (s:σ) (r:Mat):Mat×σ:=
 let a:=f s 3 r.p
 let b:=f a.2 2 r.o
 let c:=zyv f b.2 r.ts
 (⟨a.1,b.1,r.first,c.1⟩,c.2)
def zz2 (s:σ) (r:Wan):Wan×σ:=let a:=f s 1 r.s;(⟨a.1,r.bits⟩,a.2)
def yg1 (s:σ) (h:Hist):Hist×σ:=
 let a:=zmm (ydf f) s h.evs
 let b:=zmm (zz3 f) a.2 h.ords
 let c:=zmm (zz4 f) b.2 h.mats
 let d:=zmm (zz2 f) c.2 h.wants
 ({h with evs:=a.1,ords:=b.1,mats:=c.1,wants:=d.1},d.2)
end
def yej (n:Int):Nat→List Int→Option Nat
 |_,[]=>none
 |i,x::r=>if x=n then some i else yej n (i+1) r
abbrev yc9:=List (List Int)
def ybg (k:yc9) (sort:Nat) (n:Int):Int×yc9:=
 match yej n 0 (k.getD sort []) with
 |some i=>((i:Int),k)
 |none=>(((k.getD sort []).length:Int),k.set sort (k.getD sort []++ [n]))
def yhk:yc9:= [[],[],[],[]]
def zqs (l:List ByteArray) (n:Int):ByteArray:=l.getD n.toNat ⟨#[]⟩
def ybf (h:Hist):Hist:=
 let r:=yg1 ybg yhk h
 {r.1 with ts:=(r.2.getD 0 []).map (zqs h.ts),ss:=(r.2.getD 1 []).map (zqs h.ss),os:=(r.2.getD 2 []).map (zqs h.os),ps:=(r.2.getD 3 []).map (zqs h.ps)}
def numR (h:Hist):Hist:=if zah h then ybf h else yfh
def yin (h:Hist):Int:=if zah h then 0 else 210
theorem zs6 (a b:Seen):zho a b=decide (a=b):=by
 obtain ⟨ao,at_,ak⟩:=a;obtain ⟨bo,bt_,bk⟩:=b
 simp only [zho,Seen.mk.injEq,Ver.mk.injEq]
 by_cases h1:ao=bo <;> by_cases h2:at_=bt_ <;> by_cases h3:ak=bk <;> simp [h1,h2,h3]
theorem yce (a b:Ev):ycf a b=decide (a=b):=by
 obtain ⟨a1,a2,a3,a4,a5,⟨a6,a7⟩,a8,a9⟩:=a;obtain ⟨b1,b2,b3,b4,b5,⟨b6,b7⟩,b8,b9⟩:=b
 simp only [ycf,zzf zs6,Ev.mk.injEq,Ver.mk.injEq]
 rw [Bool.eq_iff_iff]
 simp [and_assoc]
def OkN (h:Hist) (x:Nat×Int):Prop:=x.1 < 4∧0≤x.2∧x.2 < (nmK h x.1).length
theorem zbb (l:List ByteArray) (n:Int):zc5 l n=true ↔ 0≤n∧n < l.length:=by simp [zc5]
theorem zo2 {h:Hist} {v:Ver} (hv:zso h.ts v=true):∀x∈ze3 v,OkN h x:=by
 intro x hx
 unfold ze3 at hx
 split at hx
 ·rename_i hk
  have hk':v.k > 0:=of_decide_eq_true hk
  simp only [List.mem_singleton] at hx
  subst hx
  unfold zso at hv
  rw [if_neg (by simp;omega)] at hv
  simp only [Bool.and_eq_true,zbb] at hv
  exact ⟨by simp,hv.1.1.1,hv.1.1.2⟩
 ·simp at hx
theorem yan {h:Hist} {s:Seen} (hs:zg7 h s=true):∀x∈zs5 s,OkN h x:=by
 simp only [zg7,Bool.and_eq_true,zbb] at hs
 intro x hx
 simp only [zs5,List.mem_cons] at hx
 rcases hx with rfl|hx
 ·exact ⟨by simp,hs.1.1,hs.1.2⟩
 ·exact zo2 hs.2 x hx
theorem zek {h:Hist} {e:Ev} (he:zd9 h e=true):1≤e.kind∧e.kind < 7∧zc5 h.ts e.t=true∧(zg3 h e).2=true∧{(zg3 h e).1 with kind:=e.kind,t:=e.t}=e:=by
 simp only [zd9,yce,Bool.and_eq_true,Bool.not_eq_true',Bool.or_eq_false_iff,decide_eq_true_eq,decide_eq_false_iff_not,Bool.not_eq_false'] at he
 exact ⟨by omega,by omega,he.1.2,he.2.1,he.2.2⟩
theorem yh7 {h:Hist} {e:Ev} (he:zd9 h e=true):∀x∈evL e,OkN h x:=by
 obtain ⟨h1,h7,ht,hc,hq⟩:=zek he
 have ht':=(zbb _ _).1 ht
 intro x hx
 simp only [evL,List.mem_cons,List.mem_append] at hx
 rcases hx with rfl|hx
 ·exact ⟨by simp,ht'.1,ht'.2⟩
 unfold zg3 at hc hq
 by_cases k1:e.kind=1
 ·rw [if_pos k1] at hc hq
  simp only [zcs,Bool.and_eq_true,zbb] at hc
  have hs:e.scan= []:=by rw [←hq]
  rw [hs,zud k1] at hx
  simp only [List.mem_singleton,List.flatMap_nil,List.not_mem_nil,or_false] at hx
  subst hx;exact ⟨by simp,hc.1.1,hc.1.2⟩
 rw [if_neg k1] at hc hq
 by_cases k2:e.kind=2
 ·rw [if_pos k2] at hc hq
  simp only [zav,Bool.and_eq_true,zbb] at hc
  have hs:e.scan= []:=by rw [←hq]
  rw [hs,zjd (.inl k2)] at hx
  simp only [List.mem_cons,List.flatMap_nil,List.not_mem_nil,or_false] at hx
  rcases hx with rfl|hx
  ·exact ⟨by simp,hc.1.1.1.1,hc.1.1.1.2⟩
  ·exact zo2 hc.1.1.2 x hx
 rw [if_neg k2] at hc hq
 by_cases k3:e.kind=3
 ·rw [if_pos k3] at hc hq
  simp only [zdg,Bool.and_eq_true,zbb] at hc
  have hs:e.scan= []:=by rw [←hq]
  rw [hs,zjd (.inr k3)] at hx
  simp only [List.mem_cons,List.flatMap_nil,List.not_mem_nil,or_false] at hx
  rcases hx with rfl|hx
  ·exact ⟨by simp,hc.1.1,hc.1.2⟩
  ·exact zo2 hc.2 x hx
 rw [if_neg k3] at hc hq
 by_cases k4:e.kind=4
 ·rw [if_pos k4] at hc hq
  simp only [zb3,Bool.and_eq_true,zbb,List.all_eq_true] at hc
  rw [zuc k4] at hx
  simp only [List.mem_singleton,List.mem_flatMap] at hx
  rcases hx with rfl|⟨s,hs,hx⟩
  ·exact ⟨by simp,hc.1.1.1,hc.1.1.2⟩
  ·exact yan (hc.2 s hs) x hx
 rw [if_neg k4] at hc hq
 have hs:e.scan= []:=by rw [←hq]
 rw [hs,zue k1 k2 k3 k4] at hx
 simp at hx
theorem yde {h:Hist} {ts:List Int} (ht:tsB h ts=true):∀x∈tsL ts,OkN h x:=by
 simp only [tsB,Bool.and_eq_true,List.all_eq_true,zbb] at ht
 intro x hx
 simp only [tsL,List.mem_map] at hx
 obtain ⟨t,h1,rfl⟩:=hx
 exact ⟨by simp,(ht.2 t h1).1,(ht.2 t h1).2⟩
theorem zdo {h:Hist} (hs:zah h=true):okK h 4=true∧(∀e∈h.evs,zd9 h e=true)∧(∀r∈h.ords,zsh h r=true)∧(∀r∈h.mats,zxo h r=true)∧∀r∈h.wants,zyt h r=true:=by
 simp only [zah,Bool.and_eq_true,List.all_eq_true] at hs
 exact ⟨hs.1.1.1.1,hs.1.1.1.2,hs.1.1.2,hs.1.2,hs.2⟩
theorem zsx {h:Hist} (hs:zah h=true):∀x∈zcb h,OkN h x:=by
 obtain ⟨_,h1,h2,h3,h4⟩:=zdo hs
 intro x hx
 simp only [zcb,List.mem_append,List.mem_flatMap] at hx
 rcases hx with ⟨e,he,hx⟩|⟨r,hr,hx⟩|⟨r,hr,hx⟩|⟨r,hr,hx⟩
 ·exact yh7 (h1 e he) x hx
 ·have:=h2 r hr
  simp only [zsh,Bool.and_eq_true,zbb] at this
  simp only [ybd,List.mem_cons] at hx
  rcases hx with rfl|hx
  ·exact ⟨by simp,this.1.1,this.1.2⟩
  ·exact yde this.2 x hx
 ·have:=h3 r hr
  simp only [zxo,Bool.and_eq_true,zbb] at this
  simp only [zxn,List.mem_cons] at hx
  rcases hx with rfl|rfl|hx
  ·exact ⟨by simp,this.1.1.1,this.1.1.2⟩
  ·exact ⟨by simp,this.1.2.1,this.1.2.2⟩
  ·exact yde this.2 x hx
 ·have:=h4 r hr
  simp only [zyt,Bool.and_eq_true,zbb] at this
  simp only [zvz,List.mem_singleton] at hx
  subst hx
  exact ⟨by simp,this.1.1.1,this.1.1.2⟩
theorem yhz {m:List Int} (hl:m.length=4) {k:Nat} (hk:k < 4):(m.map iv)[0+k * 1]? =some (iv (m.getD k 0)):=by
 have h:k < m.length:=by omega
 simp [h]
theorem yi4 {m:List Int} (hl:m.length=4) {k:Nat} (hk:k < 4) (v:Int):(m.map iv).take (0+k * 1)++ [iv v]++(m.map iv).drop (0+k * 1+1)=(m.set k v).map iv:=by
 match m,hl with
 | [a,b,c,d],_=>
   match k,hk with
   |0,_=>rfl
   |1,_=>rfl
   |2,_=>rfl
   |3,_=>rfl
theorem zye {h:Hist} (hs:zah h=false):zcl h=210:=by simp [zcl,zer,hs]
theorem zsb {h:Hist} (hm:zm2 h=none):zcl h=210:=by
 have e:(zm2 h==some (zr0 h))=false:=by rw [hm];rfl
 rw [zcl,zer,e,Bool.and_false];rfl
theorem zxw (h:Hist) {k:Nat} (hk:k < 4):(zr0 h).getD k 0=(nmK h k).length:=by
 match k,hk with
 |0,_=>rfl
 |1,_=>rfl
 |2,_=>rfl
 |3,_=>rfl
theorem zyf {h:Hist} {m:List Int} (hm:zm2 h=some m) {k:Nat} (hk:k < 4) (hne:m.getD k 0≠(nmK h k).length):zcl h=210:=by
 have e:(zm2 h==some (zr0 h))=false:=by
  rw [hm]
  simp only [Option.some_beq_some,beq_eq_false_iff_ne]
  rintro rfl
  exact hne (zxw h hk)
 rw [zcl,zer,e,Bool.and_false];rfl
theorem zyg {h:Hist} (hs:zah h=true) {m:List Int} (hm:zm2 h=some m) (hl:m.length=4) (he:∀k,k < 4→m.getD k 0=(nmK h k).length):zcl h=0:=by
 have e:m=zr0 h:=by
  match m,hl with
  | [a,b,c,d],_=>
    have h0:=he 0 (by omega);have h1:=he 1 (by omega);have h2:=he 2 (by omega);have h3:=he 3 (by omega)
    simp [nmK] at h0 h1 h2 h3
    simp [zr0,h0,h1,h2,h3]
 rw [zcl,zer,hs,hm,e];simp
theorem zu5 {h:Hist}:zcl h=0 ↔ zer h=true:=by unfold zcl;split <;> simp_all
def zrw (p:SV×Ord):List AV:= [iv p.2.o,.v p.1.v]
structure NV where
 vT:SV
 vS:SV
 vO:SV
 vP:SV
structure OH where
 vE:SV
 vR:SV
 vM:SV
 vW:SV
 ts:List ByteArray
 ss:List ByteArray
 os:List ByteArray
 ps:List ByteArray
 evs:List (SV×Ev)
 ords:List (SV×Ord)
 mats:List (SV×Mat)
 wants:List Wan
def otR (T:TypeId) (l:List (SV×Ord)):List Res:=l.map fun p=> .row p.1.v 1 T (p.2.ts.map zcz)
def zy7:AV:= .v (.slice none 0 0)
def yb4:List AV:= [zy7,zy7,zy7,zy7,zy7,zy7,zy7,zy7]
theorem zou {α:Type} {R:α→List AV} (h:∀a,(R a).all AV.one=true) (l:List α):∀r∈l.map R,r.all AV.one=true:=by
 intro r hr;obtain ⟨a,_,rfl⟩:=List.mem_map.1 hr;exact h a
theorem zll (l:List Int):∀r∈l.map zcz,r.all AV.one=true:=zou (fun a=>rfl) l
theorem yeq (l:List Ev):∀r∈l.map evR,r.all AV.one=true:=zou (fun a=>rfl) l
theorem ybe (l:List Ord):∀r∈l.map zdk,r.all AV.one=true:=zou (fun a=>rfl) l
section
variable {α β:Type} {f:α→List AV} {g:β→List AV} {xs:List α} {l:List β} {k:Nat} {b:β} {a:α} {r:List AV}
theorem ybm (hl:xs.length=k) (hk:k≤l.length):(xs.map f++(l.drop k).map g).length=l.length:=by
 simp [hl];omega
theorem ybn (hl:xs.length=k) (hd:l.drop k=b::l.drop (k+1)):(xs.map f++(l.drop k).map g)[k]? =some (g b):=by
 rw [hd,List.getElem?_append_right (by simp [hl])];simp [hl]
theorem ybl (hl:xs.length=k) (hd:l.drop k=b::l.drop (k+1)) (hr:r=f a):(xs.map f++(l.drop k).map g).set k r=(xs++ [a]).map f++(l.drop (k+1)).map g:=by
 subst hl hr
 rw [hd,List.set_append_right _ _ (by simp)]
 simp
theorem zxi {snd:α→β} (h:xs.map snd=l.take k) (hk:k≤l.length):xs.length=k:=by
 have:=congrArg List.length h;simp at this;omega
theorem zxh {snd:α→β} (h:xs.map snd=l.take k) (hk:k < l.length) (ha:snd a=l[k]):(xs++ [a]).map snd=l.take (k+1):=by
 rw [List.map_append,h,List.take_succ_eq_append_getElem hk];simp [ha]
end
theorem zrj {h:Hist} (hs:zah h=true):Lim 3000 h:=by
 obtain ⟨h0,h1,h2,h3,h4⟩:=zdo hs
 have hk:∀k,k < 4→okK h (k+1)=true:=fun k hk=>by
  cases hq:okK h (k+1) with
  |true=>rfl
  |false=>
   have:=zgu hq (3 - k)
   rw [show k+1+(3 - k)=4 by omega,h0] at this;cases this
 have hn:∀k,k < 4→(nmK h k).length≤300:=fun k hk4=>by
  have:=hk k hk4
  simp only [okK,zhs,Bool.and_eq_true,decide_eq_true_eq] at this
  have h5:ye1 k≤300:=by
   match k,hk4 with
   |0,_=>decide
   |1,_=>decide
   |2,_=>decide
   |3,_=>decide
  omega
 have hz:okK h 0=true:=by
  cases hq:okK h 0 with
  |true=>rfl
  |false=>have:=zgu hq 4;rw [h0] at this;cases this
 simp only [okK,zsw,Bool.and_eq_true,decide_eq_true_eq] at hz
 refine ⟨by have:=hn 0 (by omega);simp [nmK] at this;omega,by have:=hn 1 (by omega);simp [nmK] at this;omega,by have:=hn 2 (by omega);simp [nmK] at this;omega,by have:=hn 3 (by omega);simp [nmK] at this;omega,by omega,by omega,by omega,by omega,fun e he=> ?_,fun o ho=> ?_,fun m hm=> ?_⟩
 ·obtain ⟨_,_,_,hc,hq⟩:=zek (h1 e he)
  rw [←hq]
  show (zg3 h e).1.scan.length≤3000
  unfold zg3 at hc ⊢
  repeat' split
  all_goals first|(simp only [List.length_nil];omega)|skip
  rename_i g1 g2 g3 g4
  rw [if_neg g1,if_neg g2,if_neg g3,if_pos g4] at hc
  simp only [zb3,Bool.and_eq_true,decide_eq_true_eq] at hc
  show e.scan.length≤3000
  omega
 ·have:=h2 o ho
  simp only [zsh,tsB,Bool.and_eq_true,decide_eq_true_eq] at this
  omega
 ·have:=h3 m hm
  simp only [zxo,tsB,Bool.and_eq_true,decide_eq_true_eq] at this
  omega
section
variable {σ α:Type} (f:σ→Nat→Int→Int×σ)
end
section
variable {α:Type} {f:α→List AV} {A B:List α} {k:Nat} {b a:α} {r:List AV}
end
structure KOk (h:Hist) (k:yc9):Prop where
 four:k.length=4
 nd:∀s,(k.getD s []).Nodup
 lt:∀s,∀n∈k.getD s [],0≤n∧n < (nmK h s).length
section
variable {w:World} {O O':Nat→Prop}
def CT (w:World) (O O':Nat→Prop):List AV→List AV→Prop
 | [],[]=>True
 |a::as,b::bs=>(∀u,Rel w O a u→Rel w O' b u)∧CT w O O' as bs
 |_,_=>False
theorem CT.len:∀{as bs:List AV},CT w O O' as bs→bs.length=as.length
 | [],[],_=>rfl
 |_::_,_::_,h=>by simp [CT.len h.2]
 | [],_::_,h=>h.elim
 |_::_,[],h=>h.elim
theorem CT.get:∀{as bs:List AV},CT w O O' as bs→∀j (k:j < as.length) (k':j < bs.length) u,Rel w O as[j] u→Rel w O' bs[j] u
 |_::_,_::_,h,0,_,_,u,r=>h.1 u r
 |_::_,_::_,h,j+1,k,k',u,r=>CT.get h.2 j (by simpa using k) (by simpa using k') u r
theorem sc (x:Value):∀u,Rel w O (.v x) u→Rel w O' (.v x) u:=fun u r=>(Scal.v x).rel r
theorem sn {x:Value} {b:AV} (h:Rel w O' b x):∀u,Rel w O (.v x) u→Rel w O' b u:=fun u r=>by rw [r.v_eq];exact h
theorem zz5 {X:Nat→Prop} {H:List Res} (hh:HRel X w H) {s:Value} {sz:Nat} {T:TypeId} {α:Type} {f g:α→List AV} {l:List α} (hm: .row s sz T (l.map f)∈H) (hO:∀b∈(Res.row s sz T (l.map f)).own,¬O' b)
 (hc:∀a∈l,CT w (OO H X) O' (f a) (g a)):Rel w O' (.list false sz (l.map g)) s:=by
 refine zoh hh hm hO (by simp) (fun i h h'=> ?_) (fun i h h' j k k' u r=> ?_)
 ·simp only [List.getElem_map];exact (hc _ (List.getElem_mem _)).len
 ·simp only [List.getElem_map] at k k' r ⊢
  exact (hc _ (List.getElem_mem _)).get j k k' u r
end
def bT:ByteArray:=⟨#[116]⟩
def bS:ByteArray:=⟨#[115]⟩
def bX:ByteArray:=⟨#[120]⟩
def bY:ByteArray:=⟨#[121]⟩
def zfx:Hist:=⟨[bT],[bS],[bX],[],[⟨1,0,0,1,0,⟨0,0⟩,0,[]⟩,⟨2,0,0,0,0,⟨0,1⟩,0,[]⟩,⟨5,0,0,0,0,⟨0,0⟩,0,[]⟩],[],[],[]⟩
theorem zh6 {s:ByteArray} {c:Nat} (h1:s.size=1) (hc:c < 128) (hl:ybt c=true) (hd:Utf8.decode s 0=(c,1)) (hne:(s.toList== [])=false) (hb:bt s 0=c) (hn:ztv c=false):zg5 s=true:=by
 have hp:zeq s zjm 0 ((Utf8.decode s 0).1:Nat)=true:=by
  rw [hd]
  have h2:(((c:Nat):Int) !=65533)=true:=by simp;omega
  simp only [zeq,zoa,zjm,hl,h2,Bool.true_or,Bool.and_true]
 have hw:zcw s (zeq s zjm) 0=s.size:=by
  rw [zml (by omega) hp,hd]
  exact zkd (by simp;omega)
 simp only [zg5,hne,hb,hn,hw,h1];decide
theorem zsl:zg5 bT=true:=zh6 (c:=116) rfl (by decide) (by decide) (by decide) (by rw [ByteArray.toList_eq];rfl) (by decide) (by decide)
theorem zsm:zg5 bS=true:=zh6 (c:=115) rfl (by decide) (by decide) (by decide) (by rw [ByteArray.toList_eq];rfl) (by decide) (by decide)
theorem zsk:zg5 bX=true:=zh6 (c:=120) rfl (by decide) (by decide) (by decide) (by rw [ByteArray.toList_eq];rfl) (by decide) (by decide)
theorem yda:zg5 bY=true:=zh6 (c:=121) rfl (by decide) (by decide) (by decide) (by rw [ByteArray.toList_eq];rfl) (by decide) (by decide)
def zot:Hist:={zfx with evs:=zfx.evs.take 2}
def otherH:Hist:={zfx with os:= [bY,bX],evs:= [⟨1,0,0,1,0,⟨0,0⟩,0,[]⟩,⟨2,0,0,0,1,⟨0,1⟩,0,[]⟩,⟨5,0,0,0,0,⟨0,0⟩,0,[]⟩]}
theorem xy:zxk bX [bY]=false:=by decide
theorem zmo:zah zfx=true:=by
 have h:okK zfx 4=true:=by
  simp only [okK,nmK,zhs,zfx,zdr,zsl,zsm,zsk,List.length_singleton,List.length_nil];decide
 rw [zah,h];decide
theorem zod:zah zot=true:=by
 have h:okK zot 4=true:=by
  simp only [okK,nmK,zhs,zot,zfx,zdr,zsl,zsm,zsk,List.length_singleton,List.length_nil];decide
 rw [zah,h];decide
theorem zhn:zah otherH=true:=by
 have h:okK otherH 4=true:=by
  simp only [okK,nmK,zhs,otherH,zfx,zdr,zsl,zsm,zsk,yda,List.length_cons,List.length_nil,List.nil_append,xy];decide
 rw [zah,h];decide
theorem zt3:zer zfx=true:=by rw [zer,zmo];decide
theorem zxl:zer zot=true:=by rw [zer,zod];decide
theorem w1:zu1 zot=0:=by rw [zu1,zxl];decide
theorem w2:ofR zfx 0= [0,1,2]:=by rw [ofR,zt3];decide
theorem w3:yin otherH=0:=by rw [yin,zhn];rfl
theorem w4:zcl otherH=210:=by
 have:zer otherH=false:=by rw [zer,zhn];decide
 rw [zcl,this];rfl
theorem w5:zzi zot=zzj zot:=by rw [zzi,if_pos w1]
theorem zrv (G:List Res) (sE sO:Value) (h:Hist) (O:List (SV×H.Ord)) (T40 T54 T3:TypeId) (H:List Res) (hO:O.map (·.2)=h.ords)
 (h5: .row sE 9 T40 (h.evs.map evR)∈H) (h6: .row sO 2 T54 (O.map zrw)∈H) (h10:∀r∈otR T3 O,r∈H):
 zfv (G++H) (.agg [zbl h.ts,zbl h.ss,zbl h.os,zbl h.ps,.v sE,.v sO,zoz h.mats,zrg h.wants]) G (.agg (x6 h)):=by
 refine ⟨fun x hx=>by rw [x4];exact List.mem_append_left _ hx,fun X w v hh hr=> ?_⟩
 have hG:HRel X w G:=HRel.drop (h:=H) (hh.perm List.perm_append_comm)
 refine ⟨hG,?_⟩
 have hmem:∀r∈H,r∈G++H:=fun r hr=>List.mem_append_right _ hr
 have hout:∀r∈H,∀x∈r.own,¬OO G X x:=fun r hr x hx q=>by
  have hxH:x∈u1 H:=u5.2 ⟨r,hr,hx⟩
  have hn:=hh.nodup
  rw [x4,List.nodup_append] at hn
  rcases q with q|q
  ·exact hn.2.2 x q x hxH rfl
  ·exact (hh.lt x (by rw [x4];exact List.mem_append_right _ hxH)).2 q
 have lo:∀av u,Rel w (OO (G++H) X) av u→Rel w (OO G X) av u:=fun av u r=>r.loose fun x hx=>hx.imp (fun q=>by rw [x4];exact List.mem_append_left _ q) id
 have S:∀{α:Type} {s:Value} {sz:Nat} {T:TypeId} {f g:α→List AV} {l:List α},.row s sz T (l.map f)∈H→(∀a∈l,CT w (OO (G++H) X) (OO G X) (f a) (g a))→Rel w (OO G X) (.list false sz (l.map g)) s:=
  fun hm hc=>zz5 hh (hmem _ hm) (hout _ hm) hc
 have ints:∀{s:Value} {T:TypeId} {l:List Int},.row s 1 T (l.map zcz)∈H→Rel w (OO G X) (zft l) s:=fun hm=>S hm fun a _=>⟨sc _,trivial⟩
 have evs:Rel w (OO G X) (zsi h.evs) sE:=S (f:=evR) (g:=evR) h5 fun e _=>⟨sc _,sc _,sc _,sc _,sc _,sc _,sc _,sc _,lo _,trivial⟩
 have ords:Rel w (OO G X) (zw8 h.ords) sO:=by
  have:=S (g:=fun p=>zdk p.2) h6 fun p hp=>⟨sc _,sn (ints (h10 _ (List.mem_map.2 ⟨p,hp,rfl⟩))),trivial⟩
  rw [←hO]
  show Rel w (OO G X) (.list false 2 ((O.map (·.2)).map zdk)) sO
  rw [List.map_map];exact this
 have hcells:CT w (OO (G++H) X) (OO G X) [zbl h.ts,zbl h.ss,zbl h.os,zbl h.ps,.v sE,.v sO,zoz h.mats,zrg h.wants] (x6 h):=⟨lo _,lo _,lo _,lo _,sn evs,sn ords,lo _,lo _,trivial⟩
 cases hr with
 |agg _ ds hl2 hc2=>exact .agg _ ds (by rw [hcells.len];exact hl2) fun j a b=>hcells.get j (by rw [←hcells.len];exact a) a _ (hc2 j (by rw [←hcells.len];exact a) b)
def isB (n m:Int):Bool:=decide (n ≥ 0) && decide (n < m)
def atI (n:Int):Nat→List Int→Int
 |_,[]=> -1
 |i,x::r=>if x=n then (i:Int) else atI n (i+1) r
set_option maxRecDepth 20000
abbrev Rw:=Nat→List Int
def ygi (l:List Int) (n:Int):List Int:=if atI n 0 l ≥ 0 then l else l++ [n]
def yjl (l:List Int) (v:Ver):List Int:=if v.k=0 then l else ygi l v.t
def zgm (L:Rw) (x:Nat×Int):Rw:=fun i=>match Nat.beq i x.1 with
 |true=>ygi (L i) x.2
 |false=>L i
def ydj (L:Rw) (v:Ver):Rw:=fun i=>match Nat.beq i 0 with
 |true=>yjl (L i) v
 |false=>L i
def stepS (L:Rw) (s:Seen):Rw:=ydj (zgm L (2,s.o)) s.v
def yg3 (L:Rw) (e:Ev):Rw:=
 if e.kind=1 then zgm L (1,e.s) else if e.kind=2∨e.kind=3 then ydj (zgm L (2,e.o)) e.v else if e.kind=4 then zgm L (3,e.p) else L
def stepE (L:Rw) (e:Ev):Rw:=e.scan.foldl stepS (yg3 (zgm L (0,e.t)) e)
def yjm (L:Rw) (t:Int):Rw:=zgm L (0,t)
def stepM (L:Rw) (r:Mat):Rw:=r.ts.foldl yjm (zgm (zgm L (3,r.p)) (2,r.o))
def upR (n:Nat):List Int:=(List.range n).map fun i:Nat=>(i:Int)
theorem zpr (n:Int):∀(l:List Int) (i:Nat),atI n i l ≥ 0 ↔ n∈l
 | [],i=>by simp [atI]
 |x::r,i=>by
  unfold atI
  split
  ·rename_i h;simp [h]
  ·rename_i h
   rw [zpr n r (i+1),List.mem_cons]
   constructor
   ·intro k;exact .inr k
   ·rintro (k|k)
    ·exact absurd k.symm h
    ·exact k
theorem zyp (l:List Int) (n:Int):ygi l n=if n∈l then l else l++ [n]:=by
 unfold ygi
 by_cases h:n∈l
 ·rw [if_pos ((zpr n l 0).2 h),if_pos h]
 ·rw [if_neg (fun q=>h ((zpr n l 0).1 q)),if_neg h]
theorem zwg (L:Rw) (x:Nat×Int):zgm L x x.1=ygi (L x.1) x.2:=by
 unfold zgm;rw [Nat.beq_refl]
theorem zwf (L:Rw) (x:Nat×Int) {i:Nat} (h:i≠x.1):zgm L x i=L i:=by
 unfold zgm
 rw [show Nat.beq i x.1=false from by
  cases q:Nat.beq i x.1 with
  |false=>rfl
  |true=>exact absurd (Nat.eq_of_beq_eq_true q) h]
theorem grow (xs:List (Nat×Int)):∀(L:Rw) (s:Nat),∃m,xs.foldl zgm L s=L s++m:=by
 induction xs with
 |nil=>intro L s;exact ⟨[],by simp⟩
 |cons x xs ih=>
  intro L s
  obtain ⟨m,hm⟩:=ih (zgm L x) s
  rw [List.foldl_cons,hm]
  by_cases h:s=x.1
  ·subst h
   rw [zwg,zyp]
   split
   ·exact ⟨m,rfl⟩
   ·exact ⟨x.2::m,by simp⟩
  ·rw [zwf _ _ h];exact ⟨m,rfl⟩
def zmj (L:Rw) (m:List Int):Prop:=m.length=4∧∀s,s < 4→0≤m.getD s 0∧L s=upR (m.getD s 0).toNat
theorem yhq {h:Hist} (hm:zer h=true):∀e∈h.evs,0≤e.t∧e.t < h.ts.length:=by
 intro e he
 have hs:zah h=true:=by unfold zer at hm;simp only [Bool.and_eq_true] at hm;exact hm.1
 have:=(zdo hs).2.1 e he
 obtain ⟨_,_,ht,_⟩:=zek this
 exact (zbb _ _).1 ht
def yb5 (l:List Ev) (t c:Int):Bool:= !(l.all fun e=> !(e.t==t && e.kind==c))
theorem zin (l:List Ev) (t c:Int):yb5 l t c=l.any fun e=>e.t==t && e.kind==c:=by
 induction l with
 |nil=>rfl
 |cons e l ih=>
  rw [List.any_cons,←ih,yb5,List.all_cons,Bool.not_and,Bool.not_not];rfl
def zjy (l:List Ev) (t:Int):Bool:=yb5 l t 1
def zts (l:List Ev) (t:Int):Bool:=l.any fun y=>y.t==t && (y.kind==5||y.kind==6)
def zgk (l:List Ev) (t x:Int):List Ev:=l.filter fun y=>y.kind==2 && y.t==t && y.o==x
def zo7 (l:List Ev) (t x:Int):Option Ver:=((zgk l t x).getLast?).map Ev.v
def zi0 (l:List Ev) (x:Int) (v:Ver):Bool:=l.any fun y=>y.kind==2 && y.o==x && y.v==v
def zco (e:Ev):List Seen:=if e.kind=3 then [⟨e.o,e.v⟩] else e.scan
def zag (rule:Nat) (e:Ev) (l:List Ev):Bool:=
 match rule with
 |1=>zjy l e.t==(e.kind==1)
 |2=>zts l e.t
 |3=>e.kind==2 && e.v.k !=((zgk l e.t e.o).length:Int)+1
 |4=>(zco e).any fun s=>decide (s.v.k > 0) && !zi0 l s.o s.v
 |5=>(zco e).any fun s=>match zo7 l e.t s.o with|some v=>v !=s.v|none=>false
 |6=> !decide ((e.scan.map Seen.o).Nodup)
 |_=>false
def zfw (rule:Nat) (e:Ev) (l:List Ev):Bool:=
 match rule with
 |1=>zjy l e.t && e.kind==1|| !zjy l e.t && e.kind !=1
 |2=>zts l e.t
 |3=>e.kind==2 && e.v.k !=((zgk l e.t e.o).length:Int)+1
 |4=>(zco e).any fun s=> !(s.v.k==0||zi0 l s.o s.v)
 |5=>(zco e).any fun s=>match (zgk l e.t s.o).getLast? with|some y=>y.v !=s.v|none=>false
 |6=>(List.range (zco e).length).any fun i=>((zco e).take i).any fun p=>some p.o==((zco e)[i]?).map Seen.o
 |_=>false
theorem zzx (e:Ev) (l:List Ev):zag 1 e l=zfw 1 e l:=by
 simp only [zag,zfw]
 cases zjy l e.t <;> cases h:(e.kind==1) <;> simp_all
theorem zyu {ts:List ByteArray} {v:Ver} (h:zso ts v=true):0≤v.k:=by
 unfold zso at h
 split at h
 ·rename_i h0;simp at h0;omega
 ·simp only [Bool.and_eq_true,decide_eq_true_eq] at h;omega
theorem zzw {e:Ev} {l:List Ev} (h:∀s∈zco e,0≤s.v.k):zag 4 e l=zfw 4 e l:=by
 simp only [zag,zfw]
 rw [Bool.eq_iff_iff]
 simp only [List.any_eq_true,Bool.and_eq_true,decide_eq_true_eq,Bool.not_eq_true',Bool.or_eq_false_iff,beq_eq_false_iff_ne]
 constructor
 ·rintro ⟨s,hs,h0,h1⟩;exact ⟨s,hs,by omega,h1⟩
 ·rintro ⟨s,hs,h0,h1⟩;exact ⟨s,hs,by have:=h s hs;omega,h1⟩
theorem zzv (e:Ev) (l:List Ev):zag 5 e l=zfw 5 e l:=by
 simp only [zag,zfw,zo7]
 congr 1;funext s
 cases (zgk l e.t s.o).getLast? <;> rfl
theorem ycj (l:List Seen):((List.range l.length).any fun i=>(l.take i).any fun p=>some p.o==(l[i]?).map Seen.o)= !decide ((l.map Seen.o).Nodup):=by
 rw [Bool.eq_iff_iff]
 simp only [List.any_eq_true,List.mem_range,Bool.not_eq_true',decide_eq_false_iff_not,beq_iff_eq]
 rw [show (l.map Seen.o).Nodup ↔ _ from List.pairwise_iff_getElem]
 constructor
 ·rintro ⟨i,hi,p,hp,he⟩ hn
  obtain ⟨j,hj,rfl⟩:=List.mem_iff_getElem.1 hp
  rw [List.length_take] at hj
  refine hn j i (by simp;omega) (by simpa using hi) (by omega) ?_
  rw [List.getElem?_eq_getElem hi,List.getElem_take] at he
  rw [List.getElem_map,List.getElem_map]
  exact Option.some.inj he
 ·intro hn
  simp only [Classical.not_forall] at hn
  obtain ⟨i,j,hi,hj,hij,he⟩:=hn
  have hi':=hi;have hj':=hj
  rw [List.length_map] at hi' hj'
  have he:=Classical.not_not.1 he
  rw [List.getElem_map,List.getElem_map] at he
  refine ⟨j,hj',l[i],?_,?_⟩
  ·rw [List.mem_take_iff_getElem];exact ⟨i,by omega,rfl⟩
  ·rw [List.getElem?_eq_getElem hj',Option.map_some,he]
theorem zzu {e:Ev} {l:List Ev} (h:e.kind=3→e.scan= []):zag 6 e l=zfw 6 e l:=by
 simp only [zag,zfw]
 rw [ycj]
 unfold zco
 split
 ·rename_i h2;rw [h h2];rfl
 ·rfl
theorem zut {h:Hist} {e:Ev} (he:zd9 h e=true):(∀s∈zco e,0≤s.v.k)∧(e.kind=3→e.scan= []):=by
 obtain ⟨h1,h7,ht,hc,hq⟩:=zek he
 refine ⟨fun s hs=> ?_,fun h3=> ?_⟩
 ·unfold zco at hs
  split at hs
  ·rename_i h3
   rw [List.mem_singleton] at hs;subst hs
   rw [zg3,if_neg (by omega),if_neg (by omega),if_pos h3] at hc
   simp only [zdg,Bool.and_eq_true] at hc
   exact zyu hc.2
  ·rename_i h3
   by_cases h4:e.kind=4
   ·rw [zg3,if_neg (by omega),if_neg (by omega),if_neg h3,if_pos h4] at hc
    simp only [zb3,Bool.and_eq_true,List.all_eq_true] at hc
    have:=hc.2 s hs
    simp only [zg7,Bool.and_eq_true] at this
    exact zyu this.2
   ·have:e.scan= []:=by
     rw [←hq];simp only [zg3]
     repeat' split
     all_goals first|rfl|omega
    rw [this] at hs;cases hs
 ·rw [←hq];simp only [zg3,if_neg (show ¬e.kind=1 by omega),if_neg (show ¬e.kind=2 by omega),if_pos h3]
def srt (l:List Int):List Int:=l.mergeSort (fun x y=>decide (x≤y))
def zau:List Int→List Int
 | []=> []
 | [x]=> [x]
 |x::y::r=>if x=y then zau (y::r) else x::zau (y::r)
theorem zfc (z:Int):∀l:List Int,z∈zau l ↔ z∈l
 | []=>Iff.rfl
 | [x]=>Iff.rfl
 |x::y::r=>by
  rw [zau]
  split
  ·rename_i h;subst h;rw [zfc z (x::r)];simp
  ·rw [List.mem_cons,zfc z (y::r),List.mem_cons (a:=z) (b:=x)]
theorem zg0:∀l:List Int,l.Pairwise (· ≤ ·)→(zau l).Pairwise (· < ·)
 | [],_=> .nil
 | [x],_=>by simp [zau]
 |x::y::r,h=>by
  rw [zau]
  obtain ⟨h1,h2⟩:=List.pairwise_cons.1 h
  split
  ·exact zg0 _ h2
  ·rename_i hne
   refine List.pairwise_cons.2 ⟨fun z hz=> ?_,zg0 _ h2⟩
   rw [zfc] at hz
   obtain ⟨h3,h4⟩:=List.pairwise_cons.1 h2
   have hxy:=h1 y (by simp)
   rcases List.mem_cons.1 hz with rfl|hz
   ·omega
   ·have:=h3 z hz;omega
theorem zjp:∀l:List Int,(zau l).length≤l.length
 | []=>by simp [zau]
 | [x]=>by simp [zau]
 |x::y::r=>by
  rw [zau];have:=zjp (y::r)
  split <;> simp only [List.length_cons] at * <;> omega
theorem zky:∀l:List Int,(zau l).length=l.length→zau l=l
 | [],_=>rfl
 | [x],_=>rfl
 |x::y::r,h=>by
  rw [zau] at h ⊢
  have hl:=zjp (y::r)
  split at h
  ·simp only [List.length_cons] at h hl;omega
  ·rename_i hne
   rw [if_neg hne,zky (y::r) (by simpa using h)]
theorem zdn (l:List Int):(srt l).Perm l:=List.mergeSort_perm _ _
theorem zsu (l:List Int):(srt l).Pairwise (· ≤ ·):=by
 have:=List.pairwise_mergeSort (le:=fun x y:Int=>decide (x≤y)) (by intro a b c;simp;omega) (by intro a b;simp;omega) l
 exact this.imp (by simp)
theorem zii {l:List Int} (h:l.Pairwise (· < ·)):l.Nodup:=h.imp (fun h e=>by omega)
theorem zjo:∀l:List Int,l.Nodup→zau l=l
 | [],_=>rfl
 | [x],_=>rfl
 |x::y::r,h=>by
  obtain ⟨h1,h2⟩:=List.nodup_cons.1 h
  rw [zau,if_neg (by rintro rfl;exact h1 (by simp)),zjo _ h2]
theorem zrx (l:List Int):(zau (srt l)).length=l.length ↔ l.Nodup:=by
 have hl:(srt l).length=l.length:=(zdn l).length_eq
 constructor
 ·intro h
  have e:=zky (srt l) (by rw [h,hl])
  have:=zii (zg0 _ (zsu l))
  rw [e] at this
  exact (zdn l).nodup_iff.1 this
 ·intro h
  rw [zjo _ ((zdn l).nodup_iff.2 h),hl]
theorem yez:∀(l m:List Int),l.Pairwise (· < ·)→m.Pairwise (· < ·)→(∀z,z∈l ↔ z∈m)→l=m:=by
 intro l m hl hm h
 refine List.Perm.eq_of_pairwise (le:=(· ≤ ·)) (fun a b _ _ h1 h2=>by omega) (hl.imp (fun h=>by omega)) (hm.imp (fun h=>by omega)) ?_
 exact (List.perm_ext_iff_of_nodup (zii hl) (zii hm)).2 h
def zaa (l:List Ev) (x:Int):List Int:=zau (srt ((l.filter fun e=>e.kind==2 && e.o==x && l.any fun y=>y.t==e.t && y.kind==5).map Ev.t))
def zdm (h:Hist) (x:Int):List Int:=((upR h.ts.length).filter fun t=>(h.evs.any fun e=>e.kind==2 && e.t==t && e.o==x) && yb5 h.evs t 5)
theorem zrf {h:Hist} (ht:∀e∈h.evs,0≤e.t∧e.t < h.ts.length) (x:Int) (hu:(upR h.ts.length).Pairwise (· < ·)) (hm:∀z,z∈upR h.ts.length ↔ 0≤z∧z < h.ts.length):zaa h.evs x=zdm h x:=by
 refine yez _ _ (zg0 _ (zsu _)) (hu.filter _) fun z=> ?_
 rw [zaa,zfc,(zdn _).mem_iff]
 simp only [zdm,zin,List.mem_map,List.mem_filter,hm,Bool.and_eq_true,List.any_eq_true,beq_iff_eq]
 constructor
 ·rintro ⟨e,⟨he,⟨h2,h3⟩,y,hy,h4,h5⟩,rfl⟩
  exact ⟨ht e he,⟨e,he,⟨h2,rfl⟩,h3⟩,y,hy,h4,h5⟩
 ·rintro ⟨_,⟨e,he,⟨h2,rfl⟩,h3⟩,y,hy,h4,h5⟩
  exact ⟨e,⟨he,⟨h2,h3⟩,y,hy,h4,h5⟩,rfl⟩
def zov (ts f:List Int):Bool:=decide ((zau (srt ts)).length=ts.length) && !ts.any fun t=> !f.contains t
def zi3 (ts f:List Int):Bool:=decide ts.Nodup && ts.all fun t=>f.contains t
theorem zjb (ts f:List Int):zov ts f=zi3 ts f:=by
 unfold zov zi3
 rw [Bool.eq_iff_iff]
 simp only [Bool.and_eq_true,decide_eq_true_eq,zrx,List.all_eq_true,Bool.not_eq_true',List.any_eq_false,Bool.not_eq_true,Bool.not_eq_false',Bool.not_eq_false]
theorem zid:∀(ts f:List Int),ts.Nodup→(∀t∈ts,t∈f)→ts.length≤f.length
 | [],f,_,_=>by simp
 |t::r,f,hn,hs=>by
  obtain ⟨h1,h2⟩:=List.nodup_cons.1 hn
  have ht:=hs t (by simp)
  have:=zid r (f.erase t) h2 (fun z hz=>(List.mem_erase_of_ne (by rintro rfl;exact h1 hz)).2 (hs z (by simp [hz])))
  rw [List.length_erase_of_mem ht] at this
  have:=List.length_pos_of_mem ht
  rw [List.length_cons];omega
theorem zp8 {ts f:List Int} (hf:f.Nodup) (h:zi3 ts f=true):decide (ts.length=f.length)=zi3 f ts:=by
 simp only [zi3,Bool.and_eq_true,decide_eq_true_eq,List.all_eq_true,List.contains_iff_mem] at h
 rw [Bool.eq_iff_iff]
 simp only [zi3,Bool.and_eq_true,decide_eq_true_eq,List.all_eq_true,List.contains_iff_mem]
 constructor
 ·intro e
  refine ⟨hf,fun t ht=>Classical.byContradiction fun hn=> ?_⟩
  have:=zid (t::ts) f (List.nodup_cons.2 ⟨hn,h.1⟩) (fun z hz=>by rcases List.mem_cons.1 hz with rfl|hz;exact ht;exact h.2 z hz)
  rw [List.length_cons] at this;omega
 ·rintro ⟨_,hs⟩
  exact Nat.le_antisymm (zid _ _ h.1 h.2) (zid _ _ hf hs)
theorem zz0 (n:Nat) (z:Int):z∈upR n ↔ 0≤z∧z < n:=by
 simp only [upR,List.mem_map,List.mem_range]
 constructor
 ·rintro ⟨i,hi,rfl⟩;omega
 ·rintro ⟨h0,h1⟩;exact ⟨z.toNat,by omega,by omega⟩
theorem ydd (n:Nat):(upR n).Pairwise (· < ·):=by
 rw [upR,List.pairwise_map]
 exact List.pairwise_lt_range.imp (fun h=>by omega)
theorem zdd {h:Hist} (hm:zer h=true) (x:Int):zaa h.evs x=zdm h x:=
 zrf (yhq hm) x (ydd _) (zz0 _)
theorem zeb (l:List Ev) (x:Int):(zaa l x).Nodup:=zii (zg0 _ (zsu _))
def ze1 (h:Hist) (i:Nat) (r:Ord):Bool:=((h.ords.take i).any fun p=>p.o==r.o)|| !zov r.ts (zaa h.evs r.o)|| !decide (r.ts.length=(zaa h.evs r.o).length)
def ztt (h:Hist) (i:Nat) (r:Ord):Bool:=((h.ords.take i).any fun p=>p.o==r.o)|| !zi3 r.ts (zdm h r.o)|| !zi3 (zdm h r.o) r.ts
theorem zw9 {h:Hist} (hm:zer h=true) (i:Nat) (r:Ord):ze1 h i r=ztt h i r:=by
 unfold ze1 ztt
 rw [zjb,←zdd hm]
 cases hs:zi3 r.ts (zaa h.evs r.o) with
 |false=>simp
 |true=>rw [zp8 (zeb _ _) hs]
def zlo (h:Hist) (x:Int):Bool:=decide (1 < (zaa h.evs x).length) && !h.ords.any fun r=>r.o==x
def ybk (h:Hist) (x:Int):Bool:= !(h.ords.any fun r=>r.o==x) && decide (2≤(zdm h x).length)
theorem ybj {h:Hist} (hm:zer h=true) (x:Int):zlo h x=ybk h x:=by
 unfold zlo ybk
 rw [←zdd hm,Bool.and_comm]
 rfl
def zht (h:Hist) (i:Nat) (r:Mat):Bool:=((h.mats.take i).any fun p=>p.p==r.p && p.o==r.o)|| !zov r.ts (zaa h.evs r.o)
def zt4 (h:Hist) (i:Nat) (r:Mat):Bool:=((h.mats.take i).any fun p=>p.p==r.p && p.o==r.o)|| !zi3 r.ts (zdm h r.o)
theorem zxm {h:Hist} (hm:zer h=true) (i:Nat) (r:Mat):zht h i r=zt4 h i r:=by
 unfold zht zt4;rw [zjb,←zdd hm]
def zn6 (h:Hist) (i:Nat) (r:Wan):Bool:=((h.wants.take i).any fun p=>p.s==r.s)|| !h.evs.any fun e=>e.kind==1 && e.s==r.s
def zca {α:Type} (w:Nat→α→Bool):Nat→List α→Option Nat
 |_,[]=>none
 |i,x::r=>if w i x then some i else zca w (i+1) r
theorem zd5 {α:Type} {w v:Nat→α→Bool}:∀(l:List α) (i:Nat),(∀x∈l,∀i,w i x=v i x)→zca w i l=zca v i l
 | [],_,_=>rfl
 |x::r,i,h=>by rw [zca,zca,h x (by simp),zd5 r (i+1) (fun y hy=>h y (by simp [hy]))]
def zbn (h:Hist) (rule:Nat):Option Nat:=
 match rule with
 |7=>zca (ze1 h) 0 h.ords
 |8=>zca (fun x _=>zlo h (x:Int)) 0 h.os
 |9=>zca (zht h) 0 h.mats
 |10=>zca (zn6 h) 0 h.wants
 |r=>zca (fun i e=>zag r e (h.evs.take i)) 0 h.evs
def zqm (h:Hist) (rule:Nat):Option Nat:=
 match rule with
 |7=>zca (ztt h) 0 h.ords
 |8=>zca (fun x _=>ybk h (x:Int)) 0 h.os
 |9=>zca (zt4 h) 0 h.mats
 |10=>zca (zn6 h) 0 h.wants
 |r=>zca (fun i e=>zfw r e (h.evs.take i)) 0 h.evs
theorem zwa {h:Hist} {e:Ev} (he:zd9 h e=true) (l:List Ev):∀r,zag r e l=zfw r e l
 |0=>rfl
 |1=>zzx e l
 |2=>rfl
 |3=>rfl
 |4=>zzw (zut he).1
 |5=>zzv e l
 |6=>zzu (zut he).2
 |_+7=>rfl
theorem zw6 {h:Hist} (hm:zer h=true) (rule:Nat):zbn h rule=zqm h rule:=by
 have hs:zah h=true:=by unfold zer at hm;simp only [Bool.and_eq_true] at hm;exact hm.1
 have hE:=(zdo hs).2.1
 unfold zbn zqm
 split
 ·exact zd5 _ _ fun r _ i=>zw9 hm i r
 ·exact zd5 _ _ fun r _ i=>ybj hm _
 ·exact zd5 _ _ fun r _ i=>zxm hm i r
 ·rfl
 ·exact zd5 _ _ fun e he i=>zwa (hE e he) _ _
def zat (p:Nat→Option Nat):List Nat→Option (Nat×Nat)
 | []=>none
 |r::l=>match p r with|some i=>some (r,i)|none=>zat p l
def rules10:List Nat:= [1,2,3,4,5,6,7,8,9,10]
theorem zx9 {h:Hist} (hm:zer h=true):zat (zbn h) rules10=zat (zqm h) rules10:=by
 rw [show zbn h=zqm h from funext (zw6 hm)]
theorem zkt {p:Nat→Option Nat}:∀{l:List Nat},zat p l=none→∀q∈l,p q=none
 | [],_,q,hq=>by cases hq
 |a::l,h,q,hq=>by
  rw [zat] at h
  cases ha:p a with
  |some j=>rw [ha] at h;cases h
  |none=>rw [ha] at h;rcases List.mem_cons.1 hq with rfl|hq;exact ha;exact zkt h q hq
theorem zgo {α:Type} {w:Nat→α→Bool}:∀(l:List α) (i:Nat),zca w i l=none ↔ ∀j,(h:j < l.length)→w (i+j) l[j]=false
 | [],i=>by simp [zca]
 |x::r,i=>by
  rw [zca]
  constructor
  ·intro h j hj
   split at h
   ·cases h
   ·rename_i h0
    cases j with
    |zero=>simpa using h0
    |succ j=>
     have:=(zgo r (i+1)).1 h j (by simpa using hj)
     rw [show i+(j+1)=i+1+j by omega];exact this
  ·intro h
   have h0:w i x=false:=h 0 (Nat.zero_lt_succ _)
   rw [if_neg (by rw [h0];decide)]
   refine (zgo r (i+1)).2 fun j hj=> ?_
   have:=h (j+1) (by simpa using hj)
   rw [show i+1+j=i+(j+1) by omega];exact this
theorem zkm {k:Nat} (h1:1≤k) (h2:k≤10):rules10.drop (k - 1)=k::rules10.drop k:=by
 have:∀k,k < 11→1≤k→rules10.drop (k - 1)=k::rules10.drop k:=by decide
 exact this k (by omega) h1
theorem zr5 {p:Nat→Option Nat} {k:Nat} (h1:1≤k) (h2:k≤10) (hz:zat p rules10=zat p (rules10.drop (k - 1))) (hp:p k=none):zat p rules10=zat p (rules10.drop (k+1 - 1)):=by
 rw [hz,zkm h1 h2,zat,hp];rfl
theorem zus {p:Nat→Option Nat} {k i:Nat} (h1:1≤k) (h2:k≤10) (hz:zat p rules10=zat p (rules10.drop (k - 1))) (hp:p k=some i):zat p rules10=some (k,i):=by
 rw [hz,zkm h1 h2,zat,hp]
theorem zr6 {p:Nat→Option Nat} {k:Nat} (h1:11≤k) (h2:k≤11) (hz:zat p rules10=zat p (rules10.drop (k - 1))):zat p rules10=none:=by
 obtain rfl:k=11:=by omega
 rw [hz];rfl
def zhx (h:Hist):Option (Nat×Nat):=zat (zbn h) rules10
def yis:Option (Nat×Nat)→List AV
 |some (r,i)=> [iv r,iv i]
 |none=> [iv 0,iv 0]
def zcx (h:Hist):Bool:=zer h && (zhx h).isNone
def zfm (h:Hist):AV:=if zer h=true then .tup [.agg (yis (zhx h)),bv (zhx h).isSome,iv 0] else .tup [.agg [iv 0,iv 0],bv false,iv 210]
def yjg:Option Nat→Int
 |some n=>n
 |none=>0
theorem ycn (o:Option (Nat×Nat)):∃i j,yis o= [iv i,iv j]:=by
 cases o with
 |none=>exact ⟨_,_,rfl⟩
 |some p=>exact ⟨_,_,rfl⟩
theorem znf (h:Hist):∃i j b e,zfm h= .tup [.agg [iv i,iv j],bv b,iv e]∧zcx h=((e==0) && !b):=by
 unfold zfm zcx
 obtain ⟨i,j,hb⟩:=ycn (zhx h)
 by_cases hm:zer h=true
 ·rw [if_pos hm,hm,hb];refine ⟨_,_,_,_,rfl,?_⟩;cases zhx h <;> rfl
 ·rw [if_neg hm,Bool.eq_false_iff.2 hm];exact ⟨_,_,_,_,rfl,rfl⟩
theorem zew {h:Hist} (hs:zcx h=true):zer h=true∧zat (zbn h) rules10=none:=by
 unfold zcx at hs
 simp only [Bool.and_eq_true,Option.isNone_iff_eq_none] at hs
 exact hs
section
variable (ρ:Nat→Int→Int)
end
section
variable {σ:Type} {f:σ→Nat→Int→Int×σ} {ρ:Nat→Int→Int}
variable (f) in
def after:σ→List (Nat×Int)→σ
 |s,[]=>s
 |s,x::l=>after (f s x.1 x.2).2 l
end
section
variable (ρ:Nat→Int→Int)
end
structure Cnt (k:yc9) (m:List Int):Prop where
 k4:k.length=4
 m4:m.length=4
 eq:∀s,s < 4→m.getD s 0=(k.getD s []).length
def yd1 (m:Nat):List Int:=(List.range m).map Int.ofNat
structure Rng (k:yc9) (m:List Int):Prop where
 cnt:Cnt k m
 rg:∀s,s < 4→k.getD s []=yd1 (k.getD s []).length
section
variable {h:Hist} (hs:zah h=true)
include hs
end
section
variable {h n:Hist} {ρ:Nat→Int→Int}
end
def zpv (t x:Int) (e:Ev):Bool:=e.kind==2 && e.t==t && e.o==x
theorem ydc (k:Nat):upR (k+1)=upR k++ [(k:Int)]:=by simp [upR,List.range_succ]
section
variable {h:Hist} {i:Nat}
end
section
variable {l:List Ev} {t x:Int} {k:Nat}
end
def zqo (x:Int×Int):List AV:= [iv x.1,iv x.2]
def yek (l:List (Int×Int)):AV:= .list false 2 (l.map zqo)
def ziq {α:Type} (f:Nat→Ev→Option α) (l:List Ev):Nat→List α
 |0=> []
 |k+1=>ziq f l k++(match l[k]? with|some e=>(f k e).toList|none=> [])
theorem zuo {α:Type} {f:Nat→Ev→Option α} {l:List Ev} {k:Nat} (h:k < l.length):ziq f l (k+1)=ziq f l k++(f k l[k]).toList:=by
 rw [ziq,List.getElem?_eq_getElem h]
theorem zly {α:Type} (f:Nat→Ev→Option α) (l:List Ev):∀k,(ziq f l k).length≤k
 |0=>by simp [ziq]
 |k+1=>by
  have:=zly f l k
  rw [ziq,List.length_append]
  have:(match l[k]? with|some e=>(f k e).toList|none=> []).length≤1:=by
   cases l[k]? with
   |none=>simp
   |some e=>simp only [];cases f k e <;> simp
  omega
theorem zjg {α:Type} {f:Nat→Ev→Option α} {p:Ev→Bool} {g:Ev→α} (hf:∀k e,f k e=if p e=true then some (g e) else none) (l:List Ev):∀k,k≤l.length→ziq f l k=((l.take k).filter p).map g
 |0,_=>by simp [ziq]
 |k+1,h=>by
  have hk:k < l.length:=h
  rw [zuo hk,zjg hf l k (by omega),List.take_succ_eq_append_getElem hk,List.filter_append,List.map_append,hf]
  by_cases hp:p l[k]=true
  ·rw [if_pos hp,List.filter_cons_of_pos hp];rfl
  ·rw [if_neg hp,List.filter_cons_of_neg hp];rfl
theorem zx4 {α:Type} {f:Nat→Ev→Option α} {p:Ev→Bool} {g:Ev→α} (hf:∀k e,f k e=if p e=true then some (g e) else none) (l:List Ev):ziq f l l.length=(l.filter p).map g:=by
 rw [zjg hf l _ (Nat.le_refl _),List.take_length]
def zr1 (l:List Ev) (t x:Int):Nat→Option (Ver×Nat)
 |0=>none
 |k+1=>match l[k]? with
  |some e=>if zpv t x e=true then some (e.v,k) else zr1 l t x k
  |none=>zr1 l t x k
def yh5 (l:List Ev) (t x:Int):Option (Ver×Nat):=zr1 l t x l.length
def yil:Option (Ver×Nat)→Ver
 |some p=>p.1
 |none=>⟨0,0⟩
def zdy (l:List Ev) (s:Int):List Int:=(l.filter fun e=>e.kind==1 && (e.s==s && yb5 l e.t 5)).map Ev.t
def yc8 (l:List Ev) (x:Int):List Int:=(l.filter fun e=>e.kind==2 && (e.o==x && yb5 l e.t 5)).map Ev.t
def ze6 (h:Hist) (x:Int):List Int:=match h.ords.find? (fun o=>o.o==x) with|some o=>o.ts|none=>zau (yc8 h.evs x)
def yhu (h:Hist) (x:Int):List Int:=match h.ords.find? (fun o=>o.o==x) with|some o=>o.ts|none=>zdm h x
def za6 (h:Hist):Int:=if zer h=true then (if zcx h=true then 0 else 250) else 210
theorem zds {h:Hist}:za6 h=0 ↔ zcx h=true:=by
 unfold za6
 by_cases hm:zer h=true
 ·rw [if_pos hm]
  by_cases hs:zcx h=true
  ·rw [if_pos hs];simp [hs]
  ·rw [if_neg hs];simp [hs]
 ·rw [if_neg hm]
  have:zcx h=false:=by rw [zcx,Bool.eq_false_iff.2 hm];rfl
  simp [this]
theorem zgx {α:Type} (p:α→Bool):∀(l:List α) (i:Nat),(match l.find? p with|some x=>∃k,∃hk:k < l.length,zb8 p i l=((i+k:Nat):Int)∧l[k]=x∧p x=true|none=>zb8 p i l= -1)
 | [],i=>rfl
 |a::r,i=>by
  rw [List.find?_cons]
  cases ha:p a with
  |true=>exact ⟨0,by simp,by rw [zb8,if_pos ha];rfl,rfl,ha⟩
  |false=>
   have:=zgx p r (i+1)
   rw [zb8,if_neg (by rw [ha];decide)]
   dsimp only
   cases hf:r.find? p with
   |some x=>
    rw [hf] at this
    obtain ⟨k,hk,e1,e2,e3⟩:=this
    exact ⟨k+1,by simpa using hk,by rw [e1];congr 1;omega,by simpa using e2,e3⟩
   |none=>
    rw [hf] at this
    exact this
theorem zkh {h:Hist} (hs:zcx h=true) {q:Nat} (h1:1≤q) (h2:q≤10):zbn h q=none:=
 zkt (zew hs).2 q (by have:∀k,k < 11→1≤k→k∈rules10:=by decide
                      exact this q (by omega) h1)
theorem zjq {a:Int}:∀l:List Int,l≠ []→(∀z∈l,z=a)→zau l= [a]
 | [],h,_=>absurd rfl h
 | [x],_,h=>by rw [h x (by simp)];rfl
 |x::y::r,_,h=>by
  rw [zau,if_pos (by rw [h x (by simp),h y (by simp)])]
  exact zjq (y::r) (by simp) (fun z hz=>h z (by simp only [List.mem_cons] at hz ⊢;exact .inr hz))
theorem zu2 {l:List Int} (h:(zau (srt l)).length≤1):zau l=zau (srt l):=by
 have hm:∀z,z∈zau (srt l) ↔ z∈l:=fun z=>by rw [zfc,(zdn l).mem_iff]
 match hc:zau (srt l),h with
 | [],_=>
   have:l= []:=by
    rw [List.eq_nil_iff_forall_not_mem];intro z hz
    have:=(hm z).2 hz;rw [hc] at this;cases this
   rw [this];rfl
 | [a],_=>
   refine zjq l ?_ fun z hz=> ?_
   ·rintro rfl
    have:=(hm a).1 (by rw [hc];simp);cases this
   ·have:=(hm z).2 hz
    rw [hc] at this;simpa using this
 |a::b::r,h=>simp at h
theorem zhv (l:List Ev) (x:Int):zau (srt (yc8 l x))=zaa l x:=by
 rw [yc8,zaa]
 congr 3
 refine List.filter_congr fun e _=> ?_
 rw [zin,Bool.and_assoc]
theorem zt0 {h:Hist} (hs:zcx h=true) {x:Int} (h0:0≤x) (h1:x < h.os.length) (hn:h.ords.find? (fun o=>o.o==x)=none):(zaa h.evs x).length≤1:=by
 have hp:=zkh hs (q:=8) (by omega) (by omega)
 have:=(zgo _ _).1 hp x.toNat (by omega)
 rw [Nat.zero_add,show ((x.toNat:Nat):Int)=x by omega,zlo] at this
 rw [List.find?_eq_none] at hn
 have ha:h.ords.any (fun r=>r.o==x)=false:=by
  rw [List.any_eq_false];intro o ho;exact hn o ho
 rw [ha] at this
 simp at this
 exact this
theorem yff {h:Hist} (hs:zcx h=true) {x:Int} (h0:0≤x) (h1:x < h.os.length):ze6 h x=yhu h x:=by
 unfold ze6 yhu
 cases hf:h.ords.find? (fun o=>o.o==x) with
 |some o=>rfl
 |none=>
  have:=zt0 hs h0 h1 hf
  rw [←zdd (zew hs).1,←zhv,zu2 (by rw [zhv];exact this)]
def ydz (h:Hist) (x:Int) (v:Ver):Int:=zb8 (fun t=>yil (yh5 h.evs t x)==v) 0 (ze6 h x)
theorem zkc {t x:Int} {e:Ev}:zpv t x e=true ↔ e.kind=2∧e.t=t∧e.o=x:=by
 simp only [zpv,Bool.and_eq_true,beq_iff_eq,and_assoc]
theorem zpb {h:Hist} (hs:zcx h=true) {x:Int} (h0:0≤x) (h1:x < h.os.length):(ze6 h x).Nodup∧(ze6 h x).length=(zaa h.evs x).length∧∀z,z∈ze6 h x ↔ z∈zaa h.evs x:=by
 have hm:=(zew hs).1
 cases hf:h.ords.find? (fun o=>o.o==x) with
 |none=>
  have e:ze6 h x=zaa h.evs x:=by
   rw [yff hs h0 h1,yhu,hf,zdd hm]
  rw [e];exact ⟨zeb _ _,rfl,fun _=>Iff.rfl⟩
 |some o=>
  have e:ze6 h x=o.ts:=by rw [ze6,hf]
  have:=zgx (fun o:Ord=>o.o==x) h.ords 0
  rw [hf] at this
  obtain ⟨k,hk,_,ek,eo⟩:=this
  have hp:zca (ze1 h) 0 h.ords=none:=zkh hs (q:=7) (by omega) (by omega)
  have:=(zgo _ _).1 hp k hk
  rw [Nat.zero_add,ek,ze1] at this
  have ex:o.o=x:=by simpa using eo
  simp only [Bool.or_eq_false_iff,Bool.not_eq_false',ex] at this
  obtain ⟨⟨_,h2⟩,h3⟩:=this
  rw [zjb] at h2
  have h4:=(zp8 (zeb h.evs x) h2).symm.trans h3
  simp only [zi3,Bool.and_eq_true,decide_eq_true_eq,List.all_eq_true,List.contains_iff_mem] at h2 h4
  rw [e]
  exact ⟨h2.1,by simpa using h3,fun z=>⟨h2.2 z,h4.2 z⟩⟩
end Go.H
set_option linter.unusedSectionVars false
namespace Go.Ab
open Go
section
variable {K V:Type} [DecidableEq K]
def zbd (k:K):List (K×V)→Option V
 | []=>none
 |p::r=>if p.1=k then some p.2 else zbd k r
def zd7 (k:K) (v:V):List (K×V)→List (K×V)
 | []=> [(k,v)]
 |p::r=>if p.1=k then (p.1,v)::r else p::zd7 k v r
def zba (f:V→AV) (m:List (K×V)):List (K×AV):=m.map fun p=>(p.1,f p.2)
theorem zhd (f:V→AV) (k:K):∀m:List (K×V),zci k (zba f m)=(zbd k m).map f
 | []=>rfl
 |p::m=>by
  have ih:=zhd f k m
  simp only [zba,List.map_cons,zci,zbd] at ih ⊢
  by_cases h:p.1=k
  ·simp [h]
  ·rw [if_neg h,if_neg h,ih]
theorem ziz (f:V→AV) (k:K) (v:V):∀m:List (K×V),zke k (f v) (zba f m)=zba f (zd7 k v m)
 | []=>rfl
 |p::m=>by
  have ih:=ziz f k v m
  simp only [zba,List.map_cons,zke,zd7] at ih ⊢
  by_cases h:p.1=k
  ·rw [if_pos h,if_pos h];rfl
  ·rw [if_neg h,if_neg h,ih];rfl
theorem zc3 (k k':K) (v:V):∀m:List (K×V),zbd k (zd7 k' v m)=if k'=k then some v else zbd k m
 | []=>by simp only [zd7,zbd]
 |p::m=>by
  have ih:=zc3 k k' v m
  simp only [zd7]
  by_cases h:p.1=k'
  ·rw [if_pos h];simp only [zbd,h]
   by_cases hk:k'=k
   ·simp [hk]
   ·simp [hk]
  ·rw [if_neg h];simp only [zbd,ih]
   by_cases hp:p.1=k
   ·rw [if_pos hp,if_neg (fun q=>h (hp.trans q.symm)),if_pos hp]
   ·rw [if_neg hp,if_neg hp]
theorem ztp (k:K) (v:V):∀m:List (K×V),(zd7 k v m).length=if (zbd k m).isSome then m.length else m.length+1
 | []=>rfl
 |p::m=>by
  have ih:=ztp k v m
  by_cases h:p.1=k
  ·simp [zd7,zbd,h]
  ·simp only [zd7,zbd,if_neg h,List.length_cons,ih]
   split <;> simp
def zqc {α:Type} (p:α→Bool) (key:α→K) (m:List (K×Bool)) (l:List α):List (K×Bool):=l.foldl (fun m e=>if p e then zd7 (key e) true m else m) m
theorem zfj {α:Type} (p:α→Bool) (key:α→K) (k:K):∀(l:List α) (m:List (K×Bool)),zbd k (zqc p key m l)=if l.any (fun e=>p e && decide (key e=k)) then some true else zbd k m
 | [],m=>by simp [zqc]
 |e::l,m=>by
  have ih:=zfj p key k l (if p e then zd7 (key e) true m else m)
  simp only [zqc,List.foldl_cons,List.any_cons] at ih ⊢
  rw [ih]
  by_cases h:(l.any fun e=>p e && decide (key e=k))=true
  ·simp only [h,Bool.or_true,if_true]
  ·have h':=Bool.eq_false_iff.2 h
   simp only [h',Bool.or_false,Bool.false_eq_true,if_false]
   cases hp:p e with
   |false=>simp
   |true=>simp [zc3]
def ye3 {α:Type} (p:α→Bool) (key:α→K) (val:α→V) (m:List (K×V)) (l:List α):List (K×V):=l.foldl (fun m e=>if p e then zd7 (key e) (val e) m else m) m
theorem zqv {α:Type} (p:α→Bool) (key:α→K) (val:α→V) (k:K):∀(l:List α) (m:List (K×V)),zbd k (ye3 p key val m l)=(((l.filter fun e=>p e && decide (key e=k)).getLast?).map val).or (zbd k m)
 | [],m=>by simp [ye3]
 |e::l,m=>by
  have ih:=zqv p key val k l (if p e then zd7 (key e) (val e) m else m)
  simp only [ye3,List.foldl_cons,List.filter_cons] at ih ⊢
  rw [ih]
  cases hp:p e with
  |false=>simp
  |true=>
   by_cases hk:key e=k
   ·simp only [hk,decide_true,Bool.and_self,if_true,zc3]
    cases hl:(l.filter fun e=>p e && decide (key e=k)).getLast? with
    |none=>
     rw [List.getLast?_eq_none_iff] at hl
     simp [hl]
    |some y=>simp [List.getLast?_cons,hl]
   ·simp [hk,zc3]
def yf2 {α:Type} (p:α→Bool) (key:α→K) (m:List (K×Int)) (l:List α):List (K×Int):=l.foldl (fun m e=>if p e then zd7 (key e) ((zbd (key e) m).getD 0+1) m else m) m
theorem zq7 {α:Type} (p:α→Bool) (key:α→K) (k:K):∀(l:List α) (m:List (K×Int)),(zbd k (yf2 p key m l)).getD 0=(zbd k m).getD 0+((l.filter fun e=>p e && decide (key e=k)).length:Int)
 | [],m=>by simp [yf2]
 |e::l,m=>by
  have ih:=zq7 p key k l (if p e then zd7 (key e) ((zbd (key e) m).getD 0+1) m else m)
  simp only [yf2,List.foldl_cons,List.filter_cons] at ih ⊢
  rw [ih]
  cases hp:p e with
  |false=>simp
  |true=>
   by_cases hk:key e=k
   ·simp only [hk,decide_true,Bool.and_self,if_true,zc3,Option.getD_some,List.length_cons];omega
   ·simp [hk,zc3]
end
end Go.Ab
namespace Go.Proofs
open Go Go.Ab
open Go.H
theorem yei {P:Program} {h:List Res} {f:Operand→Option AV} {o:Oper} {b c:Bool} (hq:QR P h f o (.v (.bool b))) (e:b=c):QR P h f o (.v (.bool c)):=by subst e;exact hq
theorem nzT {a:Int} (h:(a !=0)=true):a≠0:=by simpa using h
theorem nzF {a:Int} (h:(a !=0)=false):a=0:=by simpa using h
end Go.Proofs
