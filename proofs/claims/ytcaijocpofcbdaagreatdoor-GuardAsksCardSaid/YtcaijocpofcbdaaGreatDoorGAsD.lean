/- The abstract logic, part 29: regions that draw their order, with operations that change memory among them. Conditions: the program draws freely .. -/
import Derived.Test.YtcaijocpofcbdaaGreatDoorGAsC
set_option linter.unusedSimpArgs false
set_option linter.unusedVariables false
namespace Go.Ab
open Go
def mem? (i:Nat) (l:List Nat):Bool:=l.any (Nat.beq i)
theorem mem?_iff {i:Nat} {l:List Nat}:mem? i l=true ↔ i∈l:=by
 rw [mem?,F9];constructor
 ·rintro ⟨x,hx,e⟩;rw [C3 e];exact hx
 intro h;exact ⟨i,h,by simp⟩
def zxn:List Nat→Bool
 | []=>true
 |i::r=> !mem? i r && zxn r
theorem zsu:∀{l:List Nat},zxn l=true→l.Nodup
 | [],_=> .nil
 |i::r,h=>by
  simp only [zxn,B5,N0] at h;exact K9.2 ⟨fun hm=>(by rw [mem?_iff.2 hm] at h;cases h.1),zsu h.2⟩
def zr5 (l:List Oper) (n:Nat) (eff late:List Nat):Bool:=
 (late.all fun i=> !mem? i eff && Nat.blt i n && eff.all fun j=>(zph l i (u7 l i)).any (Nat.beq j)) && zxn late &&
 Nat.ble n l.length &&
 ((List.range l.length).all fun i=>(u7 l i).all fun j=>Nat.blt j i) &&
 ((List.range n).all fun i=>match l[i]? with
   |some o=>(match o.dst with
    |some d=>((List.range n).all fun j=>Nat.beq j i||match zad l j with
     |some d'=> !Nat.beq d d'
     |none=>true)
    |none=>mem? i eff) && (!mem? i eff||(match o.guard with
     |none=>true
     |some _=>false))
   |none=>false) &&
 ((List.range l.length).all fun t=>Nat.blt t n||(List.range t).all fun j=>(zph l t (u7 l t)).any (Nat.beq j))
structure SoupD (l:List Oper) (n:Nat) (eff late:List Nat):Prop extends SoupT l n where
 lat:∀i∈late,i ∉ eff∧i < n∧∀j∈eff,j∈zph l i (u7 l i)
 lnd:late.Nodup
 dst:∀i,i < n→∃o,l[i]? =some o∧(i ∉ eff→∃d,o.dst=some d)∧(i∈eff→o.guard=none)∧∀d,o.dst=some d→∀j,j < n→j≠i→∀d',zad l j=some d'→d≠d'
theorem zw5 {l:List Oper} {n:Nat} {eff late:List Nat} (hc:zr5 l n eff late=true):SoupD l n eff late:=by
 simp only [zr5,B5,B7,H4] at hc;obtain ⟨⟨⟨⟨⟨h5,h6⟩,h1⟩,h2⟩,h3⟩,h4⟩:=hc;refine ⟨⟨A7 h1,fun i hi j hj=>A7 (h2 i hi j hj),fun t ht htl j hj=>?_⟩,fun i hi=>?_,zsu h6,fun i hi=>?_⟩
 rotate_left
 ·obtain ⟨⟨g1,g2⟩,g3⟩:=h5 i hi;refine ⟨fun hm=>(by rw [mem?_iff.2 hm] at g1;cases g1),A7 g2,fun j hj=>?_⟩;obtain ⟨x,hx,e⟩:=F9.1 (g3 j hj);rw [C3 e];exact hx
 rotate_left
 ·have:=h4 t htl;simp only [P7] at this;rcases this with e|e
  ·exact absurd (A7 e) (by omega)
  have:=B7.1 e j (H4.2 hj);obtain ⟨x,hx,e2⟩:=F9.1 this;rw [C3 e2];exact hx
 have:=h3 i hi;split at this
 ·rename_i o ho;simp only [B5] at this;obtain ⟨g1,g2⟩:=this;refine ⟨o,ho,fun hne=>?_,fun he=>?_,fun d hd j hj hji d' hd'=>?_⟩
  ·cases hd:o.dst with
   |some d=>exact ⟨d,rfl⟩
   |none=>simp only [hd] at g1;exact absurd (mem?_iff.1 g1) hne
  ·rw [mem?_iff.2 he] at g2;simp only [D8,C4] at g2;split at g2
   ·assumption
   cases g2
  simp only [hd] at g1;have:=B7.1 g1 j (H4.2 hj);simp only [hd',P7,N0] at this;rcases this with e|e
  ·exact absurd (C3 e) hji
  exact S5 e
 cases this
def zir (ds:List Tmp) (f:Fr):Fr:=f.filter fun p=>ds.any (Nat.beq p.1)
def zru (ds:List Tmp) (f:Fr):Fr:=f.filter fun p=> !ds.any (Nat.beq p.1)
def stF (o:Oper) (av:AV) (f:Fr):Fr:=match o.dst with
 |some d=>(d,av)::f
 |none=>f
theorem zeh {q:Nat→Bool}:∀{f:Fr} {d:Nat},q d=true→lk (f.filter fun p=>q p.1) d=lk f d
 | [],_,_=>rfl
 |(j,a)::f,d,hq=>by
  have ih:=zeh (f:=f) hq;simp only [I0,lk];split
  ·simp only [lk,ih]
  rename_i hj;have:Nat.beq j d=false:=by
   cases h:Nat.beq j d with
   |false=>rfl
   |true=>rw [C3 h] at hj;exact absurd hq hj
  rw [this];exact ih
theorem zbx {q:Nat→Bool}:∀{f:Fr} {d:Nat},q d=false→lk (f.filter fun p=>q p.1) d=none
 | [],_,_=>rfl
 |(j,a)::f,d,hq=>by
  have ih:=zbx (f:=f) hq;simp only [I0];split
  ·rename_i hj;simp only [lk];have:Nat.beq j d=false:=by
    cases h:Nat.beq j d with
    |false=>rfl
    |true=>rw [C3 h] at hj;rw [hq] at hj;cases hj
   rw [this];exact ih
  exact ih
section
variable {P:Program} {ro:Option Nat} {nt:Nat} {l:List Oper} {eff:List Nat} {sd:Nat→List Tmp} {t0:Fr} {C:Nat→List Res→Prop}
def QJ (P:Program) (ro:Option Nat) (nt:Nat) (C:List Res→Prop) (l:List Oper) (sd:List Tmp) (t0:Fr) (o:Oper) (d:Tmp) (av:AV) (e:Fr):Prop:=
 o.dst=some d∧Nat.blt d nt=true∧((gdS l (lkS sd (zcl l o) e t0) o=some true∧∀h,C h→QV P ro h (evS sd (zcl l o) e t0) o av)∨(gdS l (lkS sd (zcl l o) e t0) o=some false∧av= .v undef))
def zem (P:Program) (ro:Option Nat) (nt:Nat) (C:Nat→List Res→Prop) (l:List Oper) (eff:List Nat) (sd:Nat→List Tmp) (t0:Fr):List Oper→Nat→Fr→(Fr→Prop)→Prop
 | [],_,e,K=>K e
 |o::rest,i,e,K=>(mem? i eff=true∧zem P ro nt C l eff sd t0 rest (i+1) e K)∨(mem? i eff=false∧∃d av,QJ P ro nt (C i) l (sd i) t0 o d av e∧zem P ro nt C l eff sd t0 rest (i+1) ((d,av)::e) K)
theorem yig {i:Nat} {e:Fr} {K:Fr→Prop} (hk:K e):zem P ro nt C l eff sd t0 [] i e K:=hk
theorem je {o:Oper} {rest:List Oper} {i:Nat} {e:Fr} {K:Fr→Prop} (hi:mem? i eff=true) (hk:zem P ro nt C l eff sd t0 rest (i+1) e K):zem P ro nt C l eff sd t0 (o::rest) i e K:= .inl ⟨hi,hk⟩
theorem jq {d:Tmp} {op:Op} {ty:TypeId} {pos:String} {after:Array Edge} {g:Option (Nat×Bool)} {av:AV} {rest:List Oper} {i:Nat} {e:Fr} {K:Fr→Prop}
 (hg:gdS l (lkS (sd i) (zcl l ⟨some d,op,ty,pos,after,g⟩) e t0) ⟨some d,op,ty,pos,after,g⟩=some true)
 (hq:∀h,C i h→QR P h (evS (sd i) (zcl l ⟨some d,op,ty,pos,after,g⟩) e t0) ⟨some d,op,ty,pos,after,g⟩ av) (hk:zem P ro nt C l eff sd t0 rest (i+1) ((d,av)::e) K)
 (hi:mem? i eff=false:=by rfl) (hd:Nat.blt d nt=true:=by rfl) (hn:zbt ⟨some d,op,ty,pos,after,g⟩=true:=by rfl):zem P ro nt C l eff sd t0 (⟨some d,op,ty,pos,after,g⟩::rest) i e K:=
 .inr ⟨hi,d,av,⟨rfl,hd,.inl ⟨hg,fun h hc=>zg4 (hq h hc) hn⟩⟩,hk⟩
theorem yde {n:Nat} {ef la:List Nat} (hC:SoupD l n ef la) (hsk:∀i,i ∉ eff→i ∉ ef) {K:Fr→Prop}:∀{os:List Oper} {i:Nat} {e:Fr},i+os.length=n→os=(l.take n).drop i→(∀d a,lk e d=some a→∃j,j < i∧j ∉ eff∧zad l j=some d)→(∀j,j < i→j ∉ eff→∀d,zad l j=some d→lk e d≠none)→zem P ro nt C l eff sd t0 os i e K→
 ∃E,K E∧(∀d a,lk e d=some a→lk E d=some a)∧(∀d a,lk E d=some a→∃j,j < n∧j ∉ eff∧zad l j=some d)∧(∀j,j < n→j ∉ eff→∀d,zad l j=some d→lk E d≠none)∧
  ∀j o,i≤j→j < n→j ∉ eff→l[j]? =some o→∃d av e',lk E d=some av∧(∀d a,lk e' d=some a→lk E d=some a)∧QJ P ro nt (C j) l (sd j) t0 o d av e'
 | [],i,e,hn,ho,he,hf,hk=>⟨e,hk,fun _ _ h=>h,fun d a h=>let ⟨j,h1,h2⟩:=he d a h;⟨j,by simp at hn;omega,h2⟩,fun j hj=>hf j (by simp at hn;omega),fun j o h1 h2=>by simp at hn;omega⟩
 |o::os,i,e,hn,ho,he,hf,hk=>by
  have hin:i < n:=by simp at hn;omega
  have hoi:l[i]? =some o:=by
   have:(l.take n)[i]? =some o:=by
    have:=A4 List.head? ho;rw [List.head?_cons,List.head?_drop] at this;exact this.symm
   rwa [G2 hin] at this
  have ho':os=(l.take n).drop (i+1):=by
   have:=A4 List.tail ho;rwa [List.tail_cons,List.tail_drop] at this
  rcases hk with ⟨hi,hk⟩|⟨hi,d,av,hq,hk⟩
  ·have hie:=mem?_iff.1 hi
   obtain ⟨E,h1,h2,h3,h4,h5⟩:=yde hC hsk (by simp at hn;omega) ho' (fun d a h=>let ⟨j,g1,g2⟩:=he d a h;⟨j,by omega,g2⟩) (fun j hj hje d hd=>by
    rcases M4 j i with h|h
    ·exact hf j h hje d hd
    have:j=i:=by omega
    subst this;exact absurd hie hje) hk
   refine ⟨E,h1,h2,h3,h4,fun j oj hj1 hj2 hje hoj=>?_⟩;rcases M4 i j with h|h
   ·exact h5 j oj h hj2 hje hoj
   have:j=i:=by omega
   subst this;exact absurd hie hje
  have hie:i ∉ eff:=fun h=>by rw [mem?_iff.2 h] at hi;cases hi
  obtain ⟨o2,g1,_,_,g4⟩:=hC.dst i hin;have:o2=o:=B6 (g1.symm.trans hoi);subst this;have hdd:zad l i=some d:=by simp [zad,hoi,hq.1]
  have hnew:lk e d=none:=by
   cases hl:lk e d with
   |none=>rfl
   |some a=>
    obtain ⟨j,k1,k2,k3⟩:=he d a hl;exact absurd rfl (g4 d hq.1 j (by omega) (by omega) d k3)
  have hmono:∀d' a,lk e d'=some a→lk ((d,av)::e) d'=some a:=fun d' a h=>by
   simp only [lk];split
   ·rename_i hb;rw [←C3 hb,hnew] at h;cases h
   exact h
  obtain ⟨E,h1,h2,h3,h4,h5⟩:=yde hC hsk (by simp at hn;omega) ho' (fun d' a h=>by
   simp only [lk] at h;split at h
   ·rename_i hb;rw [←C3 hb];exact ⟨i,by omega,hie,hdd⟩
   ·obtain ⟨j,k1,k2⟩:=he d' a h;exact ⟨j,by omega,k2⟩) (fun j hj hje d' hd'=>by
   simp only [lk];split
   ·simp
   rename_i hb;rcases M4 j i with h|h
   ·exact hf j h hje d' hd'
   have:j=i:=by omega
   subst this;rw [hdd] at hd';cases hd';simp at hb) hk
  refine ⟨E,h1,fun d' a h=>h2 d' a (hmono d' a h),h3,h4,fun j oj hj1 hj2 hje hoj=>?_⟩;rcases M4 i j with h|h
  ·exact h5 j oj h hj2 hje hoj
  have:j=i:=by omega
  subst this;have:oj=o2:=B6 (hoj.symm.trans hoi);subst this;exact ⟨d,av,e,h2 d av (by simp [lk]),fun d' a h=>h2 d' a (hmono d' a h),hq⟩
end
def zfo (P:Program) (ro:Option Nat) (nt:Nat) (he:List Res) (l:List Oper) (sd:Nat→List Tmp) (t0:Fr):List Nat→Fr→(Fr→Prop)→Prop
 | [],e,K=>K e
 |i::r,e,K=>∃o d av,l[i]? =some o∧QJ P ro nt (fun h=>h=he) l (sd i) t0 o d av e∧zfo P ro nt he l sd t0 r ((d,av)::e) K
section
variable {P:Program} {ro:Option Nat} {nt:Nat} {l:List Oper} {sd:Nat→List Tmp} {t0:Fr} {he:List Res}
theorem ln {e:Fr} {K:Fr→Prop} (hk:K e):zfo P ro nt he l sd t0 [] e K:=hk
theorem lq {i:Nat} {r:List Nat} {e:Fr} {K:Fr→Prop} {d:Tmp} {op:Op} {ty:TypeId} {pos:String} {after:Array Edge} {g:Option (Nat×Bool)} {av:AV} (ho:l[i]? =some ⟨some d,op,ty,pos,after,g⟩)
 (hg:gdS l (lkS (sd i) (zcl l ⟨some d,op,ty,pos,after,g⟩) e t0) ⟨some d,op,ty,pos,after,g⟩=some true)
 (hq:QR P he (evS (sd i) (zcl l ⟨some d,op,ty,pos,after,g⟩) e t0) ⟨some d,op,ty,pos,after,g⟩ av) (hk:zfo P ro nt he l sd t0 r ((d,av)::e) K)
 (hd:Nat.blt d nt=true:=by rfl) (hn:zbt ⟨some d,op,ty,pos,after,g⟩=true:=by rfl):zfo P ro nt he l sd t0 (i::r) e K:=
 ⟨_,d,av,ho,⟨rfl,hd,.inl ⟨hg,fun h hh=>by subst hh;exact zg4 hq hn⟩⟩,hk⟩
theorem yc5 {n:Nat} {ef la:List Nat} (hC:SoupD l n ef la) {K:Fr→Prop}:∀{r:List Nat} {e:Fr},(∀i∈r,i∈la)→r.Nodup→(∀i∈r,∀d,zad l i=some d→lk e d=none)→zfo P ro nt he l sd t0 r e K→
 ∃F,K F∧(∀d a,lk e d=some a→lk F d=some a)∧(∀d a,lk F d=some a→lk e d=some a∨∃i∈r,zad l i=some d)∧(∀i∈r,∀d,zad l i=some d→lk F d≠none)∧
  ∀i∈r,∀o,l[i]? =some o→∃d av e',lk F d=some av∧(∀d a,lk e' d=some a→lk F d=some a)∧QJ P ro nt (fun h=>h=he) l (sd i) t0 o d av e'
 | [],e,_,_,_,hk=>⟨e,hk,fun _ _ h=>h,fun _ _ h=> .inl h,fun i h=>(by cases h),fun i h=>(by cases h)⟩
 |i::r,e,hr,hnd,hdis,⟨o,d,av,ho,hq,hk⟩=>by
  obtain ⟨hir,hnd'⟩:=K9.1 hnd;have hdd:zad l i=some d:=by simp [zad,ho,hq.1]
  have hnew:=hdis i (by simp) d hdd;have hin:=(hC.lat i (hr i (by simp))).2.1
  have hmono:∀d' a,lk e d'=some a→lk ((d,av)::e) d'=some a:=fun d' a h=>by
   simp only [lk];split
   ·rename_i hb;rw [←C3 hb,hnew] at h;cases h
   exact h
  obtain ⟨F,h1,h2,h3,h4,h5⟩:=yc5 hC (r:=r) (fun j hj=>hr j (by simp [hj])) hnd' (fun j hj d' hd'=>by
   simp only [lk];split
   ·rename_i hb;have:=C3 hb;subst this;obtain ⟨oi,g1,_,_,g4⟩:=hC.dst i hin;have:oi=o:=B6 (g1.symm.trans ho);subst this;exact absurd rfl (g4 d hq.1 j (hC.lat j (hr j (by simp [hj]))).2.1 (fun e=>hir (e ▸ hj)) d hd')
   exact hdis j (by simp [hj]) d' hd') hk
  refine ⟨F,h1,fun d' a h=>h2 d' a (hmono d' a h),fun d' a h=>?_,fun j hj d' hd'=>?_,fun j hj oj hoj=>?_⟩
  ·rcases h3 d' a h with h|⟨j,hj,h⟩
   ·simp only [lk] at h;split at h
    ·rename_i hb;exact .inr ⟨i,by simp,by rw [←C3 hb];exact hdd⟩
    exact .inl h
   exact .inr ⟨j,by simp [hj],h⟩
  ·rcases C9.1 hj with rfl|hj
   ·rw [hdd] at hd';cases hd';rw [h2 d av (by simp [lk])];simp
   exact h4 j hj d' hd'
  rcases C9.1 hj with rfl|hj
  ·have:oj=o:=B6 (hoj.symm.trans ho);subst this;exact ⟨d,av,e,h2 d av (by simp [lk]),fun d' a h=>h2 d' a (hmono d' a h),hq⟩
  exact h5 j hj oj hoj
end
structure InvJ (P:Program) (X:Nat→Prop) (nt:Nat) (h:List Res) (l:List Oper) (n:Nat) (eff late:List Nat) (t:Fr) (dsl:List Nat) (E:Fr) (J:List Nat→Fr→List Res→Prop) (w0:World) (L:List Nat) (ee:Fr) (he:List Res) (F:Fr) (listed:Array Bool) (a:Act) (w:World):Prop where
 size:listed.size=l.length
 closed:∀i,listed.getD i false=true→∀j∈u7 l i,listed.getD j false=true
 tail:∀i,n≤i→listed.getD i false=false
 tsz:a.tmps.size=nt
 defs:a.defers=dsl.map zj5
 J:J L ee he
 heap:HRel X w he
 lst:∀i,i∈L ↔ i∈eff∧i < n∧listed.getD i false=true
 lvals:∀i d av,i∈late→zad l i=some d→lk F d=some av→listed.getD i false=true→∃v,a.tmps[d]? =some v∧Rel w (OO he X) av v
 vals:∀i d av,i < n→i ∉ eff++late→zad l i=some d→lk E d=some av→listed.getD i false=true→∃v,a.tmps[d]? =some v∧Rel w (OO he X) av v
 evals:∀d av,lk ee d=some av→∃v,a.tmps[d]? =some v∧Rel w (OO he X) av v
 edom:∀d,lk ee d≠none ↔ ∃i,i∈L∧zad l i=some d
 base:∀d av,(∀j,j < n→zad l j=some d→listed.getD j false=false)→lk t d=some av→∃v,a.tmps[d]? =some v∧Rel w (OO he X) av v
 keep:Keep (j6 h) w0 (j6 he) w
structure GoodF (P:Program) (ro:Option Nat) (nt:Nat) (Q:Exit→St→Prop) (l:List Oper) (n:Nat) (late:List Nat) (sd:Nat→List Tmp) (t:Fr) (dsl:List Nat) (E ee:Fr) (he:List Res) (F:Fr):Prop where
 fin:zc9 P ro nt l.toArray (l.drop n) Q ⟨F++t,he,dsl⟩
 up:∀d a,lk (E++ee) d=some a→lk F d=some a
 dn:∀d a,lk F d=some a→lk (E++ee) d=some a∨∃i∈late,zad l i=some d
 nn:∀i∈late,∀d,zad l i=some d→lk F d≠none
 facts:∀i∈late,∀o,l[i]? =some o→∃d av e',lk F d=some av∧(∀d a,lk e' d=some a→lk F d=some a)∧QJ P ro nt (fun h=>h=he) l (sd i) t o d av e'
theorem zu0 {l:List Oper} {n:Nat} {d:Nat} (hf:(zef l n).any (Nat.beq d)=false) {j:Nat} (hj:j < n) (hd:zad l j=some d):False:=by
 have:d∈zef l n:=by
  simp only [zef,O6];simp only [zad] at hd;cases hlj:l[j]? with
  |none=>simp [hlj] at hd
  |some oj=>
   simp only [hlj,J3] at hd;exact ⟨oj,C6 (i:=j) (by rw [G2 hj];exact hlj),hd⟩
 have:(zef l n).any (Nat.beq d)=true:=F9.2 ⟨d,this,by simp⟩;rw [hf] at this;cases this
theorem zyo {P:Program} {ro:Option Nat} {nt rid:Nat} {Q:Exit→St→Prop} {l:List Oper} {t:Fr} {h:List Res} {dsl:List Nat} (n:Nat) (eff late:List Nat) (sd:Nat→List Tmp) (hS:∀i,i < n→∀d,(sd i).any (Nat.beq d)=false→∀j,j < n→zad l j=some d→i∈zph l j (u7 l j)) (C:Nat→List Res→Prop) [hm:Mixed P] (hc:zr5 l n eff late=true)
 (hk:zem P ro nt C l (eff++late) sd t (l.take n) 0 [] (fun E=>∃J:List Nat→Fr→List Res→Prop,J [] [] h∧(∀L ee he,J L ee he→∀i,i < n→i ∉ eff→(∀j∈L,i ∉ zph l j (u7 l j))→C i he)∧
  (∀L ee he,J L ee he→∀i o,i∈eff→i ∉ L→l[i]? =some o→(∀j,j∈zph l i (u7 l i)→j∈eff→j∈L)→∀u,OE P ro nt o ⟨zir (zcl l o) E++(zir (zcl l o) ee++(zru (zef l n) t++u)),he,dsl⟩
   (fun s'=>∃av he',s'=⟨stF o av (zir (zcl l o) E++(zir (zcl l o) ee++(zru (zef l n) t++u))),he',dsl⟩∧J (i::L) (stF o av ee) he'))∧
  (∀L ee he,J L ee he→(∀i,i∈eff→i < n→i∈L)→zfo P ro nt he l sd t late (E++ee) (fun F=>zc9 P ro nt l.toArray (l.drop n) Q ⟨F++t,he,dsl⟩)))):aw P ro nt (.region rid l.toArray true) Q ⟨t,h,dsl⟩:=by
 intro X a0 w0 hs;have hC:=zw5 hc;obtain ⟨E,⟨J,h0,hJC,hstep,hfin⟩,_,hE1,hE2,hfact⟩:=yde (os:=l.take n) (i:=0) (n:=n) (K:=fun E=>_) hC (fun i hi he=>hi (G5 _ he)) (by have:=hC.le;simp;omega) rfl (fun d a h=>by simp [lk] at h) (fun j hj=>by omega) hk;refine A0g hm.h ?_;have hsome_dst:∀j o,l[j]? =some o→zad l j=o.dst:=fun j o ho=>by simp [zad,ho]
 have hE1':∀d a,lk E d=some a→∃j,j < n∧j ∉ eff∧j ∉ late∧zad l j=some d:=fun d a h=>by
  obtain ⟨j,h1,h2,h3⟩:=hE1 d a h;exact ⟨j,h1,fun he=>h2 (G5 _ he),fun he=>h2 (E4 _ he),h3⟩
 have main:∀(fuel:Nat) (U L:List Nat) (ee:Fr) (he:List Res) (F:Fr) (listed:Array Bool) (a:Act) (w:World),InvJ P X nt h l n eff late t dsl E J w0 L ee he F listed a w→((∀i,i∈eff→i < n→i∈L)→GoodF P ro nt Q l n late sd t dsl E ee he F)→(∀i,i < l.length→listed.getD i false=false→i∈U)→U.length≤fuel→
  wpAnyIn (FW ro) 0 P .any l.toArray (zrn X nt ⟨t,h,dsl⟩ w0 Q) fuel listed a w:=by
  have done:∀(fuel:Nat) (U L:List Nat) (ee:Fr) (he:List Res) (F:Fr) (listed:Array Bool) (a:Act) (w:World),InvJ P X nt h l n eff late t dsl E J w0 L ee he F listed a w→((∀i,i∈eff→i < n→i∈L)→GoodF P ro nt Q l n late sd t dsl E ee he F)→(∀i,i < l.length→listed.getD i false=false→i∈U)→U.length≤fuel→
   (∀i,i < n→listed.getD i false=true)→wpAnyIn (FW ro) 0 P .any l.toArray (zrn X nt ⟨t,h,dsl⟩ w0 Q) fuel listed a w:=by
   intro fuel U L ee he F listed a w hi hG hU hf hall;have hg:=hG (fun i h1 h2=>(hi.lst i).2 ⟨h1,h2,hall i h2⟩);refine zpu hC.toSoupT fuel U n listed a w (C5 _) hC.le hi.size (fun j hj=>⟨fun hl=>?_,fun hl=>hall j hl⟩) (fun i h1 h2=>hU i h2 (hi.tail i h1)) hf ?_
   ·rcases M4 j n with h|h
    ·exact h
    rw [hi.tail j h] at hl;cases hl
   have hsim:Sim X nt ⟨F++t,he,dsl⟩ a w:=by
    refine ⟨hi.heap,hi.tsz,fun d av hl=>?_,hi.defs⟩;have hl':lk (F++t) d=some av:=hl;rw [u9] at hl';cases hF:lk F d with
    |some av'=>
     simp only [hF,D6] at hl';subst hl';rcases hg.dn d _ hF with hE|⟨j,g1,g2⟩
     ·rw [u9] at hE;cases hE2:lk E d with
      |some av2=>
       simp only [hE2,D6] at hE;subst hE;obtain ⟨j,g1,g2,g3⟩:=hE1 d _ hE2;exact hi.vals j d _ g1 g2 g3 hE2 (hall j g1)
      |none=>simp only [hE2] at hE;exact hi.evals d _ hE
     exact hi.lvals j d _ g1 g2 hF (hall j (hC.lat j g1).2.1)
    |none=>
     simp only [hF] at hl';have hEe:lk (E++ee) d=none:=by
      cases hx:lk (E++ee) d with
      |none=>rfl
      |some y=>rw [hg.up d y hx] at hF;cases hF
     rw [u9] at hEe;refine hi.base d av (fun j hj hd=>?_) hl';exfalso;by_cases hje:j∈eff
     ·have:=(hi.edom d).2 ⟨j,(hi.lst j).2 ⟨hje,hj,hall j hj⟩,hd⟩;cases hE:lk E d with
      |some y=>simp [hE] at hEe
      |none=>simp only [hE] at hEe;exact this hEe
     by_cases hjl:j∈late
     ·exact hg.nn j hjl d hd hF
     refine hE2 j hj (fun hm=>(D2.1 hm).elim hje hjl) d hd ?_;cases hE:lk E d with
     |some y=>simp [hE] at hEe
     |none=>rfl
   have:=hg.fin X a w hsim;exact zbb (s:=⟨t,h,dsl⟩) (s':=⟨F++t,he,dsl⟩) hi.keep this
  intro fuel;induction fuel with
  |zero=>
   intro U L ee he F listed a w hi hG hU hf;refine done 0 U L ee he F listed a w hi hG hU hf fun i hin=>?_;have hU0:U= []:=I2 (by omega);cases hl:listed.getD i false with
   |true=>rfl
   |false=>have:=hU i (by have:=hC.le;omega) hl;simp [hU0] at this
  |succ fuel ih=>
   intro U L ee he F listed a w hi hG hU hf;by_cases hall:∀i,i < n→listed.getD i false=true
   ·exact done _ U L ee he F listed a w hi hG hU hf hall
   have hready:∀i,i∈Region.ready .any l.toArray listed→i < n∧listed.getD i false=false∧i < l.length∧∀j∈u7 l i,listed.getD j false=true:=by
    intro i hir;obtain ⟨h1,h2,h3⟩:=zfj.1 hir;have hun:listed.getD i false=false:=by rw [zh4 (by rw [hi.size];exact h2) false true];exact h1
    refine ⟨?_,hun,h2,h3⟩;rcases M4 i n with h|h
    ·exact h
    exfalso;apply hall;intro j hj;exact zbq hi.closed i _ h3 j (hC.tail i h h2 j (by omega))
   have hsome:∀m,(∃i,i < n∧i < m∧listed.getD i false=false)→Region.ready .any l.toArray listed≠ []:=by
    intro m;induction m with
    |zero=>rintro ⟨i,_,h,_⟩;omega
    |succ m ihm=>
     rintro ⟨i,hin,him,hun⟩;by_cases hp:∀j∈u7 l i,listed.getD j false=true
     ·intro h0;have hin':i < l.length:=by have:=hC.le;omega
      have:i∈Region.ready .any l.toArray listed:=zfj.2 ⟨by rw [zh4 (by rw [hi.size];exact hin') true false];exact hun,hin',hp⟩;rw [h0] at this;exact absurd this (by simp)
     have:∃j,j∈u7 l i∧listed.getD j false=false:=by
      refine H5 fun hne=>hp fun j hj=>?_;cases hl:listed.getD j false with
      |true=>rfl
      |false=>exact absurd ⟨j,hj,hl⟩ hne
     obtain ⟨j,hj,hjun⟩:=this;have:=hC.back i (by have:=hC.le;omega) j hj;exact ihm ⟨j,by omega,by omega,hjun⟩
   refine ⟨fun h0=>?_,fun i hir=>?_⟩
   ·exfalso;have:∃i,i < n∧listed.getD i false=false:=by
     refine H5 fun hne=>hall fun i hin=>?_;cases hl:listed.getD i false with
     |true=>rfl
     |false=>exact absurd ⟨i,hin,hl⟩ hne
    obtain ⟨i,hin,hun⟩:=this;exact hsome (i+1) ⟨i,hin,by omega,hun⟩ h0
   obtain ⟨hin,hun,hil,hp⟩:=hready i hir;obtain ⟨o,ho,hq1,hq2,hq3⟩:=hC.dst i hin
   have hU':∀k,k < l.length→(listed.setIfInBounds i true).getD k false=false→k∈U.erase i:=fun k hkl hk=>by
    have hki:i≠k:=fun e=>by subst e;rw [zbh (by rw [hi.size];exact hil)] at hk;cases hk
    rw [H3 false hki] at hk;exact (R3 (fun h=>hki h.symm)).2 (hU k hkl hk)
   have hf':(U.erase i).length≤fuel:=by rw [P8 (hU i hil hun)];omega
   have hcl:∀k,(listed.setIfInBounds i true).getD k false=true→∀j∈u7 l k,(listed.setIfInBounds i true).getD j false=true:=fun k hk j hj=>by
    by_cases hik:i=k
    ·subst hik;exact Q2 (hp j hj)
    rw [H3 false hik] at hk;exact Q2 (hi.closed k hk j hj)
   have hdo:=hsome_dst i o ho;have hne:∀d j dj,o.dst=some d→j < n→j≠i→zad l j=some dj→d≠dj:=fun d j dj hd hj hji hdj=>hq3 d hd j hj hji dj hdj
   -- what is looked up
   have hsd:∀d,(zef l n).any (Nat.beq d)=false→∀j,j < n→zad l j≠some d:=fun d hf j hj hd=>by
    have:d∈zef l n:=by
     simp only [zef,O6];simp only [zad] at hd;cases hlj:l[j]? with
     |none=>simp [hlj] at hd
     |some oj=>
      simp only [hlj,J3] at hd;exact ⟨oj,C6 (i:=j) (by rw [G2 hj];exact hlj),hd⟩
    have:(zef l n).any (Nat.beq d)=true:=F9.2 ⟨d,this,by simp⟩;simp_all
   have hpd:∀d,(zcl l o).any (Nat.beq d)=true→∃j,j∈u7 l i∧zad l j=some d:=fun d hpd=>by
    obtain ⟨x,hx,e⟩:=F9.1 hpd;have:=C3 e;subst this;simp only [zcl,O6] at hx;obtain ⟨j',hj',hd'⟩:=hx;exact ⟨j',by simp only [u7,ho];exact hj',hd'⟩
   have hlookE:∀d av,(zcl l o).any (Nat.beq d)=true→lk E d=some av→∃v,a.tmps[d]? =some v∧Rel w (OO he X) av v:=fun d av hpd' hl=>by
    obtain ⟨j,hj,hjd⟩:=hpd d hpd';obtain ⟨j',g1,g2,g3⟩:=hE1 d av hl;have hji:=hC.back i hil j hj;have:j'=j:=by
     refine H5 fun hne'=>?_;obtain ⟨oj,k1,_,_,k4⟩:=hC.dst j (by omega);exact k4 d (by rw [←hsome_dst j oj k1];exact hjd) j' g1 hne' d g3 rfl
    subst this;exact hi.vals j' d av g1 g2 g3 hl (hp j' hj)
   have hbase:∀d av,(zef l n).any (Nat.beq d)=false→lk t d=some av→∃v,a.tmps[d]? =some v∧Rel w (OO he X) av v:=fun d av hf hl=>hi.base d av (fun j hj hd=>absurd hd (hsd d hf j hj)) hl;obtain ⟨lw,hlw⟩:∃lw:Nat→Bool,lw=fun d=>(List.range n).any fun j=>listed.getD j false && (match zad l j with|some d2=>Nat.beq d2 d|none=>false):=⟨_,rfl⟩
   have hlwt:∀d j,j < n→zad l j=some d→listed.getD j false=true→lw d=true:=fun d j hj hd hl=>by
    rw [hlw];exact F9.2 ⟨j,H4.2 hj,by simp [hd,hl]⟩
   have hlwf:∀d,lw d=false→∀j,j < n→zad l j=some d→listed.getD j false=false:=fun d hf j hj hd=>by
    cases hl:listed.getD j false with
    |false=>rfl
    |true=>rw [hlwt d j hj hd hl] at hf;cases hf
   have hbase2:∀d av,lw d=false→lk t d=some av→∃v,a.tmps[d]? =some v∧Rel w (OO he X) av v:=fun d av hf hl=>hi.base d av (hlwf d hf) hl;unfold wpOpIn;simp only [J8,ho];by_cases hie:i∈eff
   ·have hg:=hq2 hie;have hiL:i ∉ L:=fun h=>by have:=((hi.lst i).1 h).2.2;rw [hun] at this;cases this
    rw [A6 (by simp [Region.wanted,hg])]
    -- all that is known,once more
    obtain ⟨T,hT⟩:∃T:Fr,T=(E.filter fun p=>(List.range n).any fun j=> !mem? j (eff++late) && listed.getD j false && (match zad l j with|some d=>Nat.beq d p.1|none=>false))++(ee++t.filter fun p=> !lw p.1):=⟨_,rfl⟩
    have hO2:=hstep L ee he hi.J i o hie hiL ho (fun j hj hje=>(hi.lst j).2 ⟨hje,(by
     have:=zbq hi.closed i _ hp j hj;rcases M4 j n with h|h
     ·exact h
     rw [hi.tail j h] at this;cases this),zbq hi.closed i _ hp j hj⟩) T
    obtain ⟨G,hG⟩:∃G,G=zir (zcl l o) E++(zir (zcl l o) ee++(zru (zef l n) t++T)):=⟨_,rfl⟩;rw [←hG] at hO2
    have hGr:zgf w (OO he X) G a.tmps:=fun d av hl=>by
     rw [hG,u9] at hl;by_cases hpd':(zcl l o).any (Nat.beq d)=true
     ·rw [zir,zeh (q:=fun d=>(zcl l o).any (Nat.beq d)) hpd'] at hl;cases hE:lk E d with
      |some av'=>simp only [hE,D6] at hl;subst hl;exact hlookE d _ hpd' hE
      |none=>
       simp only [hE] at hl;rw [u9,zir,zeh (q:=fun d=>(zcl l o).any (Nat.beq d)) hpd'] at hl;cases he':lk ee d with
       |some av'=>simp only [he',D6] at hl;subst hl;exact hi.evals d _ he'
       |none=>
        simp only [he'] at hl;rw [u9] at hl;by_cases hsd':(zef l n).any (Nat.beq d)=false
        ·rw [zru,zeh (q:=fun d=> !(zef l n).any (Nat.beq d)) (by simp [hsd'])] at hl;cases ht:lk t d with
         |some av'=>simp only [ht,D6] at hl;subst hl;exact hbase d _ hsd' ht
         |none=>
          simp only [ht] at hl;rw [hT,u9,u9] at hl;have h3:lk (t.filter fun p=> !lw p.1) d=none:=by
           by_cases hlq:lw d=true
           ·rw [zbx (q:=fun d=> !lw d) (by simp [hlq])]
           rw [zeh (q:=fun d=> !lw d) (by simp [hlq]),ht]
          rw [he',h3] at hl;split at hl
          ·rename_i q;by_cases hq:((List.range n).any fun j=> !mem? j (eff++late) && listed.getD j false && (match zad l j with|some d2=>Nat.beq d2 d|none=>false))=true
           ·rw [zeh (q:=fun d=>(List.range n).any fun j=> !mem? j (eff++late) && listed.getD j false && (match zad l j with|some d2=>Nat.beq d2 d|none=>false)) hq,hE] at q;cases q
           rw [zbx (q:=fun d=>(List.range n).any fun j=> !mem? j (eff++late) && listed.getD j false && (match zad l j with|some d2=>Nat.beq d2 d|none=>false)) (by simpa using hq)] at q;cases q
          cases hl
        -- waited for,and not known
        rw [zru,zbx (q:=fun d=> !(zef l n).any (Nat.beq d)) (by simpa using hsd')] at hl;simp only at hl;have h3:lk (t.filter fun p=> !lw p.1) d=none:=by
         obtain ⟨j,hj,hjd⟩:=hpd d hpd';have hji:=hC.back i hil j hj;rw [zbx (q:=fun d=> !lw d) (by simp [hlwt d j (by omega) hjd (hp j hj)])]
        rw [hT,u9,u9,he',h3] at hl;split at hl
        ·rename_i q;by_cases hq:((List.range n).any fun j=> !mem? j (eff++late) && listed.getD j false && (match zad l j with|some d2=>Nat.beq d2 d|none=>false))=true
         ·rw [zeh (q:=fun d=>(List.range n).any fun j=> !mem? j (eff++late) && listed.getD j false && (match zad l j with|some d2=>Nat.beq d2 d|none=>false)) hq,hE] at q;cases q
         rw [zbx (q:=fun d=>(List.range n).any fun j=> !mem? j (eff++late) && listed.getD j false && (match zad l j with|some d2=>Nat.beq d2 d|none=>false)) (by simpa using hq)] at q;cases q
        cases hl
     rw [zir,zbx (q:=fun d=>(zcl l o).any (Nat.beq d)) (M2.2 hpd')] at hl;simp only at hl;rw [u9,zir,zbx (q:=fun d=>(zcl l o).any (Nat.beq d)) (M2.2 hpd')] at hl;simp only at hl
     have hrest:∀av,lk T d=some av→∃v,a.tmps[d]? =some v∧Rel w (OO he X) av v:=fun av hl=>by
      rw [hT,u9] at hl;by_cases hq:((List.range n).any fun j=> !mem? j (eff++late) && listed.getD j false && (match zad l j with|some d2=>Nat.beq d2 d|none=>false))=true
      ·rw [zeh (q:=fun d=>(List.range n).any fun j=> !mem? j (eff++late) && listed.getD j false && (match zad l j with|some d2=>Nat.beq d2 d|none=>false)) hq] at hl;obtain ⟨j,hj,hq'⟩:=F9.1 hq;simp only [B5,N0] at hq';obtain ⟨⟨k1,k2⟩,k3⟩:=hq';have hje:j ∉ eff++late:=fun h=>by rw [mem?_iff.2 h] at k1;cases k1
       have hjd:zad l j=some d:=by
        split at k3
        ·rename_i d2 hd2;rw [hd2,C3 k3]
        cases k3
       cases hE:lk E d with
       |some av'=>simp only [hE,D6] at hl;subst hl;exact hi.vals j d _ (H4.1 hj) hje hjd hE k2
       |none=>exact absurd hE (hE2 j (H4.1 hj) hje d hjd)
      rw [zbx (q:=fun d=>(List.range n).any fun j=> !mem? j (eff++late) && listed.getD j false && (match zad l j with|some d2=>Nat.beq d2 d|none=>false)) (by simpa using hq)] at hl;simp only at hl;rw [u9] at hl;cases he':lk ee d with
      |some av'=>simp only [he',D6] at hl;subst hl;exact hi.evals d _ he'
      |none=>
       simp only [he'] at hl;cases hlq:lw d with
       |false=>
        rw [zeh (q:=fun d=> !lw d) (by simp [hlq])] at hl;exact hbase2 d _ hlq hl
       |true=>rw [zbx (q:=fun d=> !lw d) (by simp [hlq])] at hl;cases hl
     rw [u9] at hl;split at hl
     ·rename_i q;cases hl;by_cases hsd':(zef l n).any (Nat.beq d)=false
      ·rw [zru,zeh (q:=fun d=> !(zef l n).any (Nat.beq d)) (by simp [hsd'])] at q;exact hbase d _ hsd' q
      rw [zru,zbx (q:=fun d=> !(zef l n).any (Nat.beq d)) (by simpa using hsd')] at q;cases q
     exact hrest _ hl
    refine hO2 X a w _ _ ⟨hi.heap,hi.tsz,hGr,hi.defs⟩ fun s' a' w' hs' hsim' hkp=>?_;obtain ⟨av,he',rfl,hJ'⟩:=hs'
    have hT':∀d av,(∀d',o.dst=some d'→d'≠d)→lk G d=some av→∃v,a'.tmps[d]? =some v∧Rel w' (OO he' X) av v:=fun d av' hnd hl=>by
     refine hsim'.fr d av' ?_;show lk (stF o av G) d=_;unfold stF;split
     ·rename_i d' hd';simp only [lk];have:Nat.beq d' d=false:=by
       cases hb:Nat.beq d' d with
       |false=>rfl
       |true=>exact absurd (C3 hb) (hnd d' hd')
      rw [this];exact hl
     exact hl
    have hGT:∀d av,lk T d=some av→(lk G d=some av)∨∃av',lk G d=some av':=fun d av hl=>by
     cases hg:lk G d with
     |some av'=>exact .inr ⟨av',rfl⟩
     |none=>
      exfalso;rw [hG] at hg;simp only [u9] at hg;repeat' split at hg
      all_goals first|(rw [hl] at hg;cases hg)|cases hg
    have hedom':∀d,lk (stF o av ee) d≠none ↔ ∃k,k∈i::L∧zad l k=some d:=fun d=>by
     unfold stF;constructor
     ·intro hx;split at hx
      ·rename_i d' hd';simp only [lk] at hx;split at hx
       ·rename_i hb;have:=C3 hb;subst this;exact ⟨i,by simp,by rw [hdo];exact hd'⟩
       obtain ⟨k,k1,k2⟩:=(hi.edom d).1 hx;exact ⟨k,by simp [k1],k2⟩
      obtain ⟨k,k1,k2⟩:=(hi.edom d).1 hx;exact ⟨k,by simp [k1],k2⟩
     rintro ⟨k,k1,k2⟩;rcases C9.1 k1 with rfl|k1
     ·rw [hdo] at k2;rw [k2];simp [lk]
     have:=(hi.edom d).2 ⟨k,k1,k2⟩;split
     ·simp only [lk];split
      ·simp
      exact this
     exact this
    obtain ⟨F',hF'⟩:∃F',(∀k,k∈eff→k < n→k∈i::L)→GoodF P ro nt Q l n late sd t dsl E (stF o av ee) he' F':=by
     by_cases hA:∀k,k∈eff→k < n→k∈i::L
     ·obtain ⟨F',k1,k2,k3,k4,k5⟩:=yc5 hC (r:=late) (fun _ h=>h) hC.lnd (fun j hj d hd=>by
       rw [u9];obtain ⟨oj,g1,_,_,g4⟩:=hC.dst j (hC.lat j hj).2.1;have hoj:oj.dst=some d:=by rw [←hsome_dst j oj g1];exact hd
       cases hx:lk E d with
       |some y=>
        obtain ⟨q,q1,q2,q3,q4⟩:=hE1' d y hx;exact absurd rfl (g4 d hoj q q1 (fun e=>q3 (e ▸ hj)) d q4)
       |none=>
        simp only;cases hy:lk (stF o av ee) d with
        |none=>rfl
        |some y=>
         obtain ⟨q,q1,q2⟩:=(hedom' d).1 (by rw [hy];simp);have hqe:q∈eff∧q < n:=(C9.1 q1).elim (fun e=>e ▸ ⟨hie,hin⟩) (fun h=>let h:=(hi.lst q).1 h;⟨h.1,h.2.1⟩);exact absurd rfl (g4 d hoj q hqe.2 (fun e=>(hC.lat j hj).1 (e ▸ hqe.1)) d q2)) (hfin _ _ _ hJ' hA)
      exact ⟨F',fun _=>⟨k1,k2,k3,k4,k5⟩⟩
     exact ⟨[],fun h=>absurd h hA⟩
    refine ih (U.erase i) (i::L) (stF o av ee) he' F' _ _ _ ?_ hF' hU' hf'
    have hGE:∀j d,j < n→j ∉ eff++late→zad l j=some d→listed.getD j false=true→∀av,lk E d=some av→lk G d=some av:=fun j d hj hje hjd hlj av hl=>by
     have hed:lk ee d=none:=by
      cases hx:lk ee d with
      |none=>rfl
      |some y=>
       obtain ⟨k,hk1,hk2⟩:=(hi.edom d).1 (by rw [hx];simp);obtain ⟨hk3,hk4,_⟩:=(hi.lst k).1 hk1;obtain ⟨oj,g1,_,_,g4⟩:=hC.dst j hj;have hkj:k≠j:=fun e=>hje (G5 _ (e ▸ hk3));exact absurd rfl (g4 d (by rw [←hsome_dst j oj g1];exact hjd) k hk4 hkj d hk2)
     have hsd':¬(zef l n).any (Nat.beq d)=false:=fun hf=>hsd d hf j hj hjd;rw [hG,u9];by_cases hpd':(zcl l o).any (Nat.beq d)=true
     ·rw [zir,zeh (q:=fun d=>(zcl l o).any (Nat.beq d)) hpd',hl]
     rw [zir,zbx (q:=fun d=>(zcl l o).any (Nat.beq d)) (M2.2 hpd')];simp only;rw [u9,zir,zbx (q:=fun d=>(zcl l o).any (Nat.beq d)) (M2.2 hpd')];simp only;rw [u9,zru,zbx (q:=fun d=> !(zef l n).any (Nat.beq d)) (by simpa using hsd')];simp only
     rw [hT,u9,zeh (q:=fun d=>(List.range n).any fun j=> !mem? j (eff++late) && listed.getD j false && (match zad l j with|some d2=>Nat.beq d2 d|none=>false)) (by
      refine F9.2 ⟨j,H4.2 hj,?_⟩;have:mem? j (eff++late)=false:=by
       cases hb:mem? j (eff++late) with
       |false=>rfl
       |true=>exact absurd (mem?_iff.1 hb) hje
      simp [this,hlj,hjd]),hl]
    have hGe:∀d av,lk ee d=some av→lk G d=some av:=fun d av hl=>by
     obtain ⟨k,hk1,hk2⟩:=(hi.edom d).1 (by rw [hl];simp);obtain ⟨hk3,hk4,_⟩:=(hi.lst k).1 hk1;have hEd:lk E d=none:=by
      cases hx:lk E d with
      |none=>rfl
      |some y=>
       obtain ⟨j,g1,g2,g3⟩:=hE1 d y hx;obtain ⟨ok,k1,_,_,k4⟩:=hC.dst k hk4;have hkj:j≠k:=fun e=>g2 (G5 _ (e ▸ hk3));exact absurd rfl (k4 d (by rw [←hsome_dst k ok k1];exact hk2) j g1 hkj d g3)
     have hsd':¬(zef l n).any (Nat.beq d)=false:=fun hf=>hsd d hf k hk4 hk2;have hflt:lk (E.filter fun p=>(List.range n).any fun j=> !mem? j (eff++late) && listed.getD j false && (match zad l j with|some d=>Nat.beq d p.1|none=>false)) d=none:=by
      by_cases hq:((List.range n).any fun j=> !mem? j (eff++late) && listed.getD j false && (match zad l j with|some d2=>Nat.beq d2 d|none=>false))=true
      ·rw [zeh (q:=fun d=>(List.range n).any fun j=> !mem? j (eff++late) && listed.getD j false && (match zad l j with|some d2=>Nat.beq d2 d|none=>false)) hq,hEd]
      rw [zbx (q:=fun d=>(List.range n).any fun j=> !mem? j (eff++late) && listed.getD j false && (match zad l j with|some d2=>Nat.beq d2 d|none=>false)) (by simpa using hq)]
     rw [hG,u9];by_cases hpd':(zcl l o).any (Nat.beq d)=true
     ·rw [zir,zeh (q:=fun d=>(zcl l o).any (Nat.beq d)) hpd',hEd];simp only;rw [u9,zir,zeh (q:=fun d=>(zcl l o).any (Nat.beq d)) hpd',hl]
     rw [zir,zbx (q:=fun d=>(zcl l o).any (Nat.beq d)) (M2.2 hpd')];simp only;rw [u9,zir,zbx (q:=fun d=>(zcl l o).any (Nat.beq d)) (M2.2 hpd')];simp only;rw [u9,zru,zbx (q:=fun d=> !(zef l n).any (Nat.beq d)) (by simpa using hsd')];simp only;rw [hT,u9,hflt];simp only;rw [u9,hl]
    have hGt:∀d av,(∀j,j < n→zad l j=some d→listed.getD j false=false)→lk t d=some av→lk G d=some av:=fun d av hj hl=>by
     have hlq:lw d=false:=by
      cases hb:lw d with
      |false=>rfl
      |true=>
       rw [hlw] at hb;obtain ⟨j,hj1,hq⟩:=F9.1 hb;simp only [B5] at hq;obtain ⟨k2,k3⟩:=hq;have hjd:zad l j=some d:=by
        split at k3
        ·rename_i d2 hd2;rw [hd2,C3 k3]
        cases k3
       rw [hj j (H4.1 hj1) hjd] at k2;cases k2
     have hpd0:(zcl l o).any (Nat.beq d)=false:=by
      cases hb:(zcl l o).any (Nat.beq d) with
      |false=>rfl
      |true=>
       obtain ⟨j,hj1,hjd⟩:=hpd d hb;have hji:=hC.back i hil j hj1;have:=hj j (by omega) hjd;rw [hp j hj1] at this;cases this
     have hed:lk ee d=none:=by
      cases hx:lk ee d with
      |none=>rfl
      |some y=>
       obtain ⟨k,hk1,hk2⟩:=(hi.edom d).1 (by rw [hx];simp);obtain ⟨_,hk4,hk5⟩:=(hi.lst k).1 hk1;have:=hj k hk4 hk2;rw [hk5] at this;cases this
     have hflt:lk (E.filter fun p=>(List.range n).any fun j=> !mem? j (eff++late) && listed.getD j false && (match zad l j with|some d=>Nat.beq d p.1|none=>false)) d=none:=by
      refine zbx (q:=fun d=>(List.range n).any fun j=> !mem? j (eff++late) && listed.getD j false && (match zad l j with|some d2=>Nat.beq d2 d|none=>false)) ?_;cases hb:((List.range n).any fun j=> !mem? j (eff++late) && listed.getD j false && (match zad l j with|some d2=>Nat.beq d2 d|none=>false)) with
      |false=>rfl
      |true=>
       obtain ⟨j,hj1,hq⟩:=F9.1 hb;simp only [B5] at hq;obtain ⟨⟨_,k2⟩,k3⟩:=hq;have hjd:zad l j=some d:=by
        split at k3
        ·rename_i d2 hd2;rw [hd2,C3 k3]
        cases k3
       rw [hj j (H4.1 hj1) hjd] at k2;cases k2
     rw [hG,u9,zir,zbx (q:=fun d=>(zcl l o).any (Nat.beq d)) hpd0];simp only;rw [u9,zir,zbx (q:=fun d=>(zcl l o).any (Nat.beq d)) hpd0];simp only;rw [u9];have hlast:lk T d=some av:=by
      rw [hT,u9,hflt];simp only;rw [u9,hed];simp only;rw [zeh (q:=fun d=> !lw d) (by simp [hlq]),hl]
     by_cases hsd':(zef l n).any (Nat.beq d)=false
     ·rw [zru,zeh (q:=fun d=> !(zef l n).any (Nat.beq d)) (by simp [hsd']),hl]
     rw [zru,zbx (q:=fun d=> !(zef l n).any (Nat.beq d)) (by simpa using hsd')];simp only;exact hlast
    refine ⟨by simp [hi.size],hcl,fun k hk=>by rw [H3 false (by omega)];exact hi.tail k hk,hsim'.size,hsim'.defs,hJ',hsim'.heap,fun k=>?_,fun k d av' hk hkd hFd hlk=>?_,fun k d av' hk hke hkd hEd hlk=>?_,fun d av' hl=>?_,fun d=>?_,fun d av' hj hl=>?_,hi.keep.trans hkp⟩
    ·rw [C9,hi.lst k];by_cases hki:k=i
     ·subst hki;simp only [true_or,true_iff];exact ⟨hie,hin,zbh (by rw [hi.size];exact hil)⟩
     rw [H3 false (M8 hki)];simp [hki]
    ·exfalso;have hki:i≠k:=fun e=>(hC.lat k hk).1 (e ▸ hie);rw [H3 false hki] at hlk;have:=zbq hi.closed k _ (fun j hj=>hi.closed k hlk j hj) i ((hC.lat k hk).2.2 i hie);rw [hun] at this;cases this
    ·have hki:i≠k:=fun e=>hke (G5 _ (e ▸ hie));rw [H3 false hki] at hlk;exact hT' d av' (fun d' hd' e=>by subst e;exact hne d' k d' hd' hk (M8 hki) hkd rfl) (hGE k d hk hke hkd hlk av' hEd)
    ·unfold stF at hl;split at hl
     ·rename_i d' hd';simp only [lk] at hl;split at hl
      ·rename_i hb;have:=C3 hb;subst this;cases hl;refine hsim'.fr d' av ?_;show lk (stF o av G) d'=_;unfold stF;rw [hd'];simp [lk]
      rename_i hb;exact hT' d av' (fun d2 hd2 e=>by rw [hd'] at hd2;cases hd2;subst e;simp at hb) (hGe d av' hl)
     rename_i hd';exact hT' d av' (fun d2 hd2=>by rw [hd'] at hd2;cases hd2) (hGe d av' hl)
    ·exact hedom' d
    have hj':∀j,j < n→zad l j=some d→listed.getD j false=false:=fun j hjn hjd=>by
     by_cases hij:i=j
     ·subst hij;exact hun
     have:=hj j hjn hjd;rwa [H3 false hij] at this
    exact hT' d av' (fun d' hd' e=>by
     subst e;have:=hj i hin (by rw [hdo];exact hd');rw [zbh (by rw [hi.size];exact hil)] at this;cases this) (hGt d av' hj' hl)
   -- memory stays
   have hgood:i∈late→GoodF P ro nt Q l n late sd t dsl E ee he F:=fun hil'=>hG fun k h1 h2=>(hi.lst k).2 ⟨h1,h2,zbq hi.closed i _ hp k ((hC.lat i hil').2.2 k h1)⟩;obtain ⟨d,av,e',hown,hlookP,hqd,hdn,hq⟩:∃d av e',((i∈late∧lk F d=some av)∨(i ∉ late∧lk E d=some av))∧(∀d' a',(zcl l o).any (Nat.beq d')=true→lk e' d'=some a'→∃v,a.tmps[d']? =some v∧Rel w (OO he X) a' v)∧QJ P ro nt (fun h=>h=he) l (sd i) t o d av e':=by
    by_cases hil':i∈late
    ·obtain ⟨d,av,e',k1,k2,k3⟩:=(hgood hil').facts i hil' o ho;refine ⟨d,av,e',.inl ⟨hil',k1⟩,fun d' a' hpd' hl=>?_,k3⟩;have hF:=k2 d' a' hl;rcases (hgood hil').dn d' a' hF with hE|⟨j,g1,g2⟩
     ·rw [u9] at hE;cases hE2':lk E d' with
      |some av2=>simp only [hE2',D6] at hE;subst hE;exact hlookE d' _ hpd' hE2'
      |none=>simp only [hE2'] at hE;exact hi.evals d' _ hE
     obtain ⟨j',hj',hjd'⟩:=hpd d' hpd';have hji:=hC.back i hil j' hj';have:j=j':=by
      refine H5 fun hne'=>?_;obtain ⟨oj,q1,_,_,q4⟩:=hC.dst j' (by omega);exact q4 d' (by rw [←hsome_dst j' oj q1];exact hjd') j (hC.lat j g1).2.1 hne' d' g2 rfl
     subst this;exact hi.lvals j d' _ g1 g2 hF (hp j hj')
    obtain ⟨d,av,e',hEd,hmono,hqd,hdn,hq⟩:=hfact i o (G1 _) hin (fun hm=>(D2.1 hm).elim hie hil') ho
    exact ⟨d,av,e',.inr ⟨hil',hEd⟩,fun d' a' hpd' hl=>hlookE d' a' hpd' (hmono d' a' hl),hqd,hdn,hq.imp (fun h=>⟨h.1,fun h' e=>by subst e;exact h.2 _ (hJC L ee _ hi.J i hin hie fun j hj hcl=>by
     have hl:=zbq hi.closed j _ (hi.closed j ((hi.lst j).1 hj).2.2) i hcl;rw [hun] at hl;cases hl)⟩) id⟩
   have hlook:∀d' av',lkS (sd i) (zcl l o) e' t d'=some av'→∃v,a.tmps[d']? =some v∧Rel w (OO he X) av' v:=fun d' av' hl=>by
    unfold lkS at hl;split at hl
    ·rename_i hpd';exact hlookP d' av' hpd' hl
    split at hl
    ·cases hl
    rename_i hsd';refine hi.base d' av' (fun j hj hd=>?_) hl;have hcj:=hS i hin d' hsd' j hj hd;cases hlj:listed.getD j false with
    |false=>rfl
    |true=>
     have:=zbq hi.closed j _ (fun k hk=>hi.closed j hlj k hk) i hcj;rw [hun] at this;cases this
   have henv:Env X he (evS (sd i) (zcl l o) e' t) a.eval w:=by
    refine ⟨hi.heap,fun x av' hx=>?_⟩;cases x with
    |tmp d'=>
     obtain ⟨v,e,r⟩:=hlook d' av' hx;have:a.eval (.tmp d')=v:=by simp [Act.eval,L4,e]
     rw [this];exact r
    |const x=>cases hx;exact .v x
    |global g=>cases hx;exact .v _
    |func f=>cases hx;exact .fn _ _ _ _ _ rfl rfl (fun j h=>absurd h (H6 j)) (fun j h=>absurd h (H6 j))
   have hguard:∀b,gdS l (lkS (sd i) (zcl l o) e' t) o=some b→Region.wanted o (yielded l.toArray a.tmps)=b:=fun b hg=>by
    unfold gdS at hg;unfold Region.wanted;split at hg
    ·rename_i h0;rw [h0];simpa using hg
    rename_i j want h0;rw [h0];simp only;split at hg
    ·rename_i d2 hd2;have hd':((l.toArray)[j]?).bind (·.dst)=some d2:=by simpa [zad] using hd2
     split at hg
     ·rename_i c hcc;obtain ⟨v,e,r⟩:=hlook _ _ hcc;rw [r.v_eq] at e;simp only [D6] at hg;subst hg;simp only [yielded,hd',J3,e];cases c <;> cases want <;> rfl
     ·rename_i c hcc;obtain ⟨v,e,r⟩:=hlook _ _ hcc;rw [r.v_eq] at e;simp only [D6] at hg;subst hg;simp only [yielded,hd',J3,e];cases want <;> rfl
     cases hg
    cases hg
   have hdni:d < nt:=A7 hdn;have hdi:zad l i=some d:=by rw [hdo];exact hqd
   have hput:∀v d',d≠d'→(a.put (some d) v).tmps[d']? =a.tmps[d']? :=fun v d' hdd=>by simp [Act.put,hdd]
   have hgo:∀v w',Rel w' (OO he X) av v→HRel X w' he→Keep (j6 he) w (j6 he) w'→wpAnyIn (FW ro) 0 P .any l.toArray (zrn X nt ⟨t,h,dsl⟩ w0 Q) fuel (listed.setIfInBounds i true) (a.put o.dst v) w':=fun v w' hr hh hkp=>by
    rw [hqd];refine ih (U.erase i) L ee he F _ _ _ ?_ hG hU' hf';have hkk:=fun b (hb:¬OO he X b) hl=>hkp.oo (X:=X) b hb hl;refine ⟨by simp [hi.size],hcl,fun k hk=>by rw [H3 false (by omega)];exact hi.tail k hk,by simp [Act.put,hi.tsz],hi.defs,hi.J,hh,fun k=>?_,fun k dk avk hk hkd hFk hlk=>?_,fun k dk avk hk hke hkd hEk hlk=>?_,fun dk avk hl=>?_,hi.edom,fun dk avk hj hl=>?_,hi.keep.trans hkp⟩
    ·rw [hi.lst k];by_cases hki:k=i
     ·subst hki;simp [hie]
     rw [H3 false (M8 hki)]
    ·by_cases hki:i=k
     ·subst hki;have:dk=d:=by rw [hdi] at hkd;exact (B6 hkd).symm
      subst this;have:avk=av:=hown.elim (fun h=>B6 (hFk.symm.trans h.2)) (fun h=>absurd hk h.1);subst this;exact ⟨v,by simp [Act.put,hi.tsz,hdni],hr⟩
     rw [H3 false hki] at hlk;obtain ⟨u,e,r⟩:=hi.lvals k dk avk hk hkd hFk hlk;exact ⟨u,by rw [hput v dk (hne d k dk hqd (hC.lat k hk).2.1 (M8 hki) hkd)];exact e,r.keep hkp.size hkk⟩
    ·by_cases hki:i=k
     ·subst hki;have:dk=d:=by rw [hdi] at hkd;exact (B6 hkd).symm
      subst this;have:avk=av:=hown.elim (fun h=>absurd (E4 _ h.1) hke) (fun h=>B6 (hEk.symm.trans h.2));subst this;exact ⟨v,by simp [Act.put,hi.tsz,hdni],hr⟩
     rw [H3 false hki] at hlk;obtain ⟨u,e,r⟩:=hi.vals k dk avk hk hke hkd hEk hlk;exact ⟨u,by rw [hput v dk (hne d k dk hqd hk (M8 hki) hkd)];exact e,r.keep hkp.size hkk⟩
    ·obtain ⟨u,e,r⟩:=hi.evals dk avk hl;obtain ⟨k,k1,k2⟩:=(hi.edom dk).1 (by rw [hl];simp);obtain ⟨k3,k4,_⟩:=(hi.lst k).1 k1;exact ⟨u,by rw [hput v dk (hne d k dk hqd k4 (fun e=>hie (e ▸ k3)) k2)];exact e,r.keep hkp.size hkk⟩
    have hj':∀j,j < n→zad l j=some dk→listed.getD j false=false:=fun j hjn hjd=>by
     by_cases hij:i=j
     ·subst hij;exact hun
     have:=hj j hjn hjd;rwa [H3 false hij] at this
    obtain ⟨u,e,r⟩:=hi.base dk avk hj' hl
    exact ⟨u,by rw [hput v dk (fun e=>by
     have:=hj i hin (by rw [←e];exact hdi);rw [zbh (by rw [hi.size];exact hil)] at this;cases this)];exact e,r.keep hkp.size hkk⟩
   rcases hq with ⟨hg,hq⟩|⟨hg,rfl⟩
   ·rw [A6 (hguard _ hg)];exact hq he rfl X a w _ _ henv fun v w' hr hh hkp=>hgo v w' hr hh hkp
   rw [A0 (by rw [hguard _ hg];simp)];exact ⟨zaj,hgo _ _ (.v _) hi.heap (.refl _ _)⟩
 have hrep:∀i,(Array.replicate l.length false).getD i false=false:=zqv l.length;have hsz:l.toArray.size=l.length:=by simp
 obtain ⟨F0,hF0⟩:∃F0,(∀k,k∈eff→k < n→k∈([]:List Nat))→GoodF P ro nt Q l n late sd t dsl E [] h F0:=by
  by_cases hA:∀k,k∈eff→k < n→k∈([]:List Nat)
  ·obtain ⟨F',k1,k2,k3,k4,k5⟩:=yc5 hC (r:=late) (fun _ h=>h) hC.lnd (fun j hj d hd=>by
    rw [u9];obtain ⟨oj,g1,_,_,g4⟩:=hC.dst j (hC.lat j hj).2.1;have hoj:oj.dst=some d:=by rw [←hsome_dst j oj g1];exact hd
    cases hx:lk E d with
    |some y=>
     obtain ⟨q,q1,q2,q3,q4⟩:=hE1' d y hx;exact absurd rfl (g4 d hoj q q1 (fun e=>q3 (e ▸ hj)) d q4)
    |none=>rfl) (hfin _ _ _ h0 hA)
   exact ⟨F',fun _=>⟨k1,k2,k3,k4,k5⟩⟩
  exact ⟨[],fun h=>absurd h hA⟩
 refine main l.toArray.size (List.range l.length) [] [] h F0 _ a0 {w0 with drawn:=w0.drawn+1} ⟨by simp,fun i hi=>?_,fun i _=>?_,hs.size,hs.defs,h0,?_,fun i=>?_,fun i d av _ _ _ hl=>?_,fun i d av _ _ _ _ hl=>?_,fun d av hl=>by simp [lk] at hl,fun d=>by simp [lk],fun d av _ hl=>?_,⟨C5 _,fun b _ h=>⟨rfl,h⟩,zjl.eq rfl rfl rfl (by first|exact C5 _|exact P5 _)⟩⟩
  hF0 (fun i hi _=>H4.2 hi) (by simp)
 ·rw [hsz,hrep i] at hi;cases hi
 ·rw [hsz];exact hrep i
 ·exact hs.heap.grow (C5 _) fun _ _=>rfl
 ·rw [hsz,hrep i];simp
 ·rw [hsz,hrep i] at hl;cases hl
 ·rw [hsz,hrep i] at hl;cases hl
 obtain ⟨v,e,r⟩:=hs.fr d av hl;exact ⟨v,e,Rel.keep (w:=w0) (O:=OO h X) (C5 _) (fun b hb _=>⟨rfl,hb⟩) r⟩
theorem zo8 {P:Program} {ro:Option Nat} {nt:Nat} {C:Nat→List Res→Prop} {l:List Oper} {eff:List Nat} {sd:Nat→List Tmp} {t:Fr}:∀(os:List Oper) (i:Nat) (e:Fr) (K K':Fr→Prop),(∀e,K e→K' e)→zem P ro nt C l eff sd t os i e K→zem P ro nt C l eff sd t os i e K':=by
 intro os;induction os with
 |nil=>intro i e K K' h hk;exact h _ hk
 |cons o os ih=>
  intro i e K K' h hk;rcases hk with ⟨h1,h2⟩|⟨h1,d,av,h2,h3⟩
  ·exact .inl ⟨h1,ih _ _ _ _ h h2⟩
  exact .inr ⟨h1,d,av,h2,ih _ _ _ _ h h3⟩
theorem yjh {P:Program} {ro:Option Nat} {nt rid:Nat} {Q:Exit→St→Prop} {l:List Oper} {t:Fr} {h:List Res} {dsl:List Nat} (n:Nat) (eff late:List Nat) (C:List Res→Prop) [hm:Mixed P] (hc:zr5 l n eff late=true)
 (hk:zem P ro nt (fun _=>C) l (eff++late) (fun _=>zef l n) t (l.take n) 0 [] (fun E=>∃J:List Nat→Fr→List Res→Prop,J [] [] h∧(∀L ee he,J L ee he→C he)∧
  (∀L ee he,J L ee he→∀i o,i∈eff→i ∉ L→l[i]? =some o→(∀j,j∈zph l i (u7 l i)→j∈eff→j∈L)→∀u,OE P ro nt o ⟨zir (zcl l o) E++(zir (zcl l o) ee++(zru (zef l n) t++u)),he,dsl⟩
   (fun s'=>∃av he',s'=⟨stF o av (zir (zcl l o) E++(zir (zcl l o) ee++(zru (zef l n) t++u))),he',dsl⟩∧J (i::L) (stF o av ee) he'))∧
  (∀L ee he,J L ee he→(∀i,i∈eff→i < n→i∈L)→zfo P ro nt he l (fun _=>zef l n) t late (E++ee) (fun F=>zc9 P ro nt l.toArray (l.drop n) Q ⟨F++t,he,dsl⟩)))):aw P ro nt (.region rid l.toArray true) Q ⟨t,h,dsl⟩:=
 zyo n eff late (fun _=>zef l n) (fun i hi d hf j hj hd=>(zu0 hf hj hd).elim) (fun _=>C) hc (zo8 _ _ _ _ _ (fun E ⟨J,h0,h1,h2,h3⟩=>⟨J,h0,fun L ee he hJ i _ _ _=>h1 L ee he hJ,h2,h3⟩) hk)
def zkc (l:List Oper) (n:Nat):List Nat→Bool
 | []=>true
 | [i]=>Nat.blt i n
 |i::j::r=>Nat.blt i n && ((zph l j (u7 l j)).any (Nat.beq i) && zkc l n (j::r))
section
variable {P:Program} {ro:Option Nat} {nt:Nat} {l:List Oper} {dsl:List Nat}
def jch (P:Program) (ro:Option Nat) (nt:Nat) (C:List Res→Prop) (l:List Oper) (dsl:List Nat) (E tt:Fr):List Nat→Fr→List Res→(Fr→List Res→Prop)→Prop
 | [],ee,he,K=>K ee he
 |i::r,ee,he,K=>∃o,l[i]? =some o∧∀u,OE P ro nt o ⟨zir (zcl l o) E++(zir (zcl l o) ee++(tt++u)),he,dsl⟩
   (fun s'=>∃av he',s'=⟨stF o av (zir (zcl l o) E++(zir (zcl l o) ee++(tt++u))),he',dsl⟩∧C he'∧jch P ro nt C l dsl E tt r (stF o av ee) he' K)
theorem jcn {C:List Res→Prop} {E tt ee:Fr} {he:List Res} {K:Fr→List Res→Prop} (hk:K ee he):jch P ro nt C l dsl E tt [] ee he K:=hk
theorem jce {C:List Res→Prop} {E tt ee:Fr} {he:List Res} {K:Fr→List Res→Prop} {i:Nat} {r:List Nat} {o:Oper} (ho:l[i]? =some o)
 (hk:∀u,OE P ro nt o ⟨zir (zcl l o) E++(zir (zcl l o) ee++(tt++u)),he,dsl⟩
  (fun s'=>∃av he',s'=⟨stF o av (zir (zcl l o) E++(zir (zcl l o) ee++(tt++u))),he',dsl⟩∧C he'∧jch P ro nt C l dsl E tt r (stF o av ee) he' K)):jch P ro nt C l dsl E tt (i::r) ee he K:=⟨o,ho,hk⟩
theorem zq8 {n:Nat}:∀{eff:List Nat},zkc l n eff=true→∀k,(hk:k+1 < eff.length)→eff[k]∈zph l eff[k+1] (u7 l eff[k+1])
 | [],_,k,hk=>by simp at hk
 | [i],_,k,hk=>by simp at hk
 |i::j::r,h,k,hk=>by
  simp only [zkc,B5] at h;cases k with
  |zero=>
   obtain ⟨x,hx,e⟩:=F9.1 h.2.1;simp only [L8,O1,H9];rw [C3 e];exact hx
  |succ k=>exact zq8 (eff:=j::r) h.2.2 k (by simpa using hk)
end
theorem zt8 {P:Program} {ro:Option Nat} {nt rid:Nat} {Q:Exit→St→Prop} {l:List Oper} {t:Fr} {h:List Res} {dsl:List Nat} (n:Nat) (eff late:List Nat) (sd:Nat→List Tmp) (hS:∀i,i < n→∀d,(sd i).any (Nat.beq d)=false→∀j,j < n→zad l j=some d→i∈zph l j (u7 l j)) (C:Nat→List Res→Prop) (C0:List Res→Prop) [hm:Mixed P] (hc:zr5 l n eff late=true) (hch:zkc l n eff=true) (h0:C0 h)
 (hCC:∀i,i < n→i ∉ eff→∀k he,(eff.take k= []→he=h)→C0 he→(∀j∈eff.take k,i ∉ zph l j (u7 l j))→C i he)
 (hk:zem P ro nt C l (eff++late) sd t (l.take n) 0 [] (fun E=>jch P ro nt C0 l dsl E (zru (zef l n) t) eff [] h (fun ee he=>zfo P ro nt he l sd t late (E++ee) (fun F=>zc9 P ro nt l.toArray (l.drop n) Q ⟨F++t,he,dsl⟩)))):aw P ro nt (.region rid l.toArray true) Q ⟨t,h,dsl⟩:=by
 have hnd:∀(L:List Nat),zkc l n L=true→(∀i,i < l.length→∀j∈u7 l i,j < i)→L.Pairwise (· < ·)∧∀i∈L,i < n:=by
  intro L;induction L with
  |nil=>intro _ _;exact ⟨.nil,fun i h=>by cases h⟩
  |cons i L ih=>
   intro hL hb;cases L with
   |nil=>exact ⟨by simp,fun j hj=>by simp only [D7] at hj;subst hj;exact A7 hL⟩
   |cons j L=>
    have hL':=hL;simp only [zkc,B5] at hL;obtain ⟨h1,h2⟩:=ih hL.2.2 hb;have hjn:j < n:=h2 j (by simp);have hij:i < j:=by
     have hcl:=zq8 hL' 0 (by simp);have hlt:∀(k:Nat) (S:List Nat) (b:Nat),(∀x∈S,x < b)→∀x∈zph l k S,x < b:=by
      intro k;induction k with
      |zero=>intro S b hS x hx;exact hS x hx
      |succ k ihk=>
       intro S b hS x hx;unfold zph at hx;refine ihk _ b (fun y hy=>?_) x hx;split at hy
       ·rename_i hany;rcases D2.1 hy with hy|hy
        ·exact hS y hy
        obtain ⟨z,hz,e⟩:=F9.1 hany;have hzb:=hS z hz;rw [←C3 e] at hzb;by_cases hkl:k < l.length
        ·have:=hb k hkl y hy;omega
        simp only [u7,T5 (Nat.le_of_not_lt hkl)] at hy;cases hy
       exact hS y hy
     simp only [L8,O1,H9] at hcl;by_cases hjl:j < l.length
     ·exact hlt j _ j (hb j hjl) i hcl
     have:u7 l j= []:=by simp only [u7,T5 (Nat.le_of_not_lt hjl)]
     rw [this] at hcl;have:=hlt j [] 0 (fun x hx=>by cases hx) i hcl;omega
    refine ⟨L5.2 ⟨fun x hx=>?_,h1⟩,fun x hx=>?_⟩
    ·rcases C9.1 hx with rfl|hx
     ·exact hij
     have:=(L5.1 h1).1 x hx;omega
    rcases C9.1 hx with rfl|hx
    ·exact A7 hL.1
    exact h2 x hx
 obtain ⟨hlt,hin⟩:=hnd eff hch (zw5 hc).back;refine zyo n eff late sd hS C hc (zo8 _ _ _ _ _ (fun E hE=>?_) hk);refine ⟨fun L ee he=>C0 he∧∃k,(eff.take k= []→he=h)∧L=(eff.take k).reverse∧jch P ro nt C0 l dsl E (zru (zef l n) t) (eff.drop k) ee he (fun ee he=>zfo P ro nt he l sd t late (E++ee) (fun F=>zc9 P ro nt l.toArray (l.drop n) Q ⟨F++t,he,dsl⟩)),⟨h0,0,fun _=>rfl,by simp,by simpa using hE⟩,?_,?_,?_⟩
 ·rintro L ee he ⟨hCe,k,hke,rfl,_⟩ i hi hie hcl;exact hCC i hi hie k he hke hCe fun j hj=>hcl j (W5.2 hj)
 ·rintro L ee he ⟨hCe,k,hke,rfl,hj⟩ i o hie hiL hio hpre u;obtain ⟨m,hm',rfl⟩:=U7 hie;have hkm:k≤m:=H5 fun h=>hiL (by rw [W5,L3];exact ⟨m,by omega,rfl⟩);have hmk:m=k:=by
   rcases V4 hkm with h|h
   ·exact h.symm
   exfalso;obtain ⟨m,rfl⟩:∃m',m=m'+1:=⟨m - 1,by omega⟩;have hcl:=zq8 hch m hm';have:=hpre _ hcl (D0 _);rw [W5,L3] at this;obtain ⟨q,hq,e⟩:=this;have hq':q < m:=by omega
   have:=J6.1 hlt q m (by omega) (by omega) hq';omega
  subst hmk;rw [A8 hm'] at hj;obtain ⟨o',ho',hoe⟩:=hj;obtain rfl:o'=o:=B6 (ho'.symm.trans hio);intro X a w K Q' hs hK;refine hoe u X a w K Q' hs fun s' a' w' hn hs' hk'=>?_;obtain ⟨av,he',e,hC',hj'⟩:=hn;exact hK s' a' w' ⟨av,he',e,hC',m+1,fun q=>absurd (A4 List.length q) (by rw [D5,F3];omega),by rw [A5 hm',List.reverse_append];rfl,hj'⟩ hs' hk'
 rintro L ee he ⟨hCe,k,hke,rfl,hj⟩ hall
 have:eff.length≤k:=H5 fun h=>by
  have hk':k < eff.length:=by omega
  have:=hall eff[k] (D0 _) (hin _ (D0 _));rw [W5,L3] at this;obtain ⟨q,hq,e⟩:=this;have:=J6.1 hlt q k (by omega) hk' (by omega);omega
 rw [Q7 this] at hj;exact hj
theorem ye1 {P:Program} {ro:Option Nat} {nt rid:Nat} {Q:Exit→St→Prop} {l:List Oper} {t:Fr} {h:List Res} {dsl:List Nat} (n:Nat) (eff late:List Nat) (sd:Nat→List Tmp) (hS:∀i,i < n→∀d,(sd i).any (Nat.beq d)=false→∀j,j < n→zad l j=some d→i∈zph l j (u7 l j)) (C:List Res→Prop) [hm:Mixed P] (hc:zr5 l n eff late=true) (hch:zkc l n eff=true) (h0:C h)
 (hk:zem P ro nt (fun _=>C) l (eff++late) sd t (l.take n) 0 [] (fun E=>jch P ro nt C l dsl E (zru (zef l n) t) eff [] h (fun ee he=>zfo P ro nt he l sd t late (E++ee) (fun F=>zc9 P ro nt l.toArray (l.drop n) Q ⟨F++t,he,dsl⟩)))):aw P ro nt (.region rid l.toArray true) Q ⟨t,h,dsl⟩:=
 zt8 n eff late sd hS (fun _=>C) C hc hch h0 (fun _ _ _ _ _ _ h _=>h) hk
theorem zml {P:Program} {ro:Option Nat} {nt rid:Nat} {Q:Exit→St→Prop} {l:List Oper} {t:Fr} {h:List Res} {dsl:List Nat} (n:Nat) (eff late:List Nat) (C:List Res→Prop) [hm:Mixed P] (hc:zr5 l n eff late=true) (hch:zkc l n eff=true) (h0:C h)
 (hk:zem P ro nt (fun _=>C) l (eff++late) (fun _=>zef l n) t (l.take n) 0 [] (fun E=>jch P ro nt C l dsl E (zru (zef l n) t) eff [] h (fun ee he=>zfo P ro nt he l (fun _=>zef l n) t late (E++ee) (fun F=>zc9 P ro nt l.toArray (l.drop n) Q ⟨F++t,he,dsl⟩)))):aw P ro nt (.region rid l.toArray true) Q ⟨t,h,dsl⟩:=
 ye1 n eff late (fun _=>zef l n) (fun i hi d hf j hj hd=>(zu0 hf hj hd).elim) C hc hch h0 hk
def ykp (l:List Oper) (eff early:List Nat):Bool:= !eff.isEmpty && early.all fun i=>eff.all fun j=>(zph l j (u7 l j)).any (Nat.beq i)
theorem zmk {P:Program} {ro:Option Nat} {nt rid:Nat} {Q:Exit→St→Prop} {l:List Oper} {t:Fr} {h:List Res} {dsl:List Nat} (n:Nat) (eff late early:List Nat) (C:List Res→Prop) [hm:Mixed P] (hc:zr5 l n eff late=true) (hch:zkc l n eff=true) (hy:ykp l eff early=true) (h0:C h)
 (hk:zem P ro nt (fun i he=>(mem? i early=true→he=h)∧C he) l (eff++late) (fun _=>zef l n) t (l.take n) 0 [] (fun E=>jch P ro nt C l dsl E (zru (zef l n) t) eff [] h (fun ee he=>zfo P ro nt he l (fun _=>zef l n) t late (E++ee) (fun F=>zc9 P ro nt l.toArray (l.drop n) Q ⟨F++t,he,dsl⟩)))):aw P ro nt (.region rid l.toArray true) Q ⟨t,h,dsl⟩:=by
 refine zt8 n eff late (fun _=>zef l n) (fun i hi d hf j hj hd=>(zu0 hf hj hd).elim) (fun i he=>(mem? i early=true→he=h)∧C he) C hc hch h0 (fun i hi hie k he hke hC hcl=>⟨fun hm=>?_,hC⟩) hk;simp only [ykp,B5,B7] at hy;obtain ⟨hne,hy⟩:=hy;refine hke ?_;cases hq:eff.take k with
 |nil=>rfl
 |cons j r=>
  exfalso;have hj:j∈eff.take k:=by rw [hq];simp
  obtain ⟨x,hx,e⟩:=F9.1 (hy i (mem?_iff.1 hm) j (N6 hj));rw [←C3 e] at hx;exact hcl j hj hx
theorem zy7 {P:Program} {w:World} {O:Nat→Prop} {full:Bool} {sz n:Nat} {rows:List (List AV)} {v:Value} (hr:Rel w O (.list full sz rows) v) (hn:n≤rows.length):
 ∃c:Array Value,(∀w':World,w'.heap=w.heap→(Builtin.firstCells sz n v).run P w'= .ok c w')∧c.size=n * sz∧(∀i (hi:i < n) j (hj:j < (rows[i]'(by omega)).length),∃u,c[i * sz+j]? =some u∧Rel w O (rows[i]'(by omega))[j] u)∧∀i (hi:i < n),(rows[i]'(by omega)).length=sz:=by
 cases hr with
 |lnil _ _ a cap h=>
  obtain rfl:n=0:=by simpa using hn
  refine ⟨#[],fun w' _=>?_,by simp,fun i hi=>absurd hi (H6 i),fun i hi=>absurd hi (H6 i)⟩;cases a with
  |none=>rfl
  |some a=>simp only [Builtin.firstCells,A0w];rfl
 |list _ _ _ b off cap g h1 h2 h3 h4 h5 h6 h7=>
  have hcell:∀k,k < n * sz→w.cell? ⟨b,off+k,none⟩=some ((w.cell? ⟨b,off+k,none⟩).getD undef):=fun k hk=>by
   have hsz:0 < sz:=by
    rcases V3 sz with h|h
    ·subst h;simp at hk
    exact h
   have hi:k / sz < n:=(T1 hsz).2 hk;have hi':k / sz < rows.length:=by omega
   have hj:k % sz < rows[k / sz].length:=by rw [h5 _ hi'];exact A0u _ hsz
   have e:=h6 _ hi' _ hj;have ek:off+k / sz * sz+k % sz=off+k:=by have:=W9 k sz;rw [X0] at this;omega
   rw [ek] at e;rw [e];rfl
  refine ⟨((List.range (n * sz)).map fun k=>(w.cell? ⟨b,off+k,none⟩).getD undef).toArray,fun w' hw'=>?_,by simp,fun i hi j hj=>⟨g i j,?_,h7 i (by omega) j hj⟩,fun i hi=>h5 i (by omega)⟩
  ·simp only [Builtin.firstCells];exact Y4 w' _ _ _ fun k hk=>by rw [zbc,zgu (show w'.heap[b]? =w.heap[b]? by rw [hw'])];exact hcell k hk
  have hj':j < sz:=by rw [←h5 i (by omega)];exact hj
  have hlt:i * sz+j < n * sz:=by
   have:(i+1) * sz≤n * sz:=G6 _ hi;rw [K2] at this;omega
  have e:=h6 i (by omega) j hj;rw [O9] at e;simp [hlt,e]
section
variable {P:Program} {ro:Option Nat} {nt:Nat} {dst:Option Tmp} {ty:TypeId} {pos:String} {after:Array Edge} {guard:Option (Nat×Bool)} {x y:Operand}
end
def zm8 (s:Value) (lo hi sz:Nat):Value:=match s with
 | .slice a _ c=>sliced a lo hi c sz
 |v=>v
section
variable {P:Program} {ro:Option Nat} {nt:Nat} {h:List Res} {f:Operand→Option AV} {dst:Option Tmp} {ty:TypeId} {pos:String} {after:Array Edge} {guard:Option (Nat×Bool)} {x y z:Operand}
end
section
variable {P:Program} {ro:Option Nat} {nt:Nat} {dst:Option Tmp} {ty:TypeId} {pos:String} {after:Array Edge} {guard:Option (Nat×Bool)} {x y:Operand}
theorem zss {T T2 E sz i d hi:Nat} {s:Value} {rows ys:List (List AV)} {t:Fr} {h h':List Res} {ds:List Nat} {dt:Tmp} {next:St→Prop} (hx:ev t x=some (.v (zm8 s d hi sz))) [hrow:HasRow h s i sz E rows]
 [Und P T (.slice E)] [Siz P E sz] (hdh:d≤hi) (hhi:hi≤rows.length)
 (hsrc:∀X a w,Sim X nt ⟨t,h,ds⟩ a w→∃c2 m,(∀w':World,w'.heap=w.heap→(Builtin.lenOf (a.eval y)).run P w'= .ok m w')∧Nat.min m (hi - d)=ys.length∧(∀w':World,w'.heap=w.heap→(Builtin.firstCells sz ys.length (a.eval y)).run P w'= .ok c2 w')∧c2.size=ys.length * sz∧
  (∀i (hi:i < ys.length) j (hj:j < ys[i].length),∃u,c2[i * sz+j]? =some u∧Rel w (OO h X) ys[i][j] u)∧∀i (hi:i < ys.length),ys[i].length=sz)
 (hd:dok nt (some dt)=true) [hset:SetAt h i (.row s sz E (rows.take d++(ys++rows.drop (d+ys.length)))) h'] (hk:next ⟨(dt,.v (.int .i64 ys.length))::t,h',ds⟩) (hone:∀r∈ys,r.all AV.one=true):
 OE P ro nt ⟨some dt,.call ⟨.builtin .copy,[x,y].toArray,[T,T2].toArray⟩,ty,pos,after,guard⟩ ⟨t,h,ds⟩ next:=by
 intro X a w K Q hs hK;have ex:=(hs.env.rel x _ hx).v_eq;have hx0:=hs.heap.holds _ (C6 hrow.h);obtain ⟨ax,cap,es,hcap,hsz,_⟩:=zju hs.heap hrow.h;obtain ⟨c2,m,l2,hmin,e2,s2,g2,hlx2⟩:=hsrc X a w hs;have hcnt:d+ys.length≤hi:=by have:ys.length≤hi - d:=hmin ▸ Nat.min_le_right m (hi - d);omega
 have hrun:(execOp a.eval ⟨some dt,.call ⟨.builtin .copy,[x,y].toArray,[T,T2].toArray⟩,ty,pos,after,guard⟩).run P w=((Builtin.copy_ [T,T2].toArray ty [zm8 s d hi sz,a.eval y].toArray).run P w).andThen fun v w=> .ok (.value v) w:=by
  simp only [execOp,resolve,J4,F6,I1,A9,C1,A3,invoke,builtin,ex]
 refine ⟨zaj,?_⟩;rw [zbg rfl,hrun];have hsub:∀q c,(Builtin.copy_ [T,T2].toArray ty [.slice q (hi - d) c,a.eval y].toArray).run P w=(((match q with|some a=>storeCells a c2.toList|none=>pure ()):Sem Unit).run P w).andThen fun _ w=> .ok (goInt ys.length) w:=by
  intro q c;simp only [Builtin.copy_,J8,G0,I7,A9,run_underlying (d:=TypeDesc.slice E),run_sizeOf (n:=sz),A3,C1,l2 w rfl,hmin,e2 w rfl];cases q with
  |none=>rfl
  |some a2=>simp only [A9,C1]
 by_cases h0:ys.length=0
 ·obtain rfl:ys= []:=I2 h0;have hc0:c2= #[]:=by simpa using s2
  have he:h'=h:=by
   rw [←hset.h];obtain ⟨hlt,e⟩:=C8.1 hrow.h;rw [E7,F3,N2,G9,←e,W6]
  rw [es];simp only [zm8,sliced];rw [hsub,hc0];have:∀q:Option Addr,(((match q with|some a=>storeCells a (#[]:Array Value).toList|none=>pure ()):Sem Unit).run P w)= .ok () w:=fun q=>by cases q <;> rfl
  rw [this];simp only [A3,Oper.uponIn];refine hK _ _ _ hk ?_ (by rw [he];exact .refl _ _);have hsim:Sim X nt ⟨t,h',ds⟩ a w:=by rw [he];exact hs
  exact hsim.put (av:= .v _) hd (.v _)
 cases ax with
 |none=>
  rw [es] at hx0;obtain ⟨q0,_⟩:=hx0;rw [q0] at hhi;simp only [F3] at hhi;omega
 |some addr=>
 rw [es] at hx0;obtain ⟨m1,_,m3,m4,c0,m5,m6,m7⟩:=hx0;obtain ⟨b,off,spot⟩:=addr;simp only at m1 m5 m6 m7;subst m1;have ep:zm8 s d hi sz= .slice (some ⟨b,off+d * sz,none⟩) (hi - d) (cap - d):=by
  rw [es];simp only [zm8,sliced];rw [A0 (by omega)];simp only [K8,zbc]
 have hcs:∀v∈c2.toList,v.oneCell'=true:=by
  intro v hv;obtain ⟨k,hk1,hk2⟩:=I8.1 hv;have hk3:k < ys.length * sz:=by rw [←s2];simpa using hk1
  have hsz0:0 < sz:=by
   rcases V3 sz with h|h
   ·subst h;simp at hk3
   exact h
  have hi:k / sz < ys.length:=(T1 hsz0).2 hk3;have hj:k % sz < ys[k / sz].length:=by rw [hlx2 _ hi];exact A0u _ hsz0
  obtain ⟨u,e,r⟩:=g2 _ hi _ hj;have ek:k / sz * sz+k % sz=k:=by have:=W9 k sz;rw [X0] at this;exact this
  rw [ek] at e;have:u=v:=by
   have h2:c2[k]? =some v:=by rw [←hk2];simp [show k < c2.size by rw [s2];exact hk3]
   exact B6 (e.symm.trans h2)
  subst this;exact r.one (B7.1 (hone _ (D0 hi)) _ (D0 hj))
 have hmul:(d+ys.length) * sz≤cap * sz:=G6 _ (by omega);rw [K2] at hmul;obtain ⟨w',f1,f2,f3,c',f4,f5,f6,ev⟩:=zct (P:=P) c2.toList (off+d * sz) 0 w c0 hcs m5 (by simp [s2];omega);rw [ep,hsub];simp only;rw [f1];simp only [A3,Oper.uponIn];have hbown:b∈(Res.row s sz E rows).own:=by rw [es];simp [Res.own]
 have hkk:∀b',¬OO h X b'→b' < w.heap.size→w'.heap[b']? =w.heap[b']? ∧¬OO h X b':=fun b' hb' _=>⟨f3 b' (fun he=>hb' (.inl (k6.2 ⟨_,C6 hrow.h,he ▸ hbown⟩))),hb'⟩;have hoth:∀b',b' < w.heap.size→b' ∉ (Res.row s sz E rows).own→w'.heap[b']? =w.heap[b']? :=fun b' _ hne=>f3 b' fun he=>hne (he ▸ hbown);have hown:(Res.row s sz E (rows.take d++(ys++rows.drop (d+ys.length)))).own=(Res.row s sz E rows).own:=by rw [es];rfl
 have hlen:(rows.take d++(ys++rows.drop (d+ys.length))).length=rows.length:=by simp;omega
 have hlow:∀k (hk:k < (rows.take d++(ys++rows.drop (d+ys.length))).length) (h:k < d∨d+ys.length≤k),(rows.take d++(ys++rows.drop (d+ys.length)))[k]=rows[k]'(by omega):=fun k hk h=>by
  rcases h with h|h
  ·rw [F4 (by simp;omega)];simp
  rw [F5 (by simp;omega),F5 (by simp;omega),R0];congr 1;simp;omega
 have hmid:∀k (hk:k < (rows.take d++(ys++rows.drop (d+ys.length))).length) (h1:d≤k) (h2:k < d+ys.length),(rows.take d++(ys++rows.drop (d+ys.length)))[k]=ys[k - d]'(by omega):=fun k hk h1 h2=>by
  rw [F5 (by simp;omega),F4 (by simp;omega)];congr 1;simp;omega
 have hholds:(Res.row s sz E (rows.take d++(ys++rows.drop (d+ys.length)))).holds w' (OO h X):=by
  rw [es];refine ⟨rfl,hlen.symm,hcap,fun k hk=>?_,c',f4,by rw [f5];exact m6,fun k hk j hj=>?_⟩
  ·by_cases h:d≤k∧k < d+ys.length
   ·rw [hmid k hk h.1 h.2];exact hlx2 _ (by omega)
   rw [hlow k hk (by omega)];exact hsz _ (by omega)
  have hk':k < rows.length:=by rw [←hlen];exact hk
  by_cases h:d≤k∧k < d+ys.length
  ·simp only [hmid k hk h.1 h.2] at hj ⊢;obtain ⟨u,e,r⟩:=g2 (k - d) (by omega) j hj;have hj':j < sz:=by rw [←hlx2 (k - d) (by omega)];exact hj
   have q1:(k - d+1) * sz≤ys.length * sz:=G6 _ (by omega);rw [K2] at q1;have q2:k * sz=d * sz+(k - d) * sz:=by rw [←K2];congr 1;omega
   refine ⟨u,?_,r.keep (by omega) hkk⟩;show c'[off+k * sz+j]? =some u;rw [f6,A6 (by simp;omega),show off+k * sz+j - (off+d * sz+0)=(k - d) * sz+j by omega];simpa using e
  simp only [hlow k hk (by omega)] at hj ⊢;obtain ⟨u,e,r⟩:=m7 k hk' j hj;have hj':j < sz:=by rw [←hsz k hk'];exact hj
  refine ⟨u,?_,r.keep (by omega) hkk⟩;show c'[off+k * sz+j]? =some u;rw [f6,A0 ?_]
  ·exact e
  simp only [X5,s2];rcases M4 k d with q|q
  ·have:(k+1) * sz≤d * sz:=G6 _ q;rw [K2] at this;omega
  have:(d+ys.length) * sz≤k * sz:=G6 _ (by omega);rw [K2] at this;omega
 refine hK _ _ _ hk ?_ (by rw [←hset.h];exact Keep.set hrow.h hown (by omega) hoth ev);have hO:OO h' X=OO h X:=by funext b';rw [←hset.h];simp only [OO,zdx hrow.h hown]
 have hsim:Sim X nt ⟨t,h',ds⟩ a w':=⟨by rw [←hset.h];exact hs.heap.set hrow.h hown (by omega) hoth hholds,hs.size,by rw [hO];exact hs.fr.keep (by omega) hkk,hs.defs⟩;exact hsim.put (av:= .v _) hd (.v _)
theorem zzw {T T2 E sz i d hi n:Nat} {full:Bool} {s:Value} {rows zs:List (List AV)} {t:Fr} {h h':List Res} {ds:List Nat} {dt:Tmp} {next:St→Prop} (hx:ev t x=some (.v (zm8 s d hi sz))) (hy:ev t y=some (.list full sz zs)) [hrow:HasRow h s i sz E rows]
 [Und P T (.slice E)] [Siz P E sz] (hdh:d≤hi) (hhi:hi≤rows.length) (hn:min zs.length (hi - d)=n)
 (hd:dok nt (some dt)=true) [hset:SetAt h i (.row s sz E (rows.take d++(zs.take n++rows.drop (d+(zs.take n).length)))) h'] (hk:next ⟨(dt,.v (.int .i64 (zs.take n).length))::t,h',ds⟩) (hone:∀r∈zs,r.all AV.one=true):
 OE P ro nt ⟨some dt,.call ⟨.builtin .copy,[x,y].toArray,[T,T2].toArray⟩,ty,pos,after,guard⟩ ⟨t,h,ds⟩ next:=by
 have hnl:n≤zs.length:=by omega
 have hl:(zs.take n).length=n:=by simp;omega
 refine zss hx hdh hhi (fun X a w hs=>?_) hd hk (fun r hr=>hone r (N6 hr));have ry:=hs.env.rel y _ hy;obtain ⟨c2,e2,s2,g2,l2⟩:=zy7 (P:=P) ry hnl;obtain ⟨q,cap,e,_⟩:=zd2 ry;refine ⟨c2,zs.length,fun w' _=>by rw [e];rfl,by rw [hl];exact hn,by rw [hl];exact e2,by rw [hl];exact s2,fun k hk j hj=>?_,fun k hk=>?_⟩
 ·have hk':k < n:=by rw [hl] at hk;exact hk
  simp only [Q0] at hj ⊢;exact g2 k hk' j hj
 rw [Q0];exact l2 k (by rw [hl] at hk;exact hk)
end
section
variable {P:Program} {ro:Option Nat} {nt:Nat} {h:List Res} {f:Operand→Option AV} {dst:Option Tmp} {ty:TypeId} {pos:String} {after:Array Edge} {guard:Option (Nat×Bool)} {x y z:Operand}
theorem yrh (a:Addr) (n c k sz:Nat):zm8 (.slice (some a) n c) 0 k sz= .slice (some a) k c:=by
 unfold zm8;simp only [sliced];rw [yeg];simp
end
theorem yhi (a:Option Addr) (n c sz:Nat):zm8 (.slice a n c) 0 n sz= .slice a n c:=by
 cases a with
 |none=>simp [zm8,sliced]
 |some a=>exact yrh a n c n sz
section
variable {P:Program} {ro:Option Nat} {nt:Nat} {ty:TypeId} {pos:String} {after:Array Edge} {guard:Option (Nat×Bool)} {x y:Operand}
theorem zzx {T T2 E sz i:Nat} (n:Nat) {full:Bool} {s:Value} {rows zs:List (List AV)} {t:Fr} {h h':List Res} {ds:List Nat} {dt:Tmp} {next:St→Prop} (hx:ev t x=some (.v s)) (hy:ev t y=some (.list full sz zs)) [hrow:HasRow h s i sz E rows]
 [Und P T (.slice E)] [Siz P E sz] (hn:min zs.length rows.length=n)
 (hd:dok nt (some dt)=true) [hset:SetAt h i (.row s sz E (zs.take n++rows.drop n)) h'] (hk:next ⟨(dt,.v (.int .i64 n))::t,h',ds⟩) (hone:∀r∈zs,r.all AV.one=true):
 OE P ro nt ⟨some dt,.call ⟨.builtin .copy,[x,y].toArray,[T,T2].toArray⟩,ty,pos,after,guard⟩ ⟨t,h,ds⟩ next:=by
 intro X a w K Q hs hK;obtain ⟨ax,cap,es,_⟩:=zju hs.heap hrow.h;have hp:zm8 s 0 rows.length sz=s:=by rw [es];exact yhi _ _ _ _
 have hl:(zs.take n).length=n:=by simp;omega
 have hset':SetAt h i (.row s sz E (rows.take 0++(zs.take n++rows.drop (0+(zs.take n).length)))) h':=by
  rw [hl,Q4,E7,H9];exact hset
 exact zzw (P:=P) (ro:=ro) (nt:=nt) (T:=T) (T2:=T2) (E:=E) (sz:=sz) (i:=i) (d:=0) (hi:=rows.length) (n:=n) (full:=full) (s:=s) (rows:=rows) (zs:=zs) (h':=h') (next:=next) (by rw [hp];exact hx) hy (G1 _) (C5 _) (by rw [Z4];exact hn) hd (hset:=hset') (by rw [hl];exact hk) hone X a w K Q hs hK
end
theorem ylc {zv:Array Value} {n i j sz:Nat} (hs:zv.size=sz) (hi:i < n) (hj:j < zv.size):(Builtin.zeroCells zv n)[i * sz+j]? =some zv[j]:=by
 subst hs;have h1:(i+1) * zv.size≤n * zv.size:=G6 _ hi;rw [K2] at h1;have hlt:i * zv.size+j < n * zv.size:=by omega
 have hm:(i * zv.size+j) % zv.size=j:=by rw [X0,Nat.mul_add_mod,Nat.mod_eq_of_lt hj]
 simp [Builtin.zeroCells,hlt,hm,hj]
section
variable {P:Program} {ro:Option Nat} {nt:Nat} {h:List Res} {f:Operand→Option AV} {dst:Option Tmp} {ty:TypeId} {pos:String} {after:Array Edge} {guard:Option (Nat×Bool)} {x y z u:Operand} {t:Fr} {ds:List Nat} {next:St→Prop}
theorem yhq {d:Tmp} {T E bytes sz:Nat} {n c:Nat} {zv:Value} [hu:Und P T (.slice E)] [hz:ZerV P E zv] [Siz P E sz] [hby:Byt P E bytes] (hx:ev t x=some (.v (.int .i64 n))) (hy:ev t y=some (.v (.int .i64 c))) (hlt:dok nt (some d)=true)
 (hnc:n≤c) (hn:c≤1099511627776) (hb:bytes≤128:=by decide) (hzs:zv.cells.size=sz:=by rfl) (hk:∀b,next ⟨(d,.v (.slice (some ⟨b,0,none⟩) n c))::t,.row (.slice (some ⟨b,0,none⟩) n c) sz E (List.replicate n (zv.cells.toList.map AV.v))::h,ds⟩):
 OE P ro nt ⟨some d,.makeSlice T x y,ty,pos,after,guard⟩ ⟨t,h,ds⟩ next:=by
 intro X a w K Q hs hK;refine ⟨zaj,?_⟩;have hbi:=hby.h;cases hi:P.info? E with
 |none=>simp [hi] at hbi
 |some inf=>
  simp [hi] at hbi;have hwn:IntKind.i64.wrap (n:Int)=n:=X6 _ ⟨by omega,by omega⟩;have hwc:IntKind.i64.wrap (c:Int)=c:=X6 _ ⟨by omega,by omega⟩;let cells:Array Value:=if c * sz=0 then (#[]:Array Value) else Builtin.zeroCells zv.cells c
  have hmul:inf.bytes * c≤128 * 1099511627776:=R6 (by omega) hn;have hl2:¬((inf.bytes:Int) * (c:Int) > 2 ^ 48):=by
   rw [←Int.natCast_mul];generalize inf.bytes * c=m at hmul ⊢;omega
  have hsize:cells.size=c * sz:=by
   simp only [cells];split
   ·rename_i h0;rw [h0];rfl
   simp [Builtin.zeroCells,hzs]
  have e:(execOp a.eval (⟨some d,.makeSlice T x y,ty,pos,after,guard⟩:Oper)).run P w= .ok (.value (.slice (some ⟨w.heap.size,0,none⟩) n c)) {w with heap:=w.heap.push (.cells cells E (0,0))}:=by
   refine run_v _ ?_;rw [(hs.env.rel x _ hx).v_eq,(hs.env.rel y _ hy).v_eq];have hai:∀(m:Nat) (w:World),(asInt (.int .i64 (m:Int))).run P w= .ok (m:Int) w:=fun m w=>rfl;simp only [Instr.makeSlice,A9,run_underlying (h:=hu),hai,A3,zc7 hi,hwn,hwc];rw [A0 (by simp only [P7,G8,W8];exact ⟨⟨⟨by omega,hl2⟩,by omega⟩,by omega⟩)];simp only [A9,run_askRoom,A3,run_sizeOf (n:=sz),J9];by_cases h0:c * sz=0
   ·have hr0:Array.range 0= #[]:=by simp
    simp [h0,newRow,hr0,cells]
   simp [h0,newRow,run_zeroValue hz.h,cells,Builtin.zeroCells,hzs]
  rw [zbg rfl,e];have hx2:Res.holds {w with heap:=w.heap.push (.cells cells E (0,0))} (OO (.row (.slice (some ⟨w.heap.size,0,none⟩) n c) sz E (List.replicate n (zv.cells.toList.map AV.v))::h) X) (.row (.slice (some ⟨w.heap.size,0,none⟩) n c) sz E (List.replicate n (zv.cells.toList.map AV.v))):=by
   refine ⟨rfl,by simp,hnc,fun i hi=>by simp [hzs],cells,by simp,by simp [hsize],fun i hi j hj=>?_⟩;have hi':i < n:=by simpa using hi
   have hj':j < sz:=by simpa [hzs] using hj
   have h0:¬c * sz=0:=fun h0=>by rcases Nat.mul_eq_zero.1 h0 with h|h <;> omega
   have hz2:=ylc (zv:=zv.cells) (n:=c) (i:=i) (j:=j) hzs (by omega) (by omega);refine ⟨zv.cells[j]'(by omega),?_,?_⟩
   ·simp only [cells,h0,F2,H9];exact hz2
   simp only [List.getElem_replicate,H7,Array.getElem_toList];exact .v _
  have hk2:Keep (j6 h) w (j6 (.row (.slice (some ⟨w.heap.size,0,none⟩) n c) sz E (List.replicate n (zv.cells.toList.map AV.v))::h)) {w with heap:=w.heap.push (.cells cells E (0,0))}:=Keep.alloc (h:=h) (.cells cells E (0,0)) (.row (.slice (some ⟨w.heap.size,0,none⟩) n c) sz E (List.replicate n (zv.cells.toList.map AV.v))) rfl;have hh2:=hs.heap.alloc (.cells cells E (0,0)) (.row (.slice (some ⟨w.heap.size,0,none⟩) n c) sz E (List.replicate n (zv.cells.toList.map AV.v))) rfl hx2;exact hK _ _ _ (hk w.heap.size) (Sim.put (s:=⟨t,.row (.slice (some ⟨w.heap.size,0,none⟩) n c) sz E (List.replicate n (zv.cells.toList.map AV.v))::h,ds⟩) ⟨hh2,hs.size,hs.fr.keep hk2.size (fun b hb hl=>hk2.oo b hb hl),hs.defs⟩ hlt (.v _)) hk2
end
abbrev bp (b:Nat):AV:=pZ b
end Go.Ab
set_option linter.unusedSectionVars false
namespace Go.Ab
open Go
section
variable {K V:Type} [DecidableEq K]
def zch (k:K):List (K×V)→Option V
 | []=>none
 |p::r=>if p.1=k then some p.2 else zch k r
def zf2 (k:K) (v:V):List (K×V)→List (K×V)
 | []=> [(k,v)]
 |p::r=>if p.1=k then (p.1,v)::r else p::zf2 k v r
def zce (f:V→AV) (m:List (K×V)):List (K×AV):=m.map fun p=>(p.1,f p.2)
theorem zkw (f:V→AV) (k:K):∀m:List (K×V),zea k (zce f m)=(zch k m).map f
 | []=>rfl
 |p::m=>by
  have ih:=zkw f k m;simp only [zce,F6,zea,zch] at ih ⊢;by_cases h:p.1=k
  ·simp [h]
  rw [A0 h,A0 h,ih]
theorem zmo (f:V→AV) (k:K) (v:V):∀m:List (K×V),zoo k (f v) (zce f m)=zce f (zf2 k v m)
 | []=>rfl
 |p::m=>by
  have ih:=zmo f k v m;simp only [zce,F6,zoo,zf2] at ih ⊢;by_cases h:p.1=k
  ·rw [A6 h,A6 h];rfl
  rw [A0 h,A0 h,ih];rfl
theorem zcy (k k':K) (v:V):∀m:List (K×V),zch k (zf2 k' v m)=if k'=k then some v else zch k m
 | []=>by simp only [zf2,zch]
 |p::m=>by
  have ih:=zcy k k' v m;simp only [zf2];by_cases h:p.1=k'
  ·rw [A6 h];simp only [zch,h];by_cases hk:k'=k
   ·simp [hk]
   simp [hk]
  rw [A0 h];simp only [zch,ih];by_cases hp:p.1=k
  ·rw [A6 hp,A0 (fun q=>h (hp.trans q.symm)),A6 hp]
  rw [A0 hp,A0 hp]
theorem ycg (k:K) (v:V):∀m:List (K×V),(zf2 k v m).length=if (zch k m).isSome then m.length else m.length+1
 | []=>rfl
 |p::m=>by
  have ih:=ycg k v m;by_cases h:p.1=k
  ·simp [zf2,zch,h]
  simp only [zf2,zch,A0 h,E6,ih];split <;> simp
def zxb {α:Type} (p:α→Bool) (key:α→K) (m:List (K×Bool)) (l:List α):List (K×Bool):=l.foldl (fun m e=>if p e then zf2 (key e) true m else m) m
theorem zie {α:Type} (p:α→Bool) (key:α→K) (k:K):∀(l:List α) (m:List (K×Bool)),zch k (zxb p key m l)=if l.any (fun e=>p e && decide (key e=k)) then some true else zch k m
 | [],m=>by simp [zxb]
 |e::l,m=>by
  have ih:=zie p key k l (if p e then zf2 (key e) true m else m);simp only [zxb,K1,U5] at ih ⊢;rw [ih];by_cases h:(l.any fun e=>p e && decide (key e=k))=true
  ·simp only [h,F1,G4]
  have h':=M2.2 h;simp only [h',E8,B3,F2];cases hp:p e with
  |false=>simp
  |true=>simp [zcy]
def yr4 {α:Type} (p:α→Bool) (key:α→K) (val:α→V) (m:List (K×V)) (l:List α):List (K×V):=l.foldl (fun m e=>if p e then zf2 (key e) (val e) m else m) m
theorem zxw {α:Type} (p:α→Bool) (key:α→K) (val:α→V) (k:K):∀(l:List α) (m:List (K×V)),zch k (yr4 p key val m l)=(((l.filter fun e=>p e && decide (key e=k)).getLast?).map val).or (zch k m)
 | [],m=>by simp [yr4]
 |e::l,m=>by
  have ih:=zxw p key val k l (if p e then zf2 (key e) (val e) m else m);simp only [yr4,K1,I0] at ih ⊢;rw [ih];cases hp:p e with
  |false=>simp
  |true=>
   by_cases hk:key e=k
   ·simp only [hk,decide_true,W3,G4,zcy];cases hl:(l.filter fun e=>p e && decide (key e=k)).getLast? with
    |none=>
     rw [List.getLast?_eq_none_iff] at hl;simp [hl]
    |some y=>simp [List.getLast?_cons,hl]
   simp [hk,zcy]
def ytk {α:Type} (p:α→Bool) (key:α→K) (m:List (K×Int)) (l:List α):List (K×Int):=l.foldl (fun m e=>if p e then zf2 (key e) ((zch (key e) m).getD 0+1) m else m) m
theorem zyh {α:Type} (p:α→Bool) (key:α→K) (k:K):∀(l:List α) (m:List (K×Int)),(zch k (ytk p key m l)).getD 0=(zch k m).getD 0+((l.filter fun e=>p e && decide (key e=k)).length:Int)
 | [],m=>by simp [ytk]
 |e::l,m=>by
  have ih:=zyh p key k l (if p e then zf2 (key e) ((zch (key e) m).getD 0+1) m else m);simp only [ytk,K1,I0] at ih ⊢;rw [ih];cases hp:p e with
  |false=>simp
  |true=>
   by_cases hk:key e=k
   ·simp only [hk,decide_true,W3,G4,zcy,O4,E6];omega
   simp [hk,zcy]
end
class HasMapE (h:List Res) (r:Nat) (i:outParam Nat) (es:outParam (List (Value×AV))) (j st:outParam Nat):Prop where
 h:h[i]? =some (.mape r es j st)
instance HasMapE.head {r:Nat} {es:List (Value×AV)} {j st:Nat} {h:List Res}:HasMapE (.mape r es j st::h) r 0 es j st:=⟨rfl⟩
instance HasMapE.tail {r i:Nat} {es:List (Value×AV)} {j st:Nat} {x:Res} {h:List Res} [k:HasMapE h r i es j st]:HasMapE (x::h) r (i+1) es j st:=⟨by simpa using k.h⟩
def zlm {K:Type} [DecidableEq K] (k:K) (z:AV) (es:List (K×AV)):List (K×AV):=match zea k es with
 |some _=>es
 |none=>es++ [(k,z)]
theorem zs0 {K:Type} [DecidableEq K] (k:K) (z:AV):∀es:List (K×AV),zea k es=none→zea k (es++ [(k,z)])=some z
 | [],_=>by simp [zea]
 |p::es,h=>by
  simp only [zea,G7] at h ⊢;split at h
  ·cases h
  rename_i hn;rw [A0 hn];exact zs0 k z es h
theorem yc1 {K:Type} [DecidableEq K] (k:K) (z:AV) (es:List (K×AV)):(zea k (zlm k z es)).getD z=(zea k es).getD z:=by
 unfold zlm;cases h:zea k es with
 |some a=>simp [h]
 |none=>simp [zs0 k z es h]
section
variable {P:Program} {ro:Option Nat} {nt:Nat} {dst:Option Tmp} {ty:TypeId} {pos:String} {after:Array Edge} {guard:Option (Nat×Bool)} {x y z:Operand} {t:Fr} {h:List Res} {ds:List Nat} {next:St→Prop} {f:Operand→Option AV}
 {K:Type} [DecidableEq K] {enc:K→Value} {es:List (K×AV)} {kt et T:TypeId} {r i:Nat} {k:K} {av:AV}
theorem zvk {d:Tmp} {kv:AV} {zv:Value} {h':Res→List Res} (hlt:dok nt (some d)=true) (hx:ev t x=some (.v (.map (some r)))) (hy:ev t y=some kv) [hkv:KeyV kv (enc k)] [hm:HasMap h r i (zan enc es)] [hu:Und P T (.map kt et)] [hkt:KeyT P kt enc] [hz:ZerV P et zv]
 [hset:∀y,SetAt h i y (h' y)] (hk:∀(j st:Nat),(∀a,(zan enc (zlm k (.v zv) es)).modify j (fun p=>(p.1,a))=zan enc (zoo k a es))→
  next ⟨(d,.tup [(zea k es).getD (.v zv),.v (.int .i64 st)])::t,h' (.mape r (zan enc (zlm k (.v zv) es)) j st),ds⟩):
 OE P ro nt ⟨some d,.mapEntry T x y,ty,pos,after,guard⟩ ⟨t,h,ds⟩ next:=by
 intro X a w Kc Q hs hK;refine ⟨zaj,?_⟩;obtain ⟨ents,clock,h1,h2,h3,h4,h5⟩:=hs.heap.holds _ (C6 hm.h);have hks:=keys_of_holds h2 h3;have hl':es.length=ents.toList.length:=by simpa [zan] using h2
 have hle:es.length=ents.size:=by simpa using hl'
 have hfind:=hkt.find w k ents.toList (es.map (·.1)) hks
 have hrun:∃ents' clock' j st v,(Instr.mapEntry T (a.eval x) (a.eval y)).run P w= .ok (.tuple #[v,.int .i64 (st:Nat)]) {w with heap:=w.heap.setIfInBounds r (.map ents' clock')}∧
  Rel w (OO h X) ((zea k es).getD (.v zv)) v∧(∀a,(zan enc (zlm k (.v zv) es)).modify j (fun p=>(p.1,a))=zan enc (zoo k a es))∧
  (zan enc (zlm k (.v zv) es)).length=ents'.size∧(∀i (h1:i < (zan enc (zlm k (.v zv) es)).length) (h2:i < ents'.size),(zan enc (zlm k (.v zv) es))[i].1=ents'[i].key∧Rel w (OO h X) (zan enc (zlm k (.v zv) es))[i].2 ents'[i].val)∧
  (∀i (h:i < ents'.size),ents'[i].born < clock')∧(∀i j (hi:i < ents'.size) (hj:j < ents'.size),i < j→ents'[i].born < ents'[j].born)∧∃h:j < ents'.size,ents'[j].born=st:=by
  rw [(hs.env.rel x _ hx).v_eq,hkv.h w _ _ (hs.env.rel y _ hy)];simp only [Instr.mapEntry,A9,run_underlying (h:=hu),A3,O0 h1,hkt.chk,hfind];rcases znr k es ents.toList 0 hl' with ⟨g,b,c⟩|⟨j,g1,g2,g,b,c,d⟩
  ·rw [g];have he:zlm k (.v zv) es=es++ [(k,.v zv)]:=by unfold zlm;rw [b]
   rw [he];refine ⟨ents.push {key:=enc k,val:=zv,born:=clock},clock+1,es.length,clock,zv,?_,by rw [b];exact .v _,fun a=>?_,by simp [zan,hle],fun i a1 a2=>?_,fun i a1=>?_,fun i j a1 a2 a3=>?_,by simp [hle],?_⟩
   ·simp only [A9,run_zeroValue hz.h,A3,Q6 _ h1,C1,goInt]
   ·rw [c a];simp only [zan,D9,F6,I1];have:es.length=(es.map fun p=>(enc p.1,p.2)).length:=by simp
    rw [this];have hmod:∀(l:List (Value×AV)) (p:Value×AV) (g:Value×AV→Value×AV),(l++ [p]).modify l.length g=l++ [g p]:=by
     intro l p g;induction l with
     |nil=>rfl
     |cons q l ih=>simp [ih]
    rw [hmod]
   ·simp only [zan,D9,F6,I1,List.getElem_append,N5];by_cases hi:i < ents.size
    ·have:i < (List.map (fun p:K×AV=>(enc p.1,p.2)) es).length:=by simp;omega
     simp only [hi,this,W7];exact h3 i (by simpa [zan] using this) hi
    have h9:¬i < (List.map (fun p:K×AV=>(enc p.1,p.2)) es).length:=by simp;omega
    simp only [hi,h9,X7,not_false_eq_true,A0n];exact ⟨trivial,.v _⟩
   ·rw [N5];split
    ·have:=h4 i (by assumption);omega
    simp
   ·simp only [Array.size_push] at a1 a2;rw [N5,N5];split <;> split
    ·exact h5 i j _ _ a3
    ·have:=h4 i (by assumption);simpa using this
    ·omega
    omega
   simp [N5,hle]
  have hj:j < ents.size:=by simpa using g2
  have hkey:ents[j].key=enc k:=by
   have:=(h3 j (by simpa [zan] using g1) hj).1;simp [zan] at this;rw [←this,c]
  have he:zlm k (.v zv) es=es:=by unfold zlm;rw [b]
  rw [g,he];have hgd:((ents[j]?).map (·.key)).getD (enc k)=enc k:=by
   rw [I5 hj];simp [hkey]
  have hsame:(ents.modify j fun e=>{e with key:=enc k})=ents:=by
   apply A0f
   ·simp
   intro q q1 q2;rw [M5];split
   ·rename_i hjq;subst hjq
    have hk2:∀e:MapEntry,e.key=enc k→({e with key:=enc k}:MapEntry)=e:=fun e he=>by
     cases e;simp only at he;subst he;rfl
    exact hk2 _ hkey
   rfl
  refine ⟨ents,clock,j,ents[j].born,ents[j].val,?_,?_,fun a=>?_,h2,h3,h4,h5,hj,rfl⟩
  ·simp only [A9,H9,hgd,zhk (P:=P) (kt:=kt),A3,hsame,Q6 _ h1,C1,goInt];simp only [I5 hj,K8,O4];rfl
  ·rw [b];have:=(h3 j (by simpa [zan] using g1) hj).2;simpa [zan] using this
  rw [d a];refine U0 (by simp [zan]) fun q q1 q2=>?_;simp only [zan,List.getElem_modify,H7,U1];split
  ·rename_i hq;subst hq;rw [c]
  rfl
 obtain ⟨ents',clock',j,st,v,e,hv,hmod,e1,e2,e3,e4,e5,e6⟩:=hrun;rw [zbg rfl];have e':(execOp a.eval (⟨some d,.mapEntry T x y,ty,pos,after,guard⟩:Oper)).run P w= .ok (.value (.tuple #[v,.int .i64 (st:Nat)])) {w with heap:=w.heap.setIfInBounds r (.map ents' clock')}:=run_v _ e;rw [e'];have hlt':r < w.heap.size:=(J0.1 h1).1;have hoth:∀b,b≠r→(w.heap.setIfInBounds r (.map ents' clock'))[b]? =w.heap[b]? :=fun b hb=>by rw [J7 (M8 hb)]
 have hrown:OO h X r:= .inl (k6.2 ⟨_,C6 hm.h,by simp [Res.own]⟩);have hkk:∀b,¬OO h X b→b < w.heap.size→(w.heap.setIfInBounds r (.map ents' clock'))[b]? =w.heap[b]? ∧¬OO h X b:=fun b hb hl=>⟨hoth b (fun q=>hb (q ▸ hrown)),hb⟩
 have hholds:(Res.mape r (zan enc (zlm k (.v zv) es)) j st).holds {w with heap:=w.heap.setIfInBounds r (.map ents' clock')} (OO h X):=
  ⟨ents',clock',by simp [hlt'],e1,fun i a1 a2=>⟨(e2 i a1 a2).1,(e2 i a1 a2).2.keep (by simp) hkk⟩,e3,e4,e5,e6⟩
 have hh2:=hs.heap.set (w':={w with heap:=w.heap.setIfInBounds r (.map ents' clock')}) hm.h (y:= .mape r (zan enc (zlm k (.v zv) es)) j st) rfl (by simp) (fun b hb hne=>hoth b (by simpa [Res.own] using hne)) hholds;rw [(hset _).h] at hh2;have hown:j6 (h' (.mape r (zan enc (zlm k (.v zv) es)) j st))=j6 h:=by rw [←(hset _).h];exact zdx hm.h rfl
 have hkeep:Keep (j6 h) w (j6 (h' (.mape r (zan enc (zlm k (.v zv) es)) j st))) {w with heap:=w.heap.setIfInBounds r (.map ents' clock')}:=⟨by simp,fun b hb ho=>⟨hoth b (fun q=>ho (q ▸ k6.2 ⟨_,C6 hm.h,by simp [Res.own]⟩)),by rw [hown];exact ho⟩,zjl.eq rfl rfl rfl (by first|exact C5 _|exact P5 _)⟩;have hkoo:=fun b hb hl=>hkeep.oo (X:=X) b hb hl;refine hK _ _ _ (hk j st hmod) (Sim.put (s:=⟨t,h' (.mape r (zan enc (zlm k (.v zv) es)) j st),ds⟩) ⟨hh2,hs.size,hs.fr.keep hkeep.size (fun b hb hl=>hkoo b hb hl),hs.defs⟩ hlt (.tup _ _ rfl fun q q1 q2=>?_)) hkeep;match q,q1,q2 with
 |0,_,_=>exact hv.keep hkeep.size (fun b hb hl=>hkoo b hb hl)
 |1,_,_=>exact .v _
 |q+2,q1,_=>simp at q1;omega
theorem zp7 {j st:Nat} {es' es2:List (Value×AV)} {h':List Res} (hx:ev t x=some (.v (.map (some r)))) (hy:ev t y=some (.v (.int .i64 st))) (hz:ev t z=some av) [hm:HasMapE h r i es' j st] (he:es'.modify j (fun p=>(p.1,av))=es2)
 [hset:SetAt h i (.map r es2) h'] (hk:next ⟨t,h',ds⟩):OE P ro nt ⟨none,.entryStore T x y z,ty,pos,after,guard⟩ ⟨t,h,ds⟩ next:=by
 refine zg7 rfl rfl (fun X a w hs=>?_) hk;obtain ⟨ents,clock,h1,h2,h3,h4,h5,hj,h6⟩:=hs.heap.holds _ (C6 hm.h);have hrv:=hs.env.rel z _ hz;subst he;have hidx:ents.findIdx? (fun e=>((e.born:Nat):Int)==((st:Nat):Int))=some j:=by
  rw [Array.findIdx?_eq_some_iff_getElem];refine ⟨hj,by simp [h6],fun q hq=>?_⟩;have:=h5 q j (by omega) hj hq;simp;omega
 obtain ⟨ents',hents⟩:∃e,e=ents.modify j (fun e=>{e with val:=a.eval z}):=⟨_,rfl⟩;have hsz:ents'.size=ents.size:=by rw [hents];simp
 have hrun:(Instr.entryStore T (a.eval x) (a.eval y) (a.eval z)).run P w= .ok () {w with heap:=w.heap.setIfInBounds r (.map ents' clock)}:=by
  rw [(hs.env.rel x _ hx).v_eq,(hs.env.rel y _ hy).v_eq];simp only [Instr.entryStore,A9,O0 h1,A3,asInt,asIntOf,C1,hidx,Q6 _ h1,hents]
 have hlt:r < w.heap.size:=(J0.1 h1).1;have hoth:∀b,b≠r→(w.heap.setIfInBounds r (.map ents' clock))[b]? =w.heap[b]? :=fun b hb=>by rw [J7 (M8 hb)]
 have hrown:OO h X r:= .inl (k6.2 ⟨_,C6 hm.h,by simp [Res.own]⟩);have hkk:∀b,¬OO h X b→b < w.heap.size→(w.heap.setIfInBounds r (.map ents' clock))[b]? =w.heap[b]? ∧¬OO h X b:=fun b hb hl=>⟨hoth b (fun q=>hb (q ▸ hrown)),hb⟩;have hmapholds:(Res.map r (es'.modify j (fun p=>(p.1,av)))).holds {w with heap:=w.heap.setIfInBounds r (.map ents' clock)} (OO h X):=by
  refine ⟨ents',clock,by simp [hlt],by simp [hsz,h2],fun i a1 a2=>?_,fun i a1=>?_,fun i j' a1 a2 a3=>?_⟩
  ·have b1:i < es'.length:=by simpa using a1
   have b2:i < ents.size:=by omega
   have:=h3 i b1 b2;subst hents;rw [List.getElem_modify,M5];split
   ·exact ⟨this.1,hrv.keep (by simp) hkk⟩
   exact ⟨this.1,this.2.keep (by simp) hkk⟩
  ·subst hents;rw [M5];have b2:i < ents.size:=by simpa using a1
   split <;> exact h4 i b2
  subst hents;have b1:i < ents.size:=by simpa using a1
  have b2:j' < ents.size:=by simpa using a2
  rw [M5,M5];split <;> split <;> exact h5 i j' b1 b2 a3
 have hh2:=hs.heap.set (w':={w with heap:=w.heap.setIfInBounds r (.map ents' clock)}) hm.h (y:= .map r (es'.modify j (fun p=>(p.1,av)))) rfl (by simp) (fun b hb hne=>hoth b (by simpa [Res.own] using hne)) hmapholds;rw [hset.h] at hh2;have hown:j6 h'=j6 h:=by rw [←hset.h];exact zdx hm.h rfl
 have hkeep:Keep (j6 h) w (j6 h') {w with heap:=w.heap.setIfInBounds r (.map ents' clock)}:=⟨by simp,fun b hb ho=>⟨hoth b (fun q=>ho (q ▸ k6.2 ⟨_,C6 hm.h,by simp [Res.own]⟩)),by rw [hown];exact ho⟩,zjl.eq rfl rfl rfl (by first|exact C5 _|exact P5 _)⟩;exact ⟨_,ybp hrun,⟨hh2,hs.size,hs.fr.keep hkeep.size (fun b hb hl=>hkeep.oo b hb hl),hs.defs⟩,hkeep⟩
theorem zve {kv:AV} {zv:Value} {j st:Nat} (hx:f x=some (.v (.map (some r)))) (hy:f y=some kv) [hkv:KeyV kv (enc k)] [hm:HasMapE h r i (zan enc (zlm k (.v zv) es)) j st] [hu:Und P T (.map kt et)] [hkt:KeyT P kt enc] [hz:ZerV P et zv]
 (hl:(zea k es).getD (.v zv)=av):QR P h f ⟨dst,.lookup T x y false,ty,pos,after,guard⟩ av:=fun X ρ w hev=>by
 obtain ⟨ents,clock,h1,h2,h3,h4,h5,_⟩:=hev.heap.holds _ (C6 hm.h);have hks:=keys_of_holds h2 h3;have hl':(zlm k (.v zv) es).length=ents.toList.length:=by simpa [zan] using h2
 have hfind:=hkt.find w k ents.toList ((zlm k (.v zv) es).map (·.1)) hks;have key:=yc1 k (.v zv) es;rw [hl] at key;have hrun:∃v,(Instr.lookup T (ρ x) (ρ y) false).run P w= .ok v w∧Rel w (OO h X) av v:=by
  rw [(hev.rel x _ hx).v_eq,hkv.h w _ _ (hev.rel y _ hy)];simp only [Instr.lookup,A9,run_underlying (h:=hu),A3,O0 h1,C1,hkt.chk,hfind];rcases znr k (zlm k (.v zv) es) ents.toList 0 hl' with ⟨a,b,c⟩|⟨j,g1,g2,a,b,c,d⟩
  ·rw [b] at key;refine ⟨zv,?_,by rw [←key];exact .v _⟩;rw [a];simp [run_zeroValue hz.h]
  rw [b] at key;refine ⟨(ents[j]'(by simpa using g2)).val,?_,?_⟩
  ·rw [a];simp
  have:=(h3 j (by simpa [zan] using g1) (by simpa using g2)).2;rw [←key];simpa [zan] using this
 obtain ⟨v,e,hr⟩:=hrun;exact ⟨v,run_v _ e,hr⟩
end
def zgb (p:Int×Int×Int):Value:= .agg #[.int .i64 p.1,.int .i64 p.2.1,.int .i64 p.2.2]
class Chk3 (P:Program) (kt:TypeId):Prop where
 h:∀(e:Bool) (w:World) (a b c:Int),(Instr.checkKey e 10000 kt (.agg #[.int .i64 a,.int .i64 b,.int .i64 c])).run P w= .ok () w
instance KeyT.int3 {P:Program} {kt:TypeId} [he:EqInts P kt 3] [hc:Chk3 P kt] [hi:IsA P kt true]:KeyT P kt zgb where
 inj:=fun a b h=>by
  obtain ⟨a1,a2,a3⟩:=a;obtain ⟨b1,b2,b3⟩:=b;simpa [zgb] using h
 stays:=fun a=>by simp [zgb,Instr.sameBits]
 chk:=fun e w k=>hc.h e w k.1 k.2.1 k.2.2
 find:=fun w k l ks h=>by
  obtain ⟨d,hd,hb⟩:=hi.h;refine (A4 (fun r=>r) (run_findKey_eq (P:=P) (w:=w) (k:=kt) (by rw [hd];cases d <;> simp [ywl] at hb ⊢) _ l)).trans ?_;refine zhc (fun w a b=>?_) k w l ks 0 h;have:=zoy (P:=P) (T:=kt) w (xs:= [a.1,a.2.1,a.2.2]) (ys:= [b.1,b.2.1,b.2.2]) rfl rfl;simp only [zgb];refine this.trans ?_;obtain ⟨a1,a2,a3⟩:=a;obtain ⟨b1,b2,b3⟩:=b;congr 1;by_cases h1:a1=b1 <;> by_cases h2:a2=b2 <;> by_cases h3:a3=b3 <;> simp [h1,h2,h3]
instance KeyV.int3 {a b c:Int}:KeyV (.agg [.v (.int .i64 a),.v (.int .i64 b),.v (.int .i64 c)]) (zgb (a,b,c)):=⟨fun w O u r=>by
 cases r with
 |agg _ cs hl hr=>
  simp at hl;have h0:=(hr 0 (by simp) (by omega)).v_eq;have h1:=(hr 1 (by simp) (by omega)).v_eq;have h2:=(hr 2 (by simp) (by omega)).v_eq;simp only [zgb];congr 1;apply A0f
  ·simp [←hl]
  intro i hi hi2;match i,hi,hi2 with
  |0,_,_=>exact h0
  |1,_,_=>exact h1
  |2,_,_=>exact h2
  |i+3,hi,hi2=>simp at hi2;omega⟩
class ZV (z:Value) (a:AV):Prop where
 h:∀w O u,Rel w O (.v z) u→Rel w O a u
instance ZV.v {z:Value}:ZV z (.v z):=⟨fun _ _ _ h=>h⟩
instance ZV.agg2 {a b:Value}:ZV (.agg #[a,b]) (.agg [.v a,.v b]):=⟨fun w O u h=>by
 rw [h.v_eq];refine .agg _ _ rfl fun j h1 h2=>?_;match j,h1,h2 with
 |0,_,_=>exact .v _
 |1,_,_=>exact .v _
 |j+2,h1,_=>simp at h1;omega⟩
theorem zu9 {P:Program} {h:List Res} {f:Operand→Option AV} {o:Oper} {a b:AV} (hw:∀w O v,Rel w O a v→Rel w O b v) (q:QR P h f o a):QR P h f o b:=fun X ρ w he=>
 let ⟨v,e,r⟩:=q X ρ w he;⟨v,e,hw _ _ _ r⟩
theorem za9 {P:Program} {h:List Res} {f:Operand→Option AV} {o:Oper} {a b:AV} (q:QR P h f o a) (e:a=b):QR P h f o b:=e ▸ q
section
variable {P:Program} {ro:Option Nat} {nt:Nat} {dst:Option Tmp} {ty:TypeId} {pos:String} {after:Array Edge} {guard:Option (Nat×Bool)} {x y z:Operand} {t:Fr} {h h':List Res} {ds:List Nat} {next:St→Prop} {f:Operand→Option AV}
 {K V:Type} [DecidableEq K] {enc:K→Value} {g:V→AV} {m:List (K×V)} {kt et T:TypeId} {r i:Nat} {k:K} {kv:AV}
theorem zqj {zv:Value} {d:V} [hz:ZV zv (g d)] {w:World} {O:Nat→Prop} {u:Value} (h:Rel w O ((zea k (zce g m)).getD (.v zv)) u):Rel w O (g ((zch k m).getD d)) u:=by
 rw [zkw] at h;cases hg:zch k m with
 |some a=>rw [hg] at h;exact h
 |none=>rw [hg] at h;exact hz.h w O u h
theorem zc0 (d:V) {zv:Value} (hx:f x=some (.v (.map (some r)))) (hy:f y=some kv) [hkv:KeyV kv (enc k)] [hm:HasMap h r i (zan enc (zce g m))] [hu:Und P T (.map kt et)] [hkt:KeyT P kt enc] [hz:ZerV P et zv] [hd:ZV zv (g d)]:
 QR P h f ⟨dst,.lookup T x y false,ty,pos,after,guard⟩ (g ((zch k m).getD d)):=
 zu9 (fun w O v hr=>zqj hr) (zsl hx hy rfl)
theorem zsm (d:V) {zv:Value} {b:Bool} (hx:f x=some (.v (.map (some r)))) (hy:f y=some kv) [hkv:KeyV kv (enc k)] [hm:HasMap h r i (zan enc (zce g m))] [hu:Und P T (.map kt et)] [hkt:KeyT P kt enc] [hz:ZerV P et zv] [hd:ZV zv (g d)]
 (hb:(zch k m).isSome=b):QR P h f ⟨dst,.lookup T x y true,ty,pos,after,guard⟩ (.tup [g ((zch k m).getD d),.v (.bool b)]):=
 zu9 (fun w O v hr=>by
  cases hr with
  |tup _ cs hl hr=>
   refine .tup _ _ (by simpa using hl) fun j h1 h2=>?_;match j,h1,h2 with
   |0,_,h2=>exact zqj (hr 0 (by simp) h2)
   |1,_,h2=>exact hr 1 (by simp) h2
   |j+2,h1,_=>simp at h1;omega) (zzr hx hy rfl (b:=b) (by rw [zkw,Option.isSome_map];exact hb))
theorem ycd (d:V) {zv:Value} {j st:Nat} (hx:f x=some (.v (.map (some r)))) (hy:f y=some kv) [hkv:KeyV kv (enc k)] [hm:HasMapE h r i (zan enc (zlm k (.v zv) (zce g m))) j st] [hu:Und P T (.map kt et)] [hkt:KeyT P kt enc] [hz:ZerV P et zv] [hd:ZV zv (g d)]:
 QR P h f ⟨dst,.lookup T x y false,ty,pos,after,guard⟩ (g ((zch k m).getD d)):=
 zu9 (fun w O v hr=>zqj hr) (zve hx hy rfl)
theorem zby {v:V} (hx:ev t x=some (.v (.map (some r)))) (hy:ev t y=some kv) (hz:ev t z=some (g v)) [hkv:KeyV kv (enc k)] [hm:HasMap h r i (zan enc (zce g m))] [hu:Und P T (.map kt et)] [hkt:KeyT P kt enc]
 [hset:SetAt h i (.map r (zan enc (zce g (zf2 k v m)))) h'] (hk:next ⟨t,h',ds⟩):OE P ro nt ⟨none,.mapUpdate T x y z,ty,pos,after,guard⟩ ⟨t,h,ds⟩ next:=by
 have:SetAt h i (.map r (zan enc (zoo k (g v) (zce g m)))) h':=by rw [zmo];exact hset
 exact zlf hx hy hz hk
theorem zkt {d:Tmp} {zv:Value} {h':Res→List Res} (hlt:dok nt (some d)=true) (hx:ev t x=some (.v (.map (some r)))) (hy:ev t y=some kv) [hkv:KeyV kv (enc k)] [hm:HasMap h r i (zan enc (zce g m))] [hu:Und P T (.map kt et)] [hkt:KeyT P kt enc] [hz:ZerV P et zv]
 [hset:∀y,SetAt h i y (h' y)] (hk:∀(j st:Nat),(∀v,(zan enc (zlm k (.v zv) (zce g m))).modify j (fun p=>(p.1,g v))=zan enc (zce g (zf2 k v m)))→
  next ⟨(d,.tup [(zea k (zce g m)).getD (.v zv),.v (.int .i64 st)])::t,h' (.mape r (zan enc (zlm k (.v zv) (zce g m))) j st),ds⟩):
 OE P ro nt ⟨some d,.mapEntry T x y,ty,pos,after,guard⟩ ⟨t,h,ds⟩ next:=
 zvk hlt hx hy fun j st hj=>hk j st fun v=>by rw [hj (g v),zmo]
theorem znd {v:V} {j st:Nat} {es':List (Value×AV)} (hx:ev t x=some (.v (.map (some r)))) (hy:ev t y=some (.v (.int .i64 st))) (hz:ev t z=some (g v)) [hm:HasMapE h r i es' j st] (he:es'.modify j (fun p=>(p.1,g v))=zan enc (zce g (zf2 k v m)))
 [hset:SetAt h i (.map r (zan enc (zce g (zf2 k v m)))) h'] (hk:next ⟨t,h',ds⟩):OE P ro nt ⟨none,.entryStore T x y z,ty,pos,after,guard⟩ ⟨t,h,ds⟩ next:=
 zp7 hx hy hz he hk
theorem yxj {d:Tmp} {op:Op} {av:AV} (hq:QR P h (ev t) ⟨some d,op,ty,pos,after,guard⟩ av) (hk:next ⟨(d,av)::t,h,ds⟩) (hd:dok nt (some d)=true:=by rfl) (hn:zbt ⟨some d,op,ty,pos,after,guard⟩=true:=by rfl):
 OE P ro nt ⟨some d,op,ty,pos,after,guard⟩ ⟨t,h,ds⟩ next:=fun X a w K Q hs hK=>
 zg4 hq hn X a w K Q hs.env fun v w' hr hh hkp=>hK _ _ _ hk (Sim.put (s:=⟨t,h,ds⟩) ⟨hh,hs.size,hs.fr.keep hkp.size (fun b hb hl=>hkp.oo b hb hl),hs.defs⟩ hd hr) hkp
theorem zo1 {tys:List TypeId} (hx:f x=some (.v (.map (some r)))) [hm:HasMap h r i (zan enc (zce g m))] [hu:Und P T (.map kt et)]:QR P h f ⟨dst,.call ⟨.builtin .len,[x].toArray,(T::tys).toArray⟩,ty,pos,after,guard⟩ (.v (.int .i64 m.length)):=fun X ρ w he=>by
 obtain ⟨ents,clock,h1,h2,_⟩:=he.heap.holds _ (C6 hm.h);refine ⟨.int .i64 m.length,?_,.v _⟩;have hl:m.length=ents.size:=by simpa [zan,zce] using h2
 simp only [execOp,resolve,J4,F6,I1,(he.rel x _ hx).v_eq,A9,C1,A3,invoke,builtin,Builtin.len_,J8,G0,run_underlying (h:=hu),O0 h1,hl];rfl
end
section
variable {P:Program} {ro:Option Nat} {nt:Nat} {l:List Oper} {dsl:List Nat} {C0:List Res→Prop} {E tt:Fr}
end
theorem y4.lendG {P:Program} {fv fv':AV} {args args':List AV} {h:List Res} {R:AV→List Res→Prop} (hc:y4 P fv' args' [] R) (hR:∀r h',R r h'→Scal r∧∀x∈h',ywo x)
 (hf:BLe h fv fv') (hle:zi3 h args args'):y4 P fv args h (fun r h'=>∃h'',h'=h''++h∧R r h''):=by
 intro X w v vs hh hv ha;refine (hc noX w v vs (zs9 w) (by rw [zrl];exact hf X w v hh hv) (by rw [zrl];exact hle.rels hh ha)).mono ?_;rintro e w' ⟨u,av,h',e1,hRr,hrel,hh',hk⟩;obtain ⟨hs1,hs2⟩:=hR _ _ hRr;have hold:∀b,b < w.heap.size→w'.heap[b]? =w.heap[b]? ∧b ∉ j6 h':=fun b hb=>hk.same b hb (by simp [j6]);have happ:j6 (h'++h)=j6 h'++j6 h:=by simp [j6,M0]
 have hkk:∀b,¬OO h X b→b < w.heap.size→w'.heap[b]? =w.heap[b]? ∧¬OO (h'++h) X b:=fun b hb hl=>by
  refine ⟨(hold b hl).1,fun q=>?_⟩;rcases q with q|q
  ·rw [happ,D2] at q;rcases q with q|q
   ·exact (hold b hl).2 q
   exact hb (.inl q)
  exact hb (.inr q)
 have hh2:HRel X w' (h'++h):=by
  refine ⟨?_,fun b hb=>?_,fun b hb=>I3 (hh.xlt b hb) hk.size,fun r hr=>?_⟩
  ·rw [happ,J2];exact ⟨hh'.nodup,hh.nodup,fun x hx y hy q=>(hold y (hh.lt y hy).1).2 (q ▸ hx)⟩
  ·rw [happ,D2] at hb;rcases hb with hb|hb
   ·exact ⟨(hh'.lt b hb).1,fun hx=>(hold b (hh.xlt b hx)).2 hb⟩
   exact ⟨I3 (hh.lt b hb).1 hk.size,(hh.lt b hb).2⟩
  rcases D2.1 hr with hr|hr
  ·exact hs2 r hr (hh'.holds r hr)
  exact Res.holds_keep hk.size hkk (fun b hb=>(hold b (hh.lt b (k6.2 ⟨r,hr,hb⟩)).1).1) (hh.holds r hr)
 refine ⟨u,av,_,e1,⟨_,rfl,hRr⟩,hs1.rel hrel,hh2,⟨hk.size,fun b hb ho=>⟨(hold b hb).1,fun q=>?_⟩,hk.env⟩⟩;rw [happ,D2] at q;exact q.elim (hold b hb).2 ho
theorem zi3.get {h:List Res}:∀{xs ys:List AV},zi3 h xs ys→xs.length=ys.length∧∀j (k:j < xs.length) (k':j < ys.length),BLe h xs[j] ys[j]
 | [],[],_=>⟨rfl,fun j k=>absurd k (H6 j)⟩
 |_::_,_::_,hb=>by
  obtain ⟨h1,h2⟩:=hb;obtain ⟨e,ih⟩:=zi3.get h2;refine ⟨by simp [e],fun j k k'=>?_⟩;cases j with
  |zero=>exact h1
  |succ j=>exact ih j (by simpa using k) (by simpa using k')
 | [],_::_,hb=>hb.elim
 |_::_,[],hb=>hb.elim
theorem yex {h:List Res} {xs ys:List AV} (hb:zi3 h xs ys):BLe h (.agg xs) (.agg ys):=fun X w v hh hv=>by
 obtain ⟨e,hg⟩:=hb.get;cases hv with
 |agg _ cs hl hc=>exact .agg _ cs (by rw [←e];exact hl) fun j h1 h2=>hg j (by rw [e];exact h1) h1 X w _ hh (hc j (by rw [e];exact h1) h2)
end Go.Ab
namespace Go.H
open Go Go.Ab
abbrev iv (n:Int):AV:= .v (.int .i64 n)
abbrev bv (b:Bool):AV:= .v (.bool b)
abbrev sv (s:ByteArray):AV:= .v (.string s)
structure Ver where
 t:Int
 k:Int
 deriving DecidableEq
structure Seen where
 o:Int
 v:Ver
 deriving DecidableEq
structure Ev where
 kind:Int
 t:Int
 s:Int
 l:Int
 o:Int
 v:Ver
 p:Int
 scan:List Seen
 deriving DecidableEq
structure Ord where
 o:Int
 ts:List Int
 deriving DecidableEq
structure Mat where
 p:Int
 o:Int
 first:Bool
 ts:List Int
 deriving DecidableEq
structure Wan where
 s:Int
 bits:Int
 deriving DecidableEq
structure Hist where
 ts:List ByteArray
 ss:List ByteArray
 os:List ByteArray
 ps:List ByteArray
 evs:List Ev
 ords:List Ord
 mats:List Mat
 wants:List Wan
def zag (n:Int):List AV:= [iv n]
def zaq (s:ByteArray):List AV:= [sv s]
def yf2 (v:Ver):List AV:= [iv v.t,iv v.k]
def zav (s:Seen):List AV:= [iv s.o,iv s.v.t,iv s.v.k]
def zcs (l:List Int):AV:= .list false 1 (l.map zag)
def v7 (l:List ByteArray):AV:= .list false 1 (l.map zaq)
def zlb (l:List Seen):AV:= .list false 3 (l.map zav)
def evR (e:Ev):List AV:= [iv e.kind,iv e.t,iv e.s,iv e.l,iv e.o,iv e.v.t,iv e.v.k,iv e.p,zlb e.scan]
def zb7 (o:Ord):List AV:= [iv o.o,zcs o.ts]
def zck (m:Mat):List AV:= [iv m.p,iv m.o,bv m.first,zcs m.ts]
def zar (w:Wan):List AV:= [iv w.s,iv w.bits]
def zll (l:List Ev):AV:= .list false 9 (l.map evR)
def zb2 (l:List Ord):AV:= .list false 2 (l.map zb7)
def zb3 (l:List Mat):AV:= .list false 4 (l.map zck)
def zd3 (l:List Wan):AV:= .list false 2 (l.map zar)
def y8 (h:Hist):List AV:= [v7 h.ts,v7 h.ss,v7 h.os,v7 h.ps,zll h.evs,zb2 h.ords,zb3 h.mats,zd3 h.wants]
def zix (h:Hist):List AV:= [v7 h.ts,v7 h.ss,v7 h.os,v7 h.ps]
def zbe {α:Type} (p:α→Bool) (i:Nat):List α→Int
 | []=> -1
 |x::r=>if p x then i else zbe p (i+1) r
theorem zeo {α:Type} (p:α→Bool):∀(l:List α) (i:Nat),decide (zbe p i l ≥ 0)=l.any p
 | [],i=>by simp [zbe]
 |x::r,i=>by
  simp only [zbe,U5];split
  ·rename_i h;simp [h]
  rename_i h;simp [h,zeo p r (i+1)]
theorem zjj {α:Type} (p:α→Bool):∀(l:List α),(!l.any fun a=> !p a)=l.all p
 | []=>rfl
 |x::r=>by
  have:=zjj p r;simp only [U5,P4,Bool.not_or,Bool.not_not,this]
def zfu {α β:Type} (p:α→β→Bool):List α→List β→Bool
 |x::xs,y::ys=>p x y && zfu p xs ys
 |_,_=>true
theorem zet {α β:Type} (p:α→β→Bool) (m:List β):zfu p [] m=true:=by cases m <;> rfl
def eqF {α β:Type} (p:α→β→Bool) (l:List α) (m:List β):Bool:=l.length==m.length && zfu p l m
def zky (a b:Int):Bool:=a==b
def zkm (a b:ByteArray):Bool:=a.toList==b.toList
def zgj (a b:Seen):Bool:= [a.o,a.v.t,a.v.k]== [b.o,b.v.t,b.v.k]
def zr1 (a b:Wan):Bool:= [a.s,a.bits]== [b.s,b.bits]
theorem zj2 {b:Bool} (h:(!b)=true):b=false:=by simpa using h
theorem zj3 {b:Bool} (h:(!b)=false):b=true:=by simpa using h
theorem zhm {α:Type} [DecidableEq α] {p:α→α→Bool} (hp:∀a b,p a b=decide (a=b)):∀(l m:List α),eqF p l m=decide (l=m)
 | [],[]=>by simp [eqF,zfu]
 |x::xs,[]=>by simp [eqF]
 | [],y::ys=>by simp [eqF]
 |x::xs,y::ys=>by
  have:=zhm hp xs ys;simp only [eqF] at this;simp only [eqF,zfu,E6,hp];by_cases h:x=y
  ·subst h;simp only [decide_true,B9,P9,Z3];rw [←this];congr 1;simp
  simp [h]
def zkg (c:Int):Bool:=decide (c ≥ 48) && decide (c≤57)
def zue (c:Int):Bool:=c==95||(decide (c ≥ 97) && decide (c≤122))||(decide (c ≥ 65) && decide (c≤90))||decide (c ≥ 128)
def zb8 (l:List ByteArray) (n:Int):Bool:=decide (n ≥ 0) && decide (n < l.length)
def zon (ts:List ByteArray) (v:Ver):Bool:=if v.k==0 then v.t==0 else zb8 ts v.t && decide (v.k > 0) && decide (v.k≤999)
def yia (l:Int):Int:=if decide (l < 1)||decide (l > 4) then 190 else 0
def zjk (a b:Ev):Bool:=a.kind==b.kind && a.t==b.t && a.s==b.s && a.l==b.l && a.o==b.o && [a.v.t,a.v.k]== [b.v.t,b.v.k] && a.p==b.p && eqF zgj a.scan b.scan
def zm9 (a b:Ord):Bool:=a.o==b.o && eqF zky a.ts b.ts
def zsw (a b:Mat):Bool:=a.p==b.p && a.o==b.o && (a.first==b.first) && eqF zky a.ts b.ts
structure Lim (N:Nat) (h:Hist):Prop where
 ts:h.ts.length≤N
 ss:h.ss.length≤N
 os:h.os.length≤N
 ps:h.ps.length≤N
 evs:h.evs.length≤N
 ords:h.ords.length≤N
 mats:h.mats.length≤N
 wants:h.wants.length≤N
 scans:∀e∈h.evs,e.scan.length≤N
 ordts:∀o∈h.ords,o.ts.length≤N
 matts:∀m∈h.mats,m.ts.length≤N
structure Big (h:Hist):Prop where
 lim:Lim 4611686018427387904 h
 ts:h.ts.length≤8796093022208
 ss:h.ss.length≤8796093022208
 os:h.os.length≤8796093022208
 ps:h.ps.length≤8796093022208
 ords:h.ords.length≤4398046511104
 mats:h.mats.length≤2932031007402
 wants:h.wants.length≤8796093022208
 scans:∀e∈h.evs,e.scan.length≤5864062014805
 ordts:∀o∈h.ords,o.ts.length≤17592186044416
 matts:∀m∈h.mats,m.ts.length≤17592186044416
def nmK (h:Hist):Nat→List ByteArray
 |0=>h.ts
 |1=>h.ss
 |2=>h.os
 |_=>h.ps
theorem zp8 (h:Hist) {k:Nat} (hk:k < 4):(zix h)[k]? =some (v7 (nmK h k)):=by
 match k,hk with
 |0,_=>rfl
 |1,_=>rfl
 |2,_=>rfl
 |3,_=>rfl
theorem Lim.nm {N:Nat} {h:Hist} (l:Lim N h) (k:Nat):(nmK h k).length≤N:=by
 match k with
 |0=>exact l.ts
 |1=>exact l.ss
 |2=>exact l.os
 |k+3=>exact l.ps
def zp9 (a b:Hist) (k:Nat):Bool:=eqF zkm (nmK a k) (nmK b k)
def zn7 (a b:Hist):Bool:=(List.range 4).all (zp9 a b) && eqF zm9 a.ords b.ords && eqF zsw a.mats b.mats && eqF zr1 a.wants b.wants && eqF zjk a.evs b.evs
theorem yt3 {p:Nat→Bool} {n:Nat} (h:∀j,j < n→p j=true):(List.range n).all p=true:=by
 rw [B7];intro j hj;exact h j (H4.1 hj)
theorem ypj {p:Nat→Bool} {n k:Nat} (hk:k < n) (h:p k=false):(List.range n).all p=false:=by
 rw [V9];exact ⟨k,H4.2 hk,by simp [h]⟩
def zeu (h:Hist) (e:Ev):Bool:=zb8 h.ss e.s && yia e.l==0
def zbu (h:Hist) (e:Ev):Bool:=zb8 h.os e.o && zon h.ts e.v && e.v.t==e.t && decide (e.v.k > 0)
def ze3 (h:Hist) (e:Ev):Bool:=zb8 h.os e.o && zon h.ts e.v
def zgk (h:Hist) (s:Seen):Bool:=zb8 h.os s.o && zon h.ts s.v
def zdh (h:Hist) (e:Ev):Bool:=zb8 h.ps e.p && decide ((e.scan.length:Int)≤40) && e.scan.all (zgk h)
def zhf (h:Hist) (e:Ev):Ev×Bool:=
 if e.kind=1 then (⟨0,0,e.s,e.l,0,⟨0,0⟩,0,[]⟩,zeu h e) else
 if e.kind=2 then (⟨0,0,0,0,e.o,e.v,0,[]⟩,zbu h e) else
 if e.kind=3 then (⟨0,0,0,0,e.o,e.v,0,[]⟩,ze3 h e) else
 if e.kind=4 then (⟨0,0,0,0,0,⟨0,0⟩,e.p,e.scan⟩,zdh h e) else
 (⟨0,0,0,0,0,⟨0,0⟩,0,[]⟩,true)
def zcj (h:Hist) (e:Ev):Bool:=
 !(decide (e.kind < 1)||decide (e.kind ≥ 7)|| !zb8 h.ts e.t) && ((zhf h e).2 && zjk {(zhf h e).1 with kind:=e.kind,t:=e.t} e)
theorem yeo (h:Hist) (e:Ev) {N:Nat} (he:e.scan.length≤N):(zhf h e).1.scan.length≤N:=by
 unfold zhf;repeat' split
 all_goals simp [he]
def tsB (h:Hist) (ts:List Int):Bool:=decide ((ts.length:Int)≤300) && ts.all (zb8 h.ts)
def zrq (h:Hist) (r:Ord):Bool:=zb8 h.os r.o && tsB h r.ts
def zvo (h:Hist) (r:Mat):Bool:=zb8 h.ps r.p && zb8 h.os r.o && tsB h r.ts
def zut (h:Hist) (r:Wan):Bool:=zb8 h.ss r.s && decide (r.bits ≥ 0) && decide (r.bits≤15)
def bt (s:ByteArray) (i:Nat):Int:=if h:i < s.size then ((s[i]'h).toNat:Int) else 0
def zao (i:Nat):Int:=
 if i < 128 then 240 else if i < 194 then 241 else if i < 224 then 2 else if i=224 then 19 else if i < 237 then 3 else if i=237 then 35 else
 if i < 240 then 3 else if i=240 then 52 else if i < 244 then 4 else if i=244 then 68 else 241
def x6:List AV:=(List.range 256).map fun i=> .v (.int .u8 (zao i))
def zbr:Nat→Int
 |1=>160
 |3=>144
 |_=>128
def zbs:Nat→Int
 |2=>159
 |4=>143
 |_=>191
def y7:List AV:= [.v (.int .u8 128),.v (.int .u8 191),.v (.int .u8 160),.v (.int .u8 191),.v (.int .u8 128),.v (.int .u8 159),.v (.int .u8 144),.v (.int .u8 191),.v (.int .u8 128),.v (.int .u8 143)]++List.replicate 22 (.v (.int .u8 0))
def x3:List AV:= [iv 300,iv 60,iv 300,iv 60]
def bI (op:BinOp) (k:IntKind) (x y:Int):Int:=(yjd op k x y).getD 0
def sI (op:BinOp) (k:IntKind) (x y:Int):Int:=(zou op k x y).getD 0
def zdo (b m sh:Int):Int:=if sh=0 then IntKind.i32.wrap (bI .and .u8 b m) else sI .shl .i32 (IntKind.i32.wrap (bI .and .u8 b m)) sh
def zk2 (x:Int):Int:=sI .shr .i32 (sI .shl .i32 (IntKind.i32.wrap x) 31) 31
def x8 (s:ByteArray):Int×Int:=
 if s.size < 1 then (65533,0) else
 let x:=zao (bt s 0).toNat
 if x ≥ 240 then (bI .or .i32 (bI .andNot .i32 (IntKind.i32.wrap (bt s 0)) (zk2 x)) (bI .and .i32 65533 (zk2 x)),1) else
 let sz:=x % 8
 let acc:=(x / 16).toNat
 if (s.size:Int) < sz then (65533,1) else
 if bt s 1 < zbr acc∨zbs acc < bt s 1 then (65533,1) else
 if sz≤2 then (bI .or .i32 (zdo (bt s 0) 31 6) (zdo (bt s 1) 63 0),2) else
 if bt s 2 < 128∨191 < bt s 2 then (65533,1) else
 if sz≤3 then (bI .or .i32 (bI .or .i32 (zdo (bt s 0) 15 12) (zdo (bt s 1) 63 6)) (zdo (bt s 2) 63 0),3) else
 if bt s 3 < 128∨191 < bt s 3 then (65533,1) else
 (bI .or .i32 (bI .or .i32 (bI .or .i32 (zdo (bt s 0) 7 18) (zdo (bt s 1) 63 12)) (zdo (bt s 2) 63 6)) (zdo (bt s 3) 63 0),4)
def zfq (s:ByteArray):Int×Int:=if 0 < s.size∧bt s 0 < 128 then (bt s 0,1) else x8 s
theorem zhh (s:ByteArray) (i:Nat):0≤bt s i:=by unfold bt;split <;> omega
theorem zhg (s:ByteArray) (i:Nat):bt s i < 256:=by
 unfold bt;split
 ·rename_i h;have:=(s[i]'h).toNat_lt;omega
 omega
section
variable {P:Program} {dst:Option Tmp} {ty:TypeId} {pos:String} {after:Array Edge} {guard:Option (Nat×Bool)} {x y:Operand} {h:List Res} {f:Operand→Option AV}
theorem j4 {T:TypeId} (i:Nat) {s:ByteArray} (hx:f x=some (.v (.string s))) (hy:f y=some (.v (.int .i64 i))) [Und P T .string] (hi:i < s.size):
 QR P h f ⟨dst,.index T x y,ty,pos,after,guard⟩ (.v (.int .u8 (bt s i))):=by
 have:=zsn (P:=P) (h:=h) (T:=T) (dst:=dst) (ty:=ty) (pos:=pos) (after:=after) (guard:=guard) hx hy hi;have e:bt s i=((s[i]'hi).toNat:Int):=by simp [bt,hi]
 rw [e];exact this
theorem x4 {T E:TypeId} {n b o sz:Nat} {i:Int} {kk:IntKind} (hx:f x=some (.v (.pointer (some ⟨b,o,none⟩)))) (hy:f y=some (.v (.int kk i))) [Und P T (.array n E)] [Siz P E sz] (h0:0≤i) (hi:i < n):
 QR P h f ⟨dst,.indexAddr T x y,ty,pos,after,guard⟩ (.v (.pointer (some ⟨b,o+i.toNat * sz,none⟩))):=
 k9 (i:=i.toNat) hx (by rw [U8 h0];exact hy) (by omega)
end
theorem zde {i:Int} (h0:0≤i) (h1:i < 256):x6[0+i.toNat * 1]? =some (.v (.int .u8 (zao i.toNat))):=by
 simp [x6,show i.toNat < 256 by omega]
def ypw:Nat→Nat
 |0=>300
 |1=>60
 |2=>300
 |_=>60
theorem zvu {k:Nat} (hk:k < 4):x3[0+k * 1]? =some (iv (ypw k)):=by
 match k,hk with
 |0,_=>rfl
 |1,_=>rfl
 |2,_=>rfl
 |3,_=>rfl
theorem zey (i:Nat):zao i=240∨zao i=241∨zao i=2∨zao i=19∨zao i=3∨zao i=35∨zao i=52∨zao i=4∨zao i=68:=by
 unfold zao;repeat' split
 all_goals simp
theorem yep (s:ByteArray) (i:Nat):IntKind.i32.wrap (bt s i)=bt s i:=by
 have h0:=zhh s i;have h1:=zhg s i;have e:bt s i % (2 ^ IntKind.i32.bits:Int)=bt s i:=Int.emod_eq_of_lt h0 (show bt s i < 4294967296 by omega);unfold IntKind.wrap;simp only [e];rw [A0];intro q;have q2:bt s i ≥ (2 ^ (IntKind.i32.bits - 1):Int):=by simpa using (P1.1 q).2
 have:(2 ^ (IntKind.i32.bits - 1):Int)=2147483648:=by decide
 omega
theorem ya8 {s:ByteArray} (h:(s.toList !=(ByteArray.mk #[]).toList)=true):0 < s.size:=by
 refine Nat.pos_of_ne_zero fun q=>?_;have e:s=⟨#[]⟩:=by cases s;congr 1;exact Array.eq_empty_of_size_eq_zero q
 rw [e] at h;simp at h
theorem yjz {s:ByteArray} (h:(s.toList !=(ByteArray.mk #[]).toList)=false):¬0 < s.size:=by
 intro q;have e:s.toList=(ByteArray.mk #[]).toList:=by simpa using h
 rw [ByteArray.toList_eq,ByteArray.toList_eq] at e;have:s.size=0:=by
  have h2:=A4 List.length e;simpa using h2
 omega
def zr3 (s:ByteArray) (i:Nat) (c:Int):Bool:=c !=65533||decide ((zfq (s.extract i s.size)).2 > 1)
theorem zjm (s:ByteArray) (i:Nat):0 < (Utf8.decode s i).2:=by
 simp only [Utf8.decode];repeat' split
 all_goals simp
def zeg (s:ByteArray) (p:Nat→Int→Bool) (pos:Nat):Nat:=
 if h:pos < s.size then
  if p pos (Utf8.decode s pos).1 then zeg s p (pos+(Utf8.decode s pos).2) else pos
 else s.size
 termination_by s.size - pos
 decreasing_by have:=zjm s pos;omega
theorem zjn {s:ByteArray} {p:Nat→Int→Bool} {k:Nat} (h:k < s.size) (hp:p k (Utf8.decode s k).1=true):zeg s p k=zeg s p (k+(Utf8.decode s k).2):=by
 rw [zeg,W7 h,A6 hp]
theorem zi4 {s:ByteArray} {p:Nat→Int→Bool} {k:Nat} (h:k < s.size) (hp:p k (Utf8.decode s k).1=false):zeg s p k=k:=by
 rw [zeg,W7 h,A0 (by simp [hp])]
theorem zib {s:ByteArray} {p:Nat→Int→Bool} {k:Nat} (h:¬k < s.size):zeg s p k=s.size:=by
 rw [zeg,X7 h]
def zd9 (s:ByteArray) (goes:Int→Bool) (i:Nat) (c:Int):Bool:=zr3 s i c && goes c
def zdz (c:Int):Bool:=zue c||zkg c
def wordB (s:ByteArray):Bool:=(!(s.toList== [])) && decide ((s.size:Int)≤24) && (!zkg (bt s 0)) && ((zeg s (zd9 s zdz) 0:Int)==s.size)
def zbj:List ByteArray→List ByteArray→Bool
 |_,[]=>true
 |met,s::r=>wordB s && (!yak s met) && zbj (met++ [s]) r
def zcr (most:Nat) (l:List ByteArray):Bool:=decide ((l.length:Int)≤most) && zbj [] l
def zr7 (h:Hist):Bool:=decide ((h.evs.length:Int)≤3000) && decide (max (max (h.ords.length:Int) h.mats.length) h.wants.length≤3000)
def okK (h:Hist):Nat→Bool
 |0=>zr7 h
 |k+1=>okK h k && zcr (ypw k) (nmK h k)
def zaa (h:Hist):Bool:=
 okK h 4 && h.evs.all (zcj h) && h.ords.all (zrq h) && h.mats.all (zvo h) && h.wants.all (zut h)
theorem zxa (h:Hist):okK h 0=(decide (((h.evs.map evR).length:Int)≤3000) && decide (max (max ((h.ords.map zb7).length:Int) (h.mats.map zck).length) (h.wants.map zar).length≤3000)):=by
 simp [okK,zr7]
theorem zj1 {h:Hist} {k:Nat} (hk:okK h k=false):∀n,okK h (k+n)=false
 |0=>hk
 |n+1=>by
  have ih:=zj1 hk n;show (okK h (k+n) && _)=false;rw [ih,B0]
def okj (h:Hist) (k j:Nat):Bool:=okK h k && decide (((nmK h k).length:Int)≤ypw k)
theorem yj9 (h:Hist) (k:Nat):okj h k 0=(okK h k && decide ((((nmK h k).map zaq).length:Int)≤ypw k)):=by simp [okj]
theorem yvl {o:Bool} {l m r:List ByteArray} {x:ByteArray} (hf:zbj [] l=zbj m (x::r)) (h:(o && wordB x && !yak x m)=false):o=false∨zbj [] l=false:=by
 cases o with
 |false=>exact .inl rfl
 |true=>rw [B9] at h;rw [hf,zbj,h,B0];exact .inr rfl
theorem yrn {o a b:Bool} (h:(o && a && !b)=true):o=true∧a=true∧b=false:=by
 cases o <;> cases a <;> cases b <;> simp_all
theorem yrl {h:Hist} {k:Nat} (h0:zbj [] (nmK h k)=true):okj h k 0=okK h (k+1):=by
 simp [okj,okK,zcr,h0]
theorem yrm {h:Hist} {k:Nat} (hk:k < 4) (h0:okj h k 0=false∨zbj [] (nmK h k)=false):okK h 4=false:=by
 have h1:okK h (k+1)=false:=by
  rcases h0 with h0|h0
  ·simp only [okK,zcr];simp only [okj] at h0;rw [←N3,h0,B0]
  simp [okK,zcr,h0]
 have:=zj1 h1 (3 - k);rwa [show k+1+(3 - k)=4 by omega] at this
def zga (v:Ver):List (Nat×Int):=if decide (v.k > 0) then [(0,v.t)] else []
def zsc (s:Seen):List (Nat×Int):=(2,s.o)::zga s.v
def zgr (e:Ev):List (Nat×Int):=if e.kind=1 then [(1,e.s)] else if e.kind=2∨e.kind=3 then (2,e.o)::zga e.v else if e.kind=4 then [(3,e.p)] else []
theorem zvw {e:Ev} (h:e.kind=1):zgr e= [(1,e.s)]:=by rw [zgr,A6 h]
theorem znh {e:Ev} (h:e.kind=2∨e.kind=3):zgr e=(2,e.o)::zga e.v:=by rw [zgr,A0 (by omega),A6 h]
theorem yda {e:Ev} (h:e.kind=4):zgr e= [(3,e.p)]:=by rw [zgr,A0 (by omega),A0 (by omega),A6 h]
theorem ydb {e:Ev} (h1:e.kind≠1) (h2:e.kind≠2) (h3:e.kind≠3) (h4:e.kind≠4):zgr e= []:=by rw [zgr,A0 h1,A0 (by omega),A0 h4]
def evL (e:Ev):List (Nat×Int):=(0,e.t)::(zgr e++e.scan.flatMap zsc)
def tsL (l:List Int):List (Nat×Int):=l.map fun t=>(0,t)
def yfo (r:Ord):List (Nat×Int):=(2,r.o)::tsL r.ts
def yal (r:Mat):List (Nat×Int):=(3,r.p)::(2,r.o)::tsL r.ts
def zur (r:Wan):List (Nat×Int):= [(1,r.s)]
def zcn (h:Hist):List (Nat×Int):=h.evs.flatMap evL++(h.ords.flatMap yfo++(h.mats.flatMap yal++h.wants.flatMap zur))
def goes {σ α:Type} (step:σ→α→Option σ):Option σ→List α→Option σ
 |st,[]=>st
 |st,x::r=>goes step (st.bind fun s=>step s x) r
theorem zje {σ α:Type} (step:σ→α→Option σ):∀(l m:List α) (st:Option σ),goes step st (l++m)=goes step (goes step st l) m
 | [],m,st=>rfl
 |x::l,m,st=>zje step l m _
theorem zj7 {σ α:Type} (step:σ→α→Option σ):∀(l:List α),goes step none l=none
 | []=>rfl
 |x::l=>zj7 step l
def Rem {σ α:Type} (step:σ→α→Option σ) (ok:α→Prop) (st:Option σ) (l:List α) (F:Option σ):Prop:=goes step st l=F∧∀x∈l,ok x
section
variable {σ α:Type} {step:σ→α→Option σ} {ok:α→Prop} {st F:Option σ} {l m:List α} {x:α}
theorem Rem.cons (h:Rem step ok st (x::l) F):ok x∧Rem step ok (goes step st [x]) l F:=⟨h.2 x (by simp),h.1,fun y hy=>h.2 y (by simp [hy])⟩
theorem Rem.app (h:Rem step ok st (l++m) F):(∀x∈l,ok x)∧Rem step ok (goes step st l) m F:=⟨fun y hy=>h.2 y (by simp [hy]),by rw [←zje];exact h.1,fun y hy=>h.2 y (by simp [hy])⟩
theorem Rem.fin (h:Rem step ok st [] F):st=F:=h.1
end
def zah (m:List Int) (x:Nat×Int):Option (List Int):=
 let a:=m.getD x.1 0
 if x.2 > a then none else some (m.set x.1 (max a (x.2+1)))
def znf (h:Hist):Option (List Int):=goes zah (some [0,0,0,0]) (zcn h)
def zj6 (h:Hist):List Int:= [h.ts.length,h.ss.length,h.os.length,h.ps.length]
def zfy (h:Hist):Bool:=zaa h && (znf h==some (zj6 h))
def zee (h:Hist):Int:=if zfy h then 0 else 210
def hist0:Hist:=⟨[],[],[],[],[],[],[],[]⟩
def ofL (t:Int):Nat→List Ev→List Int
 |_,[]=> []
 |i,e::r=>if e.t=t then (i:Int)::ofL t (i+1) r else ofL t (i+1) r
def zyl (l:List Ev) (t:Int):Bool:=l.any fun e=>e.t==t && e.kind==1
def yvj (l:List Ev) (t:Int):Bool:=l.any fun e=>e.t==t && (e.kind==5||e.kind==6)
def yua (t:Nat):Ev:=⟨6,t,0,0,0,⟨0,0⟩,0,[]⟩
def yrk (h:Hist):List Nat:=(List.range h.ts.length).filter fun t=>zyl h.evs t && !yvj h.evs t
def ykv (h:Hist):Hist:={h with evs:=h.evs++(yrk h).map yua}
def yej (h:Hist):Int:=if zfy h then (if h.evs.length+(yrk h).length≤3000 then 0 else 6) else 210
def yku (h:Hist):Hist:=if yej h=0 then ykv h else hist0
def ofR (h:Hist) (t:Int):List Int:=if zfy h then ofL t 0 h.evs else []
def zr2 {σ α:Type} (f:σ→α→α×σ):σ→List α→List α×σ
 |s,[]=>([],s)
 |s,x::r=>((f s x).1::(zr2 f (f s x).2 r).1,(zr2 f (f s x).2 r).2)
section
variable {σ:Type} (f:σ→Nat→Int→Int×σ)
def ya3 (s:σ) (v:Ver):Ver×σ:=if decide (v.k > 0) then (⟨(f s 0 v.t).1,v.k⟩,(f s 0 v.t).2) else (v,s)
def yf5 (s:σ) (x:Seen):Seen×σ:=
 let a:=f s 2 x.o
 let b:=ya3 f a.2 x.v
 (⟨a.1,b.1⟩,b.2)
def yf6 (s:σ) (e:Ev):Ev×σ:=
 if e.kind=1 then let a:=f s 1 e.s;({e with s:=a.1},a.2) else
 if e.kind=2∨e.kind=3 then let a:=f s 2 e.o;let b:=ya3 f a.2 e.v;({e with o:=a.1,v:=b.1},b.2) else
 if e.kind=4 then let a:=f s 3 e.p;({e with p:=a.1},a.2) else (e,s)
def yp9 (s:σ) (e:Ev):Ev×σ:=
 let a:=f s 0 e.t
 let b:=yf6 f a.2 {e with t:=a.1}
 let c:=zr2 (yf5 f) b.2 e.scan
 ({b.1 with scan:=c.1},c.2)
def yjw (s:σ) (l:List Int):List Int×σ:=zr2 (fun s n=>f s 0 n) s l
def yls (s:σ) (r:Ord):Ord×σ:=
 let a:=f s 2 r.o
 let b:=yjw f a.2 r.ts
 (⟨a.1,b.1⟩,b.2)
def ylt (s:σ) (r:Mat):Mat×σ:=
 let a:=f s 3 r.p
 let b:=f a.2 2 r.o
 let c:=yjw f b.2 r.ts
 (⟨a.1,b.1,r.first,c.1⟩,c.2)
def ylr (s:σ) (r:Wan):Wan×σ:=let a:=f s 1 r.s;(⟨a.1,r.bits⟩,a.2)
def yuv (s:σ) (h:Hist):Hist×σ:=
 let a:=zr2 (yp9 f) s h.evs
 let b:=zr2 (yls f) a.2 h.ords
 let c:=zr2 (ylt f) b.2 h.mats
 let d:=zr2 (ylr f) c.2 h.wants
 ({h with evs:=a.1,ords:=b.1,mats:=c.1,wants:=d.1},d.2)
end
def zkr (n:Int):Nat→List Int→Option Nat
 |_,[]=>none
 |i,x::r=>if x=n then some i else zkr n (i+1) r
abbrev ypz:=List (List Int)
def ynk (k:ypz) (sort:Nat) (n:Int):Int×ypz:=
 match zkr n 0 (k.getD sort []) with
 |some i=>((i:Int),k)
 |none=>(((k.getD sort []).length:Int),k.set sort (k.getD sort []++ [n]))
def yvk:ypz:= [[],[],[],[]]
def zxp (l:List ByteArray) (n:Int):ByteArray:=l.getD n.toNat ⟨#[]⟩
def ynj (h:Hist):Hist:=
 let r:=yuv ynk yvk h
 {r.1 with ts:=(r.2.getD 0 []).map (zxp h.ts),ss:=(r.2.getD 1 []).map (zxp h.ss),os:=(r.2.getD 2 []).map (zxp h.os),ps:=(r.2.getD 3 []).map (zxp h.ps)}
def numR (h:Hist):Hist:=if zaa h then ynj h else hist0
def ywr (h:Hist):Int:=if zaa h then 0 else 210
theorem ybl (a b:Seen):zgj a b=decide (a=b):=by
 obtain ⟨ao,at_,ak⟩:=a;obtain ⟨bo,bt_,bk⟩:=b;simp only [zgj,Seen.mk.injEq,Ver.mk.injEq];by_cases h1:ao=bo <;> by_cases h2:at_=bt_ <;> by_cases h3:ak=bk <;> simp [h1,h2,h3]
theorem zv3 (a b:Ev):zjk a b=decide (a=b):=by
 obtain ⟨a1,a2,a3,a4,a5,⟨a6,a7⟩,a8,a9⟩:=a;obtain ⟨b1,b2,b3,b4,b5,⟨b6,b7⟩,b8,b9⟩:=b;simp only [zjk,zhm ybl,Ev.mk.injEq,Ver.mk.injEq];rw [K4];simp [and_assoc]
def OkN (h:Hist) (x:Nat×Int):Prop:=x.1 < 4∧0≤x.2∧x.2 < (nmK h x.1).length
theorem zcd (l:List ByteArray) (n:Int):zb8 l n=true ↔ 0≤n∧n < l.length:=by simp [zb8]
theorem zvq {h:Hist} {v:Ver} (hv:zon h.ts v=true):∀x∈zga v,OkN h x:=by
 intro x hx;unfold zga at hx;split at hx
 ·rename_i hk;have hk':v.k > 0:=oT hk;simp only [D7] at hx;subst hx;unfold zon at hv;rw [A0 (by simp;omega)] at hv;simp only [B5,zcd] at hv;exact ⟨by simp,hv.1.1.1,hv.1.1.2⟩
 simp at hx
theorem ymg {h:Hist} {s:Seen} (hs:zgk h s=true):∀x∈zsc s,OkN h x:=by
 simp only [zgk,B5,zcd] at hs;intro x hx;simp only [zsc,C9] at hx;rcases hx with rfl|hx
 ·exact ⟨by simp,hs.1.1,hs.1.2⟩
 exact zvq hs.2 x hx
theorem zep {h:Hist} {e:Ev} (he:zcj h e=true):1≤e.kind∧e.kind < 7∧zb8 h.ts e.t=true∧(zhf h e).2=true∧{(zhf h e).1 with kind:=e.kind,t:=e.t}=e:=by
 simp only [zcj,zv3,B5,N0,R4,G8,M3,V5] at he;exact ⟨by omega,by omega,he.1.2,he.2.1,he.2.2⟩
theorem yv8 {h:Hist} {e:Ev} (he:zcj h e=true):∀x∈evL e,OkN h x:=by
 obtain ⟨h1,h7,ht,hc,hq⟩:=zep he;have ht':=(zcd _ _).1 ht;intro x hx;simp only [evL,C9,D2] at hx;rcases hx with rfl|hx
 ·exact ⟨by simp,ht'.1,ht'.2⟩
 unfold zhf at hc hq;by_cases k1:e.kind=1
 ·rw [A6 k1] at hc hq;simp only [zeu,B5,zcd] at hc;have hs:e.scan= []:=by rw [←hq]
  rw [hs,zvw k1] at hx;simp only [D7,N7,S0,Z6] at hx;subst hx;exact ⟨by simp,hc.1.1,hc.1.2⟩
 rw [A0 k1] at hc hq;by_cases k2:e.kind=2
 ·rw [A6 k2] at hc hq;simp only [zbu,B5,zcd] at hc;have hs:e.scan= []:=by rw [←hq]
  rw [hs,znh (.inl k2)] at hx;simp only [C9,N7,S0,Z6] at hx;rcases hx with rfl|hx
  ·exact ⟨by simp,hc.1.1.1.1,hc.1.1.1.2⟩
  exact zvq hc.1.1.2 x hx
 rw [A0 k2] at hc hq;by_cases k3:e.kind=3
 ·rw [A6 k3] at hc hq;simp only [ze3,B5,zcd] at hc;have hs:e.scan= []:=by rw [←hq]
  rw [hs,znh (.inr k3)] at hx;simp only [C9,N7,S0,Z6] at hx;rcases hx with rfl|hx
  ·exact ⟨by simp,hc.1.1,hc.1.2⟩
  exact zvq hc.2 x hx
 rw [A0 k3] at hc hq;by_cases k4:e.kind=4
 ·rw [A6 k4] at hc hq;simp only [zdh,B5,zcd,B7] at hc;rw [yda k4] at hx;simp only [D7,O8] at hx;rcases hx with rfl|⟨s,hs,hx⟩
  ·exact ⟨by simp,hc.1.1.1,hc.1.1.2⟩
  exact ymg (hc.2 s hs) x hx
 rw [A0 k4] at hc hq;have hs:e.scan= []:=by rw [←hq]
 rw [hs,ydb k1 k2 k3 k4] at hx;simp at hx
theorem yp6 {h:Hist} {ts:List Int} (ht:tsB h ts=true):∀x∈tsL ts,OkN h x:=by
 simp only [tsB,B5,B7,zcd] at ht;intro x hx;simp only [tsL,H2] at hx;obtain ⟨t,h1,rfl⟩:=hx;exact ⟨by simp,(ht.2 t h1).1,(ht.2 t h1).2⟩
theorem zc6 {h:Hist} (hs:zaa h=true):okK h 4=true∧(∀e∈h.evs,zcj h e=true)∧(∀r∈h.ords,zrq h r=true)∧(∀r∈h.mats,zvo h r=true)∧∀r∈h.wants,zut h r=true:=by
 simp only [zaa,B5,B7] at hs;exact ⟨hs.1.1.1.1,hs.1.1.1.2,hs.1.1.2,hs.1.2,hs.2⟩
theorem zr9 {h:Hist} (hs:zaa h=true):∀x∈zcn h,OkN h x:=by
 obtain ⟨_,h1,h2,h3,h4⟩:=zc6 hs;intro x hx;simp only [zcn,D2,O8] at hx;rcases hx with ⟨e,he,hx⟩|⟨r,hr,hx⟩|⟨r,hr,hx⟩|⟨r,hr,hx⟩
 ·exact yv8 (h1 e he) x hx
 ·have:=h2 r hr;simp only [zrq,B5,zcd] at this;simp only [yfo,C9] at hx;rcases hx with rfl|hx
  ·exact ⟨by simp,this.1.1,this.1.2⟩
  exact yp6 this.2 x hx
 ·have:=h3 r hr;simp only [zvo,B5,zcd] at this;simp only [yal,C9] at hx;rcases hx with rfl|rfl|hx
  ·exact ⟨by simp,this.1.1.1,this.1.1.2⟩
  ·exact ⟨by simp,this.1.2.1,this.1.2.2⟩
  exact yp6 this.2 x hx
 have:=h4 r hr;simp only [zut,B5,zcd] at this;simp only [zur,D7] at hx;subst hx;exact ⟨by simp,this.1.1.1,this.1.1.2⟩
theorem yv1 {m:List Int} (hl:m.length=4) {k:Nat} (hk:k < 4):(m.map iv)[0+k * 1]? =some (iv (m.getD k 0)):=by
 have h:k < m.length:=by omega
 simp [h]
theorem yxa {m:List Int} (hl:m.length=4) {k:Nat} (hk:k < 4) (v:Int):(m.map iv).take (0+k * 1)++ [iv v]++(m.map iv).drop (0+k * 1+1)=(m.set k v).map iv:=by
 match m,hl with
 | [a,b,c,d],_=>
   match k,hk with
   |0,_=>rfl
   |1,_=>rfl
   |2,_=>rfl
   |3,_=>rfl
theorem yi8 {h:Hist} (hs:zaa h=false):zee h=210:=by simp [zee,zfy,hs]
theorem yad {h:Hist} (hm:znf h=none):zee h=210:=by
 have e:(znf h==some (zj6 h))=false:=by rw [hm];rfl
 rw [zee,zfy,e,C2];rfl
theorem yib (h:Hist) {k:Nat} (hk:k < 4):(zj6 h).getD k 0=(nmK h k).length:=by
 match k,hk with
 |0,_=>rfl
 |1,_=>rfl
 |2,_=>rfl
 |3,_=>rfl
theorem yi9 {h:Hist} {m:List Int} (hm:znf h=some m) {k:Nat} (hk:k < 4) (hne:m.getD k 0≠(nmK h k).length):zee h=210:=by
 have e:(znf h==some (zj6 h))=false:=by
  rw [hm];simp only [Option.some_beq_some,H1];rintro rfl;exact hne (yib h hk)
 rw [zee,zfy,e,C2];rfl
theorem yja {h:Hist} (hs:zaa h=true) {m:List Int} (hm:znf h=some m) (hl:m.length=4) (he:∀k,k < 4→m.getD k 0=(nmK h k).length):zee h=0:=by
 have e:m=zj6 h:=by
  match m,hl with
  | [a,b,c,d],_=>
    have h0:=he 0 (by omega);have h1:=he 1 (by omega);have h2:=he 2 (by omega);have h3:=he 3 (by omega);simp [nmK] at h0 h1 h2 h3;simp [zj6,h0,h1,h2,h3]
 rw [zee,zfy,hs,hm,e];simp
theorem yen {h:Hist}:zee h=0 ↔ zfy h=true:=by unfold zee;split <;> simp_all
def zuf (p:SV×Ev):List AV:= [iv p.2.kind,iv p.2.t,iv p.2.s,iv p.2.l,iv p.2.o,iv p.2.v.t,iv p.2.v.k,iv p.2.p,.v p.1.v]
def zp6 (p:SV×Ord):List AV:= [iv p.2.o,.v p.1.v]
def zsv (p:SV×Mat):List AV:= [iv p.2.p,iv p.2.o,bv p.2.first,.v p.1.v]
structure NV where
 vT:SV
 vS:SV
 vO:SV
 vP:SV
structure OH where
 vE:SV
 vR:SV
 vM:SV
 vW:SV
 ts:List ByteArray
 ss:List ByteArray
 os:List ByteArray
 ps:List ByteArray
 evs:List (SV×Ev)
 ords:List (SV×Ord)
 mats:List (SV×Mat)
 wants:List Wan
def scR (T:TypeId) (l:List (SV×Ev)):List Res:=l.map fun p=> .row p.1.v 3 T (p.2.scan.map zav)
def otR (T:TypeId) (l:List (SV×Ord)):List Res:=l.map fun p=> .row p.1.v 1 T (p.2.ts.map zag)
def mtR (T:TypeId) (l:List (SV×Mat)):List Res:=l.map fun p=> .row p.1.v 1 T (p.2.ts.map zag)
def zrr:AV:= .v (.slice none 0 0)
def zbd:List AV:= [zrr,zrr,zrr,zrr,zrr,zrr,zrr,zrr]
theorem zks {α:Type} {R:α→List AV} (h:∀a,(R a).all AV.one=true) (l:List α):∀r∈l.map R,r.all AV.one=true:=by
 intro r hr;obtain ⟨a,_,rfl⟩:=H2.1 hr;exact h a
theorem zna (l:List ByteArray):∀r∈l.map zaq,r.all AV.one=true:=zks (fun a=>rfl) l
theorem zja (l:List Int):∀r∈l.map zag,r.all AV.one=true:=zks (fun a=>rfl) l
theorem yhn (l:List Seen):∀r∈l.map zav,r.all AV.one=true:=zks (fun a=>rfl) l
theorem yj8 (l:List Ev):∀r∈l.map evR,r.all AV.one=true:=zks (fun a=>rfl) l
theorem ynh (l:List Ord):∀r∈l.map zb7,r.all AV.one=true:=zks (fun a=>rfl) l
theorem yni (l:List Mat):∀r∈l.map zck,r.all AV.one=true:=zks (fun a=>rfl) l
section
variable {α β:Type} {f:α→List AV} {g:β→List AV} {xs:List α} {l:List β} {k:Nat} {b:β} {a:α} {r:List AV}
theorem zqe (hl:xs.length=k) (hk:k≤l.length):(xs.map f++(l.drop k).map g).length=l.length:=by
 simp [hl];omega
theorem zqf (hl:xs.length=k) (hd:l.drop k=b::l.drop (k+1)):(xs.map f++(l.drop k).map g)[k]? =some (g b):=by
 rw [hd,J1 (by simp [hl])];simp [hl]
theorem zqc (hl:xs.length=k) (hd:l.drop k=b::l.drop (k+1)) (hr:r=f a):(xs.map f++(l.drop k).map g).set k r=(xs++ [a]).map f++(l.drop (k+1)).map g:=by
 subst hl hr;rw [hd,T6 _ _ (by simp)];simp
theorem zqd {snd:α→β} (h:xs.map snd=l.take k) (hk:k≤l.length):xs.length=k:=by
 have:=A4 List.length h;simp at this;omega
theorem zqb {snd:α→β} (h:xs.map snd=l.take k) (hk:k < l.length) (ha:snd a=l[k]):(xs++ [a]).map snd=l.take (k+1):=by
 rw [D9,h,A5 hk];simp [ha]
end
theorem zov {h:Hist} (hs:zaa h=true):Lim 3000 h:=by
 obtain ⟨h0,h1,h2,h3,h4⟩:=zc6 hs
 have hk:∀k,k < 4→okK h (k+1)=true:=fun k hk=>by
  cases hq:okK h (k+1) with
  |true=>rfl
  |false=>
   have:=zj1 hq (3 - k);rw [show k+1+(3 - k)=4 by omega,h0] at this;cases this
 have hn:∀k,k < 4→(nmK h k).length≤300:=fun k hk4=>by
  have:=hk k hk4;simp only [okK,zcr,B5,G8] at this;have h5:ypw k≤300:=by
   match k,hk4 with
   |0,_=>decide
   |1,_=>decide
   |2,_=>decide
   |3,_=>decide
  omega
 have hz:okK h 0=true:=by
  cases hq:okK h 0 with
  |true=>rfl
  |false=>have:=zj1 hq 4;rw [h0] at this;cases this
 simp only [okK,zr7,B5,G8] at hz;refine ⟨by have:=hn 0 (by omega);simp [nmK] at this;omega,by have:=hn 1 (by omega);simp [nmK] at this;omega,by have:=hn 2 (by omega);simp [nmK] at this;omega,by have:=hn 3 (by omega);simp [nmK] at this;omega,by omega,by omega,by omega,by omega,fun e he=>?_,fun o ho=>?_,fun m hm=>?_⟩
 ·obtain ⟨_,_,_,hc,hq⟩:=zep (h1 e he);rw [←hq];show (zhf h e).1.scan.length≤3000;unfold zhf at hc ⊢;repeat' split
  all_goals first|(simp only [F3];omega)|skip
  rename_i g1 g2 g3 g4;rw [A0 g1,A0 g2,A0 g3,A6 g4] at hc;simp only [zdh,B5,G8] at hc;show e.scan.length≤3000;omega
 ·have:=h2 o ho;simp only [zrq,tsB,B5,G8] at this;omega
 have:=h3 m hm;simp only [zvo,tsB,B5,G8] at this;omega
theorem Lim.mono {N M:Nat} {h:Hist} (l:Lim N h) (hm:N≤M):Lim M h:=
 ⟨B8 l.ts hm,B8 l.ss hm,B8 l.os hm,B8 l.ps hm,B8 l.evs hm,B8 l.ords hm,B8 l.mats hm,B8 l.wants hm,fun e he=>B8 (l.scans e he) hm,fun e he=>B8 (l.ordts e he) hm,fun e he=>B8 (l.matts e he) hm⟩
section
variable {σ α:Type} (f:σ→Nat→Int→Int×σ)
end
section
variable {α:Type} {f:α→List AV} {A B:List α} {k:Nat} {b a:α} {r:List AV}
end
def yvn:SV:=⟨none,0,0⟩
structure KOk (h:Hist) (k:ypz):Prop where
 four:k.length=4
 nd:∀s,(k.getD s []).Nodup
 lt:∀s,∀n∈k.getD s [],0≤n∧n < (nmK h s).length
section
variable {w:World} {O O':Nat→Prop}
def CT (w:World) (O O':Nat→Prop):List AV→List AV→Prop
 | [],[]=>True
 |a::xs,b::bs=>(∀u,Rel w O a u→Rel w O' b u)∧CT w O O' xs bs
 |_,_=>False
theorem CT.len:∀{xs bs:List AV},CT w O O' xs bs→bs.length=xs.length
 | [],[],_=>rfl
 |_::_,_::_,h=>by simp [CT.len h.2]
 | [],_::_,h=>h.elim
 |_::_,[],h=>h.elim
theorem CT.get:∀{xs bs:List AV},CT w O O' xs bs→∀j (k:j < xs.length) (k':j < bs.length) u,Rel w O xs[j] u→Rel w O' bs[j] u
 |_::_,_::_,h,0,_,_,u,r=>h.1 u r
 |_::_,_::_,h,j+1,k,k',u,r=>CT.get h.2 j (by simpa using k) (by simpa using k') u r
theorem sc (x:Value):∀u,Rel w O (.v x) u→Rel w O' (.v x) u:=fun u r=>(Scal.v x).rel r
theorem sn {x:Value} {b:AV} (h:Rel w O' b x):∀u,Rel w O (.v x) u→Rel w O' b u:=fun u r=>by rw [r.v_eq];exact h
theorem ya4 {X:Nat→Prop} {H:List Res} (hh:HRel X w H) {s:Value} {sz:Nat} {T:TypeId} {α:Type} {f g:α→List AV} {l:List α} (hm: .row s sz T (l.map f)∈H) (hO:∀b∈(Res.row s sz T (l.map f)).own,¬O' b)
 (hc:∀a∈l,CT w (OO H X) O' (f a) (g a)):Rel w O' (.list false sz (l.map g)) s:=by
 refine zu3 hh hm hO (by simp) (fun i h h'=>?_) (fun i h h' j k k' u r=>?_)
 ·simp only [H7];exact (hc _ (D0 _)).len
 simp only [H7] at k k' r ⊢;exact (hc _ (D0 _)).get j k k' u r
end
def bT:ByteArray:=⟨#[116]⟩
def bS:ByteArray:=⟨#[115]⟩
def bX:ByteArray:=⟨#[120]⟩
def bY:ByteArray:=⟨#[121]⟩
def zit:Hist:=⟨[bT],[bS],[bX],[],[⟨1,0,0,1,0,⟨0,0⟩,0,[]⟩,⟨2,0,0,0,0,⟨0,1⟩,0,[]⟩,⟨5,0,0,0,0,⟨0,0⟩,0,[]⟩],[],[],[]⟩
def cutS (s:ByteArray):ByteArray:=s.extract 0 (min s.size 40)
def zn4 (most:Nat) (l:List ByteArray):List ByteArray:=(l.take most).map cutS
theorem take_min {α β:Type} (f:α→β) (l:List α) (n:Nat):(l.map f).take (min l.length n)=(l.take n).map f:=by
 rw [←L6];rcases Nat.le_total l.length n with h|h
 ·rw [K3 h,M7 (C5 _),M7 h]
 rw [U4 h]
theorem ylv {α:Type} {l:List α} {k n:Nat} {e:α} (h:k < l.length) (hn:k < n) (he:e=l[k]):l.take (min (k+1) n)=l.take (min k n)++ [e]:=by
 rw [K3 (by omega),K3 (by omega),A5 h,he]
theorem ylu {α:Type} {l:List α} {k n:Nat} (hn:¬k < n):l.take (min (k+1) n)=l.take (min k n):=by
 rw [U4 (by omega),U4 (by omega)]
theorem ya6 {α:Type} (l:List α) (n:Nat):l.take (min l.length n)=l.take n:=by
 rcases Nat.le_total l.length n with h|h
 ·rw [K3 h,M7 (C5 _),M7 h]
 rw [U4 h]
theorem ya5 {α:Type} (l:List α) (k n:Nat):(l.take (min k n)).length≤n:=by simp;omega
theorem toList_inj {a b:ByteArray} (h:a.toList=b.toList):a=b:=by
 rw [ByteArray.toList_eq,ByteArray.toList_eq] at h;cases a;cases b;congr 1;exact Array.ext' h
theorem zwx (a b:ByteArray):zkm a b=decide (a=b):=by
 unfold zkm;by_cases h:a=b
 ·subst h;simp
 rw [I9 h,H1];exact fun q=>h (toList_inj q)
theorem zmd (a b:Int):zky a b=decide (a=b):=rfl
theorem yf1 (a b:Wan):zr1 a b=decide (a=b):=by
 obtain ⟨a1,a2⟩:=a;obtain ⟨b1,b2⟩:=b;rw [K4];simp [zr1]
theorem yhm (a b:Ord):zm9 a b=decide (a=b):=by
 obtain ⟨a1,a2⟩:=a;obtain ⟨b1,b2⟩:=b;rw [K4];simp [zm9,zhm zmd]
theorem yhz (a b:Mat):zsw a b=decide (a=b):=by
 obtain ⟨a1,a2,a3,a4⟩:=a;obtain ⟨b1,b2,b3,b4⟩:=b;rw [K4];simp [zsw,zhm zmd,and_assoc]
theorem zmw (a b:Hist):zn7 a b=true ↔ a=b:=by
 obtain ⟨a1,a2,a3,a4,a5,a6,a7,a8⟩:=a;obtain ⟨b1,b2,b3,b4,b5,b6,b7,b8⟩:=b;have e:(List.range 4).all (zp9 ⟨a1,a2,a3,a4,a5,a6,a7,a8⟩ ⟨b1,b2,b3,b4,b5,b6,b7,b8⟩)=(decide (a1=b1) && decide (a2=b2) && decide (a3=b3) && decide (a4=b4)):=by
  simp [S3,zp9,nmK,zhm zwx,N3]
 simp only [zn7,e,zhm yhm,zhm yhz,zhm yf1,zhm zv3,B5,G8,Hist.mk.injEq];constructor
 ·rintro ⟨⟨⟨⟨⟨⟨⟨h1,h2⟩,h3⟩,h4⟩,h6⟩,h7⟩,h8⟩,h5⟩;exact ⟨h1,h2,h3,h4,h5,h6,h7,h8⟩
 rintro ⟨h1,h2,h3,h4,h5,h6,h7,h8⟩;exact ⟨⟨⟨⟨⟨⟨⟨h1,h2⟩,h3⟩,h4⟩,h6⟩,h7⟩,h8⟩,h5⟩
theorem zy6 (a:Hist):zn7 a a=true:=(zmw a a).2 rfl
theorem zlw {s:ByteArray} {c:Nat} (h1:s.size=1) (hc:c < 128) (hl:zue c=true) (hd:Utf8.decode s 0=(c,1)) (hne:(s.toList== [])=false) (hb:bt s 0=c) (hn:zkg c=false):wordB s=true:=by
 have hp:zd9 s zdz 0 ((Utf8.decode s 0).1:Nat)=true:=by
  rw [hd];have h2:(((c:Nat):Int) !=65533)=true:=by simp;omega
  simp only [zd9,zr3,zdz,hl,h2,D1,E3]
 have hw:zeg s (zd9 s zdz) 0=s.size:=by
  rw [zjn (by omega) hp,hd];exact zib (by simp;omega)
 simp only [wordB,hne,hb,hn,hw,h1];decide
theorem yaq:wordB bT=true:=zlw (c:=116) rfl (by decide) (by decide) (by decide) (by rw [ByteArray.toList_eq];rfl) (by decide) (by decide)
theorem yar:wordB bS=true:=zlw (c:=115) rfl (by decide) (by decide) (by decide) (by rw [ByteArray.toList_eq];rfl) (by decide) (by decide)
theorem yap:wordB bX=true:=zlw (c:=120) rfl (by decide) (by decide) (by decide) (by rw [ByteArray.toList_eq];rfl) (by decide) (by decide)
theorem yp0:wordB bY=true:=zlw (c:=121) rfl (by decide) (by decide) (by decide) (by rw [ByteArray.toList_eq];rfl) (by decide) (by decide)
def zvi:Hist:={zit with evs:=zit.evs.take 2}
def zo2:Hist:={zit with os:= [bY,bX],evs:= [⟨1,0,0,1,0,⟨0,0⟩,0,[]⟩,⟨2,0,0,0,1,⟨0,1⟩,0,[]⟩,⟨5,0,0,0,0,⟨0,0⟩,0,[]⟩]}
theorem xy:yak bX [bY]=false:=by decide
theorem zr8:zaa zit=true:=by
 have h:okK zit 4=true:=by
  simp only [okK,nmK,zcr,zit,zbj,yaq,yar,yap,T7,F3];decide
 rw [zaa,h];decide
theorem zuz:zaa zvi=true:=by
 have h:okK zvi 4=true:=by
  simp only [okK,nmK,zcr,zvi,zit,zbj,yaq,yar,yap,T7,F3];decide
 rw [zaa,h];decide
theorem zla:zaa zo2=true:=by
 have h:okK zo2 4=true:=by
  simp only [okK,nmK,zcr,zo2,zit,zbj,yaq,yar,yap,yp0,E6,F3,E7,xy];decide
 rw [zaa,h];decide
theorem ycv:zfy zit=true:=by rw [zfy,zr8];decide
theorem yhv:zfy zvi=true:=by rw [zfy,zuz];decide
theorem w1:yej zvi=0:=by rw [yej,yhv];decide
theorem w2:ofR zit 0= [0,1,2]:=by rw [ofR,ycv];decide
theorem w3:ywr zo2=0:=by rw [ywr,zla];rfl
theorem w4:zee zo2=210:=by
 have:zfy zo2=false:=by rw [zfy,zla];decide
 rw [zee,this];rfl
theorem w5:yku zvi=ykv zvi:=by rw [yku,A6 w1]
def isB (n m:Int):Bool:=decide (n ≥ 0) && decide (n < m)
def zf0 (v:Ver) (m:Int):Bool:=v.t==0 && v.k==0||isB v.t m && decide (v.k ≥ 1) && decide (v.k≤999)
def atI (n:Int):Nat→List Int→Int
 |_,[]=> -1
 |i,x::r=>if x=n then (i:Int) else atI n (i+1) r
def zs3 (c:Int):Bool:=(decide (c ≥ 97) && decide (c≤122))||(decide (c ≥ 65) && decide (c≤90))||c==95||decide (c ≥ 128)
def zwg (e:Ev):Ev:=⟨e.kind,e.t,0,0,0,⟨0,0⟩,0,[]⟩
def ziu (l:Int):Bool:=decide (l ≥ 1) && decide (l≤4)
def zbz (h:Hist) (s:Seen):Bool:=isB s.o h.os.length && zf0 s.v h.ts.length
def zkp (h:Hist) (e:Ev):Bool:=
 if isB e.t h.ts.length=false then false else
 if e.kind=1 then zjk {zwg e with s:=e.s,l:=e.l} e && isB e.s h.ss.length && ziu e.l else
 if e.kind=2∨e.kind=3 then (if (e.kind==2 && (decide (e.v.k < 1)||e.v.t !=e.t))=true then false else zjk {zwg e with o:=e.o,v:=e.v} e && isB e.o h.os.length && zf0 e.v h.ts.length) else
 if e.kind=4 then (if e.scan.all (zbz h)=false then false else zjk {zwg e with p:=e.p,scan:=e.scan} e && isB e.p h.ps.length && decide ((e.scan.length:Int)≤40)) else
 zjk (zwg e) e && (e.kind==5||e.kind==6)
def zg2 (h:Hist) (l:List Int):Bool:=if l.all (fun t=>isB t h.ts.length)=false then false else decide ((l.length:Int)≤300)
theorem zeb (l:List ByteArray) (n:Int):isB n l.length=zb8 l n:=rfl
theorem yju (ts:List ByteArray) (v:Ver):zf0 v ts.length=zon ts v:=by
 unfold zf0 zon;rw [zeb];by_cases hk:v.k=0
 ·simp [hk]
 have h1:decide (v.k ≥ 1)=decide (v.k > 0):=by simp;omega
 simp [hk,h1]
theorem ymh (h:Hist) (s:Seen):zbz h s=zgk h s:=by
 unfold zbz zgk;rw [zeb,yju]
theorem yr2 (l:Int):ziu l=(yia l==0):=by
 unfold ziu yia;by_cases h1:l < 1 <;> by_cases h2:l > 4 <;> simp [h1,h2] <;> omega
theorem yp7 (h:Hist) (l:List Int):zg2 h l=tsB h l:=by
 unfold zg2 tsB;have e:(fun t=>isB t h.ts.length)=zb8 h.ts:=by funext t;exact zeb _ _
 rw [e];cases l.all (zb8 h.ts) <;> simp
theorem evB {h:Hist} {e:Ev} (h1:1≤e.kind) (h7:e.kind < 7) (ht:zb8 h.ts e.t=true):zcj h e=((zhf h e).2 && zjk {(zhf h e).1 with kind:=e.kind,t:=e.t} e):=by
 unfold zcj;have hk:(decide (e.kind < 1)||decide (e.kind ≥ 7)|| !zb8 h.ts e.t)=false:=by
  rw [ht];simp;omega
 rw [hk];simp
theorem zy9 (h:Hist) (e:Ev):zkp h e=zcj h e:=by
 have es:zbz h=zgk h:=by funext s;exact ymh h s
 unfold zkp;rw [zeb,zeb,zeb,zeb,yju,es,yr2];by_cases ht:zb8 h.ts e.t=true
 ·rw [A0 (by simp [ht])];by_cases k1:e.kind=1
  ·rw [A6 k1,evB (by omega) (by omega) ht];unfold zhf;rw [A6 k1];show (zjk ⟨e.kind,e.t,e.s,e.l,0,⟨0,0⟩,0,[]⟩ e && zb8 h.ss e.s && (yia e.l==0))=((zb8 h.ss e.s && yia e.l==0) && zjk ⟨e.kind,e.t,e.s,e.l,0,⟨0,0⟩,0,[]⟩ e);rw [N3,U6]
  by_cases k2:e.kind=2
  ·rw [A0 k1,A6 (.inl k2),evB (by omega) (by omega) ht];unfold zhf;rw [A0 k1,A6 k2];have e2:(e.kind==2)=true:=by simp [k2]
   rw [e2,B9];show (if (decide (e.v.k < 1)||e.v.t !=e.t)=true then false else zjk ⟨e.kind,e.t,0,0,e.o,e.v,0,[]⟩ e && zb8 h.os e.o && zon h.ts e.v)=((zb8 h.os e.o && zon h.ts e.v && e.v.t==e.t && decide (e.v.k > 0)) && zjk ⟨e.kind,e.t,0,0,e.o,e.v,0,[]⟩ e);have e3:decide (e.v.k > 0)= !decide (e.v.k < 1):=by
    by_cases q:e.v.k < 1
    ·rw [I4 q,I9 (by omega)];rfl
    rw [I9 q,I4 (by omega)];rfl
   have e4:(e.v.t==e.t)= !(e.v.t !=e.t):=by unfold bne;cases (e.v.t==e.t) <;> rfl
   rw [e3,e4];generalize zjk _ e=a;generalize zb8 h.os e.o=b;generalize zon h.ts e.v=c;generalize decide (e.v.k < 1)=d;generalize (e.v.t !=e.t)=f;revert a b c d f;decide
  by_cases k3:e.kind=3
  ·rw [A0 k1,A6 (.inr k3),evB (by omega) (by omega) ht];unfold zhf;rw [A0 k1,A0 k2,A6 k3];have e2:(e.kind==2)=false:=by simp [k3]
   rw [e2,B0,A0 (by decide)];show (zjk ⟨e.kind,e.t,0,0,e.o,e.v,0,[]⟩ e && zb8 h.os e.o && zon h.ts e.v)=((zb8 h.os e.o && zon h.ts e.v) && zjk ⟨e.kind,e.t,0,0,e.o,e.v,0,[]⟩ e);rw [N3,U6]
  have k23:¬(e.kind=2∨e.kind=3):=fun q=>q.elim k2 k3;by_cases k4:e.kind=4
  ·rw [A0 k1,A0 k23,A6 k4,evB (by omega) (by omega) ht];unfold zhf;rw [A0 k1,A0 k2,A0 k3,A6 k4];show (if e.scan.all (zgk h)=false then false else zjk ⟨e.kind,e.t,0,0,0,⟨0,0⟩,e.p,e.scan⟩ e && zb8 h.ps e.p && decide ((e.scan.length:Int)≤40))=((zb8 h.ps e.p && decide ((e.scan.length:Int)≤40) && e.scan.all (zgk h)) && zjk ⟨e.kind,e.t,0,0,0,⟨0,0⟩,e.p,e.scan⟩ e);generalize zjk _ e=a;generalize zb8 h.ps e.p=b;generalize decide ((e.scan.length:Int)≤40)=c;generalize e.scan.all (zgk h)=d;revert a b c d;decide
  rw [A0 k1,A0 k23,A0 k4];by_cases hr:1≤e.kind∧e.kind < 7
  ·rw [evB hr.1 hr.2 ht];unfold zhf;rw [A0 k1,A0 k2,A0 k3,A0 k4];show (zjk ⟨e.kind,e.t,0,0,0,⟨0,0⟩,0,[]⟩ e && (e.kind==5||e.kind==6))=(true && zjk ⟨e.kind,e.t,0,0,0,⟨0,0⟩,0,[]⟩ e);have e5:(e.kind==5||e.kind==6)=true:=by simp;omega
   rw [e5,E3,B9]
  have e5:(e.kind==5||e.kind==6)=false:=by simp;omega
  have e6:zcj h e=false:=by
   unfold zcj;have hk:(decide (e.kind < 1)||decide (e.kind ≥ 7)|| !zb8 h.ts e.t)=true:=by rw [ht];simp;omega
   rw [hk];rfl
  rw [e5,e6,C2]
 rw [A6 (by simpa using ht)];unfold zcj;simp [ht]
set_option maxRecDepth 20000
theorem zwo {c:Nat} (h:c < 55296):Utf8.valid (c:Int)=true:=by
 unfold Utf8.valid;have a:decide ((0:Int)≤(c:Int))=true:=I4 (by omega);have b:decide ((c:Int) < 0xD800)=true:=I4 (by omega);rw [a,b];rfl
theorem zhd {c:Nat} (hv:Utf8.valid (c:Int)=true):(Utf8.encode (c:Int)).size=if c < 128 then 1 else if c < 2048 then 2 else if c < 65536 then 3 else 4:=by
 unfold Utf8.encode;rw [A6 hv];simp only [J9];repeat' split
 all_goals first|rfl|omega
theorem yi4 (s:ByteArray) (i:Nat) (h:¬((Utf8.decode s i).1=65533∧(Utf8.decode s i).2=1)):(Utf8.encode ((Utf8.decode s i).1:Nat)).size=(Utf8.decode s i).2:=by
 unfold Utf8.decode at h ⊢;dsimp only at h ⊢;split at h
 ·rename_i h0;rw [A6 h0,zhd (zwo (by omega)),A6 (by omega)]
 rename_i h0;rw [A0 h0];split at h
 ·rename_i h1;rw [A6 h1];split at h
  ·rename_i h2;rw [A6 h2,zhd (zwo (by omega)),A0 (by omega),A6 (by omega)]
  exact absurd ⟨rfl,rfl⟩ h
 rename_i h1;rw [A0 h1];split at h
 ·rename_i h2;rw [A6 h2];split at h
  ·rename_i h3;rw [A6 h3];have h4:=(P1.1 h3).2;have h5:=(P1.1 h3).1;simp only [Y1,G8] at h5;rw [zhd h4,A0 (by omega),A0 (by omega),A6 (by omega)]
  exact absurd ⟨rfl,rfl⟩ h
 rename_i h2;rw [A0 h2];split at h
 ·rename_i h3;rw [A6 h3];split at h
  ·rename_i h4;rw [A6 h4];have h5:=(P1.1 h4).2;have h6:=(P1.1 h4).1;simp only [Y1,G8] at h6;rw [zhd h5,A0 (by omega),A0 (by omega),A0 (by omega)]
  exact absurd ⟨rfl,rfl⟩ h
 exact absurd ⟨rfl,rfl⟩ h
def zci (s:ByteArray):Int×Int:=
 if ¬0 < s.size then (-1,0) else
 if (Utf8.decode s 0).1=65533∧(s.size < 3∨(s.extract 0 3).toList≠ [239,191,189]) then (-1,1) else
 ((Utf8.decode s 0).1,(Utf8.encode ((Utf8.decode s 0).1:Nat)).size)
theorem yok (s:ByteArray) (i k:Nat):(s.extract i s.size).get! (0+k)=s.get! (i+k):=by
 rw [H9];have hs:(s.extract i s.size).size=s.size - i:=by simp
 by_cases h:i+k < s.size
 ·have h2:k < (s.extract i s.size).size:=by omega
  show (s.extract i s.size).data[k]! =s.data[i+k]!;have e1:(s.extract i s.size).data[k]? =s.data[i+k]? :=by
   simp [ByteArray.extract,ByteArray.copySlice,A0l];omega
  simp only [getElem!_def,e1]
 show (s.extract i s.size).data[k]! =s.data[i+k]!;have a:(s.extract i s.size).data[k]? =none:=by
  rw [W0];show (s.extract i s.size).size≤k;omega
 have b:s.data[i+k]? =none:=by
  rw [W0];show s.size≤i+k;omega
 simp only [getElem!_def,a,b]
theorem yo2 (s:ByteArray) (i:Nat):Utf8.decode (s.extract i s.size) 0=Utf8.decode s i:=by
 have hc:∀k,decide (0+k < (s.extract i s.size).size)=decide (i+k < s.size):=fun k=>by
  have hs:(s.extract i s.size).size=s.size - i:=by simp
  rw [hs];simp;omega
 unfold Utf8.decode;simp only [yok,hc]
theorem zyg {s:ByteArray} (h:(Utf8.decode s 0).1=65533):(Utf8.decode s 0).2=1∨((Utf8.decode s 0).2=3∧2 < s.size∧(s.get! 0).toNat=239∧(s.get! 1).toNat=191∧(s.get! 2).toNat=189):=by
 unfold Utf8.decode at h ⊢;dsimp only at h ⊢;simp only [H9] at h ⊢;split at h
 ·rename_i h0;simp only at h;omega
 rename_i h0;rw [A0 h0];split at h
 ·rename_i h1;rw [A6 h1];split at h
  ·rename_i h2;simp only at h;omega
  rename_i h2;rw [A0 h2];exact .inl rfl
 rename_i h1;rw [A0 h1];split at h
 ·rename_i h2;rw [A6 h2];split at h
  ·rename_i h3;rw [A6 h3];simp only [B5,G8,K7] at h2;simp only at h;exact .inr ⟨rfl,by omega,by omega,by omega,by omega⟩
  rename_i h3;rw [A0 h3];exact .inl rfl
 rename_i h2;rw [A0 h2];split at h
 ·rename_i h3;rw [A6 h3];split at h
  ·rename_i h4;have h6:=(P1.1 h4).1;simp only [Y1,G8] at h6;simp only at h;omega
  rename_i h4;rw [A0 h4];exact .inl rfl
 rename_i h3;rw [A0 h3];exact .inl rfl
end Go.H
