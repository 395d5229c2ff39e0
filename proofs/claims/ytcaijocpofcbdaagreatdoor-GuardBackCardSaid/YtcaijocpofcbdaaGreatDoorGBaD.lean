/- The abstract logic, part 29: regions that draw their order, with operations that change memory among them. Conditions: the program draws freely .. -/
import Derived.Test.YtcaijocpofcbdaaGreatDoorGBaC
set_option linter.unusedSimpArgs false
set_option linter.unusedVariables false
namespace Go.Ab
open Go
def mem? (i:Nat) (l:List Nat):Bool:=l.any (Nat.beq i)
theorem mem?_iff {i:Nat} {l:List Nat}:mem? i l=true ↔ i∈l:=by
 rw [mem?,List.any_eq_true]
 constructor
 ·rintro ⟨x,hx,e⟩;rw [Nat.eq_of_beq_eq_true e];exact hx
 ·intro h;exact ⟨i,h,by simp⟩
def zoy:List Nat→Bool
 | []=>true
 |i::r=> !mem? i r && zoy r
theorem zkl:∀{l:List Nat},zoy l=true→l.Nodup
 | [],_=> .nil
 |i::r,h=>by
  simp only [zoy,Bool.and_eq_true,Bool.not_eq_true'] at h
  exact List.nodup_cons.2 ⟨fun hm=>(by rw [mem?_iff.2 hm] at h;cases h.1),zkl h.2⟩
def zmv (l:List Oper) (n:Nat) (eff late:List Nat):Bool:=
 (late.all fun i=> !mem? i eff && Nat.blt i n && eff.all fun j=>(zjr l i (q9 l i)).any (Nat.beq j)) && zoy late &&
 Nat.ble n l.length &&
 ((List.range l.length).all fun i=>(q9 l i).all fun j=>Nat.blt j i) &&
 ((List.range n).all fun i=>match l[i]? with
   |some o=>(match o.dst with
    |some d=>((List.range n).all fun j=>Nat.beq j i||match u7 l j with
     |some d'=> !Nat.beq d d'
     |none=>true)
    |none=>mem? i eff) && (!mem? i eff||(match o.guard with
     |none=>true
     |some _=>false))
   |none=>false) &&
 ((List.range l.length).all fun t=>Nat.blt t n||(List.range t).all fun j=>(zjr l t (q9 l t)).any (Nat.beq j))
structure SoupD (l:List Oper) (n:Nat) (eff late:List Nat):Prop extends SoupT l n where
 lat:∀i∈late,i ∉ eff∧i < n∧∀j∈eff,j∈zjr l i (q9 l i)
 lnd:late.Nodup
 dst:∀i,i < n→∃o,l[i]? =some o∧(i ∉ eff→∃d,o.dst=some d)∧(i∈eff→o.guard=none)∧∀d,o.dst=some d→∀j,j < n→j≠i→∀d',u7 l j=some d'→d≠d'
theorem zmw {l:List Oper} {n:Nat} {eff late:List Nat} (hc:zmv l n eff late=true):SoupD l n eff late:=by
 simp only [zmv,Bool.and_eq_true,List.all_eq_true,List.mem_range] at hc
 obtain ⟨⟨⟨⟨⟨h5,h6⟩,h1⟩,h2⟩,h3⟩,h4⟩:=hc
 refine ⟨⟨Nat.le_of_ble_eq_true h1,fun i hi j hj=>Nat.le_of_ble_eq_true (h2 i hi j hj),fun t ht htl j hj=> ?_⟩,fun i hi=> ?_,zkl h6,fun i hi=> ?_⟩
 rotate_left
 ·obtain ⟨⟨g1,g2⟩,g3⟩:=h5 i hi
  refine ⟨fun hm=>(by rw [mem?_iff.2 hm] at g1;cases g1),Nat.le_of_ble_eq_true g2,fun j hj=> ?_⟩
  obtain ⟨x,hx,e⟩:=List.any_eq_true.1 (g3 j hj)
  rw [Nat.eq_of_beq_eq_true e];exact hx
 rotate_left
 ·have:=h4 t htl
  simp only [Bool.or_eq_true] at this
  rcases this with e|e
  ·exact absurd (Nat.le_of_ble_eq_true e) (by omega)
  ·have:=List.all_eq_true.1 e j (List.mem_range.2 hj)
   obtain ⟨x,hx,e2⟩:=List.any_eq_true.1 this
   rw [Nat.eq_of_beq_eq_true e2];exact hx
 ·have:=h3 i hi
  split at this
  ·rename_i o ho
   simp only [Bool.and_eq_true] at this
   obtain ⟨g1,g2⟩:=this
   refine ⟨o,ho,fun hne=> ?_,fun he=> ?_,fun d hd j hj hji d' hd'=> ?_⟩
   ·cases hd:o.dst with
    |some d=>exact ⟨d,rfl⟩
    |none=>simp only [hd] at g1;exact absurd (mem?_iff.1 g1) hne
   ·rw [mem?_iff.2 he] at g2
    simp only [Bool.not_true,Bool.false_or] at g2
    split at g2
    ·assumption
    ·cases g2
   ·simp only [hd] at g1
    have:=List.all_eq_true.1 g1 j (List.mem_range.2 hj)
    simp only [hd',Bool.or_eq_true,Bool.not_eq_true'] at this
    rcases this with e|e
    ·exact absurd (Nat.eq_of_beq_eq_true e) hji
    ·exact Nat.ne_of_beq_eq_false e
  ·cases this
def zb0 (ds:List Tmp) (f:Fr):Fr:=f.filter fun p=>ds.any (Nat.beq p.1)
def zjo (ds:List Tmp) (f:Fr):Fr:=f.filter fun p=> !ds.any (Nat.beq p.1)
def stF (o:Oper) (av:AV) (f:Fr):Fr:=match o.dst with
 |some d=>(d,av)::f
 |none=>f
theorem zcs {q:Nat→Bool}:∀{f:Fr} {d:Nat},q d=true→lk (f.filter fun p=>q p.1) d=lk f d
 | [],_,_=>rfl
 |(j,a)::f,d,hq=>by
  have ih:=zcs (f:=f) hq
  simp only [List.filter_cons,lk]
  split
  ·simp only [lk,ih]
  ·rename_i hj
   have:Nat.beq j d=false:=by
    cases h:Nat.beq j d with
    |false=>rfl
    |true=>rw [Nat.eq_of_beq_eq_true h] at hj;exact absurd hq hj
   rw [this];exact ih
theorem zaq {q:Nat→Bool}:∀{f:Fr} {d:Nat},q d=false→lk (f.filter fun p=>q p.1) d=none
 | [],_,_=>rfl
 |(j,a)::f,d,hq=>by
  have ih:=zaq (f:=f) hq
  simp only [List.filter_cons]
  split
  ·rename_i hj
   simp only [lk]
   have:Nat.beq j d=false:=by
    cases h:Nat.beq j d with
    |false=>rfl
    |true=>rw [Nat.eq_of_beq_eq_true h] at hj;rw [hq] at hj;cases hj
   rw [this];exact ih
  ·exact ih
section
variable {P:Program} {ro:Option Nat} {nt:Nat} {l:List Oper} {eff:List Nat} {sd:Nat→List Tmp} {t0:Fr} {C:Nat→List Res→Prop}
def QJ (P:Program) (ro:Option Nat) (nt:Nat) (C:List Res→Prop) (l:List Oper) (sd:List Tmp) (t0:Fr) (o:Oper) (d:Tmp) (av:AV) (e:Fr):Prop:=
 o.dst=some d∧Nat.blt d nt=true∧((gdS l (lkS sd (zac l o) e t0) o=some true∧∀h,C h→QV P ro h (evS sd (zac l o) e t0) o av)∨(gdS l (lkS sd (zac l o) e t0) o=some false∧av= .v undef))
def zdj (P:Program) (ro:Option Nat) (nt:Nat) (C:Nat→List Res→Prop) (l:List Oper) (eff:List Nat) (sd:Nat→List Tmp) (t0:Fr):List Oper→Nat→Fr→(Fr→Prop)→Prop
 | [],_,e,K=>K e
 |o::rest,i,e,K=>(mem? i eff=true∧zdj P ro nt C l eff sd t0 rest (i+1) e K)∨(mem? i eff=false∧∃d av,QJ P ro nt (C i) l (sd i) t0 o d av e∧zdj P ro nt C l eff sd t0 rest (i+1) ((d,av)::e) K)
theorem zyu {i:Nat} {e:Fr} {K:Fr→Prop} (hk:K e):zdj P ro nt C l eff sd t0 [] i e K:=hk
theorem je {o:Oper} {rest:List Oper} {i:Nat} {e:Fr} {K:Fr→Prop} (hi:mem? i eff=true) (hk:zdj P ro nt C l eff sd t0 rest (i+1) e K):zdj P ro nt C l eff sd t0 (o::rest) i e K:= .inl ⟨hi,hk⟩
theorem jq {d:Tmp} {op:Op} {ty:TypeId} {pos:String} {after:Array Edge} {g:Option (Nat×Bool)} {av:AV} {rest:List Oper} {i:Nat} {e:Fr} {K:Fr→Prop}
 (hg:gdS l (lkS (sd i) (zac l ⟨some d,op,ty,pos,after,g⟩) e t0) ⟨some d,op,ty,pos,after,g⟩=some true)
 (hq:∀h,C i h→QR P h (evS (sd i) (zac l ⟨some d,op,ty,pos,after,g⟩) e t0) ⟨some d,op,ty,pos,after,g⟩ av) (hk:zdj P ro nt C l eff sd t0 rest (i+1) ((d,av)::e) K)
 (hi:mem? i eff=false:=by rfl) (hd:Nat.blt d nt=true:=by rfl) (hn:zao ⟨some d,op,ty,pos,after,g⟩=true:=by rfl):zdj P ro nt C l eff sd t0 (⟨some d,op,ty,pos,after,g⟩::rest) i e K:=
 .inr ⟨hi,d,av,⟨rfl,hd,.inl ⟨hg,fun h hc=>ze0 (hq h hc) hn⟩⟩,hk⟩
theorem zw7 {n:Nat} {ef la:List Nat} (hC:SoupD l n ef la) (hsk:∀i,i ∉ eff→i ∉ ef) {K:Fr→Prop}:∀{os:List Oper} {i:Nat} {e:Fr},i+os.length=n→os=(l.take n).drop i→(∀d a,lk e d=some a→∃j,j < i∧j ∉ eff∧u7 l j=some d)→(∀j,j < i→j ∉ eff→∀d,u7 l j=some d→lk e d≠none)→zdj P ro nt C l eff sd t0 os i e K→
 ∃E,K E∧(∀d a,lk e d=some a→lk E d=some a)∧(∀d a,lk E d=some a→∃j,j < n∧j ∉ eff∧u7 l j=some d)∧(∀j,j < n→j ∉ eff→∀d,u7 l j=some d→lk E d≠none)∧
  ∀j o,i≤j→j < n→j ∉ eff→l[j]? =some o→∃d av e',lk E d=some av∧(∀d a,lk e' d=some a→lk E d=some a)∧QJ P ro nt (C j) l (sd j) t0 o d av e'
 | [],i,e,hn,ho,he,hf,hk=>⟨e,hk,fun _ _ h=>h,fun d a h=>let ⟨j,h1,h2⟩:=he d a h;⟨j,by simp at hn;omega,h2⟩,fun j hj=>hf j (by simp at hn;omega),fun j o h1 h2=>by simp at hn;omega⟩
 |o::os,i,e,hn,ho,he,hf,hk=>by
  have hin:i < n:=by simp at hn;omega
  have hoi:l[i]? =some o:=by
   have:(l.take n)[i]? =some o:=by
    have:=congrArg List.head? ho
    rw [List.head?_cons,List.head?_drop] at this;exact this.symm
   rwa [List.getElem?_take_of_lt hin] at this
  have ho':os=(l.take n).drop (i+1):=by
   have:=congrArg List.tail ho
   rwa [List.tail_cons,List.tail_drop] at this
  rcases hk with ⟨hi,hk⟩|⟨hi,d,av,hq,hk⟩
  ·have hie:=mem?_iff.1 hi
   obtain ⟨E,h1,h2,h3,h4,h5⟩:=zw7 hC hsk (by simp at hn;omega) ho' (fun d a h=>let ⟨j,g1,g2⟩:=he d a h;⟨j,by omega,g2⟩) (fun j hj hje d hd=>by
    rcases Nat.lt_or_ge j i with h|h
    ·exact hf j h hje d hd
    ·have:j=i:=by omega
     subst this;exact absurd hie hje) hk
   refine ⟨E,h1,h2,h3,h4,fun j oj hj1 hj2 hje hoj=> ?_⟩
   rcases Nat.lt_or_ge i j with h|h
   ·exact h5 j oj h hj2 hje hoj
   ·have:j=i:=by omega
    subst this;exact absurd hie hje
  ·have hie:i ∉ eff:=fun h=>by rw [mem?_iff.2 h] at hi;cases hi
   obtain ⟨o2,g1,_,_,g4⟩:=hC.dst i hin
   have:o2=o:=Option.some.inj (g1.symm.trans hoi)
   subst this
   have hdd:u7 l i=some d:=by simp [u7,hoi,hq.1]
   have hnew:lk e d=none:=by
    cases hl:lk e d with
    |none=>rfl
    |some a=>
     obtain ⟨j,k1,k2,k3⟩:=he d a hl
     exact absurd rfl (g4 d hq.1 j (by omega) (by omega) d k3)
   have hmono:∀d' a,lk e d'=some a→lk ((d,av)::e) d'=some a:=fun d' a h=>by
    simp only [lk]
    split
    ·rename_i hb
     rw [←Nat.eq_of_beq_eq_true hb,hnew] at h;cases h
    ·exact h
   obtain ⟨E,h1,h2,h3,h4,h5⟩:=zw7 hC hsk (by simp at hn;omega) ho' (fun d' a h=>by
    simp only [lk] at h
    split at h
    ·rename_i hb
     rw [←Nat.eq_of_beq_eq_true hb];exact ⟨i,by omega,hie,hdd⟩
    ·obtain ⟨j,k1,k2⟩:=he d' a h;exact ⟨j,by omega,k2⟩) (fun j hj hje d' hd'=>by
    simp only [lk]
    split
    ·simp
    ·rename_i hb
     rcases Nat.lt_or_ge j i with h|h
     ·exact hf j h hje d' hd'
     ·have:j=i:=by omega
      subst this
      rw [hdd] at hd';cases hd'
      simp at hb) hk
   refine ⟨E,h1,fun d' a h=>h2 d' a (hmono d' a h),h3,h4,fun j oj hj1 hj2 hje hoj=> ?_⟩
   rcases Nat.lt_or_ge i j with h|h
   ·exact h5 j oj h hj2 hje hoj
   ·have:j=i:=by omega
    subst this
    have:oj=o2:=Option.some.inj (hoj.symm.trans hoi)
    subst this
    exact ⟨d,av,e,h2 d av (by simp [lk]),fun d' a h=>h2 d' a (hmono d' a h),hq⟩
end
def zeh (P:Program) (ro:Option Nat) (nt:Nat) (he:List Res) (l:List Oper) (sd:Nat→List Tmp) (t0:Fr):List Nat→Fr→(Fr→Prop)→Prop
 | [],e,K=>K e
 |i::r,e,K=>∃o d av,l[i]? =some o∧QJ P ro nt (fun h=>h=he) l (sd i) t0 o d av e∧zeh P ro nt he l sd t0 r ((d,av)::e) K
section
variable {P:Program} {ro:Option Nat} {nt:Nat} {l:List Oper} {sd:Nat→List Tmp} {t0:Fr} {he:List Res}
theorem ln {e:Fr} {K:Fr→Prop} (hk:K e):zeh P ro nt he l sd t0 [] e K:=hk
theorem lq {i:Nat} {r:List Nat} {e:Fr} {K:Fr→Prop} {d:Tmp} {op:Op} {ty:TypeId} {pos:String} {after:Array Edge} {g:Option (Nat×Bool)} {av:AV} (ho:l[i]? =some ⟨some d,op,ty,pos,after,g⟩)
 (hg:gdS l (lkS (sd i) (zac l ⟨some d,op,ty,pos,after,g⟩) e t0) ⟨some d,op,ty,pos,after,g⟩=some true)
 (hq:QR P he (evS (sd i) (zac l ⟨some d,op,ty,pos,after,g⟩) e t0) ⟨some d,op,ty,pos,after,g⟩ av) (hk:zeh P ro nt he l sd t0 r ((d,av)::e) K)
 (hd:Nat.blt d nt=true:=by rfl) (hn:zao ⟨some d,op,ty,pos,after,g⟩=true:=by rfl):zeh P ro nt he l sd t0 (i::r) e K:=
 ⟨_,d,av,ho,⟨rfl,hd,.inl ⟨hg,fun h hh=>by subst hh;exact ze0 hq hn⟩⟩,hk⟩
theorem zwy {n:Nat} {ef la:List Nat} (hC:SoupD l n ef la) {K:Fr→Prop}:∀{r:List Nat} {e:Fr},(∀i∈r,i∈la)→r.Nodup→(∀i∈r,∀d,u7 l i=some d→lk e d=none)→zeh P ro nt he l sd t0 r e K→
 ∃F,K F∧(∀d a,lk e d=some a→lk F d=some a)∧(∀d a,lk F d=some a→lk e d=some a∨∃i∈r,u7 l i=some d)∧(∀i∈r,∀d,u7 l i=some d→lk F d≠none)∧
  ∀i∈r,∀o,l[i]? =some o→∃d av e',lk F d=some av∧(∀d a,lk e' d=some a→lk F d=some a)∧QJ P ro nt (fun h=>h=he) l (sd i) t0 o d av e'
 | [],e,_,_,_,hk=>⟨e,hk,fun _ _ h=>h,fun _ _ h=> .inl h,fun i h=>(by cases h),fun i h=>(by cases h)⟩
 |i::r,e,hr,hnd,hdis,⟨o,d,av,ho,hq,hk⟩=>by
  obtain ⟨hir,hnd'⟩:=List.nodup_cons.1 hnd
  have hdd:u7 l i=some d:=by simp [u7,ho,hq.1]
  have hnew:=hdis i (by simp) d hdd
  have hin:=(hC.lat i (hr i (by simp))).2.1
  have hmono:∀d' a,lk e d'=some a→lk ((d,av)::e) d'=some a:=fun d' a h=>by
   simp only [lk]
   split
   ·rename_i hb
    rw [←Nat.eq_of_beq_eq_true hb,hnew] at h;cases h
   ·exact h
  obtain ⟨F,h1,h2,h3,h4,h5⟩:=zwy hC (r:=r) (fun j hj=>hr j (by simp [hj])) hnd' (fun j hj d' hd'=>by
   simp only [lk]
   split
   ·rename_i hb
    have:=Nat.eq_of_beq_eq_true hb
    subst this
    obtain ⟨oi,g1,_,_,g4⟩:=hC.dst i hin
    have:oi=o:=Option.some.inj (g1.symm.trans ho)
    subst this
    exact absurd rfl (g4 d hq.1 j (hC.lat j (hr j (by simp [hj]))).2.1 (fun e=>hir (e ▸ hj)) d hd')
   ·exact hdis j (by simp [hj]) d' hd') hk
  refine ⟨F,h1,fun d' a h=>h2 d' a (hmono d' a h),fun d' a h=> ?_,fun j hj d' hd'=> ?_,fun j hj oj hoj=> ?_⟩
  ·rcases h3 d' a h with h|⟨j,hj,h⟩
   ·simp only [lk] at h
    split at h
    ·rename_i hb
     exact .inr ⟨i,by simp,by rw [←Nat.eq_of_beq_eq_true hb];exact hdd⟩
    ·exact .inl h
   ·exact .inr ⟨j,by simp [hj],h⟩
  ·rcases List.mem_cons.1 hj with rfl|hj
   ·rw [hdd] at hd';cases hd'
    rw [h2 d av (by simp [lk])];simp
   ·exact h4 j hj d' hd'
  ·rcases List.mem_cons.1 hj with rfl|hj
   ·have:oj=o:=Option.some.inj (hoj.symm.trans ho)
    subst this
    exact ⟨d,av,e,h2 d av (by simp [lk]),fun d' a h=>h2 d' a (hmono d' a h),hq⟩
   ·exact h5 j hj oj hoj
end
structure InvJ (P:Program) (X:Nat→Prop) (nt:Nat) (h:List Res) (l:List Oper) (n:Nat) (eff late:List Nat) (t:Fr) (dsl:List Nat) (E:Fr) (J:List Nat→Fr→List Res→Prop) (w0:World) (L:List Nat) (ee:Fr) (he:List Res) (F:Fr) (listed:Array Bool) (a:Act) (w:World):Prop where
 size:listed.size=l.length
 closed:∀i,listed.getD i false=true→∀j∈q9 l i,listed.getD j false=true
 tail:∀i,n≤i→listed.getD i false=false
 tsz:a.tmps.size=nt
 defs:a.defers=dsl.map zhm
 J:J L ee he
 heap:HRel X w he
 lst:∀i,i∈L ↔ i∈eff∧i < n∧listed.getD i false=true
 lvals:∀i d av,i∈late→u7 l i=some d→lk F d=some av→listed.getD i false=true→∃v,a.tmps[d]? =some v∧Rel w (OO he X) av v
 vals:∀i d av,i < n→i ∉ eff++late→u7 l i=some d→lk E d=some av→listed.getD i false=true→∃v,a.tmps[d]? =some v∧Rel w (OO he X) av v
 evals:∀d av,lk ee d=some av→∃v,a.tmps[d]? =some v∧Rel w (OO he X) av v
 edom:∀d,lk ee d≠none ↔ ∃i,i∈L∧u7 l i=some d
 base:∀d av,(∀j,j < n→u7 l j=some d→listed.getD j false=false)→lk t d=some av→∃v,a.tmps[d]? =some v∧Rel w (OO he X) av v
 keep:Keep (u2 h) w0 (u2 he) w
structure GoodF (P:Program) (ro:Option Nat) (nt:Nat) (Q:Exit→St→Prop) (l:List Oper) (n:Nat) (late:List Nat) (sd:Nat→List Tmp) (t:Fr) (dsl:List Nat) (E ee:Fr) (he:List Res) (F:Fr):Prop where
 fin:zca P ro nt l.toArray (l.drop n) Q ⟨F++t,he,dsl⟩
 up:∀d a,lk (E++ee) d=some a→lk F d=some a
 dn:∀d a,lk F d=some a→lk (E++ee) d=some a∨∃i∈late,u7 l i=some d
 nn:∀i∈late,∀d,u7 l i=some d→lk F d≠none
 facts:∀i∈late,∀o,l[i]? =some o→∃d av e',lk F d=some av∧(∀d a,lk e' d=some a→lk F d=some a)∧QJ P ro nt (fun h=>h=he) l (sd i) t o d av e'
theorem zqn {l:List Oper} {n:Nat} {d:Nat} (hf:(zcf l n).any (Nat.beq d)=false) {j:Nat} (hj:j < n) (hd:u7 l j=some d):False:=by
 have:d∈zcf l n:=by
  simp only [zcf,List.mem_filterMap]
  simp only [u7] at hd
  cases hlj:l[j]? with
  |none=>simp [hlj] at hd
  |some oj=>
   simp only [hlj,Option.bind_some] at hd
   exact ⟨oj,List.mem_of_getElem? (i:=j) (by rw [List.getElem?_take_of_lt hj];exact hlj),hd⟩
 have:(zcf l n).any (Nat.beq d)=true:=List.any_eq_true.2 ⟨d,this,by simp⟩
 rw [hf] at this;cases this
theorem ztp {P:Program} {ro:Option Nat} {nt rid:Nat} {Q:Exit→St→Prop} {l:List Oper} {t:Fr} {h:List Res} {dsl:List Nat} (n:Nat) (eff late:List Nat) (sd:Nat→List Tmp) (hS:∀i,i < n→∀d,(sd i).any (Nat.beq d)=false→∀j,j < n→u7 l j=some d→i∈zjr l j (q9 l j)) (C:Nat→List Res→Prop) [hm:Mixed P] (hc:zmv l n eff late=true)
 (hk:zdj P ro nt C l (eff++late) sd t (l.take n) 0 [] (fun E=>∃J:List Nat→Fr→List Res→Prop,J [] [] h∧(∀L ee he,J L ee he→∀i,i < n→i ∉ eff→(∀j∈L,i ∉ zjr l j (q9 l j))→C i he)∧
  (∀L ee he,J L ee he→∀i o,i∈eff→i ∉ L→l[i]? =some o→(∀j,j∈zjr l i (q9 l i)→j∈eff→j∈L)→∀u,OE P ro nt o ⟨zb0 (zac l o) E++(zb0 (zac l o) ee++(zjo (zcf l n) t++u)),he,dsl⟩
   (fun s'=>∃av he',s'=⟨stF o av (zb0 (zac l o) E++(zb0 (zac l o) ee++(zjo (zcf l n) t++u))),he',dsl⟩∧J (i::L) (stF o av ee) he'))∧
  (∀L ee he,J L ee he→(∀i,i∈eff→i < n→i∈L)→zeh P ro nt he l sd t late (E++ee) (fun F=>zca P ro nt l.toArray (l.drop n) Q ⟨F++t,he,dsl⟩)))):aw P ro nt (.region rid l.toArray true) Q ⟨t,h,dsl⟩:=by
 intro X a0 w0 hs
 have hC:=zmw hc
 obtain ⟨E,⟨J,h0,hJC,hstep,hfin⟩,_,hE1,hE2,hfact⟩:=zw7 (os:=l.take n) (i:=0) (n:=n) (K:=fun E=>_) hC (fun i hi he=>hi (List.mem_append_left _ he)) (by have:=hC.le;simp;omega) rfl (fun d a h=>by simp [lk] at h) (fun j hj=>by omega) hk
 refine wpIn_region_any hm.h ?_
 have hsome_dst:∀j o,l[j]? =some o→u7 l j=o.dst:=fun j o ho=>by simp [u7,ho]
 have hE1':∀d a,lk E d=some a→∃j,j < n∧j ∉ eff∧j ∉ late∧u7 l j=some d:=fun d a h=>by
  obtain ⟨j,h1,h2,h3⟩:=hE1 d a h
  exact ⟨j,h1,fun he=>h2 (List.mem_append_left _ he),fun he=>h2 (List.mem_append_right _ he),h3⟩
 have main:∀(fuel:Nat) (U L:List Nat) (ee:Fr) (he:List Res) (F:Fr) (listed:Array Bool) (a:Act) (w:World),InvJ P X nt h l n eff late t dsl E J w0 L ee he F listed a w→((∀i,i∈eff→i < n→i∈L)→GoodF P ro nt Q l n late sd t dsl E ee he F)→(∀i,i < l.length→listed.getD i false=false→i∈U)→U.length≤fuel→
  wpAnyIn (FW ro) 0 P .any l.toArray (zn5 X nt ⟨t,h,dsl⟩ w0 Q) fuel listed a w:=by
  have done:∀(fuel:Nat) (U L:List Nat) (ee:Fr) (he:List Res) (F:Fr) (listed:Array Bool) (a:Act) (w:World),InvJ P X nt h l n eff late t dsl E J w0 L ee he F listed a w→((∀i,i∈eff→i < n→i∈L)→GoodF P ro nt Q l n late sd t dsl E ee he F)→(∀i,i < l.length→listed.getD i false=false→i∈U)→U.length≤fuel→
   (∀i,i < n→listed.getD i false=true)→wpAnyIn (FW ro) 0 P .any l.toArray (zn5 X nt ⟨t,h,dsl⟩ w0 Q) fuel listed a w:=by
   intro fuel U L ee he F listed a w hi hG hU hf hall
   have hg:=hG (fun i h1 h2=>(hi.lst i).2 ⟨h1,h2,hall i h2⟩)
   refine zms hC.toSoupT fuel U n listed a w (Nat.le_refl _) hC.le hi.size (fun j hj=>⟨fun hl=> ?_,fun hl=>hall j hl⟩) (fun i h1 h2=>hU i h2 (hi.tail i h1)) hf ?_
   ·rcases Nat.lt_or_ge j n with h|h
    ·exact h
    ·rw [hi.tail j h] at hl;cases hl
   ·have hsim:Sim X nt ⟨F++t,he,dsl⟩ a w:=by
     refine ⟨hi.heap,hi.tsz,fun d av hl=> ?_,hi.defs⟩
     have hl':lk (F++t) d=some av:=hl
     rw [v6] at hl'
     cases hF:lk F d with
     |some av'=>
      simp only [hF,Option.some.injEq] at hl';subst hl'
      rcases hg.dn d _ hF with hE|⟨j,g1,g2⟩
      ·rw [v6] at hE
       cases hE2:lk E d with
       |some av2=>
        simp only [hE2,Option.some.injEq] at hE;subst hE
        obtain ⟨j,g1,g2,g3⟩:=hE1 d _ hE2
        exact hi.vals j d _ g1 g2 g3 hE2 (hall j g1)
       |none=>simp only [hE2] at hE;exact hi.evals d _ hE
      ·exact hi.lvals j d _ g1 g2 hF (hall j (hC.lat j g1).2.1)
     |none=>
      simp only [hF] at hl'
      have hEe:lk (E++ee) d=none:=by
       cases hx:lk (E++ee) d with
       |none=>rfl
       |some y=>rw [hg.up d y hx] at hF;cases hF
      rw [v6] at hEe
      refine hi.base d av (fun j hj hd=> ?_) hl'
      exfalso
      by_cases hje:j∈eff
      ·have:=(hi.edom d).2 ⟨j,(hi.lst j).2 ⟨hje,hj,hall j hj⟩,hd⟩
       cases hE:lk E d with
       |some y=>simp [hE] at hEe
       |none=>simp only [hE] at hEe;exact this hEe
      ·by_cases hjl:j∈late
       ·exact hg.nn j hjl d hd hF
       ·refine hE2 j hj (fun hm=>(List.mem_append.1 hm).elim hje hjl) d hd ?_
        cases hE:lk E d with
        |some y=>simp [hE] at hEe
        |none=>rfl
    have:=hg.fin X a w hsim
    exact zaj (s:=⟨t,h,dsl⟩) (s':=⟨F++t,he,dsl⟩) hi.keep this
  intro fuel
  induction fuel with
  |zero=>
   intro U L ee he F listed a w hi hG hU hf
   refine done 0 U L ee he F listed a w hi hG hU hf fun i hin=> ?_
   have hU0:U= []:=List.eq_nil_of_length_eq_zero (by omega)
   cases hl:listed.getD i false with
   |true=>rfl
   |false=>have:=hU i (by have:=hC.le;omega) hl;simp [hU0] at this
  |succ fuel ih=>
   intro U L ee he F listed a w hi hG hU hf
   by_cases hall:∀i,i < n→listed.getD i false=true
   ·exact done _ U L ee he F listed a w hi hG hU hf hall
   ·have hready:∀i,i∈Region.ready .any l.toArray listed→i < n∧listed.getD i false=false∧i < l.length∧∀j∈q9 l i,listed.getD j false=true:=by
     intro i hir
     obtain ⟨h1,h2,h3⟩:=zdx.1 hir
     have hun:listed.getD i false=false:=by rw [zfw (by rw [hi.size];exact h2) false true];exact h1
     refine ⟨?_,hun,h2,h3⟩
     rcases Nat.lt_or_ge i n with h|h
     ·exact h
     ·exfalso
      apply hall
      intro j hj
      exact zax hi.closed i _ h3 j (hC.tail i h h2 j (by omega))
    have hsome:∀m,(∃i,i < n∧i < m∧listed.getD i false=false)→Region.ready .any l.toArray listed≠ []:=by
     intro m
     induction m with
     |zero=>rintro ⟨i,_,h,_⟩;omega
     |succ m ihm=>
      rintro ⟨i,hin,him,hun⟩
      by_cases hp:∀j∈q9 l i,listed.getD j false=true
      ·intro h0
       have hin':i < l.length:=by have:=hC.le;omega
       have:i∈Region.ready .any l.toArray listed:=zdx.2 ⟨by rw [zfw (by rw [hi.size];exact hin') true false];exact hun,hin',hp⟩
       rw [h0] at this;exact absurd this (by simp)
      ·have:∃j,j∈q9 l i∧listed.getD j false=false:=by
        refine Classical.byContradiction fun hne=>hp fun j hj=> ?_
        cases hl:listed.getD j false with
        |true=>rfl
        |false=>exact absurd ⟨j,hj,hl⟩ hne
       obtain ⟨j,hj,hjun⟩:=this
       have:=hC.back i (by have:=hC.le;omega) j hj
       exact ihm ⟨j,by omega,by omega,hjun⟩
    refine ⟨fun h0=> ?_,fun i hir=> ?_⟩
    ·exfalso
     have:∃i,i < n∧listed.getD i false=false:=by
      refine Classical.byContradiction fun hne=>hall fun i hin=> ?_
      cases hl:listed.getD i false with
      |true=>rfl
      |false=>exact absurd ⟨i,hin,hl⟩ hne
     obtain ⟨i,hin,hun⟩:=this
     exact hsome (i+1) ⟨i,hin,by omega,hun⟩ h0
    ·obtain ⟨hin,hun,hil,hp⟩:=hready i hir
     obtain ⟨o,ho,hq1,hq2,hq3⟩:=hC.dst i hin
     have hU':∀k,k < l.length→(listed.setIfInBounds i true).getD k false=false→k∈U.erase i:=fun k hkl hk=>by
      have hki:i≠k:=fun e=>by subst e;rw [zar (by rw [hi.size];exact hil)] at hk;cases hk
      rw [getD_set_ne false hki] at hk
      exact (List.mem_erase_of_ne (fun h=>hki h.symm)).2 (hU k hkl hk)
     have hf':(U.erase i).length≤fuel:=by rw [List.length_erase_of_mem (hU i hil hun)];omega
     have hcl:∀k,(listed.setIfInBounds i true).getD k false=true→∀j∈q9 l k,(listed.setIfInBounds i true).getD j false=true:=fun k hk j hj=>by
      by_cases hik:i=k
      ·subst hik;exact getD_set_true (hp j hj)
      ·rw [getD_set_ne false hik] at hk;exact getD_set_true (hi.closed k hk j hj)
     have hdo:=hsome_dst i o ho
     have hne:∀d j dj,o.dst=some d→j < n→j≠i→u7 l j=some dj→d≠dj:=fun d j dj hd hj hji hdj=>hq3 d hd j hj hji dj hdj
     -- what is looked up
     have hsd:∀d,(zcf l n).any (Nat.beq d)=false→∀j,j < n→u7 l j≠some d:=fun d hf j hj hd=>by
      have:d∈zcf l n:=by
       simp only [zcf,List.mem_filterMap]
       simp only [u7] at hd
       cases hlj:l[j]? with
       |none=>simp [hlj] at hd
       |some oj=>
        simp only [hlj,Option.bind_some] at hd
        exact ⟨oj,List.mem_of_getElem? (i:=j) (by rw [List.getElem?_take_of_lt hj];exact hlj),hd⟩
      have:(zcf l n).any (Nat.beq d)=true:=List.any_eq_true.2 ⟨d,this,by simp⟩
      simp_all
     have hpd:∀d,(zac l o).any (Nat.beq d)=true→∃j,j∈q9 l i∧u7 l j=some d:=fun d hpd=>by
      obtain ⟨x,hx,e⟩:=List.any_eq_true.1 hpd
      have:=Nat.eq_of_beq_eq_true e
      subst this
      simp only [zac,List.mem_filterMap] at hx
      obtain ⟨j',hj',hd'⟩:=hx
      exact ⟨j',by simp only [q9,ho];exact hj',hd'⟩
     have hlookE:∀d av,(zac l o).any (Nat.beq d)=true→lk E d=some av→∃v,a.tmps[d]? =some v∧Rel w (OO he X) av v:=fun d av hpd' hl=>by
      obtain ⟨j,hj,hjd⟩:=hpd d hpd'
      obtain ⟨j',g1,g2,g3⟩:=hE1 d av hl
      have hji:=hC.back i hil j hj
      have:j'=j:=by
       refine Classical.byContradiction fun hne'=> ?_
       obtain ⟨oj,k1,_,_,k4⟩:=hC.dst j (by omega)
       exact k4 d (by rw [←hsome_dst j oj k1];exact hjd) j' g1 hne' d g3 rfl
      subst this
      exact hi.vals j' d av g1 g2 g3 hl (hp j' hj)
     have hbase:∀d av,(zcf l n).any (Nat.beq d)=false→lk t d=some av→∃v,a.tmps[d]? =some v∧Rel w (OO he X) av v:=fun d av hf hl=>hi.base d av (fun j hj hd=>absurd hd (hsd d hf j hj)) hl
     obtain ⟨lw,hlw⟩:∃lw:Nat→Bool,lw=fun d=>(List.range n).any fun j=>listed.getD j false && (match u7 l j with|some d2=>Nat.beq d2 d|none=>false):=⟨_,rfl⟩
     have hlwt:∀d j,j < n→u7 l j=some d→listed.getD j false=true→lw d=true:=fun d j hj hd hl=>by
      rw [hlw];exact List.any_eq_true.2 ⟨j,List.mem_range.2 hj,by simp [hd,hl]⟩
     have hlwf:∀d,lw d=false→∀j,j < n→u7 l j=some d→listed.getD j false=false:=fun d hf j hj hd=>by
      cases hl:listed.getD j false with
      |false=>rfl
      |true=>rw [hlwt d j hj hd hl] at hf;cases hf
     have hbase2:∀d av,lw d=false→lk t d=some av→∃v,a.tmps[d]? =some v∧Rel w (OO he X) av v:=fun d av hf hl=>hi.base d av (hlwf d hf) hl
     unfold wpOpIn
     simp only [List.getElem?_toArray,ho]
     by_cases hie:i∈eff
     ·have hg:=hq2 hie
      have hiL:i ∉ L:=fun h=>by have:=((hi.lst i).1 h).2.2;rw [hun] at this;cases this
      rw [if_pos (by simp [Region.wanted,hg])]
      -- all that is known,once more
      obtain ⟨T,hT⟩:∃T:Fr,T=(E.filter fun p=>(List.range n).any fun j=> !mem? j (eff++late) && listed.getD j false && (match u7 l j with|some d=>Nat.beq d p.1|none=>false))++(ee++t.filter fun p=> !lw p.1):=⟨_,rfl⟩
      have hO2:=hstep L ee he hi.J i o hie hiL ho (fun j hj hje=>(hi.lst j).2 ⟨hje,(by
       have:=zax hi.closed i _ hp j hj
       rcases Nat.lt_or_ge j n with h|h
       ·exact h
       ·rw [hi.tail j h] at this;cases this),zax hi.closed i _ hp j hj⟩) T
      obtain ⟨G,hG⟩:∃G,G=zb0 (zac l o) E++(zb0 (zac l o) ee++(zjo (zcf l n) t++T)):=⟨_,rfl⟩
      rw [←hG] at hO2
      have hGr:zen w (OO he X) G a.tmps:=fun d av hl=>by
       rw [hG,v6] at hl
       by_cases hpd':(zac l o).any (Nat.beq d)=true
       ·rw [zb0,zcs (q:=fun d=>(zac l o).any (Nat.beq d)) hpd'] at hl
        cases hE:lk E d with
        |some av'=>simp only [hE,Option.some.injEq] at hl;subst hl;exact hlookE d _ hpd' hE
        |none=>
         simp only [hE] at hl
         rw [v6,zb0,zcs (q:=fun d=>(zac l o).any (Nat.beq d)) hpd'] at hl
         cases he':lk ee d with
         |some av'=>simp only [he',Option.some.injEq] at hl;subst hl;exact hi.evals d _ he'
         |none=>
          simp only [he'] at hl
          rw [v6] at hl
          by_cases hsd':(zcf l n).any (Nat.beq d)=false
          ·rw [zjo,zcs (q:=fun d=> !(zcf l n).any (Nat.beq d)) (by simp [hsd'])] at hl
           cases ht:lk t d with
           |some av'=>simp only [ht,Option.some.injEq] at hl;subst hl;exact hbase d _ hsd' ht
           |none=>
            simp only [ht] at hl
            rw [hT,v6,v6] at hl
            have h3:lk (t.filter fun p=> !lw p.1) d=none:=by
             by_cases hlq:lw d=true
             ·rw [zaq (q:=fun d=> !lw d) (by simp [hlq])]
             ·rw [zcs (q:=fun d=> !lw d) (by simp [hlq]),ht]
            rw [he',h3] at hl
            split at hl
            ·rename_i q
             by_cases hq:((List.range n).any fun j=> !mem? j (eff++late) && listed.getD j false && (match u7 l j with|some d2=>Nat.beq d2 d|none=>false))=true
             ·rw [zcs (q:=fun d=>(List.range n).any fun j=> !mem? j (eff++late) && listed.getD j false && (match u7 l j with|some d2=>Nat.beq d2 d|none=>false)) hq,hE] at q;cases q
             ·rw [zaq (q:=fun d=>(List.range n).any fun j=> !mem? j (eff++late) && listed.getD j false && (match u7 l j with|some d2=>Nat.beq d2 d|none=>false)) (by simpa using hq)] at q;cases q
            ·cases hl
          ·rw [zjo,zaq (q:=fun d=> !(zcf l n).any (Nat.beq d)) (by simpa using hsd')] at hl
           simp only at hl
           have h3:lk (t.filter fun p=> !lw p.1) d=none:=by
            obtain ⟨j,hj,hjd⟩:=hpd d hpd'
            have hji:=hC.back i hil j hj
            rw [zaq (q:=fun d=> !lw d) (by simp [hlwt d j (by omega) hjd (hp j hj)])]
           rw [hT,v6,v6,he',h3] at hl
           split at hl
           ·rename_i q
            by_cases hq:((List.range n).any fun j=> !mem? j (eff++late) && listed.getD j false && (match u7 l j with|some d2=>Nat.beq d2 d|none=>false))=true
            ·rw [zcs (q:=fun d=>(List.range n).any fun j=> !mem? j (eff++late) && listed.getD j false && (match u7 l j with|some d2=>Nat.beq d2 d|none=>false)) hq,hE] at q;cases q
            ·rw [zaq (q:=fun d=>(List.range n).any fun j=> !mem? j (eff++late) && listed.getD j false && (match u7 l j with|some d2=>Nat.beq d2 d|none=>false)) (by simpa using hq)] at q;cases q
           ·cases hl
       ·rw [zb0,zaq (q:=fun d=>(zac l o).any (Nat.beq d)) (Bool.eq_false_iff.2 hpd')] at hl
        simp only at hl
        rw [v6,zb0,zaq (q:=fun d=>(zac l o).any (Nat.beq d)) (Bool.eq_false_iff.2 hpd')] at hl
        simp only at hl
        have hrest:∀av,lk T d=some av→∃v,a.tmps[d]? =some v∧Rel w (OO he X) av v:=fun av hl=>by
         rw [hT,v6] at hl
         by_cases hq:((List.range n).any fun j=> !mem? j (eff++late) && listed.getD j false && (match u7 l j with|some d2=>Nat.beq d2 d|none=>false))=true
         ·rw [zcs (q:=fun d=>(List.range n).any fun j=> !mem? j (eff++late) && listed.getD j false && (match u7 l j with|some d2=>Nat.beq d2 d|none=>false)) hq] at hl
          obtain ⟨j,hj,hq'⟩:=List.any_eq_true.1 hq
          simp only [Bool.and_eq_true,Bool.not_eq_true'] at hq'
          obtain ⟨⟨k1,k2⟩,k3⟩:=hq'
          have hje:j ∉ eff++late:=fun h=>by rw [mem?_iff.2 h] at k1;cases k1
          have hjd:u7 l j=some d:=by
           split at k3
           ·rename_i d2 hd2;rw [hd2,Nat.eq_of_beq_eq_true k3]
           ·cases k3
          cases hE:lk E d with
          |some av'=>simp only [hE,Option.some.injEq] at hl;subst hl;exact hi.vals j d _ (List.mem_range.1 hj) hje hjd hE k2
          |none=>exact absurd hE (hE2 j (List.mem_range.1 hj) hje d hjd)
         ·rw [zaq (q:=fun d=>(List.range n).any fun j=> !mem? j (eff++late) && listed.getD j false && (match u7 l j with|some d2=>Nat.beq d2 d|none=>false)) (by simpa using hq)] at hl
          simp only at hl
          rw [v6] at hl
          cases he':lk ee d with
          |some av'=>simp only [he',Option.some.injEq] at hl;subst hl;exact hi.evals d _ he'
          |none=>
           simp only [he'] at hl
           cases hlq:lw d with
           |false=>
            rw [zcs (q:=fun d=> !lw d) (by simp [hlq])] at hl
            exact hbase2 d _ hlq hl
           |true=>rw [zaq (q:=fun d=> !lw d) (by simp [hlq])] at hl;cases hl
        rw [v6] at hl
        split at hl
        ·rename_i q
         cases hl
         by_cases hsd':(zcf l n).any (Nat.beq d)=false
         ·rw [zjo,zcs (q:=fun d=> !(zcf l n).any (Nat.beq d)) (by simp [hsd'])] at q
          exact hbase d _ hsd' q
         ·rw [zjo,zaq (q:=fun d=> !(zcf l n).any (Nat.beq d)) (by simpa using hsd')] at q;cases q
        ·exact hrest _ hl
      refine hO2 X a w _ _ ⟨hi.heap,hi.tsz,hGr,hi.defs⟩ fun s' a' w' hs' hsim' hkp=> ?_
      obtain ⟨av,he',rfl,hJ'⟩:=hs'
      have hT':∀d av,(∀d',o.dst=some d'→d'≠d)→lk G d=some av→∃v,a'.tmps[d]? =some v∧Rel w' (OO he' X) av v:=fun d av' hnd hl=>by
       refine hsim'.fr d av' ?_
       show lk (stF o av G) d=_
       unfold stF
       split
       ·rename_i d' hd'
        simp only [lk]
        have:Nat.beq d' d=false:=by
         cases hb:Nat.beq d' d with
         |false=>rfl
         |true=>exact absurd (Nat.eq_of_beq_eq_true hb) (hnd d' hd')
        rw [this];exact hl
       ·exact hl
      have hGT:∀d av,lk T d=some av→(lk G d=some av)∨∃av',lk G d=some av':=fun d av hl=>by
       cases hg:lk G d with
       |some av'=>exact .inr ⟨av',rfl⟩
       |none=>
        exfalso
        rw [hG] at hg
        simp only [v6] at hg
        repeat' split at hg
        all_goals first|(rw [hl] at hg;cases hg)|cases hg
      have hedom':∀d,lk (stF o av ee) d≠none ↔ ∃k,k∈i::L∧u7 l k=some d:=fun d=>by
       unfold stF
       constructor
       ·intro hx
        split at hx
        ·rename_i d' hd'
         simp only [lk] at hx
         split at hx
         ·rename_i hb
          have:=Nat.eq_of_beq_eq_true hb
          subst this
          exact ⟨i,by simp,by rw [hdo];exact hd'⟩
         ·obtain ⟨k,k1,k2⟩:=(hi.edom d).1 hx;exact ⟨k,by simp [k1],k2⟩
        ·obtain ⟨k,k1,k2⟩:=(hi.edom d).1 hx;exact ⟨k,by simp [k1],k2⟩
       ·rintro ⟨k,k1,k2⟩
        rcases List.mem_cons.1 k1 with rfl|k1
        ·rw [hdo] at k2;rw [k2];simp [lk]
        ·have:=(hi.edom d).2 ⟨k,k1,k2⟩
         split
         ·simp only [lk];split
          ·simp
          ·exact this
         ·exact this
      obtain ⟨F',hF'⟩:∃F',(∀k,k∈eff→k < n→k∈i::L)→GoodF P ro nt Q l n late sd t dsl E (stF o av ee) he' F':=by
       by_cases hA:∀k,k∈eff→k < n→k∈i::L
       ·obtain ⟨F',k1,k2,k3,k4,k5⟩:=zwy hC (r:=late) (fun _ h=>h) hC.lnd (fun j hj d hd=>by
         rw [v6]
         obtain ⟨oj,g1,_,_,g4⟩:=hC.dst j (hC.lat j hj).2.1
         have hoj:oj.dst=some d:=by rw [←hsome_dst j oj g1];exact hd
         cases hx:lk E d with
         |some y=>
          obtain ⟨q,q1,q2,q3,q4⟩:=hE1' d y hx
          exact absurd rfl (g4 d hoj q q1 (fun e=>q3 (e ▸ hj)) d q4)
         |none=>
          simp only
          cases hy:lk (stF o av ee) d with
          |none=>rfl
          |some y=>
           obtain ⟨q,q1,q2⟩:=(hedom' d).1 (by rw [hy];simp)
           have hqe:q∈eff∧q < n:=(List.mem_cons.1 q1).elim (fun e=>e ▸ ⟨hie,hin⟩) (fun h=>let h:=(hi.lst q).1 h;⟨h.1,h.2.1⟩)
           exact absurd rfl (g4 d hoj q hqe.2 (fun e=>(hC.lat j hj).1 (e ▸ hqe.1)) d q2)) (hfin _ _ _ hJ' hA)
        exact ⟨F',fun _=>⟨k1,k2,k3,k4,k5⟩⟩
       ·exact ⟨[],fun h=>absurd h hA⟩
      refine ih (U.erase i) (i::L) (stF o av ee) he' F' _ _ _ ?_ hF' hU' hf'
      have hGE:∀j d,j < n→j ∉ eff++late→u7 l j=some d→listed.getD j false=true→∀av,lk E d=some av→lk G d=some av:=fun j d hj hje hjd hlj av hl=>by
       have hed:lk ee d=none:=by
        cases hx:lk ee d with
        |none=>rfl
        |some y=>
         obtain ⟨k,hk1,hk2⟩:=(hi.edom d).1 (by rw [hx];simp)
         obtain ⟨hk3,hk4,_⟩:=(hi.lst k).1 hk1
         obtain ⟨oj,g1,_,_,g4⟩:=hC.dst j hj
         have hkj:k≠j:=fun e=>hje (List.mem_append_left _ (e ▸ hk3))
         exact absurd rfl (g4 d (by rw [←hsome_dst j oj g1];exact hjd) k hk4 hkj d hk2)
       have hsd':¬(zcf l n).any (Nat.beq d)=false:=fun hf=>hsd d hf j hj hjd
       rw [hG,v6]
       by_cases hpd':(zac l o).any (Nat.beq d)=true
       ·rw [zb0,zcs (q:=fun d=>(zac l o).any (Nat.beq d)) hpd',hl]
       ·rw [zb0,zaq (q:=fun d=>(zac l o).any (Nat.beq d)) (Bool.eq_false_iff.2 hpd')]
        simp only
        rw [v6,zb0,zaq (q:=fun d=>(zac l o).any (Nat.beq d)) (Bool.eq_false_iff.2 hpd')]
        simp only
        rw [v6,zjo,zaq (q:=fun d=> !(zcf l n).any (Nat.beq d)) (by simpa using hsd')]
        simp only
        rw [hT,v6,zcs (q:=fun d=>(List.range n).any fun j=> !mem? j (eff++late) && listed.getD j false && (match u7 l j with|some d2=>Nat.beq d2 d|none=>false)) (by
         refine List.any_eq_true.2 ⟨j,List.mem_range.2 hj,?_⟩
         have:mem? j (eff++late)=false:=by
          cases hb:mem? j (eff++late) with
          |false=>rfl
          |true=>exact absurd (mem?_iff.1 hb) hje
         simp [this,hlj,hjd]),hl]
      have hGe:∀d av,lk ee d=some av→lk G d=some av:=fun d av hl=>by
       obtain ⟨k,hk1,hk2⟩:=(hi.edom d).1 (by rw [hl];simp)
       obtain ⟨hk3,hk4,_⟩:=(hi.lst k).1 hk1
       have hEd:lk E d=none:=by
        cases hx:lk E d with
        |none=>rfl
        |some y=>
         obtain ⟨j,g1,g2,g3⟩:=hE1 d y hx
         obtain ⟨ok,k1,_,_,k4⟩:=hC.dst k hk4
         have hkj:j≠k:=fun e=>g2 (List.mem_append_left _ (e ▸ hk3))
         exact absurd rfl (k4 d (by rw [←hsome_dst k ok k1];exact hk2) j g1 hkj d g3)
       have hsd':¬(zcf l n).any (Nat.beq d)=false:=fun hf=>hsd d hf k hk4 hk2
       have hflt:lk (E.filter fun p=>(List.range n).any fun j=> !mem? j (eff++late) && listed.getD j false && (match u7 l j with|some d=>Nat.beq d p.1|none=>false)) d=none:=by
        by_cases hq:((List.range n).any fun j=> !mem? j (eff++late) && listed.getD j false && (match u7 l j with|some d2=>Nat.beq d2 d|none=>false))=true
        ·rw [zcs (q:=fun d=>(List.range n).any fun j=> !mem? j (eff++late) && listed.getD j false && (match u7 l j with|some d2=>Nat.beq d2 d|none=>false)) hq,hEd]
        ·rw [zaq (q:=fun d=>(List.range n).any fun j=> !mem? j (eff++late) && listed.getD j false && (match u7 l j with|some d2=>Nat.beq d2 d|none=>false)) (by simpa using hq)]
       rw [hG,v6]
       by_cases hpd':(zac l o).any (Nat.beq d)=true
       ·rw [zb0,zcs (q:=fun d=>(zac l o).any (Nat.beq d)) hpd',hEd]
        simp only
        rw [v6,zb0,zcs (q:=fun d=>(zac l o).any (Nat.beq d)) hpd',hl]
       ·rw [zb0,zaq (q:=fun d=>(zac l o).any (Nat.beq d)) (Bool.eq_false_iff.2 hpd')]
        simp only
        rw [v6,zb0,zaq (q:=fun d=>(zac l o).any (Nat.beq d)) (Bool.eq_false_iff.2 hpd')]
        simp only
        rw [v6,zjo,zaq (q:=fun d=> !(zcf l n).any (Nat.beq d)) (by simpa using hsd')]
        simp only
        rw [hT,v6,hflt]
        simp only
        rw [v6,hl]
      have hGt:∀d av,(∀j,j < n→u7 l j=some d→listed.getD j false=false)→lk t d=some av→lk G d=some av:=fun d av hj hl=>by
       have hlq:lw d=false:=by
        cases hb:lw d with
        |false=>rfl
        |true=>
         rw [hlw] at hb
         obtain ⟨j,hj1,hq⟩:=List.any_eq_true.1 hb
         simp only [Bool.and_eq_true] at hq
         obtain ⟨k2,k3⟩:=hq
         have hjd:u7 l j=some d:=by
          split at k3
          ·rename_i d2 hd2;rw [hd2,Nat.eq_of_beq_eq_true k3]
          ·cases k3
         rw [hj j (List.mem_range.1 hj1) hjd] at k2;cases k2
       have hpd0:(zac l o).any (Nat.beq d)=false:=by
        cases hb:(zac l o).any (Nat.beq d) with
        |false=>rfl
        |true=>
         obtain ⟨j,hj1,hjd⟩:=hpd d hb
         have hji:=hC.back i hil j hj1
         have:=hj j (by omega) hjd
         rw [hp j hj1] at this;cases this
       have hed:lk ee d=none:=by
        cases hx:lk ee d with
        |none=>rfl
        |some y=>
         obtain ⟨k,hk1,hk2⟩:=(hi.edom d).1 (by rw [hx];simp)
         obtain ⟨_,hk4,hk5⟩:=(hi.lst k).1 hk1
         have:=hj k hk4 hk2
         rw [hk5] at this;cases this
       have hflt:lk (E.filter fun p=>(List.range n).any fun j=> !mem? j (eff++late) && listed.getD j false && (match u7 l j with|some d=>Nat.beq d p.1|none=>false)) d=none:=by
        refine zaq (q:=fun d=>(List.range n).any fun j=> !mem? j (eff++late) && listed.getD j false && (match u7 l j with|some d2=>Nat.beq d2 d|none=>false)) ?_
        cases hb:((List.range n).any fun j=> !mem? j (eff++late) && listed.getD j false && (match u7 l j with|some d2=>Nat.beq d2 d|none=>false)) with
        |false=>rfl
        |true=>
         obtain ⟨j,hj1,hq⟩:=List.any_eq_true.1 hb
         simp only [Bool.and_eq_true] at hq
         obtain ⟨⟨_,k2⟩,k3⟩:=hq
         have hjd:u7 l j=some d:=by
          split at k3
          ·rename_i d2 hd2;rw [hd2,Nat.eq_of_beq_eq_true k3]
          ·cases k3
         rw [hj j (List.mem_range.1 hj1) hjd] at k2;cases k2
       rw [hG,v6,zb0,zaq (q:=fun d=>(zac l o).any (Nat.beq d)) hpd0]
       simp only
       rw [v6,zb0,zaq (q:=fun d=>(zac l o).any (Nat.beq d)) hpd0]
       simp only
       rw [v6]
       have hlast:lk T d=some av:=by
        rw [hT,v6,hflt]
        simp only
        rw [v6,hed]
        simp only
        rw [zcs (q:=fun d=> !lw d) (by simp [hlq]),hl]
       by_cases hsd':(zcf l n).any (Nat.beq d)=false
       ·rw [zjo,zcs (q:=fun d=> !(zcf l n).any (Nat.beq d)) (by simp [hsd']),hl]
       ·rw [zjo,zaq (q:=fun d=> !(zcf l n).any (Nat.beq d)) (by simpa using hsd')]
        simp only
        exact hlast
      refine ⟨by simp [hi.size],hcl,fun k hk=>by rw [getD_set_ne false (by omega)];exact hi.tail k hk,hsim'.size,hsim'.defs,hJ',hsim'.heap,fun k=> ?_,fun k d av' hk hkd hFd hlk=> ?_,fun k d av' hk hke hkd hEd hlk=> ?_,fun d av' hl=> ?_,fun d=> ?_,fun d av' hj hl=> ?_,hi.keep.trans hkp⟩
      ·rw [List.mem_cons,hi.lst k]
       by_cases hki:k=i
       ·subst hki
        simp only [true_or,true_iff]
        exact ⟨hie,hin,zar (by rw [hi.size];exact hil)⟩
       ·rw [getD_set_ne false (Ne.symm hki)];simp [hki]
      ·exfalso
       have hki:i≠k:=fun e=>(hC.lat k hk).1 (e ▸ hie)
       rw [getD_set_ne false hki] at hlk
       have:=zax hi.closed k _ (fun j hj=>hi.closed k hlk j hj) i ((hC.lat k hk).2.2 i hie)
       rw [hun] at this;cases this
      ·have hki:i≠k:=fun e=>hke (List.mem_append_left _ (e ▸ hie))
       rw [getD_set_ne false hki] at hlk
       exact hT' d av' (fun d' hd' e=>by subst e;exact hne d' k d' hd' hk (Ne.symm hki) hkd rfl) (hGE k d hk hke hkd hlk av' hEd)
      ·unfold stF at hl
       split at hl
       ·rename_i d' hd'
        simp only [lk] at hl
        split at hl
        ·rename_i hb
         have:=Nat.eq_of_beq_eq_true hb
         subst this
         cases hl
         refine hsim'.fr d' av ?_
         show lk (stF o av G) d'=_
         unfold stF;rw [hd'];simp [lk]
        ·rename_i hb
         exact hT' d av' (fun d2 hd2 e=>by rw [hd'] at hd2;cases hd2;subst e;simp at hb) (hGe d av' hl)
       ·rename_i hd'
        exact hT' d av' (fun d2 hd2=>by rw [hd'] at hd2;cases hd2) (hGe d av' hl)
      ·exact hedom' d
      ·have hj':∀j,j < n→u7 l j=some d→listed.getD j false=false:=fun j hjn hjd=>by
        by_cases hij:i=j
        ·subst hij;exact hun
        ·have:=hj j hjn hjd;rwa [getD_set_ne false hij] at this
       exact hT' d av' (fun d' hd' e=>by
        subst e
        have:=hj i hin (by rw [hdo];exact hd')
        rw [zar (by rw [hi.size];exact hil)] at this;cases this) (hGt d av' hj' hl)
     ·have hgood:i∈late→GoodF P ro nt Q l n late sd t dsl E ee he F:=fun hil'=>hG fun k h1 h2=>(hi.lst k).2 ⟨h1,h2,zax hi.closed i _ hp k ((hC.lat i hil').2.2 k h1)⟩
      obtain ⟨d,av,e',hown,hlookP,hqd,hdn,hq⟩:∃d av e',((i∈late∧lk F d=some av)∨(i ∉ late∧lk E d=some av))∧(∀d' a',(zac l o).any (Nat.beq d')=true→lk e' d'=some a'→∃v,a.tmps[d']? =some v∧Rel w (OO he X) a' v)∧QJ P ro nt (fun h=>h=he) l (sd i) t o d av e':=by
       by_cases hil':i∈late
       ·obtain ⟨d,av,e',k1,k2,k3⟩:=(hgood hil').facts i hil' o ho
        refine ⟨d,av,e',.inl ⟨hil',k1⟩,fun d' a' hpd' hl=> ?_,k3⟩
        have hF:=k2 d' a' hl
        rcases (hgood hil').dn d' a' hF with hE|⟨j,g1,g2⟩
        ·rw [v6] at hE
         cases hE2':lk E d' with
         |some av2=>simp only [hE2',Option.some.injEq] at hE;subst hE;exact hlookE d' _ hpd' hE2'
         |none=>simp only [hE2'] at hE;exact hi.evals d' _ hE
        ·obtain ⟨j',hj',hjd'⟩:=hpd d' hpd'
         have hji:=hC.back i hil j' hj'
         have:j=j':=by
          refine Classical.byContradiction fun hne'=> ?_
          obtain ⟨oj,q1,_,_,q4⟩:=hC.dst j' (by omega)
          exact q4 d' (by rw [←hsome_dst j' oj q1];exact hjd') j (hC.lat j g1).2.1 hne' d' g2 rfl
         subst this
         exact hi.lvals j d' _ g1 g2 hF (hp j hj')
       ·obtain ⟨d,av,e',hEd,hmono,hqd,hdn,hq⟩:=hfact i o (Nat.zero_le _) hin (fun hm=>(List.mem_append.1 hm).elim hie hil') ho
        exact ⟨d,av,e',.inr ⟨hil',hEd⟩,fun d' a' hpd' hl=>hlookE d' a' hpd' (hmono d' a' hl),hqd,hdn,hq.imp (fun h=>⟨h.1,fun h' e=>by subst e;exact h.2 _ (hJC L ee _ hi.J i hin hie fun j hj hcl=>by
         have hl:=zax hi.closed j _ (hi.closed j ((hi.lst j).1 hj).2.2) i hcl
         rw [hun] at hl;cases hl)⟩) id⟩
      have hlook:∀d' av',lkS (sd i) (zac l o) e' t d'=some av'→∃v,a.tmps[d']? =some v∧Rel w (OO he X) av' v:=fun d' av' hl=>by
       unfold lkS at hl
       split at hl
       ·rename_i hpd';exact hlookP d' av' hpd' hl
       ·split at hl
        ·cases hl
        ·rename_i hsd'
         refine hi.base d' av' (fun j hj hd=> ?_) hl
         have hcj:=hS i hin d' hsd' j hj hd
         cases hlj:listed.getD j false with
         |false=>rfl
         |true=>
          have:=zax hi.closed j _ (fun k hk=>hi.closed j hlj k hk) i hcj
          rw [hun] at this;cases this
      have henv:Env X he (evS (sd i) (zac l o) e' t) a.eval w:=by
       refine ⟨hi.heap,fun x av' hx=> ?_⟩
       cases x with
       |tmp d'=>
        obtain ⟨v,e,r⟩:=hlook d' av' hx
        have:a.eval (.tmp d')=v:=by simp [Act.eval,Array.getD_eq_getD_getElem?,e]
        rw [this];exact r
       |const x=>cases hx;exact .v x
       |global g=>cases hx;exact .v _
       |func f=>cases hx;exact .fn _ _ _ _ _ rfl rfl (fun j h=>absurd h (Nat.not_lt_zero j)) (fun j h=>absurd h (Nat.not_lt_zero j))
      have hguard:∀b,gdS l (lkS (sd i) (zac l o) e' t) o=some b→Region.wanted o (yielded l.toArray a.tmps)=b:=fun b hg=>by
       unfold gdS at hg
       unfold Region.wanted
       split at hg
       ·rename_i h0;rw [h0];simpa using hg
       ·rename_i j want h0
        rw [h0]
        simp only
        split at hg
        ·rename_i d2 hd2
         have hd':((l.toArray)[j]?).bind (·.dst)=some d2:=by simpa [u7] using hd2
         split at hg
         ·rename_i c hcc
          obtain ⟨v,e,r⟩:=hlook _ _ hcc
          rw [r.v_eq] at e
          simp only [Option.some.injEq] at hg
          subst hg
          simp only [yielded,hd',Option.bind_some,e]
          cases c <;> cases want <;> rfl
         ·rename_i c hcc
          obtain ⟨v,e,r⟩:=hlook _ _ hcc
          rw [r.v_eq] at e
          simp only [Option.some.injEq] at hg
          subst hg
          simp only [yielded,hd',Option.bind_some,e]
          cases want <;> rfl
         ·cases hg
        ·cases hg
      have hdni:d < nt:=Nat.le_of_ble_eq_true hdn
      have hdi:u7 l i=some d:=by rw [hdo];exact hqd
      have hput:∀v d',d≠d'→(a.put (some d) v).tmps[d']? =a.tmps[d']? :=fun v d' hdd=>by simp [Act.put,hdd]
      have hgo:∀v w',Rel w' (OO he X) av v→HRel X w' he→Keep (u2 he) w (u2 he) w'→wpAnyIn (FW ro) 0 P .any l.toArray (zn5 X nt ⟨t,h,dsl⟩ w0 Q) fuel (listed.setIfInBounds i true) (a.put o.dst v) w':=fun v w' hr hh hkp=>by
       rw [hqd]
       refine ih (U.erase i) L ee he F _ _ _ ?_ hG hU' hf'
       have hkk:=fun b (hb:¬OO he X b) hl=>hkp.oo (X:=X) b hb hl
       refine ⟨by simp [hi.size],hcl,fun k hk=>by rw [getD_set_ne false (by omega)];exact hi.tail k hk,by simp [Act.put,hi.tsz],hi.defs,hi.J,hh,fun k=> ?_,fun k dk avk hk hkd hFk hlk=> ?_,fun k dk avk hk hke hkd hEk hlk=> ?_,fun dk avk hl=> ?_,hi.edom,fun dk avk hj hl=> ?_,hi.keep.trans hkp⟩
       ·rw [hi.lst k]
        by_cases hki:k=i
        ·subst hki;simp [hie]
        ·rw [getD_set_ne false (Ne.symm hki)]
       ·by_cases hki:i=k
        ·subst hki
         have:dk=d:=by rw [hdi] at hkd;exact (Option.some.inj hkd).symm
         subst this
         have:avk=av:=hown.elim (fun h=>Option.some.inj (hFk.symm.trans h.2)) (fun h=>absurd hk h.1)
         subst this
         exact ⟨v,by simp [Act.put,hi.tsz,hdni],hr⟩
        ·rw [getD_set_ne false hki] at hlk
         obtain ⟨u,e,r⟩:=hi.lvals k dk avk hk hkd hFk hlk
         exact ⟨u,by rw [hput v dk (hne d k dk hqd (hC.lat k hk).2.1 (Ne.symm hki) hkd)];exact e,r.keep hkp.size hkk⟩
       ·by_cases hki:i=k
        ·subst hki
         have:dk=d:=by rw [hdi] at hkd;exact (Option.some.inj hkd).symm
         subst this
         have:avk=av:=hown.elim (fun h=>absurd (List.mem_append_right _ h.1) hke) (fun h=>Option.some.inj (hEk.symm.trans h.2))
         subst this
         exact ⟨v,by simp [Act.put,hi.tsz,hdni],hr⟩
        ·rw [getD_set_ne false hki] at hlk
         obtain ⟨u,e,r⟩:=hi.vals k dk avk hk hke hkd hEk hlk
         exact ⟨u,by rw [hput v dk (hne d k dk hqd hk (Ne.symm hki) hkd)];exact e,r.keep hkp.size hkk⟩
       ·obtain ⟨u,e,r⟩:=hi.evals dk avk hl
        obtain ⟨k,k1,k2⟩:=(hi.edom dk).1 (by rw [hl];simp)
        obtain ⟨k3,k4,_⟩:=(hi.lst k).1 k1
        exact ⟨u,by rw [hput v dk (hne d k dk hqd k4 (fun e=>hie (e ▸ k3)) k2)];exact e,r.keep hkp.size hkk⟩
       ·have hj':∀j,j < n→u7 l j=some dk→listed.getD j false=false:=fun j hjn hjd=>by
         by_cases hij:i=j
         ·subst hij;exact hun
         ·have:=hj j hjn hjd;rwa [getD_set_ne false hij] at this
        obtain ⟨u,e,r⟩:=hi.base dk avk hj' hl
        exact ⟨u,by rw [hput v dk (fun e=>by
         have:=hj i hin (by rw [←e];exact hdi)
         rw [zar (by rw [hi.size];exact hil)] at this;cases this)];exact e,r.keep hkp.size hkk⟩
      rcases hq with ⟨hg,hq⟩|⟨hg,rfl⟩
      ·rw [if_pos (hguard _ hg)]
       exact hq he rfl X a w _ _ henv fun v w' hr hh hkp=>hgo v w' hr hh hkp
      ·rw [if_neg (by rw [hguard _ hg];simp)]
       exact ⟨j7,hgo _ _ (.v _) hi.heap (.refl _ _)⟩
 have hrep:∀i,(Array.replicate l.length false).getD i false=false:=znn l.length
 have hsz:l.toArray.size=l.length:=by simp
 obtain ⟨F0,hF0⟩:∃F0,(∀k,k∈eff→k < n→k∈([]:List Nat))→GoodF P ro nt Q l n late sd t dsl E [] h F0:=by
  by_cases hA:∀k,k∈eff→k < n→k∈([]:List Nat)
  ·obtain ⟨F',k1,k2,k3,k4,k5⟩:=zwy hC (r:=late) (fun _ h=>h) hC.lnd (fun j hj d hd=>by
    rw [v6]
    obtain ⟨oj,g1,_,_,g4⟩:=hC.dst j (hC.lat j hj).2.1
    have hoj:oj.dst=some d:=by rw [←hsome_dst j oj g1];exact hd
    cases hx:lk E d with
    |some y=>
     obtain ⟨q,q1,q2,q3,q4⟩:=hE1' d y hx
     exact absurd rfl (g4 d hoj q q1 (fun e=>q3 (e ▸ hj)) d q4)
    |none=>rfl) (hfin _ _ _ h0 hA)
   exact ⟨F',fun _=>⟨k1,k2,k3,k4,k5⟩⟩
  ·exact ⟨[],fun h=>absurd h hA⟩
 refine main l.toArray.size (List.range l.length) [] [] h F0 _ a0 {w0 with drawn:=w0.drawn+1} ⟨by simp,fun i hi=> ?_,fun i _=> ?_,hs.size,hs.defs,h0,?_,fun i=> ?_,fun i d av _ _ _ hl=> ?_,fun i d av _ _ _ _ hl=> ?_,fun d av hl=>by simp [lk] at hl,fun d=>by simp [lk],fun d av _ hl=> ?_,⟨Nat.le_refl _,fun b _ h=>⟨rfl,h⟩,zg7.eq rfl rfl rfl (by first|exact Nat.le_refl _|exact Nat.le_succ _)⟩⟩
  hF0 (fun i hi _=>List.mem_range.2 hi) (by simp)
 ·rw [hsz,hrep i] at hi;cases hi
 ·rw [hsz];exact hrep i
 ·exact hs.heap.grow (Nat.le_refl _) fun _ _=>rfl
 ·rw [hsz,hrep i];simp
 ·rw [hsz,hrep i] at hl;cases hl
 ·rw [hsz,hrep i] at hl;cases hl
 ·obtain ⟨v,e,r⟩:=hs.fr d av hl
  exact ⟨v,e,Rel.keep (w:=w0) (O:=OO h X) (Nat.le_refl _) (fun b hb _=>⟨rfl,hb⟩) r⟩
theorem zh8 {P:Program} {ro:Option Nat} {nt:Nat} {C:Nat→List Res→Prop} {l:List Oper} {eff:List Nat} {sd:Nat→List Tmp} {t:Fr}:∀(os:List Oper) (i:Nat) (e:Fr) (K K':Fr→Prop),(∀e,K e→K' e)→zdj P ro nt C l eff sd t os i e K→zdj P ro nt C l eff sd t os i e K':=by
 intro os
 induction os with
 |nil=>intro i e K K' h hk;exact h _ hk
 |cons o os ih=>
  intro i e K K' h hk
  rcases hk with ⟨h1,h2⟩|⟨h1,d,av,h2,h3⟩
  ·exact .inl ⟨h1,ih _ _ _ _ h h2⟩
  ·exact .inr ⟨h1,d,av,h2,ih _ _ _ _ h h3⟩
theorem zto {P:Program} {ro:Option Nat} {nt rid:Nat} {Q:Exit→St→Prop} {l:List Oper} {t:Fr} {h:List Res} {dsl:List Nat} (n:Nat) (eff late:List Nat) (C:List Res→Prop) [hm:Mixed P] (hc:zmv l n eff late=true)
 (hk:zdj P ro nt (fun _=>C) l (eff++late) (fun _=>zcf l n) t (l.take n) 0 [] (fun E=>∃J:List Nat→Fr→List Res→Prop,J [] [] h∧(∀L ee he,J L ee he→C he)∧
  (∀L ee he,J L ee he→∀i o,i∈eff→i ∉ L→l[i]? =some o→(∀j,j∈zjr l i (q9 l i)→j∈eff→j∈L)→∀u,OE P ro nt o ⟨zb0 (zac l o) E++(zb0 (zac l o) ee++(zjo (zcf l n) t++u)),he,dsl⟩
   (fun s'=>∃av he',s'=⟨stF o av (zb0 (zac l o) E++(zb0 (zac l o) ee++(zjo (zcf l n) t++u))),he',dsl⟩∧J (i::L) (stF o av ee) he'))∧
  (∀L ee he,J L ee he→(∀i,i∈eff→i < n→i∈L)→zeh P ro nt he l (fun _=>zcf l n) t late (E++ee) (fun F=>zca P ro nt l.toArray (l.drop n) Q ⟨F++t,he,dsl⟩)))):aw P ro nt (.region rid l.toArray true) Q ⟨t,h,dsl⟩:=
 ztp n eff late (fun _=>zcf l n) (fun i hi d hf j hj hd=>(zqn hf hj hd).elim) (fun _=>C) hc (zh8 _ _ _ _ _ (fun E ⟨J,h0,h1,h2,h3⟩=>⟨J,h0,fun L ee he hJ i _ _ _=>h1 L ee he hJ,h2,h3⟩) hk)
def zgs (l:List Oper) (n:Nat):List Nat→Bool
 | []=>true
 | [i]=>Nat.blt i n
 |i::j::r=>Nat.blt i n && ((zjr l j (q9 l j)).any (Nat.beq i) && zgs l n (j::r))
section
variable {P:Program} {ro:Option Nat} {nt:Nat} {l:List Oper} {dsl:List Nat}
def jch (P:Program) (ro:Option Nat) (nt:Nat) (C:List Res→Prop) (l:List Oper) (dsl:List Nat) (E tt:Fr):List Nat→Fr→List Res→(Fr→List Res→Prop)→Prop
 | [],ee,he,K=>K ee he
 |i::r,ee,he,K=>∃o,l[i]? =some o∧∀u,OE P ro nt o ⟨zb0 (zac l o) E++(zb0 (zac l o) ee++(tt++u)),he,dsl⟩
   (fun s'=>∃av he',s'=⟨stF o av (zb0 (zac l o) E++(zb0 (zac l o) ee++(tt++u))),he',dsl⟩∧C he'∧jch P ro nt C l dsl E tt r (stF o av ee) he' K)
theorem jcn {C:List Res→Prop} {E tt ee:Fr} {he:List Res} {K:Fr→List Res→Prop} (hk:K ee he):jch P ro nt C l dsl E tt [] ee he K:=hk
theorem jce {C:List Res→Prop} {E tt ee:Fr} {he:List Res} {K:Fr→List Res→Prop} {i:Nat} {r:List Nat} {o:Oper} (ho:l[i]? =some o)
 (hk:∀u,OE P ro nt o ⟨zb0 (zac l o) E++(zb0 (zac l o) ee++(tt++u)),he,dsl⟩
  (fun s'=>∃av he',s'=⟨stF o av (zb0 (zac l o) E++(zb0 (zac l o) ee++(tt++u))),he',dsl⟩∧C he'∧jch P ro nt C l dsl E tt r (stF o av ee) he' K)):jch P ro nt C l dsl E tt (i::r) ee he K:=⟨o,ho,hk⟩
theorem zhs {n:Nat}:∀{eff:List Nat},zgs l n eff=true→∀k,(hk:k+1 < eff.length)→eff[k]∈zjr l eff[k+1] (q9 l eff[k+1])
 | [],_,k,hk=>by simp at hk
 | [i],_,k,hk=>by simp at hk
 |i::j::r,h,k,hk=>by
  simp only [zgs,Bool.and_eq_true] at h
  cases k with
  |zero=>
   obtain ⟨x,hx,e⟩:=List.any_eq_true.1 h.2.1
   simp only [List.getElem_cons_zero,List.getElem_cons_succ,Nat.zero_add]
   rw [Nat.eq_of_beq_eq_true e];exact hx
  |succ k=>exact zhs (eff:=j::r) h.2.2 k (by simpa using hk)
end
theorem zp2 {P:Program} {ro:Option Nat} {nt rid:Nat} {Q:Exit→St→Prop} {l:List Oper} {t:Fr} {h:List Res} {dsl:List Nat} (n:Nat) (eff late:List Nat) (sd:Nat→List Tmp) (hS:∀i,i < n→∀d,(sd i).any (Nat.beq d)=false→∀j,j < n→u7 l j=some d→i∈zjr l j (q9 l j)) (C:Nat→List Res→Prop) (C0:List Res→Prop) [hm:Mixed P] (hc:zmv l n eff late=true) (hch:zgs l n eff=true) (h0:C0 h)
 (hCC:∀i,i < n→i ∉ eff→∀k he,(eff.take k= []→he=h)→C0 he→(∀j∈eff.take k,i ∉ zjr l j (q9 l j))→C i he)
 (hk:zdj P ro nt C l (eff++late) sd t (l.take n) 0 [] (fun E=>jch P ro nt C0 l dsl E (zjo (zcf l n) t) eff [] h (fun ee he=>zeh P ro nt he l sd t late (E++ee) (fun F=>zca P ro nt l.toArray (l.drop n) Q ⟨F++t,he,dsl⟩)))):aw P ro nt (.region rid l.toArray true) Q ⟨t,h,dsl⟩:=by
 have hnd:∀(L:List Nat),zgs l n L=true→(∀i,i < l.length→∀j∈q9 l i,j < i)→L.Pairwise (· < ·)∧∀i∈L,i < n:=by
  intro L
  induction L with
  |nil=>intro _ _;exact ⟨.nil,fun i h=>by cases h⟩
  |cons i L ih=>
   intro hL hb
   cases L with
   |nil=>exact ⟨by simp,fun j hj=>by simp only [List.mem_singleton] at hj;subst hj;exact Nat.le_of_ble_eq_true hL⟩
   |cons j L=>
    have hL':=hL
    simp only [zgs,Bool.and_eq_true] at hL
    obtain ⟨h1,h2⟩:=ih hL.2.2 hb
    have hjn:j < n:=h2 j (by simp)
    have hij:i < j:=by
     have hcl:=zhs hL' 0 (by simp)
     have hlt:∀(k:Nat) (S:List Nat) (b:Nat),(∀x∈S,x < b)→∀x∈zjr l k S,x < b:=by
      intro k
      induction k with
      |zero=>intro S b hS x hx;exact hS x hx
      |succ k ihk=>
       intro S b hS x hx
       unfold zjr at hx
       refine ihk _ b (fun y hy=> ?_) x hx
       split at hy
       ·rename_i hany
        rcases List.mem_append.1 hy with hy|hy
        ·exact hS y hy
        ·obtain ⟨z,hz,e⟩:=List.any_eq_true.1 hany
         have hzb:=hS z hz
         rw [←Nat.eq_of_beq_eq_true e] at hzb
         by_cases hkl:k < l.length
         ·have:=hb k hkl y hy;omega
         ·simp only [q9,List.getElem?_eq_none (Nat.le_of_not_lt hkl)] at hy;cases hy
       ·exact hS y hy
     simp only [List.getElem_cons_zero,List.getElem_cons_succ,Nat.zero_add] at hcl
     by_cases hjl:j < l.length
     ·exact hlt j _ j (hb j hjl) i hcl
     ·have:q9 l j= []:=by simp only [q9,List.getElem?_eq_none (Nat.le_of_not_lt hjl)]
      rw [this] at hcl
      have:=hlt j [] 0 (fun x hx=>by cases hx) i hcl;omega
    refine ⟨List.pairwise_cons.2 ⟨fun x hx=> ?_,h1⟩,fun x hx=> ?_⟩
    ·rcases List.mem_cons.1 hx with rfl|hx
     ·exact hij
     ·have:=(List.pairwise_cons.1 h1).1 x hx;omega
    ·rcases List.mem_cons.1 hx with rfl|hx
     ·exact Nat.le_of_ble_eq_true hL.1
     ·exact h2 x hx
 obtain ⟨hlt,hin⟩:=hnd eff hch (zmw hc).back
 refine ztp n eff late sd hS C hc (zh8 _ _ _ _ _ (fun E hE=> ?_) hk)
 refine ⟨fun L ee he=>C0 he∧∃k,(eff.take k= []→he=h)∧L=(eff.take k).reverse∧jch P ro nt C0 l dsl E (zjo (zcf l n) t) (eff.drop k) ee he (fun ee he=>zeh P ro nt he l sd t late (E++ee) (fun F=>zca P ro nt l.toArray (l.drop n) Q ⟨F++t,he,dsl⟩)),⟨h0,0,fun _=>rfl,by simp,by simpa using hE⟩,?_,?_,?_⟩
 ·rintro L ee he ⟨hCe,k,hke,rfl,_⟩ i hi hie hcl
  exact hCC i hi hie k he hke hCe fun j hj=>hcl j (List.mem_reverse.2 hj)
 ·rintro L ee he ⟨hCe,k,hke,rfl,hj⟩ i o hie hiL hio hpre u
  obtain ⟨m,hm',rfl⟩:=List.getElem_of_mem hie
  have hkm:k≤m:=Classical.byContradiction fun h=>hiL (by rw [List.mem_reverse,List.mem_take_iff_getElem];exact ⟨m,by omega,rfl⟩)
  have hmk:m=k:=by
   rcases Nat.eq_or_lt_of_le hkm with h|h
   ·exact h.symm
   ·exfalso
    obtain ⟨m,rfl⟩:∃m',m=m'+1:=⟨m - 1,by omega⟩
    have hcl:=zhs hch m hm'
    have:=hpre _ hcl (List.getElem_mem _)
    rw [List.mem_reverse,List.mem_take_iff_getElem] at this
    obtain ⟨q,hq,e⟩:=this
    have hq':q < m:=by omega
    have:=List.pairwise_iff_getElem.1 hlt q m (by omega) (by omega) hq'
    omega
  subst hmk
  rw [List.drop_eq_getElem_cons hm'] at hj
  obtain ⟨o',ho',hoe⟩:=hj
  obtain rfl:o'=o:=Option.some.inj (ho'.symm.trans hio)
  intro X a w K Q' hs hK
  refine hoe u X a w K Q' hs fun s' a' w' hn hs' hk'=> ?_
  obtain ⟨av,he',e,hC',hj'⟩:=hn
  exact hK s' a' w' ⟨av,he',e,hC',m+1,fun q=>absurd (congrArg List.length q) (by rw [List.length_take,List.length_nil];omega),by rw [List.take_succ_eq_append_getElem hm',List.reverse_append];rfl,hj'⟩ hs' hk'
 ·rintro L ee he ⟨hCe,k,hke,rfl,hj⟩ hall
  have:eff.length≤k:=Classical.byContradiction fun h=>by
   have hk':k < eff.length:=by omega
   have:=hall eff[k] (List.getElem_mem _) (hin _ (List.getElem_mem _))
   rw [List.mem_reverse,List.mem_take_iff_getElem] at this
   obtain ⟨q,hq,e⟩:=this
   have:=List.pairwise_iff_getElem.1 hlt q k (by omega) hk' (by omega)
   omega
  rw [List.drop_eq_nil_of_le this] at hj
  exact hj
theorem zx9 {P:Program} {ro:Option Nat} {nt rid:Nat} {Q:Exit→St→Prop} {l:List Oper} {t:Fr} {h:List Res} {dsl:List Nat} (n:Nat) (eff late:List Nat) (sd:Nat→List Tmp) (hS:∀i,i < n→∀d,(sd i).any (Nat.beq d)=false→∀j,j < n→u7 l j=some d→i∈zjr l j (q9 l j)) (C:List Res→Prop) [hm:Mixed P] (hc:zmv l n eff late=true) (hch:zgs l n eff=true) (h0:C h)
 (hk:zdj P ro nt (fun _=>C) l (eff++late) sd t (l.take n) 0 [] (fun E=>jch P ro nt C l dsl E (zjo (zcf l n) t) eff [] h (fun ee he=>zeh P ro nt he l sd t late (E++ee) (fun F=>zca P ro nt l.toArray (l.drop n) Q ⟨F++t,he,dsl⟩)))):aw P ro nt (.region rid l.toArray true) Q ⟨t,h,dsl⟩:=
 zp2 n eff late sd hS (fun _=>C) C hc hch h0 (fun _ _ _ _ _ _ h _=>h) hk
theorem zjv {P:Program} {ro:Option Nat} {nt rid:Nat} {Q:Exit→St→Prop} {l:List Oper} {t:Fr} {h:List Res} {dsl:List Nat} (n:Nat) (eff late:List Nat) (C:List Res→Prop) [hm:Mixed P] (hc:zmv l n eff late=true) (hch:zgs l n eff=true) (h0:C h)
 (hk:zdj P ro nt (fun _=>C) l (eff++late) (fun _=>zcf l n) t (l.take n) 0 [] (fun E=>jch P ro nt C l dsl E (zjo (zcf l n) t) eff [] h (fun ee he=>zeh P ro nt he l (fun _=>zcf l n) t late (E++ee) (fun F=>zca P ro nt l.toArray (l.drop n) Q ⟨F++t,he,dsl⟩)))):aw P ro nt (.region rid l.toArray true) Q ⟨t,h,dsl⟩:=
 zx9 n eff late (fun _=>zcf l n) (fun i hi d hf j hj hd=>(zqn hf hj hd).elim) C hc hch h0 hk
def yco (l:List Oper) (eff early:List Nat):Bool:= !eff.isEmpty && early.all fun i=>eff.all fun j=>(zjr l j (q9 l j)).any (Nat.beq i)
theorem zju {P:Program} {ro:Option Nat} {nt rid:Nat} {Q:Exit→St→Prop} {l:List Oper} {t:Fr} {h:List Res} {dsl:List Nat} (n:Nat) (eff late early:List Nat) (C:List Res→Prop) [hm:Mixed P] (hc:zmv l n eff late=true) (hch:zgs l n eff=true) (hy:yco l eff early=true) (h0:C h)
 (hk:zdj P ro nt (fun i he=>(mem? i early=true→he=h)∧C he) l (eff++late) (fun _=>zcf l n) t (l.take n) 0 [] (fun E=>jch P ro nt C l dsl E (zjo (zcf l n) t) eff [] h (fun ee he=>zeh P ro nt he l (fun _=>zcf l n) t late (E++ee) (fun F=>zca P ro nt l.toArray (l.drop n) Q ⟨F++t,he,dsl⟩)))):aw P ro nt (.region rid l.toArray true) Q ⟨t,h,dsl⟩:=by
 refine zp2 n eff late (fun _=>zcf l n) (fun i hi d hf j hj hd=>(zqn hf hj hd).elim) (fun i he=>(mem? i early=true→he=h)∧C he) C hc hch h0 (fun i hi hie k he hke hC hcl=>⟨fun hm=> ?_,hC⟩) hk
 simp only [yco,Bool.and_eq_true,List.all_eq_true] at hy
 obtain ⟨hne,hy⟩:=hy
 refine hke ?_;cases hq:eff.take k with
 |nil=>rfl
 |cons j r=>
  exfalso
  have hj:j∈eff.take k:=by rw [hq];simp
  obtain ⟨x,hx,e⟩:=List.any_eq_true.1 (hy i (mem?_iff.1 hm) j (List.mem_of_mem_take hj))
  rw [←Nat.eq_of_beq_eq_true e] at hx
  exact hcl j hj hx
theorem zt3 {P:Program} {w:World} {O:Nat→Prop} {full:Bool} {sz n:Nat} {rows:List (List AV)} {v:Value} (hr:Rel w O (.list full sz rows) v) (hn:n≤rows.length):
 ∃c:Array Value,(∀w':World,w'.heap=w.heap→(Builtin.firstCells sz n v).run P w'= .ok c w')∧c.size=n * sz∧(∀i (hi:i < n) j (hj:j < (rows[i]'(by omega)).length),∃u,c[i * sz+j]? =some u∧Rel w O (rows[i]'(by omega))[j] u)∧∀i (hi:i < n),(rows[i]'(by omega)).length=sz:=by
 cases hr with
 |lnil _ _ a cap h=>
  obtain rfl:n=0:=by simpa using hn
  refine ⟨#[],fun w' _=> ?_,by simp,fun i hi=>absurd hi (Nat.not_lt_zero i),fun i hi=>absurd hi (Nat.not_lt_zero i)⟩
  cases a with
  |none=>rfl
  |some a=>simp only [Builtin.firstCells,Nat.zero_mul];rfl
 |list _ _ _ b off cap g h1 h2 h3 h4 h5 h6 h7=>
  have hcell:∀k,k < n * sz→w.cell? ⟨b,off+k,none⟩=some ((w.cell? ⟨b,off+k,none⟩).getD undef):=fun k hk=>by
   have hsz:0 < sz:=by
    rcases Nat.eq_zero_or_pos sz with h|h
    ·subst h;simp at hk
    ·exact h
   have hi:k / sz < n:=(Nat.div_lt_iff_lt_mul hsz).2 hk
   have hi':k / sz < rows.length:=by omega
   have hj:k % sz < rows[k / sz].length:=by rw [h5 _ hi'];exact Nat.mod_lt _ hsz
   have e:=h6 _ hi' _ hj
   have ek:off+k / sz * sz+k % sz=off+k:=by have:=Nat.div_add_mod k sz;rw [Nat.mul_comm] at this;omega
   rw [ek] at e
   rw [e];rfl
  refine ⟨((List.range (n * sz)).map fun k=>(w.cell? ⟨b,off+k,none⟩).getD undef).toArray,fun w' hw'=> ?_,by simp,fun i hi j hj=>⟨g i j,?_,h7 i (by omega) j hj⟩,fun i hi=>h5 i (by omega)⟩
  ·simp only [Builtin.firstCells]
   exact run_loadCells w' _ _ _ fun k hk=>by rw [zal,zeu (show w'.heap[b]? =w.heap[b]? by rw [hw'])];exact hcell k hk
  ·have hj':j < sz:=by rw [←h5 i (by omega)];exact hj
   have hlt:i * sz+j < n * sz:=by
    have:(i+1) * sz≤n * sz:=Nat.mul_le_mul_right _ hi
    rw [Nat.add_mul] at this;omega
   have e:=h6 i (by omega) j hj
   rw [Nat.add_assoc] at e
   simp [hlt,e]
section
variable {P:Program} {ro:Option Nat} {nt:Nat} {dst:Option Tmp} {ty:TypeId} {pos:String} {after:Array Edge} {guard:Option (Nat×Bool)} {x y:Operand}
end
def zke (s:Value) (lo hi sz:Nat):Value:=match s with
 | .slice a _ c=>sliced a lo hi c sz
 |v=>v
section
variable {P:Program} {ro:Option Nat} {nt:Nat} {h:List Res} {f:Operand→Option AV} {dst:Option Tmp} {ty:TypeId} {pos:String} {after:Array Edge} {guard:Option (Nat×Bool)} {x y z:Operand}
end
section
variable {P:Program} {ro:Option Nat} {nt:Nat} {dst:Option Tmp} {ty:TypeId} {pos:String} {after:Array Edge} {guard:Option (Nat×Bool)} {x y:Operand}
theorem zow {T T2 E sz i d hi:Nat} {s:Value} {rows ys:List (List AV)} {t:Fr} {h h':List Res} {ds:List Nat} {dt:Tmp} {next:St→Prop} (hx:ev t x=some (.v (zke s d hi sz))) [hrow:HasRow h s i sz E rows]
 [Und P T (.slice E)] [Siz P E sz] (hdh:d≤hi) (hhi:hi≤rows.length)
 (hsrc:∀X a w,Sim X nt ⟨t,h,ds⟩ a w→∃c2 m,(∀w':World,w'.heap=w.heap→(Builtin.lenOf (a.eval y)).run P w'= .ok m w')∧Nat.min m (hi - d)=ys.length∧(∀w':World,w'.heap=w.heap→(Builtin.firstCells sz ys.length (a.eval y)).run P w'= .ok c2 w')∧c2.size=ys.length * sz∧
  (∀i (hi:i < ys.length) j (hj:j < ys[i].length),∃u,c2[i * sz+j]? =some u∧Rel w (OO h X) ys[i][j] u)∧∀i (hi:i < ys.length),ys[i].length=sz)
 (hd:dok nt (some dt)=true) [hset:SetAt h i (.row s sz E (rows.take d++(ys++rows.drop (d+ys.length)))) h'] (hk:next ⟨(dt,.v (.int .i64 ys.length))::t,h',ds⟩) (hone:∀r∈ys,r.all AV.one=true):
 OE P ro nt ⟨some dt,.call ⟨.builtin .copy,[x,y].toArray,[T,T2].toArray⟩,ty,pos,after,guard⟩ ⟨t,h,ds⟩ next:=by
 intro X a w K Q hs hK
 have ex:=(hs.env.rel x _ hx).v_eq
 have hx0:=hs.heap.holds _ (List.mem_of_getElem? hrow.h)
 obtain ⟨ax,cap,es,hcap,hsz,_⟩:=zhf hs.heap hrow.h
 obtain ⟨c2,m,l2,hmin,e2,s2,g2,hlx2⟩:=hsrc X a w hs
 have hcnt:d+ys.length≤hi:=by have:ys.length≤hi - d:=hmin ▸ Nat.min_le_right m (hi - d);omega
 have hrun:(execOp a.eval ⟨some dt,.call ⟨.builtin .copy,[x,y].toArray,[T,T2].toArray⟩,ty,pos,after,guard⟩).run P w=((Builtin.copy_ [T,T2].toArray ty [zke s d hi sz,a.eval y].toArray).run P w).andThen fun v w=> .ok (.value v) w:=by
  simp only [execOp,resolve,List.map_toArray,List.map_cons,List.map_nil,Sem.run_bind,Sem.run_pure,Result.andThen_ok,invoke,builtin,ex]
 refine ⟨j7,?_⟩
 rw [zan rfl,hrun]
 have hsub:∀q c,(Builtin.copy_ [T,T2].toArray ty [.slice q (hi - d) c,a.eval y].toArray).run P w=(((match q with|some a=>storeCells a c2.toList|none=>pure ()):Sem Unit).run P w).andThen fun _ w=> .ok (goInt ys.length) w:=by
  intro q c
  simp only [Builtin.copy_,List.getElem?_toArray,List.getElem?_cons_zero,List.getElem?_cons_succ,Sem.run_bind,run_underlying (d:=TypeDesc.slice E),run_sizeOf (n:=sz),Result.andThen_ok,Sem.run_pure,l2 w rfl,hmin,e2 w rfl]
  cases q with
  |none=>rfl
  |some a2=>simp only [Sem.run_bind,Sem.run_pure]
 by_cases h0:ys.length=0
 ·obtain rfl:ys= []:=List.eq_nil_of_length_eq_zero h0
  have hc0:c2= #[]:=by simpa using s2
  have he:h'=h:=by
   rw [←hset.h]
   obtain ⟨hlt,e⟩:=List.getElem?_eq_some_iff.1 hrow.h
   rw [List.nil_append,List.length_nil,Nat.add_zero,List.take_append_drop,←e,List.set_getElem_self]
  rw [es]
  simp only [zke,sliced]
  rw [hsub,hc0]
  have:∀q:Option Addr,(((match q with|some a=>storeCells a (#[]:Array Value).toList|none=>pure ()):Sem Unit).run P w)= .ok () w:=fun q=>by cases q <;> rfl
  rw [this]
  simp only [Result.andThen_ok,Oper.uponIn]
  refine hK _ _ _ hk ?_ (by rw [he];exact .refl _ _)
  have hsim:Sim X nt ⟨t,h',ds⟩ a w:=by rw [he];exact hs
  exact hsim.put (av:= .v _) hd (.v _)
 ·cases ax with
  |none=>
   rw [es] at hx0
   obtain ⟨q0,_⟩:=hx0
   rw [q0] at hhi
   simp only [List.length_nil] at hhi
   omega
  |some addr=>
  rw [es] at hx0
  obtain ⟨m1,_,m3,m4,c0,m5,m6,m7⟩:=hx0
  obtain ⟨b,off,spot⟩:=addr
  simp only at m1 m5 m6 m7
  subst m1
  have ep:zke s d hi sz= .slice (some ⟨b,off+d * sz,none⟩) (hi - d) (cap - d):=by
   rw [es];simp only [zke,sliced];rw [if_neg (by omega)];simp only [Option.map_some,zal]
  have hcs:∀v∈c2.toList,v.oneCell'=true:=by
   intro v hv
   obtain ⟨k,hk1,hk2⟩:=List.mem_iff_getElem.1 hv
   have hk3:k < ys.length * sz:=by rw [←s2];simpa using hk1
   have hsz0:0 < sz:=by
    rcases Nat.eq_zero_or_pos sz with h|h
    ·subst h;simp at hk3
    ·exact h
   have hi:k / sz < ys.length:=(Nat.div_lt_iff_lt_mul hsz0).2 hk3
   have hj:k % sz < ys[k / sz].length:=by rw [hlx2 _ hi];exact Nat.mod_lt _ hsz0
   obtain ⟨u,e,r⟩:=g2 _ hi _ hj
   have ek:k / sz * sz+k % sz=k:=by have:=Nat.div_add_mod k sz;rw [Nat.mul_comm] at this;exact this
   rw [ek] at e
   have:u=v:=by
    have h2:c2[k]? =some v:=by rw [←hk2];simp [show k < c2.size by rw [s2];exact hk3]
    exact Option.some.inj (e.symm.trans h2)
   subst this
   exact r.one (List.all_eq_true.1 (hone _ (List.getElem_mem hi)) _ (List.getElem_mem hj))
  have hmul:(d+ys.length) * sz≤cap * sz:=Nat.mul_le_mul_right _ (by omega)
  rw [Nat.add_mul] at hmul
  obtain ⟨w',f1,f2,f3,c',f4,f5,f6,ev⟩:=zbs (P:=P) c2.toList (off+d * sz) 0 w c0 hcs m5 (by simp [s2];omega)
  rw [ep,hsub]
  simp only
  rw [f1]
  simp only [Result.andThen_ok,Oper.uponIn]
  have hbown:b∈(Res.row s sz E rows).own:=by rw [es];simp [Res.own]
  have hkk:∀b',¬OO h X b'→b' < w.heap.size→w'.heap[b']? =w.heap[b']? ∧¬OO h X b':=fun b' hb' _=>⟨f3 b' (fun he=>hb' (.inl (j5.2 ⟨_,List.mem_of_getElem? hrow.h,he ▸ hbown⟩))),hb'⟩
  have hoth:∀b',b' < w.heap.size→b' ∉ (Res.row s sz E rows).own→w'.heap[b']? =w.heap[b']? :=fun b' _ hne=>f3 b' fun he=>hne (he ▸ hbown)
  have hown:(Res.row s sz E (rows.take d++(ys++rows.drop (d+ys.length)))).own=(Res.row s sz E rows).own:=by rw [es];rfl
  have hlen:(rows.take d++(ys++rows.drop (d+ys.length))).length=rows.length:=by simp;omega
  have hlow:∀k (hk:k < (rows.take d++(ys++rows.drop (d+ys.length))).length) (h:k < d∨d+ys.length≤k),(rows.take d++(ys++rows.drop (d+ys.length)))[k]=rows[k]'(by omega):=fun k hk h=>by
   rcases h with h|h
   ·rw [List.getElem_append_left (by simp;omega)];simp
   ·rw [List.getElem_append_right (by simp;omega),List.getElem_append_right (by simp;omega),List.getElem_drop];congr 1;simp;omega
  have hmid:∀k (hk:k < (rows.take d++(ys++rows.drop (d+ys.length))).length) (h1:d≤k) (h2:k < d+ys.length),(rows.take d++(ys++rows.drop (d+ys.length)))[k]=ys[k - d]'(by omega):=fun k hk h1 h2=>by
   rw [List.getElem_append_right (by simp;omega),List.getElem_append_left (by simp;omega)];congr 1;simp;omega
  have hholds:(Res.row s sz E (rows.take d++(ys++rows.drop (d+ys.length)))).holds w' (OO h X):=by
   rw [es]
   refine ⟨rfl,hlen.symm,hcap,fun k hk=> ?_,c',f4,by rw [f5];exact m6,fun k hk j hj=> ?_⟩
   ·by_cases h:d≤k∧k < d+ys.length
    ·rw [hmid k hk h.1 h.2];exact hlx2 _ (by omega)
    ·rw [hlow k hk (by omega)];exact hsz _ (by omega)
   ·have hk':k < rows.length:=by rw [←hlen];exact hk
    by_cases h:d≤k∧k < d+ys.length
    ·simp only [hmid k hk h.1 h.2] at hj ⊢
     obtain ⟨u,e,r⟩:=g2 (k - d) (by omega) j hj
     have hj':j < sz:=by rw [←hlx2 (k - d) (by omega)];exact hj
     have q1:(k - d+1) * sz≤ys.length * sz:=Nat.mul_le_mul_right _ (by omega)
     rw [Nat.add_mul] at q1
     have q2:k * sz=d * sz+(k - d) * sz:=by rw [←Nat.add_mul];congr 1;omega
     refine ⟨u,?_,r.keep (by omega) hkk⟩
     show c'[off+k * sz+j]? =some u
     rw [f6,if_pos (by simp;omega),show off+k * sz+j - (off+d * sz+0)=(k - d) * sz+j by omega]
     simpa using e
    ·simp only [hlow k hk (by omega)] at hj ⊢
     obtain ⟨u,e,r⟩:=m7 k hk' j hj
     have hj':j < sz:=by rw [←hsz k hk'];exact hj
     refine ⟨u,?_,r.keep (by omega) hkk⟩
     show c'[off+k * sz+j]? =some u
     rw [f6,if_neg ?_]
     ·exact e
     ·simp only [Array.length_toList,s2]
      rcases Nat.lt_or_ge k d with q|q
      ·have:(k+1) * sz≤d * sz:=Nat.mul_le_mul_right _ q
       rw [Nat.add_mul] at this;omega
      ·have:(d+ys.length) * sz≤k * sz:=Nat.mul_le_mul_right _ (by omega)
       rw [Nat.add_mul] at this;omega
  refine hK _ _ _ hk ?_ (by rw [←hset.h];exact Keep.set hrow.h hown (by omega) hoth ev)
  have hO:OO h' X=OO h X:=by funext b';rw [←hset.h];simp only [OO,zco hrow.h hown]
  have hsim:Sim X nt ⟨t,h',ds⟩ a w':=⟨by rw [←hset.h];exact hs.heap.set hrow.h hown (by omega) hoth hholds,hs.size,by rw [hO];exact hs.fr.keep (by omega) hkk,hs.defs⟩
  exact hsim.put (av:= .v _) hd (.v _)
theorem zue {T T2 E sz i d hi n:Nat} {full:Bool} {s:Value} {rows zs:List (List AV)} {t:Fr} {h h':List Res} {ds:List Nat} {dt:Tmp} {next:St→Prop} (hx:ev t x=some (.v (zke s d hi sz))) (hy:ev t y=some (.list full sz zs)) [hrow:HasRow h s i sz E rows]
 [Und P T (.slice E)] [Siz P E sz] (hdh:d≤hi) (hhi:hi≤rows.length) (hn:min zs.length (hi - d)=n)
 (hd:dok nt (some dt)=true) [hset:SetAt h i (.row s sz E (rows.take d++(zs.take n++rows.drop (d+(zs.take n).length)))) h'] (hk:next ⟨(dt,.v (.int .i64 (zs.take n).length))::t,h',ds⟩) (hone:∀r∈zs,r.all AV.one=true):
 OE P ro nt ⟨some dt,.call ⟨.builtin .copy,[x,y].toArray,[T,T2].toArray⟩,ty,pos,after,guard⟩ ⟨t,h,ds⟩ next:=by
 have hnl:n≤zs.length:=by omega
 have hl:(zs.take n).length=n:=by simp;omega
 refine zow hx hdh hhi (fun X a w hs=> ?_) hd hk (fun r hr=>hone r (List.mem_of_mem_take hr))
 have ry:=hs.env.rel y _ hy
 obtain ⟨c2,e2,s2,g2,l2⟩:=zt3 (P:=P) ry hnl
 obtain ⟨q,cap,e,_⟩:=zct ry
 refine ⟨c2,zs.length,fun w' _=>by rw [e];rfl,by rw [hl];exact hn,by rw [hl];exact e2,by rw [hl];exact s2,fun k hk j hj=> ?_,fun k hk=> ?_⟩
 ·have hk':k < n:=by rw [hl] at hk;exact hk
  simp only [List.getElem_take] at hj ⊢
  exact g2 k hk' j hj
 ·rw [List.getElem_take];exact l2 k (by rw [hl] at hk;exact hk)
end
section
variable {P:Program} {ro:Option Nat} {nt:Nat} {h:List Res} {f:Operand→Option AV} {dst:Option Tmp} {ty:TypeId} {pos:String} {after:Array Edge} {guard:Option (Nat×Bool)} {x y z:Operand}
theorem yim (a:Addr) (n c k sz:Nat):zke (.slice (some a) n c) 0 k sz= .slice (some a) k c:=by
 unfold zke
 simp only [sliced]
 rw [zxv];simp
end
theorem zz5 (a:Option Addr) (n c sz:Nat):zke (.slice a n c) 0 n sz= .slice a n c:=by
 cases a with
 |none=>simp [zke,sliced]
 |some a=>exact yim a n c n sz
section
variable {P:Program} {ro:Option Nat} {nt:Nat} {ty:TypeId} {pos:String} {after:Array Edge} {guard:Option (Nat×Bool)} {x y:Operand}
theorem zuf {T T2 E sz i:Nat} (n:Nat) {full:Bool} {s:Value} {rows zs:List (List AV)} {t:Fr} {h h':List Res} {ds:List Nat} {dt:Tmp} {next:St→Prop} (hx:ev t x=some (.v s)) (hy:ev t y=some (.list full sz zs)) [hrow:HasRow h s i sz E rows]
 [Und P T (.slice E)] [Siz P E sz] (hn:min zs.length rows.length=n)
 (hd:dok nt (some dt)=true) [hset:SetAt h i (.row s sz E (zs.take n++rows.drop n)) h'] (hk:next ⟨(dt,.v (.int .i64 n))::t,h',ds⟩) (hone:∀r∈zs,r.all AV.one=true):
 OE P ro nt ⟨some dt,.call ⟨.builtin .copy,[x,y].toArray,[T,T2].toArray⟩,ty,pos,after,guard⟩ ⟨t,h,ds⟩ next:=by
 intro X a w K Q hs hK
 obtain ⟨ax,cap,es,_⟩:=zhf hs.heap hrow.h
 have hp:zke s 0 rows.length sz=s:=by rw [es];exact zz5 _ _ _ _
 have hl:(zs.take n).length=n:=by simp;omega
 have hset':SetAt h i (.row s sz E (rows.take 0++(zs.take n++rows.drop (0+(zs.take n).length)))) h':=by
  rw [hl,List.take_zero,List.nil_append,Nat.zero_add];exact hset
 exact zue (P:=P) (ro:=ro) (nt:=nt) (T:=T) (T2:=T2) (E:=E) (sz:=sz) (i:=i) (d:=0) (hi:=rows.length) (n:=n) (full:=full) (s:=s) (rows:=rows) (zs:=zs) (h':=h') (next:=next) (by rw [hp];exact hx) hy (Nat.zero_le _) (Nat.le_refl _) (by rw [Nat.sub_zero];exact hn) hd (hset:=hset') (by rw [hl];exact hk) hone X a w K Q hs hK
end
theorem yc5 {zv:Array Value} {n i j sz:Nat} (hs:zv.size=sz) (hi:i < n) (hj:j < zv.size):(Builtin.zeroCells zv n)[i * sz+j]? =some zv[j]:=by
 subst hs
 have h1:(i+1) * zv.size≤n * zv.size:=Nat.mul_le_mul_right _ hi
 rw [Nat.add_mul] at h1
 have hlt:i * zv.size+j < n * zv.size:=by omega
 have hm:(i * zv.size+j) % zv.size=j:=by rw [Nat.mul_comm,Nat.mul_add_mod,Nat.mod_eq_of_lt hj]
 simp [Builtin.zeroCells,hlt,hm,hj]
section
variable {P:Program} {ro:Option Nat} {nt:Nat} {h:List Res} {f:Operand→Option AV} {dst:Option Tmp} {ty:TypeId} {pos:String} {after:Array Edge} {guard:Option (Nat×Bool)} {x y z u:Operand} {t:Fr} {ds:List Nat} {next:St→Prop}
theorem yad {d:Tmp} {T E bytes sz:Nat} {n c:Nat} {zv:Value} [hu:Und P T (.slice E)] [hz:ZerV P E zv] [Siz P E sz] [hby:Byt P E bytes] (hx:ev t x=some (.v (.int .i64 n))) (hy:ev t y=some (.v (.int .i64 c))) (hlt:dok nt (some d)=true)
 (hnc:n≤c) (hn:c≤1099511627776) (hb:bytes≤128:=by decide) (hzs:zv.cells.size=sz:=by rfl) (hk:∀b,next ⟨(d,.v (.slice (some ⟨b,0,none⟩) n c))::t,.row (.slice (some ⟨b,0,none⟩) n c) sz E (List.replicate n (zv.cells.toList.map AV.v))::h,ds⟩):
 OE P ro nt ⟨some d,.makeSlice T x y,ty,pos,after,guard⟩ ⟨t,h,ds⟩ next:=by
 intro X a w K Q hs hK
 refine ⟨j7,?_⟩
 have hbi:=hby.h
 cases hi:P.info? E with
 |none=>simp [hi] at hbi
 |some inf=>
  simp [hi] at hbi
  have hwn:IntKind.i64.wrap (n:Int)=n:=IntWalk.i64_in _ ⟨by omega,by omega⟩
  have hwc:IntKind.i64.wrap (c:Int)=c:=IntWalk.i64_in _ ⟨by omega,by omega⟩
  let cells:Array Value:=if c * sz=0 then (#[]:Array Value) else Builtin.zeroCells zv.cells c
  have hmul:inf.bytes * c≤128 * 1099511627776:=Nat.mul_le_mul (by omega) hn
  have hl2:¬((inf.bytes:Int) * (c:Int) > 2 ^ 48):=by
   rw [←Int.natCast_mul]
   generalize inf.bytes * c=m at hmul ⊢
   omega
  have hsize:cells.size=c * sz:=by
   simp only [cells];split
   ·rename_i h0;rw [h0];rfl
   ·simp [Builtin.zeroCells,hzs]
  have e:(execOp a.eval (⟨some d,.makeSlice T x y,ty,pos,after,guard⟩:Oper)).run P w= .ok (.value (.slice (some ⟨w.heap.size,0,none⟩) n c)) {w with heap:=w.heap.push (.cells cells E (0,0))}:=by
   refine run_v _ ?_
   rw [(hs.env.rel x _ hx).v_eq,(hs.env.rel y _ hy).v_eq]
   have hai:∀(m:Nat) (w:World),(asInt (.int .i64 (m:Int))).run P w= .ok (m:Int) w:=fun m w=>rfl
   simp only [Instr.makeSlice,Sem.run_bind,run_underlying (h:=hu),hai,Result.andThen_ok,zb3 hi,hwn,hwc]
   rw [if_neg (by simp only [Bool.or_eq_true,decide_eq_true_eq,not_or];exact ⟨⟨⟨by omega,hl2⟩,by omega⟩,by omega⟩)]
   simp only [Sem.run_bind,run_askRoom,Result.andThen_ok,run_sizeOf (n:=sz),Int.toNat_natCast]
   by_cases h0:c * sz=0
   ·have hr0:Array.range 0= #[]:=by simp
    simp [h0,newRow,hr0,cells]
   ·simp [h0,newRow,run_zeroValue hz.h,cells,Builtin.zeroCells,hzs]
  rw [zan rfl,e]
  have hx2:Res.holds {w with heap:=w.heap.push (.cells cells E (0,0))} (OO (.row (.slice (some ⟨w.heap.size,0,none⟩) n c) sz E (List.replicate n (zv.cells.toList.map AV.v))::h) X) (.row (.slice (some ⟨w.heap.size,0,none⟩) n c) sz E (List.replicate n (zv.cells.toList.map AV.v))):=by
   refine ⟨rfl,by simp,hnc,fun i hi=>by simp [hzs],cells,by simp,by simp [hsize],fun i hi j hj=> ?_⟩
   have hi':i < n:=by simpa using hi
   have hj':j < sz:=by simpa [hzs] using hj
   have h0:¬c * sz=0:=fun h0=>by rcases Nat.mul_eq_zero.1 h0 with h|h <;> omega
   have hz2:=yc5 (zv:=zv.cells) (n:=c) (i:=i) (j:=j) hzs (by omega) (by omega)
   refine ⟨zv.cells[j]'(by omega),?_,?_⟩
   ·simp only [cells,h0,if_false,Nat.zero_add];exact hz2
   ·simp only [List.getElem_replicate,List.getElem_map,Array.getElem_toList];exact .v _
  have hk2:Keep (u2 h) w (u2 (.row (.slice (some ⟨w.heap.size,0,none⟩) n c) sz E (List.replicate n (zv.cells.toList.map AV.v))::h)) {w with heap:=w.heap.push (.cells cells E (0,0))}:=Keep.alloc (h:=h) (.cells cells E (0,0)) (.row (.slice (some ⟨w.heap.size,0,none⟩) n c) sz E (List.replicate n (zv.cells.toList.map AV.v))) rfl
  have hh2:=hs.heap.alloc (.cells cells E (0,0)) (.row (.slice (some ⟨w.heap.size,0,none⟩) n c) sz E (List.replicate n (zv.cells.toList.map AV.v))) rfl hx2
  exact hK _ _ _ (hk w.heap.size) (Sim.put (s:=⟨t,.row (.slice (some ⟨w.heap.size,0,none⟩) n c) sz E (List.replicate n (zv.cells.toList.map AV.v))::h,ds⟩) ⟨hh2,hs.size,hs.fr.keep hk2.size (fun b hb hl=>hk2.oo b hb hl),hs.defs⟩ hlt (.v _)) hk2
end
abbrev bp (b:Nat):AV:=pZ b
theorem zxr {nt:Nat} {t t':Fr} {h:List Res} {ds:List Nat} (hs:∀i,lk t' i=lk t i):Ent nt ⟨t,h,ds⟩ ⟨t',h,ds⟩:=
 ⟨fun _ h=>h,fun X ac w hsim=>⟨hsim.heap,hsim.size,fun i av e=>hsim.fr i av (by rw [←hs];exact e),hsim.defs⟩⟩
theorem zmd {B B':Fr} (h:∀i,lk B i=lk B' i):∀{A:Fr} {i:Nat},lk (A++B) i=lk (A++B') i
 | [],i=>h i
 |(j,a)::r,i=>by
  simp only [List.cons_append,lk]
  split
  ·rfl
  ·exact zmd h
theorem zov {P:Program} {ro:Option Nat} {nt:Nat} {o:Oper} {s:St} {next next':St→Prop} (h:OE P ro nt o s next) (he:∀s',next s'→∃s'',Ent nt s' s''∧next' s''):OE P ro nt o s next':=fun X a w K Q hs hK=>by
 refine h X a w K Q hs fun s' a' w' hn hs' hk=> ?_
 obtain ⟨s'',e,hn'⟩:=he s' hn
 exact hK s'' a' w' hn' (e.2 X a' w' hs') ⟨hk.size,fun b hb ho=>⟨(hk.same b hb ho).1,fun hm=>(hk.same b hb ho).2 (e.1 b hm)⟩,hk.env⟩
end Go.Ab
set_option linter.unusedSectionVars false
namespace Go.Ab
open Go
section
variable {K V:Type} [DecidableEq K]
def zbn (k:K):List (K×V)→Option V
 | []=>none
 |p::r=>if p.1=k then some p.2 else zbn k r
def zd8 (k:K) (v:V):List (K×V)→List (K×V)
 | []=> [(k,v)]
 |p::r=>if p.1=k then (p.1,v)::r else p::zd8 k v r
def zbe (f:V→AV) (m:List (K×V)):List (K×AV):=m.map fun p=>(p.1,f p.2)
theorem zh6 (f:V→AV) (k:K):∀m:List (K×V),zc2 k (zbe f m)=(zbn k m).map f
 | []=>rfl
 |p::m=>by
  have ih:=zh6 f k m
  simp only [zbe,List.map_cons,zc2,zbn] at ih ⊢
  by_cases h:p.1=k
  ·simp [h]
  ·rw [if_neg h,if_neg h,ih]
theorem zj2 (f:V→AV) (k:K) (v:V):∀m:List (K×V),zlv k (f v) (zbe f m)=zbe f (zd8 k v m)
 | []=>rfl
 |p::m=>by
  have ih:=zj2 f k v m
  simp only [zbe,List.map_cons,zlv,zd8] at ih ⊢
  by_cases h:p.1=k
  ·rw [if_pos h,if_pos h];rfl
  ·rw [if_neg h,if_neg h,ih];rfl
theorem zc4 (k k':K) (v:V):∀m:List (K×V),zbn k (zd8 k' v m)=if k'=k then some v else zbn k m
 | []=>by simp only [zd8,zbn]
 |p::m=>by
  have ih:=zc4 k k' v m
  simp only [zd8]
  by_cases h:p.1=k'
  ·rw [if_pos h];simp only [zbn,h]
   by_cases hk:k'=k
   ·simp [hk]
   ·simp [hk]
  ·rw [if_neg h];simp only [zbn,ih]
   by_cases hp:p.1=k
   ·rw [if_pos hp,if_neg (fun q=>h (hp.trans q.symm)),if_pos hp]
   ·rw [if_neg hp,if_neg hp]
theorem zwd (k:K) (v:V):∀m:List (K×V),(zd8 k v m).length=if (zbn k m).isSome then m.length else m.length+1
 | []=>rfl
 |p::m=>by
  have ih:=zwd k v m
  by_cases h:p.1=k
  ·simp [zd8,zbn,h]
  ·simp only [zd8,zbn,if_neg h,List.length_cons,ih]
   split <;> simp
def zsn {α:Type} (p:α→Bool) (key:α→K) (m:List (K×Bool)) (l:List α):List (K×Bool):=l.foldl (fun m e=>if p e then zd8 (key e) true m else m) m
theorem zf6 {α:Type} (p:α→Bool) (key:α→K) (k:K):∀(l:List α) (m:List (K×Bool)),zbn k (zsn p key m l)=if l.any (fun e=>p e && decide (key e=k)) then some true else zbn k m
 | [],m=>by simp [zsn]
 |e::l,m=>by
  have ih:=zf6 p key k l (if p e then zd8 (key e) true m else m)
  simp only [zsn,List.foldl_cons,List.any_cons] at ih ⊢
  rw [ih]
  by_cases h:(l.any fun e=>p e && decide (key e=k))=true
  ·simp only [h,Bool.or_true,if_true]
  ·have h':=Bool.eq_false_iff.2 h
   simp only [h',Bool.or_false,Bool.false_eq_true,if_false]
   cases hp:p e with
   |false=>simp
   |true=>simp [zc4]
def yi4 {α:Type} (p:α→Bool) (key:α→K) (val:α→V) (m:List (K×V)) (l:List α):List (K×V):=l.foldl (fun m e=>if p e then zd8 (key e) (val e) m else m) m
theorem zs1 {α:Type} (p:α→Bool) (key:α→K) (val:α→V) (k:K):∀(l:List α) (m:List (K×V)),zbn k (yi4 p key val m l)=(((l.filter fun e=>p e && decide (key e=k)).getLast?).map val).or (zbn k m)
 | [],m=>by simp [yi4]
 |e::l,m=>by
  have ih:=zs1 p key val k l (if p e then zd8 (key e) (val e) m else m)
  simp only [yi4,List.foldl_cons,List.filter_cons] at ih ⊢
  rw [ih]
  cases hp:p e with
  |false=>simp
  |true=>
   by_cases hk:key e=k
   ·simp only [hk,decide_true,Bool.and_self,if_true,zc4]
    cases hl:(l.filter fun e=>p e && decide (key e=k)).getLast? with
    |none=>
     rw [List.getLast?_eq_none_iff] at hl
     simp [hl]
    |some y=>simp [List.getLast?_cons,hl]
   ·simp [hk,zc4]
def ykf {α:Type} (p:α→Bool) (key:α→K) (m:List (K×Int)) (l:List α):List (K×Int):=l.foldl (fun m e=>if p e then zd8 (key e) ((zbn (key e) m).getD 0+1) m else m) m
theorem zti {α:Type} (p:α→Bool) (key:α→K) (k:K):∀(l:List α) (m:List (K×Int)),(zbn k (ykf p key m l)).getD 0=(zbn k m).getD 0+((l.filter fun e=>p e && decide (key e=k)).length:Int)
 | [],m=>by simp [ykf]
 |e::l,m=>by
  have ih:=zti p key k l (if p e then zd8 (key e) ((zbn (key e) m).getD 0+1) m else m)
  simp only [ykf,List.foldl_cons,List.filter_cons] at ih ⊢
  rw [ih]
  cases hp:p e with
  |false=>simp
  |true=>
   by_cases hk:key e=k
   ·simp only [hk,decide_true,Bool.and_self,if_true,zc4,Option.getD_some,List.length_cons];omega
   ·simp [hk,zc4]
end
class HasMapE (h:List Res) (r:Nat) (i:outParam Nat) (es:outParam (List (Value×AV))) (j st:outParam Nat):Prop where
 h:h[i]? =some (.mape r es j st)
instance HasMapE.head {r:Nat} {es:List (Value×AV)} {j st:Nat} {h:List Res}:HasMapE (.mape r es j st::h) r 0 es j st:=⟨rfl⟩
instance HasMapE.tail {r i:Nat} {es:List (Value×AV)} {j st:Nat} {x:Res} {h:List Res} [k:HasMapE h r i es j st]:HasMapE (x::h) r (i+1) es j st:=⟨by simpa using k.h⟩
def ziv {K:Type} [DecidableEq K] (k:K) (z:AV) (es:List (K×AV)):List (K×AV):=match zc2 k es with
 |some _=>es
 |none=>es++ [(k,z)]
theorem zo2 {K:Type} [DecidableEq K] (k:K) (z:AV):∀es:List (K×AV),zc2 k es=none→zc2 k (es++ [(k,z)])=some z
 | [],_=>by simp [zc2]
 |p::es,h=>by
  simp only [zc2,List.cons_append] at h ⊢
  split at h
  ·cases h
  ·rename_i hn;rw [if_neg hn];exact zo2 k z es h
theorem zwr {K:Type} [DecidableEq K] (k:K) (z:AV) (es:List (K×AV)):(zc2 k (ziv k z es)).getD z=(zc2 k es).getD z:=by
 unfold ziv
 cases h:zc2 k es with
 |some a=>simp [h]
 |none=>simp [zo2 k z es h]
section
variable {P:Program} {ro:Option Nat} {nt:Nat} {dst:Option Tmp} {ty:TypeId} {pos:String} {after:Array Edge} {guard:Option (Nat×Bool)} {x y z:Operand} {t:Fr} {h:List Res} {ds:List Nat} {next:St→Prop} {f:Operand→Option AV}
 {K:Type} [DecidableEq K] {enc:K→Value} {es:List (K×AV)} {kt et T:TypeId} {r i:Nat} {k:K} {av:AV}
theorem zq5 {d:Tmp} {kv:AV} {zv:Value} {h':Res→List Res} (hlt:dok nt (some d)=true) (hx:ev t x=some (.v (.map (some r)))) (hy:ev t y=some kv) [hkv:KeyV kv (enc k)] [hm:HasMap h r i (j9 enc es)] [hu:Und P T (.map kt et)] [hkt:KeyT P kt enc] [hz:ZerV P et zv]
 [hset:∀y,SetAt h i y (h' y)] (hk:∀(j st:Nat),(∀a,(j9 enc (ziv k (.v zv) es)).modify j (fun p=>(p.1,a))=j9 enc (zlv k a es))→
  next ⟨(d,.tup [(zc2 k es).getD (.v zv),.v (.int .i64 st)])::t,h' (.mape r (j9 enc (ziv k (.v zv) es)) j st),ds⟩):
 OE P ro nt ⟨some d,.mapEntry T x y,ty,pos,after,guard⟩ ⟨t,h,ds⟩ next:=by
 intro X a w Kc Q hs hK
 refine ⟨j7,?_⟩
 obtain ⟨ents,clock,h1,h2,h3,h4,h5⟩:=hs.heap.holds _ (List.mem_of_getElem? hm.h)
 have hks:=keys_of_holds h2 h3
 have hl':es.length=ents.toList.length:=by simpa [j9] using h2
 have hle:es.length=ents.size:=by simpa using hl'
 have hfind:=hkt.find w k ents.toList (es.map (·.1)) hks
 have hrun:∃ents' clock' j st v,(Instr.mapEntry T (a.eval x) (a.eval y)).run P w= .ok (.tuple #[v,.int .i64 (st:Nat)]) {w with heap:=w.heap.setIfInBounds r (.map ents' clock')}∧
  Rel w (OO h X) ((zc2 k es).getD (.v zv)) v∧(∀a,(j9 enc (ziv k (.v zv) es)).modify j (fun p=>(p.1,a))=j9 enc (zlv k a es))∧
  (j9 enc (ziv k (.v zv) es)).length=ents'.size∧(∀i (h1:i < (j9 enc (ziv k (.v zv) es)).length) (h2:i < ents'.size),(j9 enc (ziv k (.v zv) es))[i].1=ents'[i].key∧Rel w (OO h X) (j9 enc (ziv k (.v zv) es))[i].2 ents'[i].val)∧
  (∀i (h:i < ents'.size),ents'[i].born < clock')∧(∀i j (hi:i < ents'.size) (hj:j < ents'.size),i < j→ents'[i].born < ents'[j].born)∧∃h:j < ents'.size,ents'[j].born=st:=by
  rw [(hs.env.rel x _ hx).v_eq,hkv.h w _ _ (hs.env.rel y _ hy)]
  simp only [Instr.mapEntry,Sem.run_bind,run_underlying (h:=hu),Result.andThen_ok,MapKept.run_getObj_map h1,hkt.chk,hfind]
  rcases zk0 k es ents.toList 0 hl' with ⟨g,b,c⟩|⟨j,g1,g2,g,b,c,d⟩
  ·rw [g]
   have he:ziv k (.v zv) es=es++ [(k,.v zv)]:=by unfold ziv;rw [b]
   rw [he]
   refine ⟨ents.push {key:=enc k,val:=zv,born:=clock},clock+1,es.length,clock,zv,?_,by rw [b];exact .v _,fun a=> ?_,by simp [j9,hle],fun i a1 a2=> ?_,fun i a1=> ?_,fun i j a1 a2 a3=> ?_,by simp [hle],?_⟩
   ·simp only [Sem.run_bind,run_zeroValue hz.h,Result.andThen_ok,MapKept.run_setObj_map _ h1,Sem.run_pure,goInt]
   ·rw [c a]
    simp only [j9,List.map_append,List.map_cons,List.map_nil]
    have:es.length=(es.map fun p=>(enc p.1,p.2)).length:=by simp
    rw [this]
    have hmod:∀(l:List (Value×AV)) (p:Value×AV) (g:Value×AV→Value×AV),(l++ [p]).modify l.length g=l++ [g p]:=by
     intro l p g
     induction l with
     |nil=>rfl
     |cons q l ih=>simp [ih]
    rw [hmod]
   ·simp only [j9,List.map_append,List.map_cons,List.map_nil,List.getElem_append,Array.getElem_push]
    by_cases hi:i < ents.size
    ·have:i < (List.map (fun p:K×AV=>(enc p.1,p.2)) es).length:=by simp;omega
     simp only [hi,this,dif_pos]
     exact h3 i (by simpa [j9] using this) hi
    ·have h9:¬i < (List.map (fun p:K×AV=>(enc p.1,p.2)) es).length:=by simp;omega
     simp only [hi,h9,dif_neg,not_false_eq_true,List.getElem_singleton]
     exact ⟨trivial,.v _⟩
   ·rw [Array.getElem_push]
    split
    ·have:=h4 i (by assumption);omega
    ·simp
   ·simp only [Array.size_push] at a1 a2
    rw [Array.getElem_push,Array.getElem_push]
    split <;> split
    ·exact h5 i j _ _ a3
    ·have:=h4 i (by assumption);simpa using this
    ·omega
    ·omega
   ·simp [Array.getElem_push,hle]
  ·have hj:j < ents.size:=by simpa using g2
   have hkey:ents[j].key=enc k:=by
    have:=(h3 j (by simpa [j9] using g1) hj).1
    simp [j9] at this
    rw [←this,c]
   have he:ziv k (.v zv) es=es:=by unfold ziv;rw [b]
   rw [g,he]
   have hgd:((ents[j]?).map (·.key)).getD (enc k)=enc k:=by
    rw [Array.getElem?_eq_getElem hj];simp [hkey]
   have hsame:(ents.modify j fun e=>{e with key:=enc k})=ents:=by
    apply Array.ext
    ·simp
    ·intro q q1 q2
     rw [Array.getElem_modify]
     split
     ·rename_i hjq;subst hjq
      have hk2:∀e:MapEntry,e.key=enc k→({e with key:=enc k}:MapEntry)=e:=fun e he=>by
       cases e;simp only at he;subst he;rfl
      exact hk2 _ hkey
     ·rfl
   refine ⟨ents,clock,j,ents[j].born,ents[j].val,?_,?_,fun a=> ?_,h2,h3,h4,h5,hj,rfl⟩
   ·simp only [Sem.run_bind,Nat.zero_add,hgd,zfe (P:=P) (kt:=kt),Result.andThen_ok,hsame,MapKept.run_setObj_map _ h1,Sem.run_pure,goInt]
    simp only [Array.getElem?_eq_getElem hj,Option.map_some,Option.getD_some]
    rfl
   ·rw [b]
    have:=(h3 j (by simpa [j9] using g1) hj).2
    simpa [j9] using this
   ·rw [d a]
    refine List.ext_getElem (by simp [j9]) fun q q1 q2=> ?_
    simp only [j9,List.getElem_modify,List.getElem_map,List.getElem_set]
    split
    ·rename_i hq;subst hq;rw [c]
    ·rfl
 obtain ⟨ents',clock',j,st,v,e,hv,hmod,e1,e2,e3,e4,e5,e6⟩:=hrun
 rw [zan rfl]
 have e':(execOp a.eval (⟨some d,.mapEntry T x y,ty,pos,after,guard⟩:Oper)).run P w= .ok (.value (.tuple #[v,.int .i64 (st:Nat)])) {w with heap:=w.heap.setIfInBounds r (.map ents' clock')}:=run_v _ e
 rw [e']
 have hlt':r < w.heap.size:=(Array.getElem?_eq_some_iff.1 h1).1
 have hoth:∀b,b≠r→(w.heap.setIfInBounds r (.map ents' clock'))[b]? =w.heap[b]? :=fun b hb=>by rw [Array.getElem?_setIfInBounds_ne (Ne.symm hb)]
 have hrown:OO h X r:= .inl (j5.2 ⟨_,List.mem_of_getElem? hm.h,by simp [Res.own]⟩)
 have hkk:∀b,¬OO h X b→b < w.heap.size→(w.heap.setIfInBounds r (.map ents' clock'))[b]? =w.heap[b]? ∧¬OO h X b:=fun b hb hl=>⟨hoth b (fun q=>hb (q ▸ hrown)),hb⟩
 have hholds:(Res.mape r (j9 enc (ziv k (.v zv) es)) j st).holds {w with heap:=w.heap.setIfInBounds r (.map ents' clock')} (OO h X):=
  ⟨ents',clock',by simp [hlt'],e1,fun i a1 a2=>⟨(e2 i a1 a2).1,(e2 i a1 a2).2.keep (by simp) hkk⟩,e3,e4,e5,e6⟩
 have hh2:=hs.heap.set (w':={w with heap:=w.heap.setIfInBounds r (.map ents' clock')}) hm.h (y:= .mape r (j9 enc (ziv k (.v zv) es)) j st) rfl (by simp) (fun b hb hne=>hoth b (by simpa [Res.own] using hne)) hholds
 rw [(hset _).h] at hh2
 have hown:u2 (h' (.mape r (j9 enc (ziv k (.v zv) es)) j st))=u2 h:=by rw [←(hset _).h];exact zco hm.h rfl
 have hkeep:Keep (u2 h) w (u2 (h' (.mape r (j9 enc (ziv k (.v zv) es)) j st))) {w with heap:=w.heap.setIfInBounds r (.map ents' clock')}:=⟨by simp,fun b hb ho=>⟨hoth b (fun q=>ho (q ▸ j5.2 ⟨_,List.mem_of_getElem? hm.h,by simp [Res.own]⟩)),by rw [hown];exact ho⟩,zg7.eq rfl rfl rfl (by first|exact Nat.le_refl _|exact Nat.le_succ _)⟩
 have hkoo:=fun b hb hl=>hkeep.oo (X:=X) b hb hl
 refine hK _ _ _ (hk j st hmod) (Sim.put (s:=⟨t,h' (.mape r (j9 enc (ziv k (.v zv) es)) j st),ds⟩) ⟨hh2,hs.size,hs.fr.keep hkeep.size (fun b hb hl=>hkoo b hb hl),hs.defs⟩ hlt (.tup _ _ rfl fun q q1 q2=> ?_)) hkeep
 match q,q1,q2 with
 |0,_,_=>exact hv.keep hkeep.size (fun b hb hl=>hkoo b hb hl)
 |1,_,_=>exact .v _
 |q+2,q1,_=>simp at q1;omega
theorem zm1 {j st:Nat} {es' es2:List (Value×AV)} {h':List Res} (hx:ev t x=some (.v (.map (some r)))) (hy:ev t y=some (.v (.int .i64 st))) (hz:ev t z=some av) [hm:HasMapE h r i es' j st] (he:es'.modify j (fun p=>(p.1,av))=es2)
 [hset:SetAt h i (.map r es2) h'] (hk:next ⟨t,h',ds⟩):OE P ro nt ⟨none,.entryStore T x y z,ty,pos,after,guard⟩ ⟨t,h,ds⟩ next:=by
 refine ze3 rfl rfl (fun X a w hs=> ?_) hk
 obtain ⟨ents,clock,h1,h2,h3,h4,h5,hj,h6⟩:=hs.heap.holds _ (List.mem_of_getElem? hm.h)
 have hrv:=hs.env.rel z _ hz
 subst he
 have hidx:ents.findIdx? (fun e=>((e.born:Nat):Int)==((st:Nat):Int))=some j:=by
  rw [Array.findIdx?_eq_some_iff_getElem]
  refine ⟨hj,by simp [h6],fun q hq=> ?_⟩
  have:=h5 q j (by omega) hj hq
  simp;omega
 obtain ⟨ents',hents⟩:∃e,e=ents.modify j (fun e=>{e with val:=a.eval z}):=⟨_,rfl⟩
 have hsz:ents'.size=ents.size:=by rw [hents];simp
 have hrun:(Instr.entryStore T (a.eval x) (a.eval y) (a.eval z)).run P w= .ok () {w with heap:=w.heap.setIfInBounds r (.map ents' clock)}:=by
  rw [(hs.env.rel x _ hx).v_eq,(hs.env.rel y _ hy).v_eq]
  simp only [Instr.entryStore,Sem.run_bind,MapKept.run_getObj_map h1,Result.andThen_ok,asInt,asIntOf,Sem.run_pure,hidx,MapKept.run_setObj_map _ h1,hents]
 have hlt:r < w.heap.size:=(Array.getElem?_eq_some_iff.1 h1).1
 have hoth:∀b,b≠r→(w.heap.setIfInBounds r (.map ents' clock))[b]? =w.heap[b]? :=fun b hb=>by rw [Array.getElem?_setIfInBounds_ne (Ne.symm hb)]
 have hrown:OO h X r:= .inl (j5.2 ⟨_,List.mem_of_getElem? hm.h,by simp [Res.own]⟩)
 have hkk:∀b,¬OO h X b→b < w.heap.size→(w.heap.setIfInBounds r (.map ents' clock))[b]? =w.heap[b]? ∧¬OO h X b:=fun b hb hl=>⟨hoth b (fun q=>hb (q ▸ hrown)),hb⟩
 have hmapholds:(Res.map r (es'.modify j (fun p=>(p.1,av)))).holds {w with heap:=w.heap.setIfInBounds r (.map ents' clock)} (OO h X):=by
  refine ⟨ents',clock,by simp [hlt],by simp [hsz,h2],fun i a1 a2=> ?_,fun i a1=> ?_,fun i j' a1 a2 a3=> ?_⟩
  ·have b1:i < es'.length:=by simpa using a1
   have b2:i < ents.size:=by omega
   have:=h3 i b1 b2
   subst hents
   rw [List.getElem_modify,Array.getElem_modify]
   split
   ·exact ⟨this.1,hrv.keep (by simp) hkk⟩
   ·exact ⟨this.1,this.2.keep (by simp) hkk⟩
  ·subst hents
   rw [Array.getElem_modify]
   have b2:i < ents.size:=by simpa using a1
   split <;> exact h4 i b2
  ·subst hents
   have b1:i < ents.size:=by simpa using a1
   have b2:j' < ents.size:=by simpa using a2
   rw [Array.getElem_modify,Array.getElem_modify]
   split <;> split <;> exact h5 i j' b1 b2 a3
 have hh2:=hs.heap.set (w':={w with heap:=w.heap.setIfInBounds r (.map ents' clock)}) hm.h (y:= .map r (es'.modify j (fun p=>(p.1,av)))) rfl (by simp) (fun b hb hne=>hoth b (by simpa [Res.own] using hne)) hmapholds
 rw [hset.h] at hh2
 have hown:u2 h'=u2 h:=by rw [←hset.h];exact zco hm.h rfl
 have hkeep:Keep (u2 h) w (u2 h') {w with heap:=w.heap.setIfInBounds r (.map ents' clock)}:=⟨by simp,fun b hb ho=>⟨hoth b (fun q=>ho (q ▸ j5.2 ⟨_,List.mem_of_getElem? hm.h,by simp [Res.own]⟩)),by rw [hown];exact ho⟩,zg7.eq rfl rfl rfl (by first|exact Nat.le_refl _|exact Nat.le_succ _)⟩
 exact ⟨_,zv1 hrun,⟨hh2,hs.size,hs.fr.keep hkeep.size (fun b hb hl=>hkeep.oo b hb hl),hs.defs⟩,hkeep⟩
theorem zqx {kv:AV} {zv:Value} {j st:Nat} (hx:f x=some (.v (.map (some r)))) (hy:f y=some kv) [hkv:KeyV kv (enc k)] [hm:HasMapE h r i (j9 enc (ziv k (.v zv) es)) j st] [hu:Und P T (.map kt et)] [hkt:KeyT P kt enc] [hz:ZerV P et zv]
 (hl:(zc2 k es).getD (.v zv)=av):QR P h f ⟨dst,.lookup T x y false,ty,pos,after,guard⟩ av:=fun X ρ w hev=>by
 obtain ⟨ents,clock,h1,h2,h3,h4,h5,_⟩:=hev.heap.holds _ (List.mem_of_getElem? hm.h)
 have hks:=keys_of_holds h2 h3
 have hl':(ziv k (.v zv) es).length=ents.toList.length:=by simpa [j9] using h2
 have hfind:=hkt.find w k ents.toList ((ziv k (.v zv) es).map (·.1)) hks
 have key:=zwr k (.v zv) es
 rw [hl] at key
 have hrun:∃v,(Instr.lookup T (ρ x) (ρ y) false).run P w= .ok v w∧Rel w (OO h X) av v:=by
  rw [(hev.rel x _ hx).v_eq,hkv.h w _ _ (hev.rel y _ hy)]
  simp only [Instr.lookup,Sem.run_bind,run_underlying (h:=hu),Result.andThen_ok,MapKept.run_getObj_map h1,Sem.run_pure,hkt.chk,hfind]
  rcases zk0 k (ziv k (.v zv) es) ents.toList 0 hl' with ⟨a,b,c⟩|⟨j,g1,g2,a,b,c,d⟩
  ·rw [b] at key
   refine ⟨zv,?_,by rw [←key];exact .v _⟩
   rw [a];simp [run_zeroValue hz.h]
  ·rw [b] at key
   refine ⟨(ents[j]'(by simpa using g2)).val,?_,?_⟩
   ·rw [a];simp
   ·have:=(h3 j (by simpa [j9] using g1) (by simpa using g2)).2
    rw [←key];simpa [j9] using this
 obtain ⟨v,e,hr⟩:=hrun
 exact ⟨v,run_v _ e,hr⟩
end
def zej (p:Int×Int×Int):Value:= .agg #[.int .i64 p.1,.int .i64 p.2.1,.int .i64 p.2.2]
class Chk3 (P:Program) (kt:TypeId):Prop where
 h:∀(e:Bool) (w:World) (a b c:Int),(Instr.checkKey e 10000 kt (.agg #[.int .i64 a,.int .i64 b,.int .i64 c])).run P w= .ok () w
instance KeyT.int3 {P:Program} {kt:TypeId} [he:EqInts P kt 3] [hc:Chk3 P kt] [hi:IsA P kt true]:KeyT P kt zej where
 inj:=fun a b h=>by
  obtain ⟨a1,a2,a3⟩:=a;obtain ⟨b1,b2,b3⟩:=b
  simpa [zej] using h
 stays:=fun a=>by simp [zej,Instr.sameBits]
 chk:=fun e w k=>hc.h e w k.1 k.2.1 k.2.2
 find:=fun w k l ks h=>by
  obtain ⟨d,hd,hb⟩:=hi.h
  refine (congrArg (fun r=>r) (run_findKey_eq (P:=P) (w:=w) (k:=kt) (by rw [hd];cases d <;> simp [ynf] at hb ⊢) _ l)).trans ?_
  refine ze8 (fun w a b=> ?_) k w l ks 0 h
  have:=zl5 (P:=P) (T:=kt) w (xs:= [a.1,a.2.1,a.2.2]) (ys:= [b.1,b.2.1,b.2.2]) rfl rfl
  simp only [zej]
  refine this.trans ?_;obtain ⟨a1,a2,a3⟩:=a;obtain ⟨b1,b2,b3⟩:=b
  congr 1
  by_cases h1:a1=b1 <;> by_cases h2:a2=b2 <;> by_cases h3:a3=b3 <;> simp [h1,h2,h3]
instance KeyV.int3 {a b c:Int}:KeyV (.agg [.v (.int .i64 a),.v (.int .i64 b),.v (.int .i64 c)]) (zej (a,b,c)):=⟨fun w O u r=>by
 cases r with
 |agg _ cs hl hr=>
  simp at hl
  have h0:=(hr 0 (by simp) (by omega)).v_eq
  have h1:=(hr 1 (by simp) (by omega)).v_eq
  have h2:=(hr 2 (by simp) (by omega)).v_eq
  simp only [zej]
  congr 1
  apply Array.ext
  ·simp [←hl]
  ·intro i hi hi2
   match i,hi,hi2 with
   |0,_,_=>exact h0
   |1,_,_=>exact h1
   |2,_,_=>exact h2
   |i+3,hi,hi2=>simp at hi2;omega⟩
class ZV (z:Value) (a:AV):Prop where
 h:∀w O u,Rel w O (.v z) u→Rel w O a u
instance ZV.v {z:Value}:ZV z (.v z):=⟨fun _ _ _ h=>h⟩
instance ZV.agg2 {a b:Value}:ZV (.agg #[a,b]) (.agg [.v a,.v b]):=⟨fun w O u h=>by
 rw [h.v_eq]
 refine .agg _ _ rfl fun j h1 h2=> ?_
 match j,h1,h2 with
 |0,_,_=>exact .v _
 |1,_,_=>exact .v _
 |j+2,h1,_=>simp at h1;omega⟩
theorem zqs {P:Program} {h:List Res} {f:Operand→Option AV} {o:Oper} {a b:AV} (hw:∀w O v,Rel w O a v→Rel w O b v) (q:QR P h f o a):QR P h f o b:=fun X ρ w he=>
 let ⟨v,e,r⟩:=q X ρ w he;⟨v,e,hw _ _ _ r⟩
theorem za7 {P:Program} {h:List Res} {f:Operand→Option AV} {o:Oper} {a b:AV} (q:QR P h f o a) (e:a=b):QR P h f o b:=e ▸ q
section
variable {P:Program} {ro:Option Nat} {nt:Nat} {dst:Option Tmp} {ty:TypeId} {pos:String} {after:Array Edge} {guard:Option (Nat×Bool)} {x y z:Operand} {t:Fr} {h h':List Res} {ds:List Nat} {next:St→Prop} {f:Operand→Option AV}
 {K V:Type} [DecidableEq K] {enc:K→Value} {g:V→AV} {m:List (K×V)} {kt et T:TypeId} {r i:Nat} {k:K} {kv:AV}
theorem zna {zv:Value} {d:V} [hz:ZV zv (g d)] {w:World} {O:Nat→Prop} {u:Value} (h:Rel w O ((zc2 k (zbe g m)).getD (.v zv)) u):Rel w O (g ((zbn k m).getD d)) u:=by
 rw [zh6] at h
 cases hg:zbn k m with
 |some a=>rw [hg] at h;exact h
 |none=>rw [hg] at h;exact hz.h w O u h
theorem zbx (d:V) {zv:Value} (hx:f x=some (.v (.map (some r)))) (hy:f y=some kv) [hkv:KeyV kv (enc k)] [hm:HasMap h r i (j9 enc (zbe g m))] [hu:Und P T (.map kt et)] [hkt:KeyT P kt enc] [hz:ZerV P et zv] [hd:ZV zv (g d)]:
 QR P h f ⟨dst,.lookup T x y false,ty,pos,after,guard⟩ (g ((zbn k m).getD d)):=
 zqs (fun w O v hr=>zna hr) (zoo hx hy rfl)
theorem zop (d:V) {zv:Value} {b:Bool} (hx:f x=some (.v (.map (some r)))) (hy:f y=some kv) [hkv:KeyV kv (enc k)] [hm:HasMap h r i (j9 enc (zbe g m))] [hu:Und P T (.map kt et)] [hkt:KeyT P kt enc] [hz:ZerV P et zv] [hd:ZV zv (g d)]
 (hb:(zbn k m).isSome=b):QR P h f ⟨dst,.lookup T x y true,ty,pos,after,guard⟩ (.tup [g ((zbn k m).getD d),.v (.bool b)]):=
 zqs (fun w O v hr=>by
  cases hr with
  |tup _ cs hl hr=>
   refine .tup _ _ (by simpa using hl) fun j h1 h2=> ?_
   match j,h1,h2 with
   |0,_,h2=>exact zna (hr 0 (by simp) h2)
   |1,_,h2=>exact hr 1 (by simp) h2
   |j+2,h1,_=>simp at h1;omega) (zt9 hx hy rfl (b:=b) (by rw [zh6,Option.isSome_map];exact hb))
theorem zwa (d:V) {zv:Value} {j st:Nat} (hx:f x=some (.v (.map (some r)))) (hy:f y=some kv) [hkv:KeyV kv (enc k)] [hm:HasMapE h r i (j9 enc (ziv k (.v zv) (zbe g m))) j st] [hu:Und P T (.map kt et)] [hkt:KeyT P kt enc] [hz:ZerV P et zv] [hd:ZV zv (g d)]:
 QR P h f ⟨dst,.lookup T x y false,ty,pos,after,guard⟩ (g ((zbn k m).getD d)):=
 zqs (fun w O v hr=>zna hr) (zqx hx hy rfl)
theorem za0 {v:V} (hx:ev t x=some (.v (.map (some r)))) (hy:ev t y=some kv) (hz:ev t z=some (g v)) [hkv:KeyV kv (enc k)] [hm:HasMap h r i (j9 enc (zbe g m))] [hu:Und P T (.map kt et)] [hkt:KeyT P kt enc]
 [hset:SetAt h i (.map r (j9 enc (zbe g (zd8 k v m)))) h'] (hk:next ⟨t,h',ds⟩):OE P ro nt ⟨none,.mapUpdate T x y z,ty,pos,after,guard⟩ ⟨t,h,ds⟩ next:=by
 have:SetAt h i (.map r (j9 enc (zlv k (g v) (zbe g m)))) h':=by rw [zj2];exact hset
 exact ziq hx hy hz hk
theorem zh2 {d:Tmp} {zv:Value} {h':Res→List Res} (hlt:dok nt (some d)=true) (hx:ev t x=some (.v (.map (some r)))) (hy:ev t y=some kv) [hkv:KeyV kv (enc k)] [hm:HasMap h r i (j9 enc (zbe g m))] [hu:Und P T (.map kt et)] [hkt:KeyT P kt enc] [hz:ZerV P et zv]
 [hset:∀y,SetAt h i y (h' y)] (hk:∀(j st:Nat),(∀v,(j9 enc (ziv k (.v zv) (zbe g m))).modify j (fun p=>(p.1,g v))=j9 enc (zbe g (zd8 k v m)))→
  next ⟨(d,.tup [(zc2 k (zbe g m)).getD (.v zv),.v (.int .i64 st)])::t,h' (.mape r (j9 enc (ziv k (.v zv) (zbe g m))) j st),ds⟩):
 OE P ro nt ⟨some d,.mapEntry T x y,ty,pos,after,guard⟩ ⟨t,h,ds⟩ next:=
 zq5 hlt hx hy fun j st hj=>hk j st fun v=>by rw [hj (g v),zj2]
theorem zki {v:V} {j st:Nat} {es':List (Value×AV)} (hx:ev t x=some (.v (.map (some r)))) (hy:ev t y=some (.v (.int .i64 st))) (hz:ev t z=some (g v)) [hm:HasMapE h r i es' j st] (he:es'.modify j (fun p=>(p.1,g v))=j9 enc (zbe g (zd8 k v m)))
 [hset:SetAt h i (.map r (j9 enc (zbe g (zd8 k v m)))) h'] (hk:next ⟨t,h',ds⟩):OE P ro nt ⟨none,.entryStore T x y z,ty,pos,after,guard⟩ ⟨t,h,ds⟩ next:=
 zm1 hx hy hz he hk
theorem ylc {d:Tmp} {op:Op} {av:AV} (hq:QR P h (ev t) ⟨some d,op,ty,pos,after,guard⟩ av) (hk:next ⟨(d,av)::t,h,ds⟩) (hd:dok nt (some d)=true:=by rfl) (hn:zao ⟨some d,op,ty,pos,after,guard⟩=true:=by rfl):
 OE P ro nt ⟨some d,op,ty,pos,after,guard⟩ ⟨t,h,ds⟩ next:=fun X a w K Q hs hK=>
 ze0 hq hn X a w K Q hs.env fun v w' hr hh hkp=>hK _ _ _ hk (Sim.put (s:=⟨t,h,ds⟩) ⟨hh,hs.size,hs.fr.keep hkp.size (fun b hb hl=>hkp.oo b hb hl),hs.defs⟩ hd hr) hkp
theorem zl9 {tys:List TypeId} (hx:f x=some (.v (.map (some r)))) [hm:HasMap h r i (j9 enc (zbe g m))] [hu:Und P T (.map kt et)]:QR P h f ⟨dst,.call ⟨.builtin .len,[x].toArray,(T::tys).toArray⟩,ty,pos,after,guard⟩ (.v (.int .i64 m.length)):=fun X ρ w he=>by
 obtain ⟨ents,clock,h1,h2,_⟩:=he.heap.holds _ (List.mem_of_getElem? hm.h)
 refine ⟨.int .i64 m.length,?_,.v _⟩
 have hl:m.length=ents.size:=by simpa [j9,zbe] using h2
 simp only [execOp,resolve,List.map_toArray,List.map_cons,List.map_nil,(he.rel x _ hx).v_eq,Sem.run_bind,Sem.run_pure,Result.andThen_ok,invoke,builtin,Builtin.len_,List.getElem?_toArray,List.getElem?_cons_zero,run_underlying (h:=hu),MapKept.run_getObj_map h1,hl]
 rfl
end
theorem yb9 {P:Program} {ro:Option Nat} {nt:Nat} {o:Oper} {s s':St} {next:St→Prop} (h:OE P ro nt o s' next) (he:Ent nt s s'):OE P ro nt o s next:=fun X a w K Q hs hK=>
 h X a w K Q (he.2 X a w hs) fun s1 a1 w1 hn hs1 hk=>hK s1 a1 w1 hn hs1 (zkr he.1 hk)
theorem yae {P:Program} {ro:Option Nat} {nt:Nat} {o:Oper} {t:Fr} {h:List Res} {ds:List Nat} {next:St→Prop} (h2:List Res) (hoe:OE P ro nt o ⟨t,h,ds⟩ next):OE P ro nt o ⟨t,h++h2,ds⟩ (fun s'=>∃s0,next s0∧s'=⟨s0.t,s0.h++h2,s0.d⟩):=fun X a w K Q hs hK=>
 hoe (Sub X (u2 h2)) a w K Q ⟨hs.heap.part,hs.size,by rw [zgu];exact hs.fr,hs.defs⟩ fun s' a' w' hn hs' hk=>
  hK ⟨s'.t,s'.h++h2,s'.d⟩ a' w' ⟨s',hn,rfl⟩ ⟨(hs.heap.join hs'.heap hk).1,hs'.size,by rw [←zgu];exact hs'.fr,hs'.defs⟩ (hs.heap.join hs'.heap hk).2
theorem zwv:∀{A B:Fr} {i:Nat},lk (A++B) i=(match lk A i with
 |some a=>some a
 |none=>lk B i)
 | [],B,i=>rfl
 |(j,a)::r,B,i=>by
  simp only [List.cons_append,lk]
  cases Nat.beq j i with
  |true=>rfl
  |false=>exact zwv
theorem zkn {A A' B:Fr} (h:∀i,lk A i=lk A' i) (i:Nat):lk (A++B) i=lk (A'++B) i:=by rw [zwv,zwv,h]
theorem znb {ds:List Tmp} {e e':Fr} (h:∀i,ds.any (Nat.beq i)=true→lk e i=lk e' i) (i:Nat):lk (zb0 ds e) i=lk (zb0 ds e') i:=by
 cases hq:ds.any (Nat.beq i) with
 |true=>
  show lk (e.filter fun p=>(fun j=>ds.any (Nat.beq j)) p.1) i=lk (e'.filter fun p=>(fun j=>ds.any (Nat.beq j)) p.1) i
  rw [zcs (q:=fun j=>ds.any (Nat.beq j)) hq,zcs (q:=fun j=>ds.any (Nat.beq j)) hq,h i hq]
 |false=>
  show lk (e.filter fun p=>(fun j=>ds.any (Nat.beq j)) p.1) i=lk (e'.filter fun p=>(fun j=>ds.any (Nat.beq j)) p.1) i
  rw [zaq (q:=fun j=>ds.any (Nat.beq j)) hq,zaq (q:=fun j=>ds.any (Nat.beq j)) hq]
theorem yka {t t':Fr} (h:∀i,lk t i=lk t' i) (x:Operand):ev t x=ev t' x:=by
 cases x with
 |tmp i=>exact h i
 |_=>rfl
theorem ycm {t t':Fr} (h:∀i,lk t i=lk t' i):ev t=ev t':=funext (yka h)
theorem zws {o:Oper} {av:AV} {f f':Fr} (h:∀i,lk f i=lk f' i) (i:Nat):lk (stF o av f) i=lk (stF o av f') i:=by
 unfold stF
 cases o.dst with
 |none=>exact h i
 |some d=>
  simp only [lk]
  split
  ·rfl
  ·exact h i
theorem zex {l:List Nat} (hn:l.Nodup) {k m:Nat} (hm:m < l.length):l[m]∈l.take k ↔ m < k:=by
 rw [List.mem_take_iff_getElem]
 constructor
 ·rintro ⟨q,hq,e⟩
  have hn:=List.pairwise_iff_getElem.1 hn
  rcases Nat.lt_trichotomy q m with h|h|h
  ·exact absurd e (hn q m (by omega) hm h)
  ·omega
  ·exact absurd e.symm (hn m q hm (by omega) h)
 ·intro h;exact ⟨m,by omega,rfl⟩
theorem zkm {ds:List Tmp}:∀{p f:Fr},(∀q∈p,ds.any (Nat.beq q.1)=false)→∀i,ds.any (Nat.beq i)=true→lk (p++f) i=lk f i
 | [],f,_,i,_=>rfl
 |(j,a)::r,f,h,i,hi=>by
  simp only [List.cons_append,lk]
  cases e:Nat.beq j i with
  |true=>rw [←Nat.eq_of_beq_eq_true e,h (j,a) (by simp)] at hi;cases hi
  |false=>exact zkm (fun q hq=>h q (List.mem_cons_of_mem _ hq)) i hi
theorem zwu {d:Nat} {av:AV}:∀{p f:Fr},(∀q∈p,q.1≠d)→∀i,lk ((d,av)::(p++f)) i=lk (p++((d,av)::f)) i
 | [],f,_,i=>rfl
 |(j,a)::r,f,h,i=>by
  have ih:=zwu (d:=d) (av:=av) (p:=r) (f:=f) (fun q hq=>h q (List.mem_cons_of_mem _ hq)) i
  have hj:j≠d:=h (j,a) (by simp)
  simp only [List.cons_append,lk] at ih ⊢
  cases e1:Nat.beq j i with
  |false=>exact ih
  |true=>
   cases e2:Nat.beq d i with
   |false=>rfl
   |true=>exact absurd ((Nat.eq_of_beq_eq_true e1).trans (Nat.eq_of_beq_eq_true e2).symm) hj
theorem yao {o:Oper} {av:AV} {p f:Fr} (h:∀q∈p,∀d,o.dst=some d→q.1≠d) (i:Nat):lk (stF o av (p++f)) i=lk (p++stF o av f) i:=by
 unfold stF
 cases hd:o.dst with
 |none=>rfl
 |some d=>exact zwu (fun q hq=>h q hq d hd) i
def zwi (l:List Oper) (d:Tmp) (is:List Nat):Bool:=is.all fun i=>match l[i]? with
 |some o=> !(zac l o).any (Nat.beq d)
 |none=>true
theorem zhk {l:List Oper} {d:Tmp} {is:List Nat} (h:zwi l d is=true) {i:Nat} (hi:i∈is) {o:Oper} (ho:l[i]? =some o):(zac l o).any (Nat.beq d)=false:=by
 have:=List.all_eq_true.1 h i hi
 rw [ho] at this
 simpa using this
section
variable {P:Program} {ro:Option Nat} {nt:Nat} {l:List Oper} {dsl:List Nat} {C0:List Res→Prop} {E tt:Fr}
theorem zml {eff:List Nat} {k:Nat} (hk:k < eff.length) {eeC ee:Fr} {heC bx:List Res} {p:Fr} {K:Fr→List Res→Prop} (hj:jch P ro nt C0 l dsl E tt (eff.drop k) eeC heC K) {o:Oper} (ho:l[eff[k]]? =some o)
 (hlk:∀d,lk ee d=lk (p++eeC) d) (hp:∀q∈p,(zac l o).any (Nat.beq q.1)=false) (hd:∀q∈p,∀d,o.dst=some d→q.1≠d) (u:Fr) {next:St→Prop}
 (hn:∀av he',C0 he'→jch P ro nt C0 l dsl E tt (eff.drop (k+1)) (stF o av eeC) he' K→(∀d,lk (stF o av ee) d=lk (p++stF o av eeC) d)→next ⟨stF o av (zb0 (zac l o) E++(zb0 (zac l o) ee++(tt++u))),he'++bx,dsl⟩):
 OE P ro nt o ⟨zb0 (zac l o) E++(zb0 (zac l o) ee++(tt++u)),heC++bx,dsl⟩ next:=by
 rw [List.drop_eq_getElem_cons hk] at hj
 obtain ⟨o',ho',hoe⟩:=hj
 obtain rfl:o'=o:=Option.some.inj (ho'.symm.trans ho)
 have hfr:∀d,lk (zb0 (zac l o') E++(zb0 (zac l o') eeC++(tt++u))) d=lk (zb0 (zac l o') E++(zb0 (zac l o') ee++(tt++u))) d:=
  fun d=>zmd (fun d=>zkn (znb fun d hd=>by rw [hlk,zkm hp d hd]) d)
 refine yb9 (zov (yae bx (hoe u)) ?_) (zxr hfr)
 rintro _ ⟨_,⟨av,he',rfl,hC',hj'⟩,rfl⟩
 exact ⟨_,zxr (fun d=>(zws hfr d).symm),hn av he' hC' hj' fun d=>by rw [zws hlk,yao hd]⟩
end
theorem zya {P:Program} {ro:Option Nat} {nt rid:Nat} {Q:Exit→St→Prop} {l:List Oper} {t:Fr} {h:List Res} {dsl:List Nat} (n:Nat) (eff1 eff2:List Nat) (a s x da dx:Nat) (T:TypeId) (C0:List Res→Prop) {m:Nat} {zs:List Value} {y:Operand} {opx:Op}
 {ta ts tx:TypeId} {pa ps px:String} {aa sa ax:Array Edge} [hm:Mixed P] [hz:Zer P T zs] [Siz P T m] (hc:zmv l n (a::s::x::(eff1++eff2)) []=true) (hch:zgs l n (eff1++eff2)=true)
 (ha:l[a]? =some ⟨some da,.alloc T,ta,pa,aa,none⟩) (hs:l[s]? =some ⟨none,.store T (.tmp da) y,ts,ps,sa,none⟩) (hx:l[x]? =some ⟨some dx,opx,tx,px,ax,none⟩)
 (hlast:((a::(eff1++eff2)).all fun i=>(zjr l s (q9 l s)).any (Nat.beq i))=true) (hlastx:(eff1.all fun i=>(zjr l x (q9 l x)).any (Nat.beq i))=true)
 (hfree:(zwi l da (x::(eff1++eff2)) && zwi l dx (s::eff2))=true) (hfree2:(eff2.all fun i=>match u7 l i with
  |some d=> !(zac l ⟨some dx,opx,tx,px,ax,none⟩).any (Nat.beq d)
  |none=>true)=true)
 (hnd:zoy (a::s::x::(eff1++eff2))=true) (hlt:((a::s::x::(eff1++eff2)).all fun i=>Nat.blt i n)=true) (hda:dok nt (some da)=true) (hdx:dok nt (some dx)=true) (hnx:zao ⟨some dx,opx,tx,px,ax,none⟩=true) (hzm:zs.length=m) (h0:C0 h)
 (hk:zdj P ro nt (fun _ he=>C0 he∨∃b cs heC,C0 heC∧he=heC++ [.box b T cs]) l (a::s::x::(eff1++eff2)) (fun _=>zcf l n) t (l.take n) 0 [] (fun E=>
  jch P ro nt C0 l dsl E (zjo (zcf l n) t) eff1 [] h (fun ee1 he1=>∃vx,(∀u he,QR P he (ev (zb0 (zac l ⟨some dx,opx,tx,px,ax,none⟩) E++(zb0 (zac l ⟨some dx,opx,tx,px,ax,none⟩) ee1++(zjo (zcf l n) t++u)))) ⟨some dx,opx,tx,px,ax,none⟩ vx)∧
   jch P ro nt C0 l dsl E (zjo (zcf l n) t) eff2 ee1 he1 (fun ee he=>∃V:List AV,V.length=m∧(AV.agg V).cellsOf=some V∧
   (∀u b,ev (zb0 (zac l ⟨none,.store T (.tmp da) y,ts,ps,sa,none⟩) E++(zb0 (zac l ⟨none,.store T (.tmp da) y,ts,ps,sa,none⟩) ((da,bp b)::ee)++(zjo (zcf l n) t++u))) (.tmp da)=some (bp b)∧
    ev (zb0 (zac l ⟨none,.store T (.tmp da) y,ts,ps,sa,none⟩) E++(zb0 (zac l ⟨none,.store T (.tmp da) y,ts,ps,sa,none⟩) ((da,bp b)::ee)++(zjo (zcf l n) t++u))) y=some (.agg V))∧
   ∀b,zca P ro nt l.toArray (l.drop n) Q ⟨(E++((dx,vx)::(da,bp b)::ee))++t,.box b T V::he,dsl⟩)))):
 aw P ro nt (.region rid l.toArray true) Q ⟨t,h,dsl⟩:=by
 have hD:=zmw hc
 have hnd':=zkl hnd
 obtain ⟨ha1,hnd1⟩:=List.nodup_cons.1 hnd'
 obtain ⟨hs1,hnd2⟩:=List.nodup_cons.1 hnd1
 obtain ⟨hx1,hndE⟩:=List.nodup_cons.1 hnd2
 obtain ⟨hn1,hn2,hn12⟩:=List.nodup_append.1 hndE
 have has:a≠s:=fun e=>ha1 (by rw [e];simp)
 have hax:a≠x:=fun e=>ha1 (by rw [e];simp)
 have hsx:s≠x:=fun e=>hs1 (by rw [e];simp)
 simp only [Bool.and_eq_true] at hfree
 have hin:∀i,i∈a::s::x::(eff1++eff2)→i < n:=fun i hi=>Nat.le_of_ble_eq_true (List.all_eq_true.1 hlt i hi)
 have hpre:∀i,i∈a::(eff1++eff2)→i∈zjr l s (q9 l s):=fun i hi=>by
  obtain ⟨x,hx,e⟩:=List.any_eq_true.1 (List.all_eq_true.1 hlast i hi)
  rw [Nat.eq_of_beq_eq_true e];exact hx
 have hprex:∀i,i∈eff1→i∈zjr l x (q9 l x):=fun i hi=>by
  obtain ⟨x,hx,e⟩:=List.any_eq_true.1 (List.all_eq_true.1 hlastx i hi)
  rw [Nat.eq_of_beq_eq_true e];exact hx
 have hdsts:∀i o d,i∈a::s::x::(eff1++eff2)→l[i]? =some o→o.dst=some d→∀j d',j∈a::s::x::(eff1++eff2)→j≠i→u7 l j=some d'→d≠d':=fun i o d hi ho hd j d' hj hji hd'=>by
  obtain ⟨o2,g1,_,_,g4⟩:=hD.dst _ (hin _ hi)
  obtain rfl:o2=o:=Option.some.inj (g1.symm.trans ho)
  exact g4 d hd j (hin j hj) hji d' hd'
 have dda:u7 l a=some da:=by simp [u7,ha]
 have ddx:u7 l x=some dx:=by simp [u7,hx]
 have hdd:da≠dx:=hdsts a _ da (by simp) ha rfl x dx (by simp) (Ne.symm hax) ddx
 refine zto n (a::s::x::(eff1++eff2)) [] (fun he=>C0 he∨∃b cs heC,C0 heC∧he=heC++ [.box b T cs]) hc ?_
 rw [List.append_nil]
 refine zh8 _ _ _ _ _ (fun E hE=> ?_) hk
 generalize htt:zjo (zcf l n) t=tt at hE ⊢
 generalize hso:(⟨none,.store T (.tmp da) y,ts,ps,sa,none⟩:Oper)=so at hE hs
 generalize hxo:(⟨some dx,opx,tx,px,ax,none⟩:Oper)=xo at hE hx hfree2 hnx
 have hxod:xo.dst=some dx:=by rw [←hxo]
 let XOK:AV→Fr→Prop:=fun vx ee1=>∀u he,QR P he (ev (zb0 (zac l xo) E++(zb0 (zac l xo) ee1++(tt++u)))) xo vx
 let K2:AV→Fr→List Res→Prop:=fun vx ee he=>∃V:List AV,V.length=m∧(AV.agg V).cellsOf=some V∧
  (∀u b,ev (zb0 (zac l so) E++(zb0 (zac l so) ((da,bp b)::ee)++(tt++u))) (.tmp da)=some (bp b)∧
   ev (zb0 (zac l so) E++(zb0 (zac l so) ((da,bp b)::ee)++(tt++u))) y=some (.agg V))∧
  ∀b,zca P ro nt l.toArray (l.drop n) Q ⟨(E++((dx,vx)::(da,bp b)::ee))++t,.box b T V::he,dsl⟩
 let K1:Fr→List Res→Prop:=fun ee1 he1=>∃vx,XOK vx ee1∧jch P ro nt C0 l dsl E tt eff2 ee1 he1 (K2 vx)
 have hE:jch P ro nt C0 l dsl E tt eff1 [] h K1:=hE
 -- where the box stands,where the chain,where the one to the side
 let BX:List Nat→Fr→List Res→Prop:=fun L eb bx=>(a ∉ L∧eb= []∧bx= [])∨(∃b,a∈L∧eb= [(da,bp b)]∧bx= [.box b T (zs.map .v)])
 let SX:List Nat→AV→Fr→Prop:=fun L vx ex=>(x ∉ L∧ex= [])∨(x∈L∧ex= [(dx,vx)])
 let SA:List Nat→Fr→Fr→List Res→Prop:=fun L ex eeC heC=>∃k,k≤eff1.length∧(∀i,i∈eff1→(i∈L ↔ i∈eff1.take k))∧(∀i,i∈eff2→i ∉ L)∧x ∉ L∧ex= []∧jch P ro nt C0 l dsl E tt (eff1.drop k) eeC heC K1
 let SB:List Nat→Fr→Fr→List Res→Prop:=fun L ex eeC heC=>∃vx k,k≤eff2.length∧(∀i,i∈eff1→i∈L)∧(∀i,i∈eff2→(i∈L ↔ i∈eff2.take k))∧XOK vx eeC∧SX L vx ex∧jch P ro nt C0 l dsl E tt (eff2.drop k) eeC heC (K2 vx)
 let SC:List Nat→Fr→Fr→List Res→Fr→List Res→Prop:=fun L ex eb bx eeC heC=>∃b V vx,a∈L∧s∈L∧(∀i,i∈eff1++eff2→i∈L)∧eb= [(da,bp b)]∧bx= [.box b T V]∧XOK vx eeC∧SX L vx ex∧zca P ro nt l.toArray (l.drop n) Q ⟨(E++((dx,vx)::(da,bp b)::eeC))++t,.box b T V::heC,dsl⟩
 have hAB:∀{L ex eeC heC},SA L ex eeC heC→(∀i,i∈eff1→i∈L)→SB L ex eeC heC:=by
  rintro L ex eeC heC ⟨k,hkl,h1,h2,h3,h4,h5⟩ hall
  have hkk:k=eff1.length:=by
   refine Nat.le_antisymm hkl (Nat.le_of_not_lt fun q=> ?_)
   have:=(zex hn1 q).1 ((h1 _ (List.getElem_mem q)).1 (hall _ (List.getElem_mem q)))
   omega
  subst hkk
  rw [List.drop_length] at h5
  obtain ⟨vx,hX,hj⟩:=h5
  exact ⟨vx,0,Nat.zero_le _,hall,fun i hi=>⟨fun q=>absurd q (h2 i hi),fun q=>by simp at q⟩,hX,.inl ⟨h3,h4⟩,hj⟩
 have hbk:∀{L eb bx},BX L eb bx→∀q∈eb,q.1=da:=by
  rintro L eb bx (⟨_,rfl,_⟩|⟨b,_,rfl,_⟩) q hq
  ·cases hq
  ·rw [List.mem_singleton] at hq;rw [hq]
 have hxk:∀{L vx ex},SX L vx ex→∀q∈ex,q.1=dx:=by
  rintro L vx ex (⟨_,rfl⟩|⟨_,rfl⟩) q hq
  ·cases hq
  ·rw [List.mem_singleton] at hq;rw [hq]
 refine ⟨fun L ee he=>∃ex eb bx eeC heC,(∀d,lk ee d=lk ((ex++eb)++eeC) d)∧he=heC++bx∧C0 heC∧((s ∉ L∧BX L eb bx∧(SA L ex eeC heC∨SB L ex eeC heC))∨SC L ex eb bx eeC heC),
  ⟨[],[],[],[],h,fun _=>rfl,(List.append_nil _).symm,h0,.inl ⟨by simp,.inl ⟨by simp,rfl,rfl⟩,.inl ⟨0,Nat.zero_le _,fun i _=>by simp,fun i _=>by simp,by simp,rfl,hE⟩⟩⟩,?_,?_,?_⟩
 ·rintro L ee he ⟨ex,eb,bx,eeC,heC,_,rfl,hC,⟨_,⟨_,_,rfl⟩|⟨b,_,_,rfl⟩,_⟩|⟨b,V,vx,_,_,_,_,rfl,_⟩⟩
  ·exact .inl (by rw [List.append_nil];exact hC)
  ·exact .inr ⟨b,_,heC,hC,rfl⟩
  ·exact .inr ⟨b,_,heC,hC,rfl⟩
 ·rintro L ee he ⟨ex,eb,bx,eeC,heC,hlk,rfl,hC,hJ⟩ i o hi hiL ho hb u
  have hsub:∀{i j:Nat} {L:List Nat} {p:Prop},j≠i→(i∈L ↔ p)→(i∈j::L ↔ p):=fun hne h=>by rw [List.mem_cons,h];exact ⟨fun q=>q.elim (fun e=>absurd e.symm hne) id,.inr⟩
  rcases List.mem_cons.1 hi with rfl|hi'
  ·obtain rfl:_=o:=Option.some.inj (ha.symm.trans ho)
   rcases hJ with ⟨h2,⟨_,rfl,rfl⟩|⟨b,h1,_⟩,hS⟩|⟨_,_,_,h1,_⟩
   ·rw [List.append_nil] at hlk ⊢
    refine zov (next:=fun s'=>∃b,s'=⟨(da,bp b)::(zb0 (zac l ⟨some da,.alloc T,ta,pa,aa,none⟩) E++(zb0 (zac l ⟨some da,.alloc T,ta,pa,aa,none⟩) ee++(tt++u))),.box b T (zs.map .v)::heC,dsl⟩) (x5 hda fun b=>⟨b,rfl⟩) ?_
    rintro _ ⟨b,rfl⟩
    have hxk':∀q∈ex,q.1≠da:=fun q hq=>by
     rcases hS with ⟨k,_,_,_,_,rfl,_⟩|⟨vx,k,_,_,_,_,hX,_⟩
     ·cases hq
     ·rw [hxk hX q hq];exact Ne.symm hdd
    refine ⟨⟨_,heC++ [.box b T (zs.map .v)],dsl⟩,k8 (by exact (List.perm_append_comm (l₁:= [_]))),bp b,_,rfl,ex,[(da,bp b)],[.box b T (zs.map .v)],eeC,heC,fun d=> ?_,rfl,hC,.inl ⟨fun q=> ?_,.inr ⟨b,by simp,rfl,rfl⟩,?_⟩⟩
    ·show lk ((da,bp b)::ee) d=_
     rw [List.append_assoc,List.singleton_append,←zwu hxk']
     simp only [lk]
     split
     ·rfl
     ·exact hlk d
    ·rcases List.mem_cons.1 q with q|q
     ·exact has q.symm
     ·exact h2 q
    ·have hn:∀j,j∈eff1++eff2→i≠j:=fun j hj e=>ha1 (by rw [e];simp only [List.mem_cons];exact .inr (.inr hj))
     rcases hS with ⟨k,g1,g2,g3,g4,g5,g6⟩|⟨vx,k,g1,g2,g3,g4,g5,g6⟩
     ·exact .inl ⟨k,g1,fun j hj=>hsub (hn j (List.mem_append_left _ hj)) (g2 j hj),fun j hj q=>(List.mem_cons.1 q).elim (fun e=>hn j (List.mem_append_right _ hj) e.symm) (g3 j hj),fun q=>(List.mem_cons.1 q).elim (fun e=>hax e.symm) g4,g5,g6⟩
     ·exact .inr ⟨vx,k,g1,fun j hj=>List.mem_cons_of_mem _ (g2 j hj),fun j hj=>hsub (hn j (List.mem_append_right _ hj)) (g3 j hj),g4,g5.imp (fun ⟨q1,q2⟩=>⟨fun q=>(List.mem_cons.1 q).elim (fun e=>hax e.symm) q1,q2⟩) (fun ⟨q1,q2⟩=>⟨List.mem_cons_of_mem _ q1,q2⟩),g6⟩
   ·exact absurd h1 hiL
   ·exact absurd h1 hiL
  rcases List.mem_cons.1 hi' with rfl|hi''
  ·obtain rfl:so=o:=Option.some.inj (hs.symm.trans ho)
   have haL:a∈L:=hb a (hpre a (by simp)) (by simp)
   have hall:∀j,j∈eff1++eff2→j∈L:=fun j hj=>hb j (hpre j (List.mem_cons_of_mem _ hj)) (by simp only [List.mem_cons];exact .inr (.inr (.inr hj)))
   rcases hJ with ⟨h2,⟨h1,_⟩|⟨b,h1,rfl,rfl⟩,hS⟩|⟨_,_,_,_,h2,_⟩
   ·exact absurd haL h1
   ·have hS:SB L ex eeC heC:=hS.elim (fun q=>hAB q fun j hj=>hall j (List.mem_append_left _ hj)) id
    obtain ⟨vx,k,hkl,g2,g3,g4,g5,g6⟩:=hS
    have hkk:k=eff2.length:=by
     refine Nat.le_antisymm hkl (Nat.le_of_not_lt fun q=> ?_)
     have:=(zex hn2 q).1 ((g3 _ (List.getElem_mem q)).1 (hall _ (List.mem_append_right _ (List.getElem_mem q))))
     omega
    subst hkk
    rw [List.drop_length] at g6
    obtain ⟨V,hV,hVc,hev,hfin⟩:=g6
    obtain ⟨e1,e2⟩:=hev u b
    have hfr:∀d,lk (zb0 (zac l so) E++(zb0 (zac l so) ((da,bp b)::eeC)++(tt++u))) d=lk (zb0 (zac l so) E++(zb0 (zac l so) ee++(tt++u))) d:=by
     refine fun d=>zmd (fun d=>zkn (znb fun d hd=> ?_) d)
     rw [hlk,List.append_assoc,zkm (fun q hq=> ?_) d hd];rfl
     rw [hxk g5 q hq];exact zhk hfree.2 (by simp) hs
    rw [yka hfr] at e1 e2
    subst hso
    refine yb9 (s':=⟨_,.box b T (zs.map .v)::heC,dsl⟩) ?_ (k8 (by exact (List.perm_append_comm (l₂:= [_]))))
    refine zov (next:=fun s'=>s'=⟨_,.box b T V::heC,dsl⟩) (za2 e1 e2 hVc rfl hV (by simp [hzm])) ?_
    rintro _ rfl
    refine ⟨⟨_,heC++ [.box b T V],dsl⟩,k8 (by exact (List.perm_append_comm (l₁:= [_]))),.any,_,rfl,ex,[(da,bp b)],[.box b T V],eeC,heC,hlk,rfl,hC,.inr ⟨b,V,vx,List.mem_cons_of_mem _ h1,by simp,fun j hj=>List.mem_cons_of_mem _ (hall j hj),rfl,rfl,g4,g5.imp (fun ⟨q1,q2⟩=>⟨fun q=>(List.mem_cons.1 q).elim (fun e=>hsx e.symm) q1,q2⟩) (fun ⟨q1,q2⟩=>⟨List.mem_cons_of_mem _ q1,q2⟩),hfin b⟩⟩
   ·exact absurd h2 hiL
  rcases List.mem_cons.1 hi'' with rfl|hi3
  ·obtain rfl:xo=o:=Option.some.inj (hx.symm.trans ho)
   have hall1:∀j,j∈eff1→j∈L:=fun j hj=>hb j (hprex j hj) (by simp only [List.mem_cons,List.mem_append];exact .inr (.inr (.inr (.inl hj))))
   have hbkk:∀q∈eb,q.1=da:=by
    rcases hJ with ⟨_,hB,_⟩|⟨b,V,vx,_,_,_,rfl,_⟩
    ·exact hbk hB
    ·intro q hq;rw [List.mem_singleton] at hq;rw [hq]
   have step:∀vx,XOK vx eeC→ex= []→OE P ro nt xo ⟨zb0 (zac l xo) E++(zb0 (zac l xo) ee++(tt++u)),heC++bx,dsl⟩ (fun s'=>s'=⟨(dx,vx)::(zb0 (zac l xo) E++(zb0 (zac l xo) ee++(tt++u))),heC++bx,dsl⟩):=fun vx hX hex=>by
    have hfr:∀d,lk (zb0 (zac l xo) E++(zb0 (zac l xo) eeC++(tt++u))) d=lk (zb0 (zac l xo) E++(zb0 (zac l xo) ee++(tt++u))) d:=by
     refine fun d=>zmd (fun d=>zkn (znb fun d hd=> ?_) d)
     rw [hlk,hex,List.nil_append,zkm (fun q hq=> ?_) d hd]
     rw [hbkk q hq];exact zhk hfree.1 (by simp) hx
    have:=hX u (heC++bx)
    rw [ycm hfr] at this
    subst hxo
    exact ylc this rfl hdx hnx
   have hlk':∀vx,ex= []→∀d,lk (stF xo vx ee) d=lk (([(dx,vx)]++eb)++eeC) d:=fun vx hex d=>by
    subst hex
    rw [zws hlk]
    unfold stF
    rw [hxod];rfl
   rcases hJ with ⟨h2,hB,hS⟩|⟨b,V,vx,g1,g2,g3,g4,g5,g6,g7,g8⟩
   ·have hS:SB L ex eeC heC:=hS.elim (fun q=>hAB q hall1) id
    obtain ⟨vx,k,hkl,g2,g3,g4,⟨g5,g6⟩|⟨g5,_⟩,g7⟩:=hS
    ·refine zov (step vx g4 g6) ?_
     rintro _ rfl
     refine ⟨_,k8 (.refl _),vx,heC++bx,by unfold stF;rw [hxod],[(dx,vx)],eb,bx,eeC,heC,hlk' vx g6,rfl,hC,.inl ⟨fun q=>(List.mem_cons.1 q).elim hsx h2,?_,.inr ⟨vx,k,hkl,fun j hj=>List.mem_cons_of_mem _ (g2 j hj),fun j hj=>hsub (fun e=>hx1 (e ▸ List.mem_append_right _ hj)) (g3 j hj),g4,.inr ⟨by simp,rfl⟩,g7⟩⟩⟩
     rcases hB with ⟨q1,q2⟩|⟨b,q1,q2⟩
     ·exact .inl ⟨fun q=>(List.mem_cons.1 q).elim hax q1,q2⟩
     ·exact .inr ⟨b,List.mem_cons_of_mem _ q1,q2⟩
    ·exact absurd g5 hiL
   ·rcases g7 with ⟨q1,q2⟩|⟨q1,_⟩
    ·refine zov (step vx g6 q2) ?_
     rintro _ rfl
     exact ⟨_,k8 (.refl _),vx,heC++bx,by unfold stF;rw [hxod],[(dx,vx)],eb,bx,eeC,heC,hlk' vx q2,rfl,hC,.inr ⟨b,V,vx,List.mem_cons_of_mem _ g1,List.mem_cons_of_mem _ g2,fun j hj=>List.mem_cons_of_mem _ (g3 j hj),g4,g5,g6,.inr ⟨by simp,rfl⟩,g8⟩⟩
    ·exact absurd q1 hiL
  ·have hia:∀j,i=j→j∈eff1++eff2:=fun j e=>e ▸ hi3
   have hni:∀j∈ [a,s,x],j≠i:=by
    intro j hj e
    have hj':i∈ [a,s,x]:=e ▸ hj
    simp only [List.mem_cons,List.not_mem_nil,or_false] at hj'
    rcases hj' with e|e|e
    ·exact ha1 (by rw [←e];simp only [List.mem_cons];exact .inr (.inr hi3))
    ·exact hs1 (by rw [←e];exact List.mem_cons_of_mem _ hi3)
    ·exact hx1 (by rw [←e];exact hi3)
   have hdap:(zac l o).any (Nat.beq da)=false:=zhk hfree.1 (List.mem_cons_of_mem _ hi3) ho
   have hdan:∀d,o.dst=some d→da≠d:=fun d hd=>Ne.symm (hdsts i o d hi ho hd a da (by simp) (hni a (by simp)) dda)
   have hdxn:∀d,o.dst=some d→dx≠d:=fun d hd=>Ne.symm (hdsts i o d hi ho hd x dx (by simp) (hni x (by simp)) ddx)
   have hBi:∀{eb bx},BX L eb bx→BX (i::L) eb bx:=by
    rintro eb bx (⟨q1,q2⟩|⟨b,q1,q2⟩)
    ·exact .inl ⟨fun q=>(List.mem_cons.1 q).elim (hni a (by simp)) q1,q2⟩
    ·exact .inr ⟨b,List.mem_cons_of_mem _ q1,q2⟩
   rcases hJ with ⟨h2,hB,hS⟩|⟨b,V,vx,g1,g2,g3,_⟩
   ·have hs2:s ∉ i::L:=fun q=>(List.mem_cons.1 q).elim (hni s (by simp)) h2
    obtain ⟨m',hm',hie⟩:=List.getElem_of_mem hi3
    by_cases hm1:m' < eff1.length
    ·have hmem:eff1[m']=i:=by rw [←hie,List.getElem_append_left hm1]
     subst hmem
     rcases hS with ⟨k,hkl,q1,q2,q3,rfl,q5⟩|⟨vx,k,_,q2,_⟩
     ·have hmk:m'=k:=by
       have hkm:k≤m':=Nat.le_of_not_lt fun q=>hiL ((q1 _ (List.getElem_mem hm1)).2 ((zex hn1 hm1).2 q))
       rcases Nat.eq_or_lt_of_le hkm with q|q
       ·exact q.symm
       ·exfalso
        obtain ⟨m',rfl⟩:∃m'',m'=m''+1:=⟨m' - 1,by omega⟩
        have hcl:=zhs hch m' hm'
        rw [List.getElem_append_left (show m' < eff1.length by omega),List.getElem_append_left hm1] at hcl
        have h1:=hb _ hcl (by simp only [List.mem_cons,List.mem_append];exact .inr (.inr (.inr (.inl (List.getElem_mem _)))))
        have:=(zex hn1 (by omega)).1 ((q1 _ (List.getElem_mem _)).1 h1)
        omega
      subst hmk
      refine zml hm1 q5 ho hlk (fun q hq=> ?_) (fun q hq d hd=> ?_) u fun av he' hC' hj' hl'=>⟨av,he'++bx,rfl,[],eb,bx,_,he',hl',rfl,hC',.inl ⟨hs2,hBi hB,.inl ⟨m'+1,hm1,fun j hj=> ?_,fun j hj q=> ?_,fun q=>(List.mem_cons.1 q).elim (hni x (by simp)) q3,rfl,hj'⟩⟩⟩
      ·rw [hbk hB q hq];exact hdap
      ·rw [hbk hB q hq];exact hdan d hd
      ·rw [List.take_succ_eq_append_getElem hm1,List.mem_cons,List.mem_append,List.mem_singleton,q1 j hj,or_comm]
      ·rcases List.mem_cons.1 q with q|q
       ·exact hn12 _ (List.getElem_mem hm1) j hj q.symm
       ·exact q2 j hj q
     ·exact absurd (q2 _ (List.getElem_mem hm1)) hiL
    ·have hm2:m' - eff1.length < eff2.length:=by rw [List.length_append] at hm';omega
     have hmem:eff2[m' - eff1.length]=i:=by rw [←hie,List.getElem_append_right (by omega)]
     have hpr:∀q,q+1=m'→∃hq:q < (eff1++eff2).length,(eff1++eff2)[q]∈L:=fun q hq=>by
      subst hq
      have hcl:=zhs hch q hm'
      rw [hie] at hcl
      exact ⟨by omega,hb _ hcl (by simp only [List.mem_cons];exact .inr (.inr (.inr (List.getElem_mem _))))⟩
     have hSB:SB L ex eeC heC:=by
      rcases hS with hS|hS
      ·refine hAB hS ?_
       obtain ⟨k,hkl,q1,q2,_⟩:=hS
       intro j hj
       rcases Nat.eq_or_lt_of_le hkl with e|e
       ·rw [q1 j hj,e,List.take_length];exact hj
       ·exfalso
        obtain ⟨hq,hL⟩:=hpr (m' - 1) (by omega)
        by_cases w:m' - 1 < eff1.length
        ·rw [List.getElem_append_left w] at hL
         have:=(zex hn1 w).1 ((q1 _ (List.getElem_mem w)).1 hL)
         omega
        ·rw [List.getElem_append_right (by omega)] at hL
         exact q2 _ (List.getElem_mem _) hL
      ·exact hS
     obtain ⟨vx,k,hkl,q1,q2,q3,q4,q5⟩:=hSB
     have hi2:i∈eff2:=by rw [←hmem];exact List.getElem_mem _
     have hmk:m' - eff1.length=k:=by
      have hkm:k≤m' - eff1.length:=Nat.le_of_not_lt fun q=>hiL (by rw [←hmem];exact (q2 _ (List.getElem_mem hm2)).2 ((zex hn2 hm2).2 q))
      rcases Nat.eq_or_lt_of_le hkm with q|q
      ·exact q.symm
      ·exfalso
       obtain ⟨hq,hL⟩:=hpr (m' - 1) (by omega)
       rw [List.getElem_append_right (by omega)] at hL
       have:=(zex hn2 (by omega)).1 ((q2 _ (List.getElem_mem _)).1 hL)
       omega
     subst hmk
     have hxn:∀d,o.dst=some d→(zac l xo).any (Nat.beq d)=false:=fun d hd=>by
      have:=List.all_eq_true.1 hfree2 _ hi2
      rw [show u7 l i=some d by simp only [u7,ho,Option.bind_some];exact hd] at this
      simpa using this
     have hX':∀av,XOK vx (stF o av eeC):=fun av u he=>by
      have hfr:∀d,lk (zb0 (zac l xo) E++(zb0 (zac l xo) eeC++(tt++u))) d=lk (zb0 (zac l xo) E++(zb0 (zac l xo) (stF o av eeC)++(tt++u))) d:=by
       refine fun d=>zmd (fun d=>zkn (znb fun d hd=> ?_) d)
       unfold stF
       cases hdst:o.dst with
       |none=>rfl
       |some d'=>exact (zkm (p:= [(d',av)]) (fun q hq=>by rw [List.mem_singleton] at hq;rw [hq];exact hxn d' hdst) d hd).symm
      have:=q3 u he
      rw [ycm hfr] at this
      exact this
     have ho2:l[eff2[m' - eff1.length]]? =some o:=by rw [hmem];exact ho
     refine zml hm2 q5 ho2 hlk (fun q hq=> ?_) (fun q hq d hd=> ?_) u fun av he' hC' hj' hl'=>⟨av,he'++bx,rfl,ex,eb,bx,_,he',hl',rfl,hC',.inl ⟨hs2,hBi hB,.inr ⟨vx,m' - eff1.length+1,hm2,fun j hj=>List.mem_cons_of_mem _ (q1 j hj),fun j hj=> ?_,hX' av,q4.imp (fun ⟨w1,w2⟩=>⟨fun q=>(List.mem_cons.1 q).elim (hni x (by simp)) w1,w2⟩) (fun ⟨w1,w2⟩=>⟨List.mem_cons_of_mem _ w1,w2⟩),hj'⟩⟩⟩
     ·rcases List.mem_append.1 hq with hq|hq
      ·rw [hxk q4 q hq];exact zhk hfree.2 (List.mem_cons_of_mem _ hi2) ho
      ·rw [hbk hB q hq];exact hdap
     ·rcases List.mem_append.1 hq with hq|hq
      ·rw [hxk q4 q hq];exact hdxn d hd
      ·rw [hbk hB q hq];exact hdan d hd
     ·rw [List.take_succ_eq_append_getElem hm2,List.mem_cons,List.mem_append,List.mem_singleton,q2 j hj,or_comm,hmem]
   ·exact absurd (g3 i hi3) hiL
 ·rintro L ee he ⟨ex,eb,bx,eeC,heC,hlk,rfl,hC,hJ⟩ hall
  have h1:=hall a (by simp) (hin a (by simp))
  have h2:=hall s (by simp) (hin s (by simp))
  have h3:=hall x (by simp) (hin x (by simp))
  refine ln ?_;rcases hJ with ⟨q,_⟩|⟨b,V,vx,_,_,_,rfl,rfl,_,⟨q,_⟩|⟨_,rfl⟩,hfin⟩
  ·exact absurd h2 q
  ·exact absurd h3 q
  ·refine zjw (w7 (k8 (by exact (List.perm_append_comm (l₂:= [_])))) (zxr fun d=> ?_)) hfin
   rw [List.append_assoc,List.append_assoc]
   exact zmd fun d=>zkn (fun d=>(hlk d).symm) d
end Go.Ab
namespace Go.H
open Go Go.Ab
abbrev iv (n:Int):AV:= .v (.int .i64 n)
abbrev bv (b:Bool):AV:= .v (.bool b)
abbrev sv (s:ByteArray):AV:= .v (.string s)
structure Ver where
 t:Int
 k:Int
 deriving DecidableEq
structure Seen where
 o:Int
 v:Ver
 deriving DecidableEq
structure Ev where
 kind:Int
 t:Int
 s:Int
 l:Int
 o:Int
 v:Ver
 p:Int
 scan:List Seen
 deriving DecidableEq
structure Ord where
 o:Int
 ts:List Int
 deriving DecidableEq
structure Mat where
 p:Int
 o:Int
 first:Bool
 ts:List Int
 deriving DecidableEq
structure Wan where
 s:Int
 bits:Int
 deriving DecidableEq
structure Hist where
 ts:List ByteArray
 ss:List ByteArray
 os:List ByteArray
 ps:List ByteArray
 evs:List Ev
 ords:List Ord
 mats:List Mat
 wants:List Wan
def za8 (n:Int):List AV:= [iv n]
def zay (s:ByteArray):List AV:= [sv s]
def yg8 (v:Ver):List AV:= [iv v.t,iv v.k]
def zaz (s:Seen):List AV:= [iv s.o,iv s.v.t,iv s.v.k]
def zft (l:List Int):AV:= .list false 1 (l.map za8)
def zbv (l:List ByteArray):AV:= .list false 1 (l.map zay)
def zso (l:List Seen):AV:= .list false 3 (l.map zaz)
def evR (e:Ev):List AV:= [iv e.kind,iv e.t,iv e.s,iv e.l,iv e.o,iv e.v.t,iv e.v.k,iv e.p,zso e.scan]
def zb7 (o:Ord):List AV:= [iv o.o,zft o.ts]
def zcc (m:Mat):List AV:= [iv m.p,iv m.o,bv m.first,zft m.ts]
def zbi (w:Wan):List AV:= [iv w.s,iv w.bits]
def zte (l:List Ev):AV:= .list false 9 (l.map evR)
def zuc (l:List Ord):AV:= .list false 2 (l.map zb7)
def zug (l:List Mat):AV:= .list false 4 (l.map zcc)
def zfl (l:List Wan):AV:= .list false 2 (l.map zbi)
def x4 (h:Hist):List AV:= [zbv h.ts,zbv h.ss,zbv h.os,zbv h.ps,zte h.evs,zuc h.ords,zug h.mats,zfl h.wants]
def zgl (h:Hist):List AV:= [zbv h.ts,zbv h.ss,zbv h.os,zbv h.ps]
def za5 {α:Type} (p:α→Bool) (i:Nat):List α→Int
 | []=> -1
 |x::r=>if p x then i else za5 p (i+1) r
theorem zd2 {α:Type} (p:α→Bool):∀(l:List α) (i:Nat),decide (za5 p i l ≥ 0)=l.any p
 | [],i=>by simp [za5]
 |x::r,i=>by
  simp only [za5,List.any_cons]
  split
  ·rename_i h;simp [h]
  ·rename_i h;simp [h,zd2 p r (i+1)]
theorem zg5 {α:Type} (p:α→Bool):∀(l:List α),(!l.any fun a=> !p a)=l.all p
 | []=>rfl
 |x::r=>by
  have:=zg5 p r
  simp only [List.any_cons,List.all_cons,Bool.not_or,Bool.not_not,this]
def zge {α β:Type} (p:α→β→Bool):List α→List β→Bool
 |x::xs,y::ys=>p x y && zge p xs ys
 |_,_=>true
theorem zev {α β:Type} (p:α→β→Bool) (m:List β):zge p [] m=true:=by cases m <;> rfl
def eqF {α β:Type} (p:α→β→Bool) (l:List α) (m:List β):Bool:=l.length==m.length && zge p l m
def zo6 (a b:Int):Bool:=a==b
def zoh (a b:ByteArray):Bool:=a.toList==b.toList
def zim (a b:Seen):Bool:= [a.o,a.v.t,a.v.k]== [b.o,b.v.t,b.v.k]
def zoe (a b:Wan):Bool:= [a.s,a.bits]== [b.s,b.bits]
theorem zkj {b:Bool} (h:(!b)=true):b=false:=by simpa using h
theorem zkk {b:Bool} (h:(!b)=false):b=true:=by simpa using h
theorem zgp {α:Type} [DecidableEq α] {p:α→α→Bool} (hp:∀a b,p a b=decide (a=b)):∀(l m:List α),eqF p l m=decide (l=m)
 | [],[]=>by simp [eqF,zge]
 |x::xs,[]=>by simp [eqF]
 | [],y::ys=>by simp [eqF]
 |x::xs,y::ys=>by
  have:=zgp hp xs ys
  simp only [eqF] at this
  simp only [eqF,zge,List.length_cons,hp]
  by_cases h:x=y
  ·subst h
   simp only [decide_true,Bool.true_and,List.cons.injEq,true_and]
   rw [←this]
   congr 1
   simp
  ·simp [h]
def zwh (c:Int):Bool:=decide (c ≥ 48) && decide (c≤57)
def ye5 (c:Int):Bool:=c==95||(decide (c ≥ 97) && decide (c≤122))||(decide (c ≥ 65) && decide (c≤90))||decide (c ≥ 128)
def zdf (l:List ByteArray) (n:Int):Bool:=decide (n ≥ 0) && decide (n < l.length)
def zy4 (ts:List ByteArray) (v:Ver):Bool:=if v.k==0 then v.t==0 else zdf ts v.t && decide (v.k > 0) && decide (v.k≤999)
def yi3 (l:Int):Int:=if decide (l < 1)||decide (l > 4) then 190 else 0
def ybc (a b:Ev):Bool:=a.kind==b.kind && a.t==b.t && a.s==b.s && a.l==b.l && a.o==b.o && [a.v.t,a.v.k]== [b.v.t,b.v.k] && a.p==b.p && eqF zim a.scan b.scan
def zkf (a b:Ord):Bool:=a.o==b.o && eqF zo6 a.ts b.ts
def zoz (a b:Mat):Bool:=a.p==b.p && a.o==b.o && (a.first==b.first) && eqF zo6 a.ts b.ts
structure Lim (N:Nat) (h:Hist):Prop where
 ts:h.ts.length≤N
 ss:h.ss.length≤N
 os:h.os.length≤N
 ps:h.ps.length≤N
 evs:h.evs.length≤N
 ords:h.ords.length≤N
 mats:h.mats.length≤N
 wants:h.wants.length≤N
 scans:∀e∈h.evs,e.scan.length≤N
 ordts:∀o∈h.ords,o.ts.length≤N
 matts:∀m∈h.mats,m.ts.length≤N
structure Big (h:Hist):Prop where
 lim:Lim 4611686018427387904 h
 ts:h.ts.length≤8796093022208
 ss:h.ss.length≤8796093022208
 os:h.os.length≤8796093022208
 ps:h.ps.length≤8796093022208
 ords:h.ords.length≤4398046511104
 mats:h.mats.length≤2932031007402
 wants:h.wants.length≤8796093022208
 scans:∀e∈h.evs,e.scan.length≤5864062014805
 ordts:∀o∈h.ords,o.ts.length≤17592186044416
 matts:∀m∈h.mats,m.ts.length≤17592186044416
def nmK (h:Hist):Nat→List ByteArray
 |0=>h.ts
 |1=>h.ss
 |2=>h.os
 |_=>h.ps
theorem zm2 (h:Hist) {k:Nat} (hk:k < 4):(zgl h)[k]? =some (zbv (nmK h k)):=by
 match k,hk with
 |0,_=>rfl
 |1,_=>rfl
 |2,_=>rfl
 |3,_=>rfl
theorem Lim.nm {N:Nat} {h:Hist} (l:Lim N h) (k:Nat):(nmK h k).length≤N:=by
 match k with
 |0=>exact l.ts
 |1=>exact l.ss
 |2=>exact l.os
 |k+3=>exact l.ps
def zm3 (a b:Hist) (k:Nat):Bool:=eqF zoh (nmK a k) (nmK b k)
def zmx (a b:Hist):Bool:=(List.range 4).all (zm3 a b) && eqF zkf a.ords b.ords && eqF zoz a.mats b.mats && eqF zoe a.wants b.wants && eqF ybc a.evs b.evs
theorem yku {p:Nat→Bool} {n:Nat} (h:∀j,j < n→p j=true):(List.range n).all p=true:=by
 rw [List.all_eq_true];intro j hj;exact h j (List.mem_range.1 hj)
theorem ygo {p:Nat→Bool} {n k:Nat} (hk:k < n) (h:p k=false):(List.range n).all p=false:=by
 rw [List.all_eq_false];exact ⟨k,List.mem_range.2 hk,by simp [h]⟩
def zdb (h:Hist) (e:Ev):Bool:=zdf h.ss e.s && yi3 e.l==0
def zba (h:Hist) (e:Ev):Bool:=zdf h.os e.o && zy4 h.ts e.v && e.v.t==e.t && decide (e.v.k > 0)
def zeg (h:Hist) (e:Ev):Bool:=zdf h.os e.o && zy4 h.ts e.v
def ziz (h:Hist) (s:Seen):Bool:=zdf h.os s.o && zy4 h.ts s.v
def zc1 (h:Hist) (e:Ev):Bool:=zdf h.ps e.p && decide ((e.scan.length:Int)≤40) && e.scan.all (ziz h)
def zjt (h:Hist) (e:Ev):Ev×Bool:=
 if e.kind=1 then (⟨0,0,e.s,e.l,0,⟨0,0⟩,0,[]⟩,zdb h e) else
 if e.kind=2 then (⟨0,0,0,0,e.o,e.v,0,[]⟩,zba h e) else
 if e.kind=3 then (⟨0,0,0,0,e.o,e.v,0,[]⟩,zeg h e) else
 if e.kind=4 then (⟨0,0,0,0,0,⟨0,0⟩,e.p,e.scan⟩,zc1 h e) else
 (⟨0,0,0,0,0,⟨0,0⟩,0,[]⟩,true)
def zfx (h:Hist) (e:Ev):Bool:=
 !(decide (e.kind < 1)||decide (e.kind ≥ 7)|| !zdf h.ts e.t) && ((zjt h e).2 && ybc {(zjt h e).1 with kind:=e.kind,t:=e.t} e)
theorem zx3 (h:Hist) (e:Ev) {N:Nat} (he:e.scan.length≤N):(zjt h e).1.scan.length≤N:=by
 unfold zjt;repeat' split
 all_goals simp [he]
def tsB (h:Hist) (ts:List Int):Bool:=decide ((ts.length:Int)≤300) && ts.all (zdf h.ts)
def zu4 (h:Hist) (r:Ord):Bool:=zdf h.os r.o && tsB h r.ts
def yam (h:Hist) (r:Mat):Bool:=zdf h.ps r.p && zdf h.os r.o && tsB h r.ts
def zvh (h:Hist) (r:Wan):Bool:=zdf h.ss r.s && decide (r.bits ≥ 0) && decide (r.bits≤15)
def bt (s:ByteArray) (i:Nat):Int:=if h:i < s.size then ((s[i]'h).toNat:Int) else 0
def zb4 (i:Nat):Int:=
 if i < 128 then 240 else if i < 194 then 241 else if i < 224 then 2 else if i=224 then 19 else if i < 237 then 3 else if i=237 then 35 else
 if i < 240 then 3 else if i=240 then 52 else if i < 244 then 4 else if i=244 then 68 else 241
def x3:List AV:=(List.range 256).map fun i=> .v (.int .u8 (zb4 i))
def zbj:Nat→Int
 |1=>160
 |3=>144
 |_=>128
def zbk:Nat→Int
 |2=>159
 |4=>143
 |_=>191
def y5:List AV:= [.v (.int .u8 128),.v (.int .u8 191),.v (.int .u8 160),.v (.int .u8 191),.v (.int .u8 128),.v (.int .u8 159),.v (.int .u8 144),.v (.int .u8 191),.v (.int .u8 128),.v (.int .u8 143)]++List.replicate 22 (.v (.int .u8 0))
def y8:List AV:= [iv 300,iv 60,iv 300,iv 60]
def bI (op:BinOp) (k:IntKind) (x y:Int):Int:=(ybm op k x y).getD 0
def sI (op:BinOp) (k:IntKind) (x y:Int):Int:=(zl0 op k x y).getD 0
def zcg (b m sh:Int):Int:=if sh=0 then IntKind.i32.wrap (bI .and .u8 b m) else sI .shl .i32 (IntKind.i32.wrap (bI .and .u8 b m)) sh
def zid (x:Int):Int:=sI .shr .i32 (sI .shl .i32 (IntKind.i32.wrap x) 31) 31
def y7 (s:ByteArray):Int×Int:=
 if s.size < 1 then (65533,0) else
 let x:=zb4 (bt s 0).toNat
 if x ≥ 240 then (bI .or .i32 (bI .andNot .i32 (IntKind.i32.wrap (bt s 0)) (zid x)) (bI .and .i32 65533 (zid x)),1) else
 let sz:=x % 8
 let acc:=(x / 16).toNat
 if (s.size:Int) < sz then (65533,1) else
 if bt s 1 < zbj acc∨zbk acc < bt s 1 then (65533,1) else
 if sz≤2 then (bI .or .i32 (zcg (bt s 0) 31 6) (zcg (bt s 1) 63 0),2) else
 if bt s 2 < 128∨191 < bt s 2 then (65533,1) else
 if sz≤3 then (bI .or .i32 (bI .or .i32 (zcg (bt s 0) 15 12) (zcg (bt s 1) 63 6)) (zcg (bt s 2) 63 0),3) else
 if bt s 3 < 128∨191 < bt s 3 then (65533,1) else
 (bI .or .i32 (bI .or .i32 (bI .or .i32 (zcg (bt s 0) 7 18) (zcg (bt s 1) 63 12)) (zcg (bt s 2) 63 6)) (zcg (bt s 3) 63 0),4)
def zhq (s:ByteArray):Int×Int:=if 0 < s.size∧bt s 0 < 128 then (bt s 0,1) else y7 s
theorem zfc (s:ByteArray) (i:Nat):0≤bt s i:=by unfold bt;split <;> omega
theorem zfb (s:ByteArray) (i:Nat):bt s i < 256:=by
 unfold bt;split
 ·rename_i h;have:=(s[i]'h).toNat_lt;omega
 ·omega
section
variable {P:Program} {dst:Option Tmp} {ty:TypeId} {pos:String} {after:Array Edge} {guard:Option (Nat×Bool)} {x y:Operand} {h:List Res} {f:Operand→Option AV}
theorem v7 {T:TypeId} (i:Nat) {s:ByteArray} (hx:f x=some (.v (.string s))) (hy:f y=some (.v (.int .i64 i))) [Und P T .string] (hi:i < s.size):
 QR P h f ⟨dst,.index T x y,ty,pos,after,guard⟩ (.v (.int .u8 (bt s i))):=by
 have:=zoq (P:=P) (h:=h) (T:=T) (dst:=dst) (ty:=ty) (pos:=pos) (after:=after) (guard:=guard) hx hy hi
 have e:bt s i=((s[i]'hi).toNat:Int):=by simp [bt,hi]
 rw [e];exact this
theorem u1 {T E:TypeId} {n b o sz:Nat} {i:Int} {kk:IntKind} (hx:f x=some (.v (.pointer (some ⟨b,o,none⟩)))) (hy:f y=some (.v (.int kk i))) [Und P T (.array n E)] [Siz P E sz] (h0:0≤i) (hi:i < n):
 QR P h f ⟨dst,.indexAddr T x y,ty,pos,after,guard⟩ (.v (.pointer (some ⟨b,o+i.toNat * sz,none⟩))):=
 u9 (i:=i.toNat) hx (by rw [Int.toNat_of_nonneg h0];exact hy) (by omega)
end
theorem zb8 {i:Int} (h0:0≤i) (h1:i < 256):x3[0+i.toNat * 1]? =some (.v (.int .u8 (zb4 i.toNat))):=by
 simp [x3,show i.toNat < 256 by omega]
def yg0:Nat→Nat
 |0=>300
 |1=>60
 |2=>300
 |_=>60
theorem zrd {k:Nat} (hk:k < 4):y8[0+k * 1]? =some (iv (yg0 k)):=by
 match k,hk with
 |0,_=>rfl
 |1,_=>rfl
 |2,_=>rfl
 |3,_=>rfl
theorem zpd (i:Nat):zb4 i=240∨zb4 i=241∨zb4 i=2∨zb4 i=19∨zb4 i=3∨zb4 i=35∨zb4 i=52∨zb4 i=4∨zb4 i=68:=by
 unfold zb4;repeat' split
 all_goals simp
theorem zx4 (s:ByteArray) (i:Nat):IntKind.i32.wrap (bt s i)=bt s i:=by
 have h0:=zfc s i;have h1:=zfb s i
 have e:bt s i % (2 ^ IntKind.i32.bits:Int)=bt s i:=Int.emod_eq_of_lt h0 (show bt s i < 4294967296 by omega)
 unfold IntKind.wrap
 simp only [e]
 rw [if_neg]
 intro q
 have q2:bt s i ≥ (2 ^ (IntKind.i32.bits - 1):Int):=by simpa using (Bool.and_eq_true_iff.1 q).2
 have:(2 ^ (IntKind.i32.bits - 1):Int)=2147483648:=by decide
 omega
theorem zvo {s:ByteArray} (h:(s.toList !=(ByteArray.mk #[]).toList)=true):0 < s.size:=by
 refine Nat.pos_of_ne_zero fun q=> ?_
 have e:s=⟨#[]⟩:=by cases s;congr 1;exact Array.eq_empty_of_size_eq_zero q
 rw [e] at h;simp at h
theorem yb3 {s:ByteArray} (h:(s.toList !=(ByteArray.mk #[]).toList)=false):¬0 < s.size:=by
 intro q
 have e:s.toList=(ByteArray.mk #[]).toList:=by simpa using h
 rw [ByteArray.toList_eq,ByteArray.toList_eq] at e
 have:s.size=0:=by
  have h2:=congrArg List.length e
  simpa using h2
 omega
def zqh (s:ByteArray) (i:Nat) (c:Int):Bool:=c !=65533||decide ((zhq (s.extract i s.size)).2 > 1)
theorem zoc (s:ByteArray) (i:Nat):0 < (Utf8.decode s i).2:=by
 simp only [Utf8.decode]
 repeat' split
 all_goals simp
def zde (s:ByteArray) (p:Nat→Int→Bool) (pos:Nat):Nat:=
 if h:pos < s.size then
  if p pos (Utf8.decode s pos).1 then zde s p (pos+(Utf8.decode s pos).2) else pos
 else s.size
 termination_by s.size - pos
 decreasing_by have:=zoc s pos;omega
theorem zod {s:ByteArray} {p:Nat→Int→Bool} {k:Nat} (h:k < s.size) (hp:p k (Utf8.decode s k).1=true):zde s p k=zde s p (k+(Utf8.decode s k).2):=by
 rw [zde,dif_pos h,if_pos hp]
theorem zqd {s:ByteArray} {p:Nat→Int→Bool} {k:Nat} (h:k < s.size) (hp:p k (Utf8.decode s k).1=false):zde s p k=k:=by
 rw [zde,dif_pos h,if_neg (by simp [hp])]
theorem zlu {s:ByteArray} {p:Nat→Int→Bool} {k:Nat} (h:¬k < s.size):zde s p k=s.size:=by
 rw [zde,dif_neg h]
def zfg (s:ByteArray) (goes:Int→Bool) (i:Nat) (c:Int):Bool:=zqh s i c && goes c
def zk1 (c:Int):Bool:=ye5 c||zwh c
def wordB (s:ByteArray):Bool:=(!(s.toList== [])) && decide ((s.size:Int)≤24) && (!zwh (bt s 0)) && ((zde s (zfg s zk1) 0:Int)==s.size)
def zea:List ByteArray→List ByteArray→Bool
 |_,[]=>true
 |met,s::r=>wordB s && (!yaj s met) && zea (met++ [s]) r
def zhl (most:Nat) (l:List ByteArray):Bool:=decide ((l.length:Int)≤most) && zea [] l
def zsm (h:Hist):Bool:=decide ((h.evs.length:Int)≤3000) && decide (max (max (h.ords.length:Int) h.mats.length) h.wants.length≤3000)
def okK (h:Hist):Nat→Bool
 |0=>zsm h
 |k+1=>okK h k && zhl (yg0 k) (nmK h k)
def zav (h:Hist):Bool:=
 okK h 4 && h.evs.all (zfx h) && h.ords.all (zu4 h) && h.mats.all (yam h) && h.wants.all (zvh h)
theorem zsl (h:Hist):okK h 0=(decide (((h.evs.map evR).length:Int)≤3000) && decide (max (max ((h.ords.map zb7).length:Int) (h.mats.map zcc).length) (h.wants.map zbi).length≤3000)):=by
 simp [okK,zsm]
theorem zhj {h:Hist} {k:Nat} (hk:okK h k=false):∀n,okK h (k+n)=false
 |0=>hk
 |n+1=>by
  have ih:=zhj hk n
  show (okK h (k+n) && _)=false
  rw [ih,Bool.false_and]
def okj (h:Hist) (k j:Nat):Bool:=okK h k && decide (((nmK h k).length:Int)≤yg0 k)
theorem yb8 (h:Hist) (k:Nat):okj h k 0=(okK h k && decide ((((nmK h k).map zay).length:Int)≤yg0 k)):=by simp [okj]
theorem ymc {o:Bool} {l m r:List ByteArray} {x:ByteArray} (hf:zea [] l=zea m (x::r)) (h:(o && wordB x && !yaj x m)=false):o=false∨zea [] l=false:=by
 cases o with
 |false=>exact .inl rfl
 |true=>rw [Bool.true_and] at h;rw [hf,zea,h,Bool.false_and];exact .inr rfl
theorem yit {o a b:Bool} (h:(o && a && !b)=true):o=true∧a=true∧b=false:=by
 cases o <;> cases a <;> cases b <;> simp_all
theorem yir {h:Hist} {k:Nat} (h0:zea [] (nmK h k)=true):okj h k 0=okK h (k+1):=by
 simp [okj,okK,zhl,h0]
theorem yis {h:Hist} {k:Nat} (hk:k < 4) (h0:okj h k 0=false∨zea [] (nmK h k)=false):okK h 4=false:=by
 have h1:okK h (k+1)=false:=by
  rcases h0 with h0|h0
  ·simp only [okK,zhl];simp only [okj] at h0;rw [←Bool.and_assoc,h0,Bool.false_and]
  ·simp [okK,zhl,h0]
 have:=zhj h1 (3 - k)
 rwa [show k+1+(3 - k)=4 by omega] at this
def ze5 (v:Ver):List (Nat×Int):=if decide (v.k > 0) then [(0,v.t)] else []
def zt1 (s:Seen):List (Nat×Int):=(2,s.o)::ze5 s.v
def zfh (e:Ev):List (Nat×Int):=if e.kind=1 then [(1,e.s)] else if e.kind=2∨e.kind=3 then (2,e.o)::ze5 e.v else if e.kind=4 then [(3,e.p)] else []
theorem zre {e:Ev} (h:e.kind=1):zfh e= [(1,e.s)]:=by rw [zfh,if_pos h]
theorem zkq {e:Ev} (h:e.kind=2∨e.kind=3):zfh e=(2,e.o)::ze5 e.v:=by rw [zfh,if_neg (by omega),if_pos h]
theorem zw3 {e:Ev} (h:e.kind=4):zfh e= [(3,e.p)]:=by rw [zfh,if_neg (by omega),if_neg (by omega),if_pos h]
theorem zw4 {e:Ev} (h1:e.kind≠1) (h2:e.kind≠2) (h3:e.kind≠3) (h4:e.kind≠4):zfh e= []:=by rw [zfh,if_neg h1,if_neg (by omega),if_neg h4]
def evL (e:Ev):List (Nat×Int):=(0,e.t)::(zfh e++e.scan.flatMap zt1)
def tsL (l:List Int):List (Nat×Int):=l.map fun t=>(0,t)
def zz8 (r:Ord):List (Nat×Int):=(2,r.o)::tsL r.ts
def zwq (r:Mat):List (Nat×Int):=(3,r.p)::(2,r.o)::tsL r.ts
def zqe (r:Wan):List (Nat×Int):= [(1,r.s)]
def zcb (h:Hist):List (Nat×Int):=h.evs.flatMap evL++(h.ords.flatMap zz8++(h.mats.flatMap zwq++h.wants.flatMap zqe))
def goes {σ α:Type} (step:σ→α→Option σ):Option σ→List α→Option σ
 |st,[]=>st
 |st,x::r=>goes step (st.bind fun s=>step s x) r
theorem ze7 {σ α:Type} (step:σ→α→Option σ):∀(l m:List α) (st:Option σ),goes step st (l++m)=goes step (goes step st l) m
 | [],m,st=>rfl
 |x::l,m,st=>ze7 step l m _
theorem zkt {σ α:Type} (step:σ→α→Option σ):∀(l:List α),goes step none l=none
 | []=>rfl
 |x::l=>zkt step l
def Rem {σ α:Type} (step:σ→α→Option σ) (ok:α→Prop) (st:Option σ) (l:List α) (F:Option σ):Prop:=goes step st l=F∧∀x∈l,ok x
section
variable {σ α:Type} {step:σ→α→Option σ} {ok:α→Prop} {st F:Option σ} {l m:List α} {x:α}
theorem Rem.cons (h:Rem step ok st (x::l) F):ok x∧Rem step ok (goes step st [x]) l F:=⟨h.2 x (by simp),h.1,fun y hy=>h.2 y (by simp [hy])⟩
theorem Rem.app (h:Rem step ok st (l++m) F):(∀x∈l,ok x)∧Rem step ok (goes step st l) m F:=⟨fun y hy=>h.2 y (by simp [hy]),by rw [←ze7];exact h.1,fun y hy=>h.2 y (by simp [hy])⟩
theorem Rem.fin (h:Rem step ok st [] F):st=F:=h.1
end
def zap (m:List Int) (x:Nat×Int):Option (List Int):=
 let a:=m.getD x.1 0
 if x.2 > a then none else some (m.set x.1 (max a (x.2+1)))
def zlm (h:Hist):Option (List Int):=goes zap (some [0,0,0,0]) (zcb h)
def zko (h:Hist):List Int:= [h.ts.length,h.ss.length,h.os.length,h.ps.length]
def zf9 (h:Hist):Bool:=zav h && (zlm h==some (zko h))
def zck (h:Hist):Int:=if zf9 h then 0 else 210
def zfu:Hist:=⟨[],[],[],[],[],[],[],[]⟩
def ofL (t:Int):Nat→List Ev→List Int
 |_,[]=> []
 |i,e::r=>if e.t=t then (i:Int)::ofL t (i+1) r else ofL t (i+1) r
def ykn (l:List Ev) (t:Int):Bool:=l.any fun e=>e.t==t && e.kind==1
def yma (l:List Ev) (t:Int):Bool:=l.any fun e=>e.t==t && (e.kind==5||e.kind==6)
def yk2 (t:Nat):Ev:=⟨6,t,0,0,0,⟨0,0⟩,0,[]⟩
def yip (h:Hist):List Nat:=(List.range h.ts.length).filter fun t=>ykn h.evs t && !yma h.evs t
def ycr (h:Hist):Hist:={h with evs:=h.evs++(yip h).map yk2}
def zxy (h:Hist):Int:=if zf9 h then (if h.evs.length+(yip h).length≤3000 then 0 else 6) else 210
def ycq (h:Hist):Hist:=if zxy h=0 then ycr h else zfu
def ofR (h:Hist) (t:Int):List Int:=if zf9 h then ofL t 0 h.evs else []
def zof {σ α:Type} (f:σ→α→α×σ):σ→List α→List α×σ
 |s,[]=>([],s)
 |s,x::r=>((f s x).1::(zof f (f s x).2 r).1,(zof f (f s x).2 r).2)
section
variable {σ:Type} (f:σ→Nat→Int→Int×σ)
def zvk (s:σ) (v:Ver):Ver×σ:=if decide (v.k > 0) then (⟨(f s 0 v.t).1,v.k⟩,(f s 0 v.t).2) else (v,s)
def zy5 (s:σ) (x:Seen):Seen×σ:=
 let a:=f s 2 x.o
 let b:=zvk f a.2 x.v
 (⟨a.1,b.1⟩,b.2)
def zy6 (s:σ) (e:Ev):Ev×σ:=
 if e.kind=1 then let a:=f s 1 e.s;({e with s:=a.1},a.2) else
 if e.kind=2∨e.kind=3 then let a:=f s 2 e.o;let b:=zvk f a.2 e.v;({e with o:=a.1,v:=b.1},b.2) else
 if e.kind=4 then let a:=f s 3 e.p;({e with p:=a.1},a.2) else (e,s)
def yhd (s:σ) (e:Ev):Ev×σ:=
 let a:=f s 0 e.t
 let b:=zy6 f a.2 {e with t:=a.1}
 let c:=zof (zy5 f) b.2 e.scan
 ({b.1 with scan:=c.1},c.2)
def yb1 (s:σ) (l:List Int):List Int×σ:=zof (fun s n=>f s 0 n) s l
def yde (s:σ) (r:Ord):Ord×σ:=
 let a:=f s 2 r.o
 let b:=yb1 f a.2 r.ts
 (⟨a.1,b.1⟩,b.2)
def ydf (s:σ) (r:Mat):Mat×σ:=
 let a:=f s 3 r.p
 let b:=f a.2 2 r.o
 let c:=yb1 f b.2 r.ts
 (⟨a.1,b.1,r.first,c.1⟩,c.2)
def ydd (s:σ) (r:Wan):Wan×σ:=let a:=f s 1 r.s;(⟨a.1,r.bits⟩,a.2)
def yln (s:σ) (h:Hist):Hist×σ:=
 let a:=zof (yhd f) s h.evs
 let b:=zof (yde f) a.2 h.ords
 let c:=zof (ydf f) b.2 h.mats
 let d:=zof (ydd f) c.2 h.wants
 ({h with evs:=a.1,ords:=b.1,mats:=c.1,wants:=d.1},d.2)
end
def yil (n:Int):Nat→List Int→Option Nat
 |_,[]=>none
 |i,x::r=>if x=n then some i else yil n (i+1) r
abbrev yg2:=List (List Int)
def yex (k:yg2) (sort:Nat) (n:Int):Int×yg2:=
 match yil n 0 (k.getD sort []) with
 |some i=>((i:Int),k)
 |none=>(((k.getD sort []).length:Int),k.set sort (k.getD sort []++ [n]))
def ymb:yg2:= [[],[],[],[]]
def zsw (l:List ByteArray) (n:Int):ByteArray:=l.getD n.toNat ⟨#[]⟩
def yew (h:Hist):Hist:=
 let r:=yln yex ymb h
 {r.1 with ts:=(r.2.getD 0 []).map (zsw h.ts),ss:=(r.2.getD 1 []).map (zsw h.ss),os:=(r.2.getD 2 []).map (zsw h.os),ps:=(r.2.getD 3 []).map (zsw h.ps)}
def numR (h:Hist):Hist:=if zav h then yew h else zfu
def ynm (h:Hist):Int:=if zav h then 0 else 210
theorem zvz (a b:Seen):zim a b=decide (a=b):=by
 obtain ⟨ao,at_,ak⟩:=a;obtain ⟨bo,bt_,bk⟩:=b
 simp only [zim,Seen.mk.injEq,Ver.mk.injEq]
 by_cases h1:ao=bo <;> by_cases h2:at_=bt_ <;> by_cases h3:ak=bk <;> simp [h1,h2,h3]
theorem zxo (a b:Ev):ybc a b=decide (a=b):=by
 obtain ⟨a1,a2,a3,a4,a5,⟨a6,a7⟩,a8,a9⟩:=a;obtain ⟨b1,b2,b3,b4,b5,⟨b6,b7⟩,b8,b9⟩:=b
 simp only [ybc,zgp zvz,Ev.mk.injEq,Ver.mk.injEq]
 rw [Bool.eq_iff_iff]
 simp [and_assoc]
def OkN (h:Hist) (x:Nat×Int):Prop:=x.1 < 4∧0≤x.2∧x.2 < (nmK h x.1).length
theorem zbo (l:List ByteArray) (n:Int):zdf l n=true ↔ 0≤n∧n < l.length:=by simp [zdf]
theorem zra {h:Hist} {v:Ver} (hv:zy4 h.ts v=true):∀x∈ze5 v,OkN h x:=by
 intro x hx
 unfold ze5 at hx
 split at hx
 ·rename_i hk
  have hk':v.k > 0:=oT hk
  simp only [List.mem_singleton] at hx
  subst hx
  unfold zy4 at hv
  rw [if_neg (by simp;omega)] at hv
  simp only [Bool.and_eq_true,zbo] at hv
  exact ⟨by simp,hv.1.1.1,hv.1.1.2⟩
 ·simp at hx
theorem yd1 {h:Hist} {s:Seen} (hs:ziz h s=true):∀x∈zt1 s,OkN h x:=by
 simp only [ziz,Bool.and_eq_true,zbo] at hs
 intro x hx
 simp only [zt1,List.mem_cons] at hx
 rcases hx with rfl|hx
 ·exact ⟨by simp,hs.1.1,hs.1.2⟩
 ·exact zra hs.2 x hx
theorem zg1 {h:Hist} {e:Ev} (he:zfx h e=true):1≤e.kind∧e.kind < 7∧zdf h.ts e.t=true∧(zjt h e).2=true∧{(zjt h e).1 with kind:=e.kind,t:=e.t}=e:=by
 simp only [zfx,zxo,Bool.and_eq_true,Bool.not_eq_true',Bool.or_eq_false_iff,decide_eq_true_eq,decide_eq_false_iff_not,Bool.not_eq_false'] at he
 exact ⟨by omega,by omega,he.1.2,he.2.1,he.2.2⟩
theorem ym3 {h:Hist} {e:Ev} (he:zfx h e=true):∀x∈evL e,OkN h x:=by
 obtain ⟨h1,h7,ht,hc,hq⟩:=zg1 he
 have ht':=(zbo _ _).1 ht
 intro x hx
 simp only [evL,List.mem_cons,List.mem_append] at hx
 rcases hx with rfl|hx
 ·exact ⟨by simp,ht'.1,ht'.2⟩
 unfold zjt at hc hq
 by_cases k1:e.kind=1
 ·rw [if_pos k1] at hc hq
  simp only [zdb,Bool.and_eq_true,zbo] at hc
  have hs:e.scan= []:=by rw [←hq]
  rw [hs,zre k1] at hx
  simp only [List.mem_singleton,List.flatMap_nil,List.not_mem_nil,or_false] at hx
  subst hx;exact ⟨by simp,hc.1.1,hc.1.2⟩
 rw [if_neg k1] at hc hq
 by_cases k2:e.kind=2
 ·rw [if_pos k2] at hc hq
  simp only [zba,Bool.and_eq_true,zbo] at hc
  have hs:e.scan= []:=by rw [←hq]
  rw [hs,zkq (.inl k2)] at hx
  simp only [List.mem_cons,List.flatMap_nil,List.not_mem_nil,or_false] at hx
  rcases hx with rfl|hx
  ·exact ⟨by simp,hc.1.1.1.1,hc.1.1.1.2⟩
  ·exact zra hc.1.1.2 x hx
 rw [if_neg k2] at hc hq
 by_cases k3:e.kind=3
 ·rw [if_pos k3] at hc hq
  simp only [zeg,Bool.and_eq_true,zbo] at hc
  have hs:e.scan= []:=by rw [←hq]
  rw [hs,zkq (.inr k3)] at hx
  simp only [List.mem_cons,List.flatMap_nil,List.not_mem_nil,or_false] at hx
  rcases hx with rfl|hx
  ·exact ⟨by simp,hc.1.1,hc.1.2⟩
  ·exact zra hc.2 x hx
 rw [if_neg k3] at hc hq
 by_cases k4:e.kind=4
 ·rw [if_pos k4] at hc hq
  simp only [zc1,Bool.and_eq_true,zbo,List.all_eq_true] at hc
  rw [zw3 k4] at hx
  simp only [List.mem_singleton,List.mem_flatMap] at hx
  rcases hx with rfl|⟨s,hs,hx⟩
  ·exact ⟨by simp,hc.1.1.1,hc.1.1.2⟩
  ·exact yd1 (hc.2 s hs) x hx
 rw [if_neg k4] at hc hq
 have hs:e.scan= []:=by rw [←hq]
 rw [hs,zw4 k1 k2 k3 k4] at hx
 simp at hx
theorem yhb {h:Hist} {ts:List Int} (ht:tsB h ts=true):∀x∈tsL ts,OkN h x:=by
 simp only [tsB,Bool.and_eq_true,List.all_eq_true,zbo] at ht
 intro x hx
 simp only [tsL,List.mem_map] at hx
 obtain ⟨t,h1,rfl⟩:=hx
 exact ⟨by simp,(ht.2 t h1).1,(ht.2 t h1).2⟩
theorem zdg {h:Hist} (hs:zav h=true):okK h 4=true∧(∀e∈h.evs,zfx h e=true)∧(∀r∈h.ords,zu4 h r=true)∧(∀r∈h.mats,yam h r=true)∧∀r∈h.wants,zvh h r=true:=by
 simp only [zav,Bool.and_eq_true,List.all_eq_true] at hs
 exact ⟨hs.1.1.1.1,hs.1.1.1.2,hs.1.1.2,hs.1.2,hs.2⟩
theorem zvu {h:Hist} (hs:zav h=true):∀x∈zcb h,OkN h x:=by
 obtain ⟨_,h1,h2,h3,h4⟩:=zdg hs
 intro x hx
 simp only [zcb,List.mem_append,List.mem_flatMap] at hx
 rcases hx with ⟨e,he,hx⟩|⟨r,hr,hx⟩|⟨r,hr,hx⟩|⟨r,hr,hx⟩
 ·exact ym3 (h1 e he) x hx
 ·have:=h2 r hr
  simp only [zu4,Bool.and_eq_true,zbo] at this
  simp only [zz8,List.mem_cons] at hx
  rcases hx with rfl|hx
  ·exact ⟨by simp,this.1.1,this.1.2⟩
  ·exact yhb this.2 x hx
 ·have:=h3 r hr
  simp only [yam,Bool.and_eq_true,zbo] at this
  simp only [zwq,List.mem_cons] at hx
  rcases hx with rfl|rfl|hx
  ·exact ⟨by simp,this.1.1.1,this.1.1.2⟩
  ·exact ⟨by simp,this.1.2.1,this.1.2.2⟩
  ·exact yhb this.2 x hx
 ·have:=h4 r hr
  simp only [zvh,Bool.and_eq_true,zbo] at this
  simp only [zqe,List.mem_singleton] at hx
  subst hx
  exact ⟨by simp,this.1.1.1,this.1.1.2⟩
theorem ymu {m:List Int} (hl:m.length=4) {k:Nat} (hk:k < 4):(m.map iv)[0+k * 1]? =some (iv (m.getD k 0)):=by
 have h:k < m.length:=by omega
 simp [h]
theorem yn2 {m:List Int} (hl:m.length=4) {k:Nat} (hk:k < 4) (v:Int):(m.map iv).take (0+k * 1)++ [iv v]++(m.map iv).drop (0+k * 1+1)=(m.set k v).map iv:=by
 match m,hl with
 | [a,b,c,d],_=>
   match k,hk with
   |0,_=>rfl
   |1,_=>rfl
   |2,_=>rfl
   |3,_=>rfl
theorem ybj {h:Hist} (hs:zav h=false):zck h=210:=by simp [zck,zf9,hs]
theorem zuz {h:Hist} (hm:zlm h=none):zck h=210:=by
 have e:(zlm h==some (zko h))=false:=by rw [hm];rfl
 rw [zck,zf9,e,Bool.and_false];rfl
theorem yaw (h:Hist) {k:Nat} (hk:k < 4):(zko h).getD k 0=(nmK h k).length:=by
 match k,hk with
 |0,_=>rfl
 |1,_=>rfl
 |2,_=>rfl
 |3,_=>rfl
theorem ybk {h:Hist} {m:List Int} (hm:zlm h=some m) {k:Nat} (hk:k < 4) (hne:m.getD k 0≠(nmK h k).length):zck h=210:=by
 have e:(zlm h==some (zko h))=false:=by
  rw [hm]
  simp only [Option.some_beq_some,beq_eq_false_iff_ne]
  rintro rfl
  exact hne (yaw h hk)
 rw [zck,zf9,e,Bool.and_false];rfl
theorem ybl {h:Hist} (hs:zav h=true) {m:List Int} (hm:zlm h=some m) (hl:m.length=4) (he:∀k,k < 4→m.getD k 0=(nmK h k).length):zck h=0:=by
 have e:m=zko h:=by
  match m,hl with
  | [a,b,c,d],_=>
    have h0:=he 0 (by omega);have h1:=he 1 (by omega);have h2:=he 2 (by omega);have h3:=he 3 (by omega)
    simp [nmK] at h0 h1 h2 h3
    simp [zko,h0,h1,h2,h3]
 rw [zck,zf9,hs,hm,e];simp
theorem zx2 {h:Hist}:zck h=0 ↔ zf9 h=true:=by unfold zck;split <;> simp_all
def ycn (p:SV×Ev):List AV:= [iv p.2.kind,iv p.2.t,iv p.2.s,iv p.2.l,iv p.2.o,iv p.2.v.t,iv p.2.v.k,iv p.2.p,.v p.1.v]
def zq1 (p:SV×Ord):List AV:= [iv p.2.o,.v p.1.v]
def zuh (p:SV×Mat):List AV:= [iv p.2.p,iv p.2.o,bv p.2.first,.v p.1.v]
structure NV where
 vT:SV
 vS:SV
 vO:SV
 vP:SV
structure OH where
 vE:SV
 vR:SV
 vM:SV
 vW:SV
 ts:List ByteArray
 ss:List ByteArray
 os:List ByteArray
 ps:List ByteArray
 evs:List (SV×Ev)
 ords:List (SV×Ord)
 mats:List (SV×Mat)
 wants:List Wan
def scR (T:TypeId) (l:List (SV×Ev)):List Res:=l.map fun p=> .row p.1.v 3 T (p.2.scan.map zaz)
def otR (T:TypeId) (l:List (SV×Ord)):List Res:=l.map fun p=> .row p.1.v 1 T (p.2.ts.map za8)
def mtR (T:TypeId) (l:List (SV×Mat)):List Res:=l.map fun p=> .row p.1.v 1 T (p.2.ts.map za8)
def zn6:AV:= .v (.slice none 0 0)
def zek:List AV:= [zn6,zn6,zn6,zn6,zn6,zn6,zn6,zn6]
theorem zh1 {α:Type} {R:α→List AV} (h:∀a,(R a).all AV.one=true) (l:List α):∀r∈l.map R,r.all AV.one=true:=by
 intro r hr;obtain ⟨a,_,rfl⟩:=List.mem_map.1 hr;exact h a
theorem zkg (l:List ByteArray):∀r∈l.map zay,r.all AV.one=true:=zh1 (fun a=>rfl) l
theorem zkh (l:List Int):∀r∈l.map za8,r.all AV.one=true:=zh1 (fun a=>rfl) l
theorem yaa (l:List Seen):∀r∈l.map zaz,r.all AV.one=true:=zh1 (fun a=>rfl) l
theorem yiq (l:List Ev):∀r∈l.map evR,r.all AV.one=true:=zh1 (fun a=>rfl) l
theorem yeu (l:List Ord):∀r∈l.map zb7,r.all AV.one=true:=zh1 (fun a=>rfl) l
theorem yev (l:List Mat):∀r∈l.map zcc,r.all AV.one=true:=zh1 (fun a=>rfl) l
section
variable {α β:Type} {f:α→List AV} {g:β→List AV} {xs:List α} {l:List β} {k:Nat} {b:β} {a:α} {r:List AV}
theorem zm7 (hl:xs.length=k) (hk:k≤l.length):(xs.map f++(l.drop k).map g).length=l.length:=by
 simp [hl];omega
theorem zm8 (hl:xs.length=k) (hd:l.drop k=b::l.drop (k+1)):(xs.map f++(l.drop k).map g)[k]? =some (g b):=by
 rw [hd,List.getElem?_append_right (by simp [hl])];simp [hl]
theorem zm5 (hl:xs.length=k) (hd:l.drop k=b::l.drop (k+1)) (hr:r=f a):(xs.map f++(l.drop k).map g).set k r=(xs++ [a]).map f++(l.drop (k+1)).map g:=by
 subst hl hr
 rw [hd,List.set_append_right _ _ (by simp)]
 simp
theorem zm6 {snd:α→β} (h:xs.map snd=l.take k) (hk:k≤l.length):xs.length=k:=by
 have:=congrArg List.length h;simp at this;omega
theorem zm4 {snd:α→β} (h:xs.map snd=l.take k) (hk:k < l.length) (ha:snd a=l[k]):(xs++ [a]).map snd=l.take (k+1):=by
 rw [List.map_append,h,List.take_succ_eq_append_getElem hk];simp [ha]
end
theorem zt0 {h:Hist} (hs:zav h=true):Lim 3000 h:=by
 obtain ⟨h0,h1,h2,h3,h4⟩:=zdg hs
 have hk:∀k,k < 4→okK h (k+1)=true:=fun k hk=>by
  cases hq:okK h (k+1) with
  |true=>rfl
  |false=>
   have:=zhj hq (3 - k)
   rw [show k+1+(3 - k)=4 by omega,h0] at this;cases this
 have hn:∀k,k < 4→(nmK h k).length≤300:=fun k hk4=>by
  have:=hk k hk4
  simp only [okK,zhl,Bool.and_eq_true,decide_eq_true_eq] at this
  have h5:yg0 k≤300:=by
   match k,hk4 with
   |0,_=>decide
   |1,_=>decide
   |2,_=>decide
   |3,_=>decide
  omega
 have hz:okK h 0=true:=by
  cases hq:okK h 0 with
  |true=>rfl
  |false=>have:=zhj hq 4;rw [h0] at this;cases this
 simp only [okK,zsm,Bool.and_eq_true,decide_eq_true_eq] at hz
 refine ⟨by have:=hn 0 (by omega);simp [nmK] at this;omega,by have:=hn 1 (by omega);simp [nmK] at this;omega,by have:=hn 2 (by omega);simp [nmK] at this;omega,by have:=hn 3 (by omega);simp [nmK] at this;omega,by omega,by omega,by omega,by omega,fun e he=> ?_,fun o ho=> ?_,fun m hm=> ?_⟩
 ·obtain ⟨_,_,_,hc,hq⟩:=zg1 (h1 e he)
  rw [←hq]
  show (zjt h e).1.scan.length≤3000
  unfold zjt at hc ⊢
  repeat' split
  all_goals first|(simp only [List.length_nil];omega)|skip
  rename_i g1 g2 g3 g4
  rw [if_neg g1,if_neg g2,if_neg g3,if_pos g4] at hc
  simp only [zc1,Bool.and_eq_true,decide_eq_true_eq] at hc
  show e.scan.length≤3000
  omega
 ·have:=h2 o ho
  simp only [zu4,tsB,Bool.and_eq_true,decide_eq_true_eq] at this
  omega
 ·have:=h3 m hm
  simp only [yam,tsB,Bool.and_eq_true,decide_eq_true_eq] at this
  omega
theorem Lim.mono {N M:Nat} {h:Hist} (l:Lim N h) (hm:N≤M):Lim M h:=
 ⟨Nat.le_trans l.ts hm,Nat.le_trans l.ss hm,Nat.le_trans l.os hm,Nat.le_trans l.ps hm,Nat.le_trans l.evs hm,Nat.le_trans l.ords hm,Nat.le_trans l.mats hm,Nat.le_trans l.wants hm,fun e he=>Nat.le_trans (l.scans e he) hm,fun e he=>Nat.le_trans (l.ordts e he) hm,fun e he=>Nat.le_trans (l.matts e he) hm⟩
section
variable {σ α:Type} (f:σ→Nat→Int→Int×σ)
end
section
variable {α:Type} {f:α→List AV} {A B:List α} {k:Nat} {b a:α} {r:List AV}
end
def yme:SV:=⟨none,0,0⟩
structure KOk (h:Hist) (k:yg2):Prop where
 four:k.length=4
 nd:∀s,(k.getD s []).Nodup
 lt:∀s,∀n∈k.getD s [],0≤n∧n < (nmK h s).length
end Go.H
