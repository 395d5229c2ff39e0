/- The abstract logic, part 21: a region that draws its order, and among whose operations some make memory of their own (calls, allocations, maps). .. -/
import Derived.Test.YtfmcbdjnmlcacaaGreatDoorRScB
set_option linter.unusedSimpArgs false
set_option linter.unusedVariables false
namespace Go.Ab
open Go
structure SV where
 a:Option Addr
 n:Nat
 c:Nat
def SV.v (s:SV):Value:= .slice s.a s.n s.c
structure MX where
 vs:List SV
 ns:List Nat
abbrev MR:=MX→AV×List Res
abbrev CM:=List Res×MR
def yix (P:Program) (ro:Option Nat) (nt:Nat) (h:List Res) (dsl:List Nat) (l:List Oper) (sd:List Tmp) (t0:Fr) (o:Oper) (m:CM) (e:Fr):Prop:=
 ∃d,o.dst=some d∧Nat.blt d nt=true∧o.guard=none∧
  ∀X a w K Q,a.tmps.size=nt→a.defers=dsl.map zh6→Env X (m.1++h) (evS sd (zby l o) e t0) a.eval w→(∀x v w',Rel w' (OO ((m.2 x).2++h) X) (m.2 x).1 v→HRel X w' ((m.2 x).2++h)→Keep (u9 (m.1++h)) w (u9 ((m.2 x).2++h)) w'→K (a.put o.dst v) w')→o.wpIn (FW ro) 0 P a w K Q
def zb6 (P:Program) (ro:Option Nat) (nt:Nat) (h:List Res) (dsl:List Nat) (l:List Oper) (sd:List Tmp) (t0:Fr):List Oper→Fr→(Fr→List (Option CM)→Prop)→Prop
 | [],e,K=>K e []
 |o::rest,e,K=>(∃d av,o.dst=some d∧zsy P ro nt h l sd t0 o av e∧zb6 P ro nt h dsl l sd t0 rest ((d,av)::e) (fun e ms=>K e (none::ms)))∨
   (∃m,yix P ro nt h dsl l sd t0 o m e∧zb6 P ro nt h dsl l sd t0 rest e (fun e ms=>K e (some m::ms)))
def zas:List Oper→List (Option CM)→Fr→List Res→(Fr→List Res→Prop)→Prop
 |o::os,some m::ms,e,h,K=>∀d x,o.dst=some d→zas os ms ((d,(m.2 x).1)::e) ((m.2 x).2++h) K
 |_::os,none::ms,e,h,K=>zas os ms e h K
 |_,_,e,h,K=>K e h
def zhl:List Oper→List (Option AV)→Fr→Fr
 |o::os,some a::as,e=>zhl os as (match o.dst with
  |some d=>(d,a)::e
  |none=>e)
 |_::os,none::as,e=>zhl os as e
 |_,_,e=>e
def zcg (P:Program) (ro:Option Nat) (nt:Nat) (h:List Res) (dsl:List Nat) (l:List Oper) (sd:List Tmp) (t0:Fr):List Oper→List (Option AV)→List (Option CM)→Fr→Prop
 | [],[],[],_=>True
 |o::os,some a::as,none::ms,e=>∃d,o.dst=some d∧zsy P ro nt h l sd t0 o a e∧zcg P ro nt h dsl l sd t0 os as ms ((d,a)::e)
 |o::os,none::as,some m::ms,e=>yix P ro nt h dsl l sd t0 o m e∧zcg P ro nt h dsl l sd t0 os as ms e
 |_,_,_,_=>False
theorem zlk {P:Program} {ro:Option Nat} {nt:Nat} {h:List Res} {dsl:List Nat} {l:List Oper} {sd:List Tmp} {t0:Fr}:∀{os:List Oper} {e:Fr} {K:Fr→List (Option CM)→Prop},zb6 P ro nt h dsl l sd t0 os e K→
 ∃as ms,zcg P ro nt h dsl l sd t0 os as ms e∧K (zhl os as e) ms
 | [],e,K,hk=>⟨[],[],trivial,hk⟩
 |o::os,e,K,.inl ⟨d,av,h1,h2,h3⟩=>let ⟨as,ms,a,b⟩:=zlk h3;⟨some av::as,none::ms,⟨d,h1,h2,a⟩,by simpa [zhl,h1] using b⟩
 |o::os,e,K,.inr ⟨m,h1,h2⟩=>let ⟨as,ms,a,b⟩:=zlk h2;⟨none::as,some m::ms,⟨h1,a⟩,by simpa [zhl] using b⟩
theorem zcg.length {P:Program} {ro:Option Nat} {nt:Nat} {h:List Res} {dsl:List Nat} {l:List Oper} {sd:List Tmp} {t0:Fr}:∀{os:List Oper} {as:List (Option AV)} {ms:List (Option CM)} {e:Fr},zcg P ro nt h dsl l sd t0 os as ms e→as.length=os.length∧ms.length=os.length
 | [],[],[],_,_=>⟨rfl,rfl⟩
 |o::os,some a::as,none::ms,e,⟨d,_,_,hh⟩=>by have:=zcg.length hh;simp [this.1,this.2]
 |o::os,none::as,some m::ms,e,⟨_,hh⟩=>by have:=zcg.length hh;simp [this.1,this.2]
 | [],_::_,_,_,hh=>by simp [zcg] at hh
 | [],[],_::_,_,hh=>by simp [zcg] at hh
 |_::_,[],_,_,hh=>by simp [zcg] at hh
 |_::_,some _::_,[],_,hh=>by simp [zcg] at hh
 |_::_,none::_,[],_,hh=>by simp [zcg] at hh
 |_::_,some _::_,some _::_,_,hh=>by simp [zcg] at hh
 |_::_,none::_,none::_,_,hh=>by simp [zcg] at hh
theorem zcg.at {P:Program} {ro:Option Nat} {nt:Nat} {h:List Res} {dsl:List Nat} {l:List Oper} {sd:List Tmp} {t0:Fr}:∀{os:List Oper} {as:List (Option AV)} {ms:List (Option CM)} {e:Fr},zcg P ro nt h dsl l sd t0 os as ms e→∀(i:Nat) (o:Oper),os[i]? =some o→
 (∃a,as[i]? =some (some a)∧ms[i]? =some none∧zsy P ro nt h l sd t0 o a (zhl (os.take i) (as.take i) e))∨(∃m,as[i]? =some none∧ms[i]? =some (some m)∧yix P ro nt h dsl l sd t0 o m (zhl (os.take i) (as.take i) e))
 |o::os,some a::as,none::ms,e,⟨d,h1,h2,h3⟩,0,o',ho=>by
  simp only [List.getElem?_cons_zero,Option.some.injEq] at ho
  subst ho
  exact .inl ⟨a,rfl,rfl,h2⟩
 |o::os,none::as,some m::ms,e,⟨h1,h2⟩,0,o',ho=>by
  simp only [List.getElem?_cons_zero,Option.some.injEq] at ho
  subst ho
  exact .inr ⟨m,rfl,rfl,h1⟩
 |o::os,some a::as,none::ms,e,⟨d,h1,h2,h3⟩,i+1,o',ho=>by
  have:=zcg.at h3 i o' (by simpa using ho)
  simpa [zhl,h1] using this
 |o::os,none::as,some m::ms,e,⟨h1,h2⟩,i+1,o',ho=>by
  have:=zcg.at h2 i o' (by simpa using ho)
  simpa [zhl] using this
 | [],_,_,_,_,_,_,ho=>by simp at ho
 |_::_,[],_,_,hh,_,_,_=>by simp [zcg] at hh
 |_::_,some _::_,[],_,hh,_,_,_=>by simp [zcg] at hh
 |_::_,none::_,[],_,hh,_,_,_=>by simp [zcg] at hh
 |_::_,some _::_,some _::_,_,hh,_,_,_=>by simp [zcg] at hh
 |_::_,none::_,none::_,_,hh,_,_,_=>by simp [zcg] at hh
theorem zkd:∀{os:List Oper} {as:List (Option AV)} {e:Fr} {d:Nat} {av:AV},lk (zhl os as e) d=some av→(∃(i:Nat) (o:Oper),os[i]? =some o∧as[i]? =some (some av)∧o.dst=some d)∨lk e d=some av
 | [],as,e,d,av,hh=>by cases as <;> exact .inr hh
 |o::os,[],e,d,av,hh=> .inr hh
 |o::os,none::as,e,d,av,hh=>by
  rcases zkd (os:=os) (as:=as) hh with ⟨i,o',h1,h2,h3⟩|h1
  ·exact .inl ⟨i+1,o',by simpa using h1,by simpa using h2,h3⟩
  ·exact .inr h1
 |o::os,some a::as,e,d,av,hh=>by
  rcases zkd (os:=os) (as:=as) hh with ⟨i,o',h1,h2,h3⟩|h1
  ·exact .inl ⟨i+1,o',by simpa using h1,by simpa using h2,h3⟩
  ·split at h1
   ·rename_i d' hd'
    simp only [lk] at h1
    split at h1
    ·rename_i hb
     have:=Nat.eq_of_beq_eq_true hb
     subst this
     cases h1
     exact .inl ⟨0,o,rfl,rfl,hd'⟩
    ·exact .inr h1
   ·exact .inr h1
theorem zn5:∀{os:List Oper} {as:List (Option AV)} {e:Fr} {i:Nat} {o:Oper} {a:AV} {d:Nat},os[i]? =some o→as[i]? =some (some a)→o.dst=some d→lk (zhl os as e) d≠none:=by
 have mono:∀(os:List Oper) (as:List (Option AV)) (e:Fr) (d:Nat),lk e d≠none→lk (zhl os as e) d≠none:=by
  intro os
  induction os with
  |nil=>intro as e d h;cases as <;> exact h
  |cons o os ih=>
   intro as e d h
   cases as with
   |nil=>exact h
   |cons a as=>
    cases a with
    |none=>exact ih as _ d h
    |some a=>
     refine ih as _ d ?_
     split
     ·simp only [lk];split
      ·simp
      ·exact h
     ·exact h
 intro os
 induction os with
 |nil=>intro as e i o a d ho;simp at ho
 |cons o' os ih=>
  intro as e i o a d ho ha hd
  cases as with
  |nil=>simp at ha
  |cons x as=>
   cases i with
   |zero=>
    simp only [List.getElem?_cons_zero,Option.some.injEq] at ho ha
    subst ho ha
    refine mono os as _ d ?_
    simp [hd,lk]
   |succ i=>
    have:=ih (as:=as) (e:=match x with
     |some a=>(match o'.dst with
      |some d=>(d,a)::e
      |none=>e)
     |none=>e) (by simpa using ho) (by simpa using ha) hd
    cases x <;> exact this
theorem HRel.addres {X:Nat→Prop} {w:World} {h rs:List Res} (hh:HRel (Sub X (u9 rs)) w h) (hn:(u9 rs).Nodup) (hX:∀b∈u9 rs,¬X b) (hr:∀r∈rs,r.holds w (OO h (Sub X (u9 rs)))):HRel X w (rs++h):=by
 have hOO:OO (rs++h) X=OO h (Sub X (u9 rs)):=by
  funext b;simp only [OO,Sub,w6,List.mem_append,eq_iff_iff]
  exact ⟨fun q=>by rcases q with (q|q)|q <;> simp [q],fun q=>by rcases q with q|q|q <;> simp [q]⟩
 refine ⟨?_,fun b hb=> ?_,fun b hb=>hh.xlt b (.inl hb),fun r hr'=> ?_⟩
 ·rw [w6,List.nodup_append]
  exact ⟨hn,hh.nodup,fun x hx y hy e=>(hh.lt y hy).2 (.inr (e ▸ hx))⟩
 ·rw [w6,List.mem_append] at hb
  rcases hb with hb|hb
  ·exact ⟨hh.xlt b (.inr hb),hX b hb⟩
  ·exact ⟨(hh.lt b hb).1,fun q=>(hh.lt b hb).2 (.inl q)⟩
 ·rw [hOO]
  rcases List.mem_append.1 hr' with q|q
  ·exact hr r q
  ·exact hh.holds r q
abbrev XB (X:Nat→Prop) (B:Nat→List Nat):Nat→Prop:=fun b=>X b∨∃i:Nat,b∈B i
structure zox (P:Program) (X:Nat→Prop) (nt:Nat) (h:List Res) (CO:List Nat) (l:List Oper) (n:Nat) (t:Fr) (dsl:List Nat) (as:List (Option AV)) (ms:List (Option CM)) (w0:World) (B:Nat→List Nat) (listed:Array Bool) (a:Act) (w:World):Prop where
 size:listed.size=l.length
 closed:∀i,listed.getD i false=true→∀j∈u4 l i,listed.getD j false=true
 tail:∀i,n≤i→listed.getD i false=false
 tsz:a.tmps.size=nt
 defs:a.defers=dsl.map zh6
 heap:HRel (XB X B) w h
 inj:∀(i j:Nat) b,b∈B i→b∈B j→i=j
 blk:∀(i:Nat) b,b∈B i→i < n∧¬X b∧(w0.heap.size≤b∨b∈CO)
 pend:∀i m,i < n→ms[i]? =some (some m)→listed.getD i false=false→u9 m.1=B i∧(B i).Nodup∧∀r∈m.1,r.holds w (OO h (XB X B))
 mks:∀i o d m,i < n→l[i]? =some o→o.dst=some d→ms[i]? =some (some m)→listed.getD i false=true→∃x v,a.tmps[d]? =some v∧u9 (m.2 x).2=B i∧(B i).Nodup∧Rel w (OO h (XB X B)) (m.2 x).1 v∧∀r∈(m.2 x).2,r.holds w (OO h (XB X B))
 nomk:∀i,ms[i]? =some none→B i= []
 vals:∀i o d av,i < n→l[i]? =some o→o.dst=some d→as[i]? =some (some av)→listed.getD i false=true→∃v,a.tmps[d]? =some v∧Rel w (OO h (XB X B)) av v
 base:∀d av,(∀j,j < n→k8 l j≠some d)→lk t d=some av→∃v,a.tmps[d]? =some v∧Rel w (OO h (XB X B)) av v
 keep:Keep (u9 h++CO) w0 (u9 h++CO) w
section
variable {P:Program} {X:Nat→Prop} {nt n:Nat} {h:List Res} {CO:List Nat} {l:List Oper} {t:Fr} {dsl:List Nat} {as:List (Option AV)} {ms:List (Option CM)} {w0:World} {B:Nat→List Nat} {listed:Array Bool} {a:Act} {w:World}
theorem zox.look (hc:SoupC l n) (hi:zox P X nt h CO l n t dsl as ms w0 B listed a w) {i:Nat} {o:Oper} (ho:l[i]? =some o) (hin:i < n) (hp:∀j∈u4 l i,listed.getD j false=true) {d:Nat} {av:AV}
 (hl:lkS (zdb l n) (zby l o) (zhl ((l.take n).take i) (as.take i) []) t d=some av):∃v,a.tmps[d]? =some v∧Rel w (OO h (XB X B)) av v:=by
 unfold lkS at hl
 split at hl
 ·rename_i hpd
  obtain ⟨x,hx,e⟩:=List.any_eq_true.1 hpd
  have:=Nat.eq_of_beq_eq_true e
  subst this
  simp only [zby,List.mem_filterMap] at hx
  obtain ⟨j',hj',hd'⟩:=hx
  have hj'p:j'∈u4 l i:=by simp only [u4,ho];exact hj'
  rcases zkd hl with ⟨j,oj,h1,h2,h4⟩|h1
  ·have hji:j < i:=by
    have:=(List.getElem?_eq_some_iff.1 h2).1
    simp at this;omega
   have hoj:l[j]? =some oj:=by
    rw [List.take_take,Nat.min_eq_left (by omega)] at h1
    rw [List.getElem?_take_of_lt hji] at h1;exact h1
   have hjj:j=j':=by
    obtain ⟨_,g3,_⟩:=hc.one (show j < n by omega) hoj h4
    rcases Nat.decEq j j' with hne|heq
    ·exact absurd rfl (g3 j' (by have:=hc.back i (by have:=hc.le;omega) j' hj'p;omega) (fun h=>hne h.symm) d hd')
    ·exact heq
   subst hjj
   exact hi.vals j oj d av (by omega) hoj h4 (by rw [List.getElem?_take_of_lt hji] at h2;exact h2) (hp j hj'p)
  ·simp [lk] at h1
 ·split at hl
  ·cases hl
  ·rename_i hsd
   refine hi.base d av (fun j hj hd=> ?_) hl
   have:d∈zdb l n:=by
    simp only [zdb,List.mem_filterMap]
    simp only [k8] at hd
    cases hlj:l[j]? with
    |none=>simp [hlj] at hd
    |some oj=>
     simp only [hlj,Option.bind_some] at hd
     exact ⟨oj,List.mem_of_getElem? (i:=j) (by rw [List.getElem?_take_of_lt hj];exact hlj),hd⟩
   have:(zdb l n).any (Nat.beq d)=true:=List.any_eq_true.2 ⟨d,this,by simp⟩
   simp_all
theorem zox.env (hc:SoupC l n) (hi:zox P X nt h CO l n t dsl as ms w0 B listed a w) {i:Nat} {o:Oper} (ho:l[i]? =some o) (hin:i < n) (hp:∀j∈u4 l i,listed.getD j false=true):
 Env (XB X B) h (evS (zdb l n) (zby l o) (zhl ((l.take n).take i) (as.take i) []) t) a.eval w:=by
 refine ⟨hi.heap,fun x av hx=> ?_⟩
 cases x with
 |tmp d=>
  obtain ⟨v,e,r⟩:=hi.look hc ho hin hp hx
  have:a.eval (.tmp d)=v:=by simp [Act.eval,Array.getD_eq_getD_getElem?,e]
  rw [this];exact r
 |const x=>cases hx;exact .v x
 |global g=>cases hx;exact .v _
 |func f=>cases hx;exact .fn _ _ _ _ _ rfl rfl (fun j h=>absurd h (Nat.not_lt_zero j)) (fun j h=>absurd h (Nat.not_lt_zero j))
theorem zox.guard (hc:SoupC l n) (hi:zox P X nt h CO l n t dsl as ms w0 B listed a w) {i:Nat} {o:Oper} (ho:l[i]? =some o) (hin:i < n) (hp:∀j∈u4 l i,listed.getD j false=true) {b:Bool}
 (hg:gdS l (lkS (zdb l n) (zby l o) (zhl ((l.take n).take i) (as.take i) []) t) o=some b):Region.wanted o (yielded l.toArray a.tmps)=b:=by
 unfold gdS at hg
 unfold Region.wanted
 split at hg
 ·rename_i h0;rw [h0];simpa using hg
 ·rename_i j want h0
  rw [h0]
  simp only
  split at hg
  ·rename_i d hd
   have hd':((l.toArray)[j]?).bind (·.dst)=some d:=by simpa [k8] using hd
   split at hg
   ·rename_i c hcc
    obtain ⟨v,e,r⟩:=hi.look hc ho hin hp hcc
    rw [r.v_eq] at e
    simp only [Option.some.injEq] at hg
    subst hg
    simp only [yielded,hd',Option.bind_some,e]
    cases c <;> cases want <;> rfl
   ·rename_i c hcc
    obtain ⟨v,e,r⟩:=hi.look hc ho hin hp hcc
    rw [r.v_eq] at e
    simp only [Option.some.injEq] at hg
    subst hg
    simp only [yielded,hd',Option.bind_some,e]
    cases want <;> rfl
   ·cases hg
  ·cases hg
theorem zzs (hc:SoupC l n) (hi:zox P X nt h CO l n t dsl as ms w0 B listed a w) {i:Nat} (hp:∀j∈u4 l i,listed.getD j false=true):
 ∀k,(listed.setIfInBounds i true).getD k false=true→∀j∈u4 l k,(listed.setIfInBounds i true).getD j false=true:=fun k hk j hj=>by
 by_cases hik:i=k
 ·subst hik;exact getD_set_true (hp j hj)
 ·rw [getD_set_ne false hik] at hk;exact getD_set_true (hi.closed k hk j hj)
theorem zox.stepQ (hc:SoupC l n) (hi:zox P X nt h CO l n t dsl as ms w0 B listed a w) {i:Nat} {o:Oper} {d:Nat} {av:AV} {v:Value} {w':World} (ho:l[i]? =some o) (hin:i < n) (hp:∀j∈u4 l i,listed.getD j false=true)
 (hd:o.dst=some d) (hdn:d < nt) (hav:as[i]? =some (some av)) (hms:ms[i]? =some none) (hr:Rel w' (OO h (XB X B)) av v) (hh:HRel (XB X B) w' h) (hk:Keep (u9 h) w (u9 h) w'):
 zox P X nt h CO l n t dsl as ms w0 B (listed.setIfInBounds i true) (a.put (some d) v) w':=by
 have hne:∀j oj dj,j < n→j≠i→l[j]? =some oj→oj.dst=some dj→d≠dj:=fun j oj dj hj hji hoj hdj=>by
  obtain ⟨_,g3,_⟩:=hc.one hin ho hd
  exact g3 j hj hji dj (by simp [k8,hoj,hdj])
 have hput:∀d',d≠d'→(a.put (some d) v).tmps[d']? =a.tmps[d']? :=fun d' hdd=>by simp [Act.put,hdd]
 have hkk:=fun b (hb:¬OO h (XB X B) b) hl=>hk.oo (X:=XB X B) b hb hl
 have hkB:∀k b,b∈B k→w'.heap[b]? =w.heap[b]? :=fun k b hb=>(hk.same b (hi.heap.xlt b (.inr ⟨k,hb⟩)) (fun hm=>(hi.heap.lt b hm).2 (.inr ⟨k,hb⟩))).1
 refine ⟨by simp [hi.size],zzs hc hi hp,fun k hk=> ?_,by simp [Act.put,hi.tsz],hi.defs,hh,hi.inj,hi.blk,fun k m hkn hmk hlk=> ?_,fun k ok dk m hkn hok hdk hmk hlk=> ?_,hi.nomk,fun k ok dk avk hkn hok hdk havk hlk=> ?_,fun d' av' hd' hlk=> ?_,hi.keep.trans hk.more⟩
 ·rw [getD_set_ne false (by omega)];exact hi.tail k hk
 ·have hki:i≠k:=fun e=>by subst e;rw [hms] at hmk;cases hmk
  rw [getD_set_ne false hki] at hlk
  obtain ⟨g1,g2,g3⟩:=hi.pend k m hkn hmk hlk
  exact ⟨g1,g2,fun r hr=>Res.holds_keep hk.size hkk (fun b hb=>hkB k b (g1 ▸ j9.2 ⟨r,hr,hb⟩)) (g3 r hr)⟩
 ·have hki:k≠i:=fun e=>by subst e;rw [hms] at hmk;cases hmk
  rw [getD_set_ne false (fun e=>hki e.symm)] at hlk
  obtain ⟨x,v',g1,g2,g3,g5,g4⟩:=hi.mks k ok dk m hkn hok hdk hmk hlk
  exact ⟨x,v',by rw [hput dk (hne k ok dk hkn hki hok hdk)];exact g1,g2,g3,g5.keep hk.size hkk,fun r hr=>Res.holds_keep hk.size hkk (fun b hb=>hkB k b (g2 ▸ j9.2 ⟨r,hr,hb⟩)) (g4 r hr)⟩
 ·by_cases hki:i=k
  ·subst hki
   have:ok=o:=Option.some.inj (hok.symm.trans ho)
   subst this
   have:dk=d:=Option.some.inj (hdk.symm.trans hd)
   subst this
   have:avk=av:=Option.some.inj (Option.some.inj (havk.symm.trans hav))
   subst this
   exact ⟨v,by simp [Act.put,hi.tsz,hdn],hr⟩
  ·rw [getD_set_ne false hki] at hlk
   obtain ⟨u,e,r⟩:=hi.vals k ok dk avk hkn hok hdk havk hlk
   exact ⟨u,by rw [hput dk (hne k ok dk hkn (fun h=>hki h.symm) hok hdk)];exact e,r.keep hk.size hkk⟩
 ·have hdd:d≠d':=fun e=>hd' i hin (by simp [k8,ho,hd,e])
  obtain ⟨u,e,r⟩:=hi.base d' av' hd' hlk
  exact ⟨u,by rw [hput d' hdd];exact e,r.keep hk.size hkk⟩
abbrev XBo (X:Nat→Prop) (B:Nat→List Nat) (i:Nat):Nat→Prop:=fun b=>X b∨∃k:Nat,k≠i∧b∈B k
theorem zox.open (hi:zox P X nt h CO l n t dsl as ms w0 B listed a w) {i:Nat} {m:CM} (hin:i < n) (hms:ms[i]? =some (some m)) (hun:listed.getD i false=false):
 HRel (XBo X B i) w (m.1++h)∧OO (m.1++h) (XBo X B i)=OO h (XB X B):=by
 obtain ⟨g1,g2,g3⟩:=hi.pend i m hin hms hun
 have hX:XB X B=Sub (XBo X B i) (u9 m.1):=by
  funext b;simp only [XB,XBo,Sub,g1,eq_iff_iff]
  constructor
  ·rintro (q|⟨k,q⟩)
   ·exact .inl (.inl q)
   ·by_cases hk:k=i
    ·subst hk;exact .inr q
    ·exact .inl (.inr ⟨k,hk,q⟩)
  ·rintro ((q|⟨k,_,q⟩)|q)
   ·exact .inl q
   ·exact .inr ⟨k,q⟩
   ·exact .inr ⟨i,q⟩
 have hO:OO (m.1++h) (XBo X B i)=OO h (XB X B):=by
  rw [hX];funext b;simp only [OO,Sub,w6,List.mem_append,eq_iff_iff]
  exact ⟨fun q=>by rcases q with (q|q)|q <;> simp [q],fun q=>by rcases q with q|q|q <;> simp [q]⟩
 refine ⟨HRel.addres (by rw [←hX];exact hi.heap) (by rw [g1];exact g2) (fun b hb q=> ?_) (fun r hr=>by rw [←hX];exact g3 r hr),hO⟩
 rw [g1] at hb
 rcases q with q|⟨k,hk,q⟩
 ·exact (hi.blk i b hb).2.1 q
 ·exact hk (hi.inj k i b q hb)
theorem zox.stepM (hc:SoupC l n) (hi:zox P X nt h CO l n t dsl as ms w0 B listed a w) {i:Nat} {o:Oper} {d:Nat} {m:CM} {x:MX} {v:Value} {w':World} (ho:l[i]? =some o) (hin:i < n) (hp:∀j∈u4 l i,listed.getD j false=true)
 (hd:o.dst=some d) (hdn:d < nt) (has:as[i]? =some none) (hms:ms[i]? =some (some m)) (hun:listed.getD i false=false) (hr:Rel w' (OO ((m.2 x).2++h) (XBo X B i)) (m.2 x).1 v) (hh:HRel (XBo X B i) w' ((m.2 x).2++h)) (hk:Keep (u9 (m.1++h)) w (u9 ((m.2 x).2++h)) w'):
 zox P X nt h CO l n t dsl as ms w0 (fun k=>if k=i then u9 (m.2 x).2 else B k) (listed.setIfInBounds i true) (a.put (some d) v) w':=by
 obtain ⟨p1,p2,p3⟩:=hi.pend i m hin hms hun
 obtain ⟨C,hC⟩:∃C:Nat→List Nat,C=fun k=>if k=i then u9 (m.2 x).2 else B k:=⟨_,rfl⟩
 rw [←hC]
 have hCi:C i=u9 (m.2 x).2:=by simp [hC]
 have hCk:∀k,k≠i→C k=B k:=fun k hki=>by simp [hC,hki]
 have hXC:∀b,XB X C b ↔ (XBo X B i b∨b∈u9 (m.2 x).2):=fun b=>by
  constructor
  ·rintro (hx|⟨k,hk⟩)
   ·exact .inl (.inl hx)
   ·by_cases hki:k=i
    ·subst hki;rw [hCi] at hk;exact .inr hk
    ·rw [hCk k hki] at hk;exact .inl (.inr ⟨k,hki,hk⟩)
  ·rintro ((hx|⟨k,hki,hk⟩)|hb)
   ·exact .inl hx
   ·exact .inr ⟨k,by rw [hCk k hki];exact hk⟩
   ·exact .inr ⟨i,by rw [hCi];exact hb⟩
 have hXC':XB X C=Sub (XBo X B i) (u9 (m.2 x).2):=by funext b;exact propext (hXC b)
 have hOO:OO ((m.2 x).2++h) (XBo X B i)=OO h (XB X C):=by
  funext b;simp only [OO,w6,List.mem_append,eq_iff_iff,hXC]
  exact ⟨fun q=>by rcases q with (q|q)|q <;> simp [q],fun q=>by rcases q with q|q|q <;> simp [q]⟩
 have hnd:=hh.nodup
 rw [w6,List.nodup_append] at hnd
 have hheap:HRel (XB X C) w' h:=by
  rw [hXC']
  exact (hh.perm List.perm_append_comm).part
 have hfresh:∀b∈u9 (m.2 x).2,w.heap.size≤b∨b∈B i:=fun b hb=>by
  refine Classical.byContradiction fun hlt=> ?_
  rw [not_or] at hlt
  have hlt1:b < w.heap.size:=by omega
  have hbh:b ∉ u9 h:=fun hm=>hnd.2.2 b hb b hm rfl
  exact (hk.same b hlt1 (by rw [w6,List.mem_append,p1];exact fun q=>q.elim hlt.2 hbh)).2 (by rw [w6];exact List.mem_append_left _ hb)
 have hBh:∀k b,b∈B k→b ∉ u9 h:=fun k b hb hm=>(hi.heap.lt b hm).2 (.inr ⟨k,hb⟩)
 have hsame:∀b,b < w.heap.size→b ∉ u9 h→b ∉ B i→w'.heap[b]? =w.heap[b]? :=fun b h1 h2 h3=>(hk.same b h1 (by rw [w6,List.mem_append,p1];exact fun q=>q.elim h3 h2)).1
 have hkk:∀b,¬OO h (XB X B) b→b < w.heap.size→w'.heap[b]? =w.heap[b]? ∧¬OO h (XB X C) b:=fun b hb hl=>
  ⟨hsame b hl (fun q=>hb (.inl q)) (fun q=>hb (.inr (.inr ⟨i,q⟩))),fun hm=>by
   rcases hm with hm|hm
   ·exact hb (.inl hm)
   ·rcases (hXC b).1 hm with (hm|⟨k,_,hm⟩)|hm
    ·exact hb (.inr (.inl hm))
    ·exact hb (.inr (.inr ⟨k,hm⟩))
    ·rcases hfresh b hm with q|q
     ·omega
     ·exact hb (.inr (.inr ⟨i,q⟩))⟩
 have hlB:∀k b,b∈B k→b < w.heap.size:=fun k b hb=>hi.heap.xlt b (.inr ⟨k,hb⟩)
 have hkB:∀k b,k≠i→b∈B k→w'.heap[b]? =w.heap[b]? :=fun k b hki hb=>hsame b (hlB k b hb) (hBh k b hb) (fun q=>hki (hi.inj k i b hb q))
 have hne:∀j oj dj,j < n→j≠i→l[j]? =some oj→oj.dst=some dj→d≠dj:=fun j oj dj hj hji hoj hdj=>by
  obtain ⟨_,g3,_⟩:=hc.one hin ho hd
  exact g3 j hj hji dj (by simp [k8,hoj,hdj])
 have hput:∀d',d≠d'→(a.put (some d) v).tmps[d']? =a.tmps[d']? :=fun d' hdd=>by simp [Act.put,hdd]
 have hgs:(listed.setIfInBounds i true).getD i false=true:=za4 (by rw [hi.size];exact (List.getElem?_eq_some_iff.1 ho).1)
 have hkeep:Keep (u9 h++CO) w0 (u9 h++CO) w':=⟨Nat.le_trans hi.keep.size hk.size,fun b hb ho=>⟨(hsame b (Nat.lt_of_lt_of_le hb hi.keep.size) (fun q=>ho (List.mem_append_left _ q)) (fun q=>by
  rcases (hi.blk i b q).2.2 with g|g
  ·omega
  ·exact ho (List.mem_append_right _ g))).trans (hi.keep.same b hb ho).1,ho⟩,hi.keep.env.trans hk.env⟩
 refine ⟨by simp [hi.size],zzs hc hi hp,fun k hk=> ?_,by simp [Act.put,hi.tsz],hi.defs,hheap,fun j k b hj hk=> ?_,fun k b hb=> ?_,fun k mk hkn hmk hlk=> ?_,fun k ok dk mk hkn hok hdk hmk hlk=> ?_,fun k hk=> ?_,fun k ok dk avk hkn hok hdk havk hlk=> ?_,fun d' av' hd' hlk=> ?_,hkeep⟩
 ·rw [getD_set_ne false (by omega)];exact hi.tail k hk
 ·by_cases hji:j=i <;> by_cases hki:k=i
  ·omega
  ·subst hji;rw [hCi] at hj;rw [hCk k hki] at hk
   rcases hfresh b hj with q|q
   ·have:=hlB k b hk;omega
   ·exact hi.inj j k b q hk
  ·subst hki;rw [hCi] at hk;rw [hCk j hji] at hj
   rcases hfresh b hk with q|q
   ·have:=hlB j b hj;omega
   ·exact hi.inj j k b hj q
  ·rw [hCk j hji] at hj;rw [hCk k hki] at hk;exact hi.inj j k b hj hk
 ·by_cases hki:k=i
  ·subst hki
   rw [hCi] at hb
   refine ⟨hin,fun hx=>(hh.lt b (by rw [w6];exact List.mem_append_left _ hb)).2 (.inl hx),?_⟩
   rcases hfresh b hb with q|q
   ·have:=hi.keep.size;exact .inl (by omega)
   ·exact (hi.blk k b q).2.2
  ·rw [hCk k hki] at hb
   exact hi.blk k b hb
 ·by_cases hki:k=i
  ·subst hki;rw [hgs] at hlk;cases hlk
  ·rw [getD_set_ne false (fun e=>hki e.symm)] at hlk
   obtain ⟨g1,g2,g3⟩:=hi.pend k mk hkn hmk hlk
   exact ⟨by rw [hCk k hki];exact g1,by rw [hCk k hki];exact g2,fun r hr'=>Res.holds_keep hk.size hkk (fun b hb=>hkB k b hki (g1 ▸ j9.2 ⟨r,hr',hb⟩)) (g3 r hr')⟩
 ·by_cases hki:k=i
  ·subst hki
   have:ok=o:=Option.some.inj (hok.symm.trans ho)
   subst this
   have:dk=d:=Option.some.inj (hdk.symm.trans hd)
   subst this
   have:mk=m:=Option.some.inj (Option.some.inj (hmk.symm.trans hms))
   subst this
   exact ⟨x,v,by simp [Act.put,hi.tsz,hdn],hCi.symm,by rw [hCi];exact hnd.1,by rw [←hOO];exact hr,fun r hr'=>by rw [←hOO];exact hh.holds r (List.mem_append_left _ hr')⟩
  ·rw [getD_set_ne false (fun e=>hki e.symm)] at hlk
   obtain ⟨x',v',g1,g2,g3,g5,g4⟩:=hi.mks k ok dk mk hkn hok hdk hmk hlk
   exact ⟨x',v',by rw [hput dk (hne k ok dk hkn hki hok hdk)];exact g1,by rw [hCk k hki];exact g2,by rw [hCk k hki];exact g3,g5.keep hk.size hkk,fun r hr'=>Res.holds_keep hk.size hkk (fun b hb=>hkB k b hki (g2 ▸ j9.2 ⟨r,hr',hb⟩)) (g4 r hr')⟩
 ·have hki:k≠i:=fun e=>by subst e;rw [hms] at hk;cases hk
  rw [hCk k hki];exact hi.nomk k hk
 ·have hki:i≠k:=fun e=>by subst e;rw [has] at havk;cases havk
  rw [getD_set_ne false hki] at hlk
  obtain ⟨u,e,r⟩:=hi.vals k ok dk avk hkn hok hdk havk hlk
  exact ⟨u,by rw [hput dk (hne k ok dk hkn (fun h=>hki h.symm) hok hdk)];exact e,r.keep hk.size hkk⟩
 ·have hdd:d≠d':=fun e=>hd' i hin (by simp [k8,ho,hd,e])
  obtain ⟨u,e,r⟩:=hi.base d' av' hd' hlk
  exact ⟨u,by rw [hput d' hdd];exact e,r.keep hk.size hkk⟩
end
theorem zl9 {X:Nat→Prop} {K:Fr→List Res→Prop} {tmps:Array Value} {w:World} {B:Nat→List Nat} {Oq:Nat→Prop}:∀(os:List Oper) (ms:List (Option CM)) (k:Nat) (e:Fr) (hc:List Res),
 HRel (fun b=>X b∨∃i:Nat,k≤i∧b∈B i) w hc→OO hc (fun b=>X b∨∃i:Nat,k≤i∧b∈B i)=Oq→
 (∀(i j:Nat) b,b∈B i→b∈B j→i=j)→
 (∀(i:Nat) o m,os[i]? =some o→ms[i]? =some (some m)→∃x v d,o.dst=some d∧tmps[d]? =some v∧u9 (m.2 x).2=B (k+i)∧(B (k+i)).Nodup∧Rel w Oq (m.2 x).1 v∧(∀r∈(m.2 x).2,r.holds w Oq)∧∀b∈B (k+i),¬X b)→
 (∀(i:Nat),ms[i]? =some none→B (k+i)= [])→(∀i,k+os.length≤i→B i= [])→ms.length=os.length→
 (∀d av,lk e d=some av→∃v,tmps[d]? =some v∧Rel w Oq av v)→zas os ms e hc K→
 ∃e' h',K e' h'∧HRel X w h'∧OO h' X=Oq∧(∀d av,lk e' d=some av→∃v,tmps[d]? =some v∧Rel w Oq av v)∧(∀d,lk e d≠none→lk e' d≠none)∧(∀(i:Nat) o m d,os[i]? =some o→ms[i]? =some (some m)→o.dst=some d→lk e' d≠none)∧
  (∀b,b∈u9 h'→b∈u9 hc∨∃i,b∈B i)
 | [],ms,k,e,hc,hh,hO,hinj,hmk,hno,hend,hml,he,hd=>by
   have hXX:(fun b=>X b∨∃i:Nat,k≤i∧b∈B i)=X:=by
    funext b;simp only [eq_iff_iff]
    exact ⟨fun hm=>hm.elim id fun ⟨i,hi,hb⟩=>(by rw [hend i (by simpa using hi)] at hb;cases hb),.inl⟩
   rw [hXX] at hh hO
   have hd':K e hc:=by cases ms <;> simpa [zas] using hd
   exact ⟨e,hc,hd',hh,hO,he,fun _ h=>h,fun i o m d h=>by simp at h,fun b hb=> .inl hb⟩
 |o::os,[],k,e,hc,hh,hO,hinj,hmk,hno,hend,hml,he,hd=>by simp at hml
 |o::os,none::ms,k,e,hc,hh,hO,hinj,hmk,hno,hend,hml,he,hd=>by
  have shift:∀(i:Nat),k+1+i=k+(i+1):=fun i=>by omega
  have hB0:=hno 0 rfl
  rw [Nat.add_zero] at hB0
  have hX1:(fun x=>X x∨∃i:Nat,k≤i∧x∈B i)=fun x=>X x∨∃i:Nat,k+1≤i∧x∈B i:=by
   funext x;simp only [eq_iff_iff]
   constructor
   ·rintro (hx|⟨i,hi,hb⟩)
    ·exact .inl hx
    ·by_cases hik:i=k
     ·subst hik;rw [hB0] at hb;cases hb
     ·exact .inr ⟨i,by omega,hb⟩
   ·rintro (hx|⟨i,hi,hb⟩)
    ·exact .inl hx
    ·exact .inr ⟨i,by omega,hb⟩
  rw [hX1] at hh hO
  obtain ⟨e',h',r1,r2,r3,r4,r5,r6,r7⟩:=zl9 os ms (k+1) e hc hh hO hinj (fun i o' m ho' hm'=>by rw [shift];exact hmk (i+1) o' m (by simpa using ho') (by simpa using hm')) (fun i hm'=>by rw [shift];exact hno (i+1) (by simpa using hm'))
   (fun i hi=>hend i (by simp;omega)) (by simpa using hml) he (by simpa [zas] using hd)
  refine ⟨e',h',r1,r2,r3,r4,r5,fun i o' m d2 ho' hm' hd'=> ?_,r7⟩
  cases i with
  |zero=>simp at hm'
  |succ i=>exact r6 i o' m d2 (by simpa using ho') (by simpa using hm') hd'
 |o::os,some m::ms,k,e,hc,hh,hO,hinj,hmk,hno,hend,hml,he,hd=>by
  have shift:∀(i:Nat),k+1+i=k+(i+1):=fun i=>by omega
  obtain ⟨x,v,d,h1,h2,h3,h4,h5,h6,h7⟩:=hmk 0 o m rfl rfl
  rw [Nat.add_zero] at h3 h4 h7
  have hX1:(fun y=>X y∨∃i:Nat,k≤i∧y∈B i)=Sub (fun y=>X y∨∃i:Nat,k+1≤i∧y∈B i) (u9 (m.2 x).2):=by
   funext y;simp only [Sub,eq_iff_iff,h3]
   constructor
   ·rintro (hx|⟨i,hi,hb⟩)
    ·exact .inl (.inl hx)
    ·by_cases hik:i=k
     ·subst hik;exact .inr hb
     ·exact .inl (.inr ⟨i,by omega,hb⟩)
   ·rintro ((hx|⟨i,hi,hb⟩)|hb)
    ·exact .inl hx
    ·exact .inr ⟨i,by omega,hb⟩
    ·exact .inr ⟨k,Nat.le_refl _,hb⟩
  rw [hX1] at hh hO
  have hh2:=HRel.addres hh (by rw [h3];exact h4) (fun b hb=>fun q=>by
   rw [h3] at hb
   rcases q with q|⟨i,hi,hb'⟩
   ·exact h7 b hb q
   ·have:=hinj i k b hb' hb;omega) (fun r hr=>by rw [hO];exact h6 r hr)
  have hO2:OO ((m.2 x).2++hc) (fun y=>X y∨∃i:Nat,k+1≤i∧y∈B i)=Oq:=by
   rw [←hO]
   funext b;simp only [OO,Sub,w6,List.mem_append,eq_iff_iff]
   exact ⟨fun q=>by rcases q with (q|q)|q <;> simp [q],fun q=>by rcases q with q|q|q <;> simp [q]⟩
  have hd2:zas os ms ((d,(m.2 x).1)::e) ((m.2 x).2++hc) K:=by
   simp only [zas] at hd;exact hd d x h1
  obtain ⟨e',h',r1,r2,r3,r4,r5,r6,r7⟩:=zl9 os ms (k+1) _ _ hh2 hO2 hinj (fun i o' m ho' hm'=>by rw [shift];exact hmk (i+1) o' m (by simpa using ho') (by simpa using hm')) (fun i hm'=>by rw [shift];exact hno (i+1) (by simpa using hm'))
   (fun i hi=>hend i (by simp;omega)) (by simpa using hml) (fun d2 av h=>by
    simp only [lk] at h
    split at h
    ·rename_i hb
     have:=Nat.eq_of_beq_eq_true hb
     subst this
     cases h
     exact ⟨v,h2,h5⟩
    ·exact he d2 av h) hd2
  refine ⟨e',h',r1,r2,r3,r4,fun d2 h=>r5 d2 ?_,fun i o' m' d2 ho' hm' hd'=> ?_,fun y hy=> ?_⟩
  ·simp only [lk];split
   ·simp
   ·exact h
  ·cases i with
   |zero=>
    simp only [List.getElem?_cons_zero,Option.some.injEq] at ho'
    subst ho'
    have:d2=d:=Option.some.inj (hd'.symm.trans h1)
    subst this
    exact r5 d2 (by simp [lk])
   |succ i=>exact r6 i o' m' d2 (by simpa using ho') (by simpa using hm') hd'
  ·rcases r7 y hy with hy|hy
   ·rw [w6,List.mem_append] at hy
    rcases hy with hy|hy
    ·exact .inr ⟨k,h3 ▸ hy⟩
    ·exact .inl hy
   ·exact .inr hy
def zdx (ms:List (Option CM)):List Res:=ms.flatMap fun m=>match m with
 |some m=>m.1
 |none=> []
def ygy (m:Option CM):List Nat:=match m with
 |some m=>u9 m.1
 |none=> []
def zcr (ms:List (Option CM)) (i:Nat):List Nat:=match ms[i]? with
 |some (some m)=>u9 m.1
 |_=> []
theorem zeb:∀{ms:List (Option CM)} {b:Nat},(∃i,b∈zcr ms i) ↔ b∈u9 (zdx ms)
 | [],b=>by simp [zcr,zdx,u9]
 |m::ms,b=>by
  have ih:=zeb (ms:=ms) (b:=b)
  have e:u9 (zdx (m::ms))=ygy m++u9 (zdx ms):=by
   cases m <;> simp [zdx,w6,u9,ygy]
  rw [e,List.mem_append,←ih]
  constructor
  ·rintro ⟨i,h⟩
   cases i with
   |zero=>left;cases m <;> simp [zcr,ygy] at h ⊢;exact h
   |succ i=>exact .inr ⟨i,by simpa [zcr] using h⟩
  ·rintro (h|⟨i,h⟩)
   ·exact ⟨0,by cases m <;> simp [zcr,ygy] at h ⊢;exact h⟩
   ·exact ⟨i+1,by simpa [zcr] using h⟩
theorem znf:∀{ms:List (Option CM)},(u9 (zdx ms)).Nodup→(∀(i j:Nat) b,b∈zcr ms i→b∈zcr ms j→i=j)∧∀i,(zcr ms i).Nodup
 | [],_=>⟨fun i j b h=>by simp [zcr] at h,fun i=>by simp [zcr]⟩
 |m::ms,hn=>by
  have e:u9 (zdx (m::ms))=ygy m++u9 (zdx ms):=by
   cases m <;> simp [zdx,w6,u9,ygy]
  have e0:zcr (m::ms) 0=ygy m:=by cases m <;> rfl
  have e1:∀i,zcr (m::ms) (i+1)=zcr ms i:=fun i=>by simp [zcr]
  rw [e,List.nodup_append] at hn
  obtain ⟨h1,h2⟩:=znf hn.2.1
  refine ⟨fun i j b hi hj=> ?_,fun i=> ?_⟩
  ·cases i with
   |zero=>
    cases j with
    |zero=>rfl
    |succ j=>
     rw [e0] at hi;rw [e1] at hj
     exact absurd rfl (hn.2.2 b hi b (zeb.1 ⟨j,hj⟩))
   |succ i=>
    cases j with
    |zero=>
     rw [e0] at hj;rw [e1] at hi
     exact absurd rfl (hn.2.2 b hj b (zeb.1 ⟨i,hi⟩))
    |succ j=>rw [e1] at hi hj;rw [h1 i j b hi hj]
  ·cases i with
   |zero=>rw [e0];exact hn.1
   |succ i=>rw [e1];exact h2 i
theorem ydu {P:Program} {ro:Option Nat} {nt rid:Nat} {Q:Exit→St→Prop} {l:List Oper} {t:Fr} {hh:List Res} {dsl:List Nat} (n:Nat) (h:List Res) [hm:Mixed P] (hc:zms l n=true)
 (hk:zb6 P ro nt h dsl l (zdb l n) t (l.take n) [] (fun e ms=>hh.Perm (zdx ms++h)∧zas (l.take n) ms e h (fun e' h'=>zb7 P ro nt l.toArray (l.drop n) Q ⟨e'++t,h',dsl⟩))):aw P ro nt (.region rid l.toArray true) Q ⟨t,hh,dsl⟩:=by
 intro X a0 w0 hs
 have hC:=zta hc
 obtain ⟨as,ms,hfacts,hp,hK⟩:=zlk hk
 have hperm:=hs.heap.perm hp
 have hown0:∀b,b∈u9 hh ↔ b∈u9 h∨b∈u9 (zdx ms):=fun b=>by rw [(zb4 hp).mem_iff,w6,List.mem_append];exact Or.comm
 have hasl:as.length=n:=by have:=hfacts.length.1;rw [this];have:=hC.le;simp;omega
 have hmsl:ms.length=n:=by have:=hfacts.length.2;rw [this];have:=hC.le;simp;omega
 refine wpIn_region_any hm.h ?_
 have main:∀(fuel:Nat) (U:List Nat) (B:Nat→List Nat) (listed:Array Bool) (a:Act) (w:World),zox P X nt h (u9 (zdx ms)) l n t dsl as ms w0 B listed a w→(∀i,i < l.length→listed.getD i false=false→i∈U)→U.length≤fuel→
  wpAnyIn (FW ro) 0 P .any l.toArray (zow X nt ⟨t,hh,dsl⟩ w0 Q) fuel listed a w:=by
  have done:∀(fuel:Nat) (U:List Nat) (B:Nat→List Nat) (listed:Array Bool) (a:Act) (w:World),zox P X nt h (u9 (zdx ms)) l n t dsl as ms w0 B listed a w→(∀i,i < l.length→listed.getD i false=false→i∈U)→U.length≤fuel→
   (∀i,i < n→listed.getD i false=true)→wpAnyIn (FW ro) 0 P .any l.toArray (zow X nt ⟨t,hh,dsl⟩ w0 Q) fuel listed a w:=by
   intro fuel U B listed a w hi hU hf hall
   refine znp hC.toSoupT fuel U n listed a w (Nat.le_refl _) hC.le hi.size (fun j hj=>⟨fun hl=> ?_,fun hl=>hall j hl⟩) (fun i h1 h2=>hU i h2 (hi.tail i h1)) hf ?_
   ·rcases Nat.lt_or_ge j n with h|h
    ·exact h
    ·rw [hi.tail j h] at hl;cases hl
   ·have hlt:∀(i:Nat) o,(l.take n)[i]? =some o→i < n∧l[i]? =some o:=fun i o ho=>by
     have:=(List.getElem?_eq_some_iff.1 ho).1
     have hin:i < n:=by simp at this;omega
     exact ⟨hin,by rw [List.getElem?_take_of_lt hin] at ho;exact ho⟩
    have hX0:(fun b=>X b∨∃i:Nat,0≤i∧b∈B i)=XB X B:=by funext b;simp [XB]
    obtain ⟨e',h',r1,r2,r3,r4,r5,r6,r7⟩:=zl9 (X:=X) (tmps:=a.tmps) (w:=w) (B:=B) (Oq:=OO h (XB X B)) (l.take n) ms 0 _ h (by rw [hX0];exact hi.heap) (by rw [hX0]) hi.inj
     (fun i o m ho hms=>by
      obtain ⟨hin,hlo⟩:=hlt i o ho
      rcases hfacts.at i o ho with ⟨a',_,g,_⟩|⟨m',_,g,d,hd,_⟩
      ·rw [g] at hms;cases hms
      ·obtain ⟨x,v,q1,q2,q3,q4,q5⟩:=hi.mks i o d m hin hlo hd hms (hall i hin)
       rw [Nat.zero_add]
       exact ⟨x,v,d,hd,q1,q2,q3,q4,q5,fun b hb=>(hi.blk i b hb).2.1⟩)
     (fun i hms=>by rw [Nat.zero_add];exact hi.nomk i hms)
     (fun i hin=>by
      cases hb:B i with
      |nil=>rfl
      |cons b r=>have:=(hi.blk i b (by simp [hb])).1;simp at hin;have:=hC.le;omega)
     (by rw [hmsl];have:=hC.le;simp;omega)
     (fun d av hl=>by
      rcases zkd hl with ⟨i,o,g1,g2,g4⟩|g1
      ·obtain ⟨hin,hlo⟩:=hlt i o g1
       exact hi.vals i o d av hin hlo g4 g2 (hall i hin)
      ·simp [lk] at g1) hK
    have hsim:Sim X nt ⟨e'++t,h',dsl⟩ a w:=by
     refine ⟨r2,hi.tsz,fun d av hl=> ?_,hi.defs⟩
     show ∃v,a.tmps[d]? =some v∧Rel w (OO h' X) av v
     rw [r3]
     have hl':lk (e'++t) d=some av:=hl
     rw [u5] at hl'
     cases he:lk e' d with
     |some av'=>simp only [he] at hl';cases hl';exact r4 d _ he
     |none=>
      simp only [he] at hl'
      refine hi.base d av (fun j hj hd=> ?_) hl'
      obtain ⟨o,g1⟩:∃o,l[j]? =some o:=⟨l[j]'(by have:=hC.le;omega),by simp [show j < l.length by have:=hC.le;omega]⟩
      have g2:o.dst=some d:=by simpa [k8,g1] using hd
      have ho:(l.take n)[j]? =some o:=by rw [List.getElem?_take_of_lt hj];exact g1
      rcases hfacts.at j o ho with ⟨a',q1,_⟩|⟨m',_,q1,_⟩
      ·exact r5 d (zn5 ho q1 g2) he
      ·exact r6 j o m' d ho q1 g2 he
    have:=r1 X a w hsim
    refine zay (s:=⟨t,hh,dsl⟩) (s':=⟨e'++t,h',dsl⟩) ⟨hi.keep.size,fun b hb hn=>⟨(hi.keep.same b hb (fun q=>hn ((hown0 b).2 (List.mem_append.1 q)))).1,fun hm=> ?_⟩,hi.keep.env⟩ this
    rcases r7 b hm with hm|⟨i,hB⟩
    ·exact hn ((hown0 b).2 (.inl hm))
    ·rcases (hi.blk i b hB).2.2 with q|q
     ·omega
     ·exact hn ((hown0 b).2 (.inr q))
  intro fuel
  induction fuel with
  |zero=>
   intro U B listed a w hi hU hf
   refine done 0 U B listed a w hi hU hf fun i hin=> ?_
   have hU0:U= []:=List.eq_nil_of_length_eq_zero (by omega)
   cases hl:listed.getD i false with
   |true=>rfl
   |false=>have:=hU i (by have:=hC.le;omega) hl;simp [hU0] at this
  |succ fuel ih=>
   intro U B listed a w hi hU hf
   by_cases hall:∀i,i < n→listed.getD i false=true
   ·exact done _ U B listed a w hi hU hf hall
   ·have hready:∀i,i∈Region.ready .any l.toArray listed→i < n∧listed.getD i false=false∧i < l.length∧∀j∈u4 l i,listed.getD j false=true:=by
     intro i hir
     obtain ⟨h1,h2,h3⟩:=zed.1 hir
     have hun:listed.getD i false=false:=by rw [zf9 (by rw [hi.size];exact h2) false true];exact h1
     refine ⟨?_,hun,h2,h3⟩
     rcases Nat.lt_or_ge i n with h|h
     ·exact h
     ·exfalso
      apply hall
      intro j hj
      exact zbo hi.closed i _ h3 j (hC.tail i h h2 j (by omega))
    have hsome:∀m,(∃i,i < n∧i < m∧listed.getD i false=false)→Region.ready .any l.toArray listed≠ []:=by
     intro m
     induction m with
     |zero=>rintro ⟨i,_,h,_⟩;omega
     |succ m ihm=>
      rintro ⟨i,hin,him,hun⟩
      by_cases hp:∀j∈u4 l i,listed.getD j false=true
      ·intro h0
       have hin':i < l.length:=by have:=hC.le;omega
       have:i∈Region.ready .any l.toArray listed:=zed.2 ⟨by rw [zf9 (by rw [hi.size];exact hin') true false];exact hun,hin',hp⟩
       rw [h0] at this;exact absurd this (by simp)
      ·have:∃j,j∈u4 l i∧listed.getD j false=false:=by
        refine Classical.byContradiction fun hne=>hp fun j hj=> ?_
        cases hl:listed.getD j false with
        |true=>rfl
        |false=>exact absurd ⟨j,hj,hl⟩ hne
       obtain ⟨j,hj,hjun⟩:=this
       have:=hC.back i (by have:=hC.le;omega) j hj
       exact ihm ⟨j,by omega,by omega,hjun⟩
    refine ⟨fun h0=> ?_,fun i hir=> ?_⟩
    ·exfalso
     have:∃i,i < n∧listed.getD i false=false:=by
      refine Classical.byContradiction fun hne=>hall fun i hin=> ?_
      cases hl:listed.getD i false with
      |true=>rfl
      |false=>exact absurd ⟨i,hin,hl⟩ hne
     obtain ⟨i,hin,hun⟩:=this
     exact hsome (i+1) ⟨i,hin,by omega,hun⟩ h0
    ·obtain ⟨hin,hun,hil,hp⟩:=hready i hir
     have ho:l[i]? =some l[i]:=by simp [hil]
     generalize l[i]=o at ho
     have hU':∀k,k < l.length→(listed.setIfInBounds i true).getD k false=false→k∈U.erase i:=fun k hkl hk=>by
      have hki:i≠k:=fun e=>by subst e;rw [za4 (by rw [hi.size];exact hil)] at hk;cases hk
      rw [getD_set_ne false hki] at hk
      exact (List.mem_erase_of_ne (fun h=>hki h.symm)).2 (hU k hkl hk)
     have hf':(U.erase i).length≤fuel:=by rw [List.length_erase_of_mem (hU i hil hun)];omega
     unfold wpOpIn
     simp only [List.getElem?_toArray,ho]
     rcases hfacts.at i o (by rw [List.getElem?_take_of_lt hin];exact ho) with ⟨av,q1,q2,d,hd,hdn,q3⟩|⟨m,q1,q2,d,hd,hdn,hgn,q3⟩
     ·rcases q3 with ⟨hg,hq⟩|⟨hg,rfl⟩
      ·rw [if_pos (hi.guard hC ho hin hp hg)]
       refine hq _ a w _ _ (hi.env hC ho hin hp) fun v w' hr hh hkp=> ?_
       rw [hd]
       exact ih (U.erase i) B _ _ _ (hi.stepQ hC ho hin hp hd (Nat.le_of_ble_eq_true hdn) q1 q2 hr hh hkp) hU' hf'
      ·rw [if_neg (by rw [hi.guard hC ho hin hp hg];simp)]
       refine ⟨zab,?_⟩
       rw [hd]
       exact ih (U.erase i) B _ _ _ (hi.stepQ hC ho hin hp hd (Nat.le_of_ble_eq_true hdn) q1 q2 (.v _) hi.heap (.refl _ _)) hU' hf'
     ·rw [if_pos (by simp [Region.wanted,hgn])]
      obtain ⟨o1,o2⟩:=hi.open hin q2 hun
      have henv:=hi.env hC ho hin hp
      refine q3 _ a w _ _ hi.tsz hi.defs ⟨o1,fun z av hz=>by rw [o2];exact henv.rel z av hz⟩ fun x v w' hr hh hkp=> ?_
      rw [hd]
      exact ih (U.erase i) _ _ _ _ (hi.stepM hC ho hin hp hd (Nat.le_of_ble_eq_true hdn) q1 q2 hun hr hh hkp) hU' hf'
 have hX0:XB X (zcr ms)=Sub X (u9 (zdx ms)):=by funext b;simp only [XB,Sub,zeb]
 have hpart:HRel (Sub X (u9 (zdx ms))) w0 h:=(hperm.perm List.perm_append_comm).part
 have hO0:OO h (XB X (zcr ms))=OO hh X:=by
  rw [hX0];funext b;simp only [OO,Sub,hown0,eq_iff_iff]
  exact ⟨fun q=>by rcases q with q|q|q <;> simp [q],fun q=>by rcases q with (q|q)|q <;> simp [q]⟩
 have hnd:=hperm.nodup
 rw [w6,List.nodup_append] at hnd
 obtain ⟨hinj,hndi⟩:=znf hnd.1
 have hsz:l.toArray.size=l.length:=by simp
 have hrep:∀i,(Array.replicate l.length false).getD i false=false:=zoe l.length
 refine main l.toArray.size (List.range l.length) (zcr ms) _ a0 {w0 with drawn:=w0.drawn+1} ⟨by simp,fun i hi=> ?_,fun i _=> ?_,hs.size,hs.defs,?_,hinj,fun i b h=> ?_,fun i m hin hms _=> ?_,fun i o d m _ _ _ _ h=> ?_,fun i h=> ?_,fun i o d av _ _ _ _ h=> ?_,fun d av _ hl=> ?_,⟨Nat.le_refl _,fun b _ h=>⟨rfl,h⟩,zhc.eq rfl rfl rfl (by first|exact Nat.le_refl _|exact Nat.le_succ _)⟩⟩
  (fun i hi _=>List.mem_range.2 hi) (by simp)
 ·rw [hsz,hrep i] at hi;cases hi
 ·rw [hsz];exact hrep i
 ·rw [hX0];exact hpart.grow (Nat.le_refl _) fun _ _=>rfl
 ·refine ⟨?_,fun hx=> ?_,.inr (zeb.1 ⟨i,h⟩)⟩
  ·rw [←hmsl]
   unfold zcr at h
   split at h
   ·rename_i m hm;exact (List.getElem?_eq_some_iff.1 hm).1
   ·cases h
  ·exact (hperm.lt b (by rw [w6];exact List.mem_append_left _ (zeb.1 ⟨i,h⟩))).2 hx
 ·refine ⟨by simp [zcr,hms],hndi i,fun r hr=> ?_⟩
  rw [hO0]
  have hmem:r∈zdx ms++h:=List.mem_append_left _ (List.mem_flatMap.2 ⟨some m,List.mem_of_getElem? hms,hr⟩)
  have:=hperm.holds r hmem
  rw [←zc4 hp] at this
  exact Res.holds_keep (w:=w0) (Nat.le_refl _) (fun b hb _=>⟨rfl,hb⟩) (fun _ _=>rfl) this
 ·rw [hsz,hrep i] at h;cases h
 ·simp [zcr,h]
 ·rw [hsz,hrep i] at h;cases h
 ·rw [hO0]
  obtain ⟨v,e,r⟩:=hs.fr d av hl
  exact ⟨v,e,Rel.keep (w:=w0) (Nat.le_refl _) (fun b hb _=>⟨rfl,hb⟩) r⟩
theorem zuo {P:Program} {ro:Option Nat} {nt rid:Nat} {Q:Exit→St→Prop} {l:List Oper} {t:Fr} {h:List Res} {dsl:List Nat} (n:Nat) [hm:Mixed P] (hc:zms l n=true)
 (hk:zb6 P ro nt h dsl l (zdb l n) t (l.take n) [] (fun e ms=>h.Perm (zdx ms++h)∧zas (l.take n) ms e h (fun e' h'=>zb7 P ro nt l.toArray (l.drop n) Q ⟨e'++t,h',dsl⟩))):aw P ro nt (.region rid l.toArray true) Q ⟨t,h,dsl⟩:=
 ydu n h hc hk
section
variable {P:Program} {ro:Option Nat} {nt:Nat} {h:List Res} {dsl:List Nat} {l:List Oper} {sd:List Tmp} {t0:Fr} {rest:List Oper} {e:Fr} {K:Fr→List (Option CM)→Prop} {o:Oper} {av:AV} {d:Tmp} {op:Op} {ty:TypeId} {pos:String} {after:Array Edge} {g:Option (Nat×Bool)} {x y z:Operand}
theorem mq (hg:gdS l (lkS sd (zby l ⟨some d,op,ty,pos,after,g⟩) e t0) ⟨some d,op,ty,pos,after,g⟩=some true) (hd:Nat.blt d nt=true)
 (hq:QR P h (evS sd (zby l ⟨some d,op,ty,pos,after,g⟩) e t0) ⟨some d,op,ty,pos,after,g⟩ av) (hk:zb6 P ro nt h dsl l sd t0 rest ((d,av)::e) (fun e ms=>K e (none::ms)))
 (hn:zbe ⟨some d,op,ty,pos,after,g⟩=true:=by rfl):zb6 P ro nt h dsl l sd t0 (⟨some d,op,ty,pos,after,g⟩::rest) e K:=
 .inl ⟨d,av,rfl,⟨d,rfl,hd,.inl ⟨hg,zfe hq hn⟩⟩,hk⟩
theorem ms (hg:gdS l (lkS sd (zby l ⟨some d,op,ty,pos,after,g⟩) e t0) ⟨some d,op,ty,pos,after,g⟩=some false) (hd:Nat.blt d nt=true) (hk:zb6 P ro nt h dsl l sd t0 rest ((d,.v (.tuple #[]))::e) (fun e ms=>K e (none::ms))):
 zb6 P ro nt h dsl l sd t0 (⟨some d,op,ty,pos,after,g⟩::rest) e K:=
 .inl ⟨d,.v undef,rfl,⟨d,rfl,hd,.inr ⟨hg,rfl⟩⟩,hk⟩
theorem yo1 (hk:K e []):zb6 P ro nt h dsl l sd t0 [] e K:=hk
theorem ycq {args:List Operand} {tys:Array TypeId} {fv:AV} {avs:List AV} (m:MR) (hd:Nat.blt d nt=true) (hx:evS sd (zby l ⟨some d,.call ⟨.value x,args.toArray,tys⟩,ty,pos,after,none⟩) e t0 x=some fv)
 (ha:evs (evS sd (zby l ⟨some d,.call ⟨.value x,args.toArray,tys⟩,ty,pos,after,none⟩) e t0) args=some avs) (hc:z8 P fv avs h (fun r h'=>∃x,r=(m x).1∧h'=(m x).2++h))
 (hk:zb6 P ro nt h dsl l sd t0 rest e (fun e ms=>K e (some ([],m)::ms))):zb6 P ro nt h dsl l sd t0 (⟨some d,.call ⟨.value x,args.toArray,tys⟩,ty,pos,after,none⟩::rest) e K:=by
 refine .inr ⟨([],m),⟨d,rfl,hd,rfl,fun X a w K Q _ _ he hK=> ?_⟩,hk⟩
 refine zkn (f:=0) (hc X w _ _ he.heap (he.rel x _ hx) (he.evs ha)) ?_
 rintro e w' ⟨v,av',h',e1,⟨x,rfl,rfl⟩,hrel,hh,hkeep⟩
 exact ⟨v,e1,hK x v w' hrel hh hkeep⟩
theorem yhn {o:Oper} {os:List Oper} {ms:List (Option CM)} {e:Fr} {h:List Res} {K:Fr→List Res→Prop} (hk:zas os ms e h K):zas (o::os) (none::ms) e h K:=hk
theorem zr7 {e:Fr} {h:List Res} {K:Fr→List Res→Prop} (hk:K e h):zas [] [] e h K:=hk
end
def MX.v0 (x:MX):SV:=x.vs.headD ⟨none,0,0⟩
abbrev yg8 (sz:Nat) (T:TypeId) (rows:List (List AV)):MR:=fun x=>(.v x.v0.v,[.row x.v0.v sz T rows])
theorem z8.rowS {P:Program} {fv:AV} {args:List AV} {h:List Res} {sz:Nat} {T:TypeId} {rows:List (List AV)} (hc:z8 P fv args h (fun r h'=>∃s,h'= [.row s sz T rows]∧r= .v s)):
 z8 P fv args h (fun r h'=>∃s:SV,h'= [.row s.v sz T rows]∧r= .v s.v):=by
 intro X w v vs hh hv ha
 refine (hc X w v vs hh hv ha).mono ?_
 rintro e w' ⟨u,av,h',e1,⟨s,rfl,rfl⟩,hrel,hh',hk⟩
 have q:=hh'.holds _ (List.mem_singleton.2 rfl)
 cases s with
 |slice a n c=>exact ⟨u,_,_,e1,⟨⟨a,n,c⟩,rfl,rfl⟩,hrel,hh',hk⟩
 |_=>exact q.elim
theorem ztt {P:Program} {fv:AV} {args:List AV} {h:List Res} {sz:Nat} {T:TypeId} {rows:List (List AV)} (hc:z8 P fv args [] (fun r h'=>∃s,h'= [.row s sz T rows]∧r= .v s)):
 z8 P fv args h (fun r h'=>∃x,r=(yg8 sz T rows x).1∧h'=(yg8 sz T rows x).2++h):=by
 refine (hc.rowS.frame h).mono ?_
 rintro r _ ⟨h1,rfl,s,rfl,rfl⟩
 exact ⟨⟨[s],[]⟩,rfl,rfl⟩
theorem zn4 {op:Op} {ty:TypeId} {pos:String} {after:Array Edge} {g:Option (Nat×Bool)} {d:Tmp} {os:List Oper} {sz:Nat} {T:TypeId} {rows:List (List AV)} {c:List Res} {ms:List (Option CM)} {e:Fr} {h:List Res} {K:Fr→List Res→Prop}
 (hk:∀s:SV,zas os ms ((d,.v s.v)::e) (.row s.v sz T rows::h) K):zas (⟨some d,op,ty,pos,after,g⟩::os) (some (c,yg8 sz T rows)::ms) e h K:=fun d' x e=>by cases e;exact hk x.v0
theorem zj0 {P:Program} {h:List Res} {f:Operand→Option AV} {dst:Option Tmp} {ty:TypeId} {pos:String} {after:Array Edge} {guard:Option (Nat×Bool)} {x:Operand} {T FT E:TypeId} {s:Value} {k sz i kk off n ri:Nat} {rows:List (List AV)} (hx:f x=some (.rp s sz i kk)) [hr:HasRow h s ri sz E rows] [hf:Fld P T k off FT] [Siz P FT n] (hn:n≠0):
 QR P h f ⟨dst,.fieldAddr T x k,ty,pos,after,guard⟩ (.rp s sz i (kk+off)):=fun X ρ w he=>by
 have hrr:=he.rel x _ hx
 generalize hv:ρ x=v at hrr
 cases hrr with
 |rp a len cap _ _ _=>
  have hx2:=he.heap.holds _ (List.mem_of_getElem? hr.h)
  obtain ⟨h1,_⟩:=hx2
  obtain ⟨b,o,spot⟩:=a
  simp only at h1;subst h1
  refine ⟨_,run_v _ (by rw [hv,zav];exact zfd (n:=n) (FT:=FT) hn),?_⟩
  have:=Rel.rp (w:=w) (O:=OO h X) ⟨b,o,none⟩ len cap sz i (kk+off)
  rw [zav,←Nat.add_assoc (i * sz),←Nat.add_assoc o] at this
  exact this
theorem j8 {P:Program} {ro:Option Nat} {nt:Nat} {ops:Array Oper} {l:List Oper} {Q:Exit→St→Prop} {t:Fr} {h:List Res} {ds:List Nat} (s:Value) {i sz:Nat} {T:TypeId} {rows:List (List AV)} [hr:HasRow h s i sz T rows]
 (k:∀v:SV,s=v.v→zb7 P ro nt ops l Q ⟨t,h,ds⟩):zb7 P ro nt ops l Q ⟨t,h,ds⟩:=fun X a w hs=>by
 have q:=hs.heap.holds _ (List.mem_of_getElem? hr.h)
 cases s with
 |slice a' n c=>exact k ⟨a',n,c⟩ rfl X a w hs
 |_=>exact q.elim
section
variable {P:Program} {ro:Option Nat} {nt:Nat} {h:List Res} {dsl:List Nat} {l:List Oper} {sd:List Tmp} {t0:Fr} {rest:List Oper} {e:Fr} {K:Fr→List (Option CM)→Prop} {d i j:Tmp} {ty:TypeId} {pos:String} {after:Array Edge}
end
theorem zjz {h:List Res} {s:Value} {sz:Nat} {T:TypeId} {rows:List (List AV)} (A B:List AV):zhb (.row s sz T rows::h) (.agg (A++ .v s::B)) h (.agg (A++ .list false sz rows::B)):=by
 refine ⟨fun x hx=>by rw [q7];exact List.mem_append_right _ hx,fun X w v hh hr=>⟨HRel.drop (h:= [_]) hh,?_⟩⟩
 have hf:=zgn hh
 cases hr with
 |agg _ cs hl hc=>
  refine .agg _ cs (by simpa using hl) fun j h1 h2=> ?_
  have hj:j < (A++ .v s::B).length:=by simpa using h1
  have hcj:=hc j hj h2
  have hkeep:∀av u,Rel w (OO (.row s sz T rows::h) X) av u→Rel w (OO h X) av u:=fun av u r=>r.keep (Nat.le_refl _) fun b hb _=>⟨rfl,fun q=>hb (by
   rcases q with q|q
   ·exact .inl (by rw [q7];exact List.mem_append_right _ q)
   ·exact .inr q)⟩
  by_cases hA:j < A.length
  ·rw [List.getElem_append_left hA] at hcj ⊢;exact hkeep _ _ hcj
  ·rw [List.getElem_append_right (by omega)] at hcj ⊢
   by_cases h0:j - A.length=0
   ·simp only [h0,List.getElem_cons_zero] at hcj ⊢
    rw [hcj.v_eq];exact hf
   ·obtain ⟨k,hk⟩:∃k,j - A.length=k+1:=⟨j - A.length - 1,by omega⟩
    simp only [hk,List.getElem_cons_succ] at hcj ⊢
    exact hkeep _ _ hcj
theorem zaw {h:List Res} {s:Value} {sz:Nat} {T:TypeId} {rows:List (List AV)} (A B:List AV):zhb (.row s sz T rows::h) (.tup (A++ .v s::B)) h (.tup (A++ .list false sz rows::B)):=by
 refine ⟨fun x hx=>by rw [q7];exact List.mem_append_right _ hx,fun X w v hh hr=>⟨HRel.drop (h:= [_]) hh,?_⟩⟩
 have hf:=zgn hh
 cases hr with
 |tup _ cs hl hc=>
  refine .tup _ cs (by simpa using hl) fun j h1 h2=> ?_
  have hj:j < (A++ .v s::B).length:=by simpa using h1
  have hcj:=hc j hj h2
  have hkeep:∀av u,Rel w (OO (.row s sz T rows::h) X) av u→Rel w (OO h X) av u:=fun av u r=>r.keep (Nat.le_refl _) fun b hb _=>⟨rfl,fun q=>hb (by
   rcases q with q|q
   ·exact .inl (by rw [q7];exact List.mem_append_right _ q)
   ·exact .inr q)⟩
  by_cases hA:j < A.length
  ·rw [List.getElem_append_left hA] at hcj ⊢;exact hkeep _ _ hcj
  ·rw [List.getElem_append_right (by omega)] at hcj ⊢
   by_cases h0:j - A.length=0
   ·simp only [h0,List.getElem_cons_zero] at hcj ⊢
    rw [hcj.v_eq];exact hf
   ·obtain ⟨k,hk⟩:∃k,j - A.length=k+1:=⟨j - A.length - 1,by omega⟩
    simp only [hk,List.getElem_cons_succ] at hcj ⊢
    exact hkeep _ _ hcj
theorem y8.ventR {P:Program} {f:FuncId} {args:List AV} {h:List Res} {R R2:AV→List Res→Prop} (hc:y8 P f args h R) (hv:∀r h',R r h'→∃r2 h2,zhb h' r h2 r2∧R2 r2 h2):y8 P f args h R2:=by
 intro X w vs hh ha
 refine (hc X w vs hh ha).mono ?_
 rintro e w' ⟨u,av,h',e1,hR,hrel,hh',hk⟩
 obtain ⟨r2,h2,⟨o,q⟩,hR2⟩:=hv _ _ hR
 obtain ⟨q1,q2⟩:=q X w' u hh' hrel
 exact ⟨u,r2,h2,e1,hR2,q2,q1,⟨hk.size,fun b hb ho=>⟨(hk.same b hb ho).1,fun hm=>(hk.same b hb ho).2 (o b hm)⟩,hk.env⟩⟩
theorem z8.ventR {P:Program} {fv:AV} {args:List AV} {h:List Res} {R R2:AV→List Res→Prop} (hc:z8 P fv args h R) (hv:∀r h',R r h'→∃r2 h2,zhb h' r h2 r2∧R2 r2 h2):z8 P fv args h R2:=by
 intro X w v vs hh hvv ha
 refine (hc X w v vs hh hvv ha).mono ?_
 rintro e w' ⟨u,av,h',e1,hR,hrel,hh',hk⟩
 obtain ⟨r2,h2,⟨o,q⟩,hR2⟩:=hv _ _ hR
 obtain ⟨q1,q2⟩:=q X w' u hh' hrel
 exact ⟨u,r2,h2,e1,hR2,q2,q1,⟨hk.size,fun b hb ho=>⟨(hk.same b hb ho).1,fun hm=>(hk.same b hb ho).2 (o b hm)⟩,hk.env⟩⟩
theorem z8.ventE {P:Program} {fv:AV} {args:List AV} {h:List Res} {R:AV→List Res→Prop} (hc:z8 P fv args h (fun r h'=>∃r2 h2,zhb h' r h2 r2∧R r2 h2)):z8 P fv args h R:=hc.ventR fun _ _ q=>q
inductive Scal:AV→Prop where
 |any:Scal .any
 |v (x:Value):Scal (.v x)
 |tup (vs:List AV):(∀j (h:j < vs.length),Scal vs[j])→Scal (.tup vs)
 |fn (f:Fn):Scal (.fn f [] [])
theorem Scal.rel {a:AV} (s:Scal a):∀{w w':World} {O O':Nat→Prop} {v:Value},Rel w O a v→Rel w' O' a v:=by
 induction s with
 |any=>intro w w' O O' v r;exact .any _
 |v x=>intro w w' O O' v r;rw [r.v_eq];exact .v _
 |tup vs _ ih=>
  intro w w' O O' v r
  cases r with
  |tup _ cs h1 h2=>exact .tup _ _ h1 fun j a b=>ih j a (h2 j a b)
 |fn f=>
  intro w w' O O' v r
  cases r with
  |fn _ _ _ fa ca h1 h2 h3 h4=>exact .fn _ _ _ _ _ h1 h2 (fun j h=>absurd h (Nat.not_lt_zero j)) (fun j h=>absurd h (Nat.not_lt_zero j))
def ymr (x:Res):Prop:=∀{w:World} {O O':Nat→Prop},x.holds w O→x.holds w O'
theorem ztd {s:Value} {sz:Nat} {T:TypeId} {rows:List (List AV)} (h:∀r∈rows,∀a∈r,Scal a):ymr (.row s sz T rows):=by
 intro w O O' hb
 cases s <;> try exact hb.elim
 rename_i a len cap
 cases a with
 |none=>exact hb
 |some a=>
  obtain ⟨h1,h2,h3,h4,c,h5,h6,h7⟩:=hb
  refine ⟨h1,h2,h3,h4,c,h5,h6,fun i hi j hj=> ?_⟩
  obtain ⟨v,e,r⟩:=h7 i hi j hj
  exact ⟨v,e,(h _ (List.getElem_mem hi) _ (List.getElem_mem hj)).rel r⟩
theorem yiw {r:Res} {h:List Res} {X:Nat→Prop} {b:Nat}:OO (r::h) X b ↔ b∈r.own∨OO h X b:=by
 simp only [OO,q7,List.mem_append];exact or_assoc
theorem zmn {nt:Nat} {t:Fr} {h:List Res} {ds:List Nat} {s:Value} {sz:Nat} {T TB:TypeId} {rows:List (List AV)} {b:Nat} (A B:List AV):
 Ent nt ⟨t,.row s sz T rows:: .box b TB (A++ .v s::B)::h,ds⟩ ⟨t,.box b TB (A++ .list false sz rows::B)::h,ds⟩:=by
 refine ⟨fun x hx=> ?_,fun X a w hs=> ?_⟩
 ·simp only [q7,List.mem_append] at hx ⊢
  exact .inr hx
 have hO:∀b',OO (.box b TB (A++ .list false sz rows::B)::h) X b' ↔ OO (.box b TB (A++ .v s::B)::h) X b':=fun b'=>by simp [OO,q7,Res.own]
 have hO':OO (.box b TB (A++ .list false sz rows::B)::h) X=OO (.box b TB (A++ .v s::B)::h) X:=by funext b';exact propext (hO b')
 have hd:=HRel.drop (h:= [_]) hs.heap
 have hf:=zgn hs.heap
 have hkeep:∀av u,Rel w (OO (.row s sz T rows:: .box b TB (A++ .v s::B)::h) X) av u→Rel w (OO (.box b TB (A++ .v s::B)::h) X) av u:=fun av u r=>r.keep (Nat.le_refl _) fun b hb _=>⟨rfl,fun q=>hb (yiw.2 (.inr q))⟩
 refine ⟨⟨by simpa [q7,Res.own] using hd.nodup,fun b' hb'=>hd.lt b' (by simpa [q7,Res.own] using hb'),hd.xlt,fun r hr=> ?_⟩,hs.size,fun i av e=> ?_,hs.defs⟩
 ·rw [hO']
  rcases List.mem_cons.1 hr with rfl|hr
  ·obtain ⟨c,h1,h2,h3⟩:=hd.holds _ (List.mem_cons_self)
   refine ⟨c,h1,by simpa using h2,fun j j1 j2=> ?_⟩
   have hj:j < (A++ .v s::B).length:=by simpa using j1
   have hcj:=h3 j hj j2
   by_cases hA:j < A.length
   ·rw [List.getElem_append_left hA] at hcj ⊢;exact hcj
   ·rw [List.getElem_append_right (by omega)] at hcj ⊢
    by_cases h0:j - A.length=0
    ·simp only [h0,List.getElem_cons_zero] at hcj ⊢
     rw [hcj.v_eq];exact hf
    ·obtain ⟨k,hk⟩:∃k,j - A.length=k+1:=⟨j - A.length - 1,by omega⟩
     simp only [hk,List.getElem_cons_succ] at hcj ⊢
     exact hcj
  ·exact hd.holds r (List.mem_cons_of_mem _ hr)
 ·obtain ⟨u,e1,r⟩:=hs.fr i av e
  refine ⟨u,e1,?_⟩
  show Rel w (OO (.box b TB (A++ .list false sz rows::B)::h) X) av u
  rw [hO'];exact hkeep _ _ r
theorem zro {H:List Res} {X:Nat→Prop} {w:World} {s:Value} {sz:Nat} {T:TypeId} {rows rows':List (List AV)} {O':Nat→Prop} (hh:HRel X w H) (hm: .row s sz T rows∈H) (hO:∀b∈(Res.row s sz T rows).own,¬O' b) (hl:rows'.length=rows.length)
 (hl2:∀i (h:i < rows.length) (h':i < rows'.length),rows'[i].length=rows[i].length)
 (hc:∀i (h:i < rows.length) (h':i < rows'.length) j (k:j < rows[i].length) (k':j < rows'[i].length) u,Rel w (OO H X) rows[i][j] u→Rel w O' rows'[i][j] u):Rel w O' (.list false sz rows') s:=by
 have hx:=hh.holds _ hm
 cases s <;> try exact hx.elim
 rename_i a len cap
 cases a with
 |none=>
  obtain ⟨rfl,rfl,rfl⟩:=hx
  obtain rfl:rows'= []:=List.eq_nil_of_length_eq_zero (by simpa using hl)
  exact .lnil _ _ _ _ (by simp)
 |some a=>
  obtain ⟨h1,h2,h3,h4,c,h5,h6,h7⟩:=hx
  obtain ⟨b,off,spot⟩:=a
  simp only at h1;subst h1;subst h2
  have hb:=hh.lt b (j9.2 ⟨_,hm,by simp [Res.own]⟩)
  rw [←hl]
  refine .list _ _ _ b off cap (fun i j=>c[off+i * sz+j]?.getD undef) (by simp) (by omega) (hO b (by simp [Res.own])) hb.1 (fun i hi=>by rw [hl2 i (by omega) hi];exact h4 i (by omega)) (fun i hi j hj=> ?_) fun i hi j hj=> ?_
  ·obtain ⟨v,e,_⟩:=h7 i (by omega) j (by rw [←hl2 i (by omega) hi];exact hj)
   simp only at e h5
   simp [World.cell?,h5,e]
  ·obtain ⟨v,e,r⟩:=h7 i (by omega) j (by rw [←hl2 i (by omega) hi];exact hj)
   simp only at e
   rw [e];exact hc i (by omega) hi j (by rw [←hl2 i (by omega) hi];exact hj) hj v r
section
variable {P:Program} {h:List Res} {f:Operand→Option AV} {dst:Option Tmp} {ty:TypeId} {pos:String} {after:Array Edge} {guard:Option (Nat×Bool)} {x y:Operand}
theorem ygr {tys:Array TypeId} {k k':IntKind} (a b:Nat) (hx:f x=some (.v (.int k a))) (hy:f y=some (.v (.int k' b))):
 QR P h f ⟨dst,.call ⟨.builtin .min,[x,y].toArray,tys⟩,ty,pos,after,guard⟩ (.v (.int k ((min a b:Nat):Int))):=by
 have:=zxn (P:=P) (h:=h) (tys:=tys) (dst:=dst) (ty:=ty) (pos:=pos) (after:=after) (guard:=guard) hx hy
 rw [show ((min a b:Nat):Int)=min (a:Int) (b:Int) from by omega];exact this
theorem zru {T E:TypeId} {full:Bool} {sz k:Nat} {rows rows':List (List AV)} (hx:f x=some (.list full sz rows)) (hy:f y=some (.v (.int .i64 k))) (hk:k≤rows.length) (he:rows.take k=rows')
 [Und P T (.slice E)] [Siz P E sz]:QR P h f ⟨dst,.slice T x none (some y) none,ty,pos,after,guard⟩ (.list false sz rows'):=by
 subst he;exact ze1 hx hy hk
end
theorem zxq {P:Program} {h:List Res} {f:Operand→Option AV} {dst:Option Tmp} {ty:TypeId} {pos:String} {after:Array Edge} {guard:Option (Nat×Bool)} {x:Operand} {r b i:Nat} {es:List (Value×AV)} {seen:List Nat} {k:Value} {a:AV} (hi:i < es.length) (hk:es[i].1=k) (ha:es[i].2=a) (hx:f x=some (pZ b)):
 QR P (.mapr r es b (i::seen)::h) f ⟨dst,.entry x,ty,pos,after,guard⟩ (.tup [.v k,a]):=by
 subst hk ha;exact ztk hx hi
section
variable {P:Program} {h:List Res} {f:Operand→Option AV} {dst:Option Tmp} {ty T T':TypeId} {pos:String} {after:Array Edge} {g:Option (Nat×Bool)} {x y z:Operand} {av:AV}
theorem ylp (q:QR P h f ⟨dst,.move x,ty,pos,after,g⟩ av):QR P h f ⟨dst,.move x,ty,pos,after,g⟩ av:=q
theorem ydc (q:QR P h f ⟨dst,.assign x,ty,pos,after,g⟩ av):QR P h f ⟨dst,.assign x,ty,pos,after,g⟩ av:=q
theorem ylo (q:QR P h f ⟨dst,.pick x y z,ty,pos,after,g⟩ av):QR P h f ⟨dst,.pick x y z,ty,pos,after,g⟩ av:=q
theorem yn9 {op:BinOp} (q:QR P h f ⟨dst,.binOp op T x y T',ty,pos,after,g⟩ av):QR P h f ⟨dst,.binOp op T x y T',ty,pos,after,g⟩ av:=q
theorem ypv {op:UnOp} (q:QR P h f ⟨dst,.unOp op T x,ty,pos,after,g⟩ av):QR P h f ⟨dst,.unOp op T x,ty,pos,after,g⟩ av:=q
theorem zsi {k:Nat} (q:QR P h f ⟨dst,.fieldAddr T x k,ty,pos,after,g⟩ av):QR P h f ⟨dst,.fieldAddr T x k,ty,pos,after,g⟩ av:=q
theorem yh3 {k:Nat} (q:QR P h f ⟨dst,.field T x k,ty,pos,after,g⟩ av):QR P h f ⟨dst,.field T x k,ty,pos,after,g⟩ av:=q
theorem ylq (q:QR P h f ⟨dst,.load T x,ty,pos,after,g⟩ av):QR P h f ⟨dst,.load T x,ty,pos,after,g⟩ av:=q
theorem zvs (q:QR P h f ⟨dst,.nilCheck x,ty,pos,after,g⟩ av):QR P h f ⟨dst,.nilCheck x,ty,pos,after,g⟩ av:=q
theorem zsh (q:QR P h f ⟨dst,.indexAddr T x y,ty,pos,after,g⟩ av):QR P h f ⟨dst,.indexAddr T x y,ty,pos,after,g⟩ av:=q
theorem yh2 (q:QR P h f ⟨dst,.index T x y,ty,pos,after,g⟩ av):QR P h f ⟨dst,.index T x y,ty,pos,after,g⟩ av:=q
theorem yn8 {b:Builtin} {as:Array Operand} {ts:Array TypeId} (q:QR P h f ⟨dst,.call ⟨.builtin b,as,ts⟩,ty,pos,after,g⟩ av):QR P h f ⟨dst,.call ⟨.builtin b,as,ts⟩,ty,pos,after,g⟩ av:=q
theorem yh1 {a b c:Option Operand} (q:QR P h f ⟨dst,.slice T x a b c,ty,pos,after,g⟩ av):QR P h f ⟨dst,.slice T x a b c,ty,pos,after,g⟩ av:=q
theorem zyy {k:Nat} (q:QR P h f ⟨dst,.extract x k,ty,pos,after,g⟩ av):QR P h f ⟨dst,.extract x k,ty,pos,after,g⟩ av:=q
def yme (op:BinOp) (k:IntKind):Bool:=match op,k with
 | .add,.i64=>false
 | .sub,.i64=>false
 | .mul,.i64=>false
 |_,_=>true
theorem yb3 {op:BinOp} {k:IntKind} {a b c:Int} (hx:f x=some (.v (.int k a))) (hy:f y=some (.v (.int k b))) (hk:yme op k=true) (hc:ydr op k a b=some c):
 QR P h f ⟨dst,.binOp op T x y T',ty,pos,after,g⟩ (.v (.int k c)):=ygu hx hy hc
end
theorem qrA {P:Program} {h:List Res} {f:Operand→Option AV} {o:Oper} {av:AV} (hq:QR P h f o av:=by
 first
 |(apply ylp;exact ygq rfl)
 |(apply yn9;first
  |exact zao rfl rfl rfl
  |exact zc5 rfl rfl rfl (by omega)
  |exact ybx rfl rfl rfl (by decide)
  |exact yb3 rfl rfl rfl rfl
  |exact yb1 rfl rfl
  |exact yby rfl rfl
  |exact zxp rfl rfl rfl
  |exact zpm rfl rfl
  |exact yb2 rfl rfl rfl rfl
  |exact ybz rfl rfl rfl rfl)
 |(apply ylq;first
  |exact zac rfl rfl
  |exact zml rfl rfl
  |exact zb9 rfl (by assumption) rfl
  |exact zfg rfl rfl
  |exact zmm rfl rfl
  |exact zk4 rfl (Nat.le_of_ble_eq_true rfl)
  |exact zg6 rfl (Nat.le_of_ble_eq_true rfl)
  |exact zg5 rfl (by assumption) rfl)
 |(apply zsi;first
  |exact zpr rfl (Nat.succ_ne_zero _)
  |exact zk6 rfl (Nat.succ_ne_zero _)
  |exact zk5 rfl (Nat.succ_ne_zero _)
  |exact zj0 rfl (Nat.succ_ne_zero _))
 |(apply ylo;first
  |exact zxk rfl rfl
  |exact zxl rfl rfl
  |exact zxm rfl rfl rfl)
 |(apply ydc;exact zxr rfl)
 |(apply zsh;first
  |exact zan rfl rfl (by assumption)
  |exact zb1 rfl rfl (by assumption)
  |exact zah rfl rfl (by omega))
 |(apply yn8;first
  |exact zry rfl
  |exact zvd rfl
  |exact zny rfl
  |exact zxn rfl rfl
  |exact ygt rfl rfl
  |exact ygs rfl rfl rfl)
 |(apply yh3;first
  |exact zpp rfl rfl
  |exact zpq rfl (Nat.le_of_ble_eq_true rfl))
 |(apply zvs;first
  |exact zrv rfl
  |exact zmj rfl
  |exact zmi rfl)
 |(apply ypv;exact ykh rfl)
 |(apply zyy;exact zve rfl rfl)
 |(apply yh1;first
  |exact zir rfl rfl (by omega)
  |exact ze0 rfl rfl (by omega)
  |exact zrt rfl rfl rfl (by omega)
  |exact zrs rfl rfl rfl (by omega) (by omega)
  |exact ze1 rfl rfl (by omega)
  |exact zgo rfl rfl (by omega))
 |(apply yh2;exact zct rfl rfl (by omega) (by assumption))
 |exact zvf rfl rfl
 |exact zrw rfl rfl
 |exact zaa rfl (by rfl)
 |exact zcz rfl (by rfl)
 |exact ztk rfl (by assumption)):QR P h f o av:=hq
section
variable {P:Program} {ro:Option Nat} {nt:Nat} {Q:Exit→St→Prop} {s:St} {c:Operand} {x y:Code}
theorem zv5 (hc:ev s.t c=some (.v (.bool true))) (h:aw P ro nt x Q s):aw P ro nt (.cond c x y) Q s:=y0 hc (fun _=>h) (fun h=>by cases h)
theorem zqy (hc:ev s.t c=some (.v (.bool false))) (h:aw P ro nt y Q s):aw P ro nt (.cond c x y) Q s:=y0 hc (fun h=>by cases h) (fun _=>h)
variable {ops:Array Oper} {l:List Oper} {dst:Option Tmp} {T ty:TypeId} {a b:Operand} {pos:String} {after:Array Edge} {g:Option (Nat×Bool)}
theorem yaf (q:zb7 P ro nt ops (⟨dst,.store T a b,ty,pos,after,g⟩::l) Q s):zb7 P ro nt ops (⟨dst,.store T a b,ty,pos,after,g⟩::l) Q s:=q
theorem ymq (q:zb7 P ro nt ops l Q s):zb7 P ro nt ops l Q s:=q
theorem ypz (q:aw P ro nt x Q s):aw P ro nt x Q s:=q
theorem ymo {e:Exit} {n:St→Prop} (q:thn n Q e s):thn n Q e s:=q
theorem ymp {e:Exit} {n:Nat} (q:zev n Q e s):zev n Q e s:=q
theorem yoq {h:List Res} {S:SB} {sd:List Tmp} {t0:Fr} {os:List Oper} {e:Fr} {σ:List SI} {K:Fr→List SI→Prop} (q:zcq P ro nt h S l sd t0 os e σ K):zcq P ro nt h S l sd t0 os e σ K:=q
theorem yor {h:List Res} {dsl:List Nat} {sd:List Tmp} {t0:Fr} {os:List Oper} {e:Fr} {K:Fr→List (Option CM)→Prop} (q:zb6 P ro nt h dsl l sd t0 os e K):zb6 P ro nt h dsl l sd t0 os e K:=q
theorem yit {ms:List (Option CM)} {e:Fr} {h:List Res} {K:Fr→List Res→Prop} (q:zas l ms e h K):zas l ms e h K:=q
theorem yiu {e:Fr} {h:List Res} {K:Fr→List Res→Prop} (q:zbd P nt l e h K):zbd P nt l e h K:=q
theorem q1 {d:Tmp} {op:Op} {t:Fr} {h:List Res} {ds:List Nat} {av:AV} (hk:zb7 P ro nt ops l Q ⟨(d,av)::t,h,ds⟩) (hg:gd ops t ⟨some d,op,ty,pos,after,g⟩=some true:=by rfl) (hd:Nat.blt d nt=true:=by rfl) (hq:QR P h (ev t) ⟨some d,op,ty,pos,after,g⟩ av:=by exact qrA)
 (hn:zbe ⟨some d,op,ty,pos,after,g⟩=true:=by rfl):zb7 P ro nt ops (⟨some d,op,ty,pos,after,g⟩::l) Q ⟨t,h,ds⟩:=zz8 hg hd (zfe hq hn) hk
end
structure Hide (B:Prop):Prop where
 out:B
theorem rn {A B:Prop} (b:B) (hab:Hide B→A:=by
 intro hB
 repeat (first
  |(refine ymq ?_;first
   |refine j4 ?_
   |refine qq rfl rfl qrA ?_
   |refine qs rfl rfl ?_
   |refine qs0 rfl ?_
   |(refine yaf ?_;first
    |refine z7 rfl (j5 rfl rfl rfl ?_)
    |refine z7 rfl (zaj rfl rfl rfl rfl (Nat.le_of_ble_eq_true rfl) ?_)))
  |(refine ymo ?_;first
   |refine zai ?_
   |refine zkq ?_
   |refine yje ?_)
  |(refine ypz ?_;first
   |refine w7 ?_
   |refine y6 ?_
   |refine za5 ?_
   |refine zdj ?_
   |refine zl8 ?_
   |refine ymh ?_
   |refine zum ?_)
  |(refine ymp ?_;first
   |refine zyw ?_
   |refine zyv ?_
   |refine ze2 ?_
   |refine ziz rfl ?_)
  |(refine yoq ?_;first
   |refine yoi ⟨rfl,?_⟩
   |refine dq rfl rfl qrA ?_
   |refine ds rfl rfl ?_
   |refine da ?_)
  |(refine yiu ?_;first
   |refine zi5 ?_
   |refine zom rfl ?_)
  |(refine yor ?_;first
   |refine mq rfl rfl qrA ?_
   |refine ms rfl rfl ?_)
  |(refine yit ?_;first
   |refine yhn ?_
   |refine zr7 ?_))
 exact hB.out):A:=hab ⟨b⟩
theorem rn0 {A B:Prop} (b:B) (hab:Hide B→A:=by
 intro hB
 repeat (first
  |(refine ymq ?_;first
   |refine j4 ?_
   |refine qq rfl rfl qrA ?_
   |refine qs rfl rfl ?_
   |refine qs0 rfl ?_
   |(refine yaf ?_;first
    |refine z7 rfl (j5 rfl rfl rfl ?_)
    |refine z7 rfl (zaj rfl rfl rfl rfl (Nat.le_of_ble_eq_true rfl) ?_)))
  |(refine ymo ?_;first
   |refine zai ?_
   |refine zkq ?_
   |refine yje ?_)
  |(refine ymp ?_;first
   |refine zyw ?_
   |refine zyv ?_
   |refine ze2 ?_
   |refine ziz rfl ?_)
  |(refine yoq ?_;first
   |refine yoi ⟨rfl,?_⟩
   |refine dq rfl rfl qrA ?_
   |refine ds rfl rfl ?_
   |refine da ?_)
  |(refine yiu ?_;first
   |refine zi5 ?_
   |refine zom rfl ?_)
  |(refine yor ?_;first
   |refine mq rfl rfl qrA ?_
   |refine ms rfl rfl ?_)
  |(refine yit ?_;first
   |refine yhn ?_
   |refine zr7 ?_))
 exact hB.out):A:=hab ⟨b⟩
theorem rn2 {A B:Prop} (b:B) (hab:Hide B→A:=by
 intro hB
 repeat (first
  |(refine yoq ?_;first
   |refine yoi ⟨rfl,?_⟩
   |refine dq rfl rfl qrA ?_
   |refine ds rfl rfl ?_
   |refine da ?_)
  |(refine yiu ?_;first
   |refine zi5 ?_
   |refine zom rfl ?_)
  |(refine yor ?_;first
   |refine mq rfl rfl qrA ?_
   |refine ms rfl rfl ?_)
  |(refine yit ?_;first
   |refine yhn ?_
   |refine zr7 ?_))
 exact hB.out):A:=hab ⟨b⟩
section
variable {P:Program} {ro:Option Nat} {nt:Nat} {Q:Exit→St→Prop} {t t':Fr} {h h':List Res} {ds:List Nat} {c:Code}
theorem es (hs:SubF t t':=by repeat (first|exact .nil|refine .cons _ _ _ rfl ?_)):Ent nt ⟨t,h,ds⟩ ⟨t',h,ds⟩:=u0 hs
theorem ed (n:Nat) (hd:h.drop n=h':=by rfl) (hs:SubF t t':=by repeat (first|exact .nil|refine .cons _ _ _ rfl ?_)):Ent nt ⟨t,h,ds⟩ ⟨t',h',ds⟩:=by
 subst hd
 refine v8 ?_ (u0 hs)
 have:=zd8 (nt:=nt) (t:=t) (h1:=h.take n) (h2:=h.drop n) (ds:=ds)
 rwa [List.take_append_drop] at this
theorem eD (i:Nat) {x:Res} (hx:h[i]? =some x:=by rfl) (hd:h.eraseIdx i=h':=by rfl) (hs:SubF t t':=by repeat (first|exact .nil|refine .cons _ _ _ rfl ?_)):Ent nt ⟨t,h,ds⟩ ⟨t',h',ds⟩:=by
 subst hd
 exact v8 (v8 (zag (zkg hx)) zzh) (u0 hs)
theorem zgv {ops:Array Oper} {l:List Oper} {s s':St} (he:Ent nt s s') (hk:zb7 P ro nt ops l Q s'):zb7 P ro nt ops l Q s:=fun X a w hs=>
 zay (s:=s) (s':=s') ⟨Nat.le_refl _,fun b hb ho=>⟨rfl,fun q=>ho (he.1 b q)⟩,zhc.eq rfl rfl rfl (by first|exact Nat.le_refl _|exact Nat.le_succ _)⟩ (hk X a w (he.2 X a w hs))
inductive SubB (t:Fr):Fr→Prop where
 |nil:SubB t []
 |cons (i:Nat) (a b:AV) (r:Fr):lk t i=some b→Sb b a→SubB t r→SubB t ((i,a)::r)
theorem ym7 (n:Nat) (a:AV):zhb h a (h.drop n) a:=by
 have:=zhb.drop (h.take n) (h.drop n) a
 rwa [List.take_append_drop] at this
theorem rq (n:Nat) {rs:List ResultVar} {R:AV→List Res→Prop} {av:List AV} (hR:R (zf1 av) (h.drop n)) (hr:RVs P t h rs av:=by first|exact .cons _ _ _ _ (.tmp _ _ rfl) .nil|exact .cons _ _ _ _ (.tmp _ _ rfl) (.cons _ _ _ _ (.tmp _ _ rfl) .nil)|exact .cons _ _ _ _ (.tmp _ _ rfl) (.cons _ _ _ _ (.tmp _ _ rfl) (.cons _ _ _ _ (.tmp _ _ rfl) .nil))|exact .cons _ _ _ _ (.tmp _ _ rfl) (.cons _ _ _ _ (.tmp _ _ rfl) (.cons _ _ _ _ (.tmp _ _ rfl) (.cons _ _ _ _ (.tmp _ _ rfl) .nil)))):yiv P rs R .ret ⟨t,h,[]⟩:=
 zdy hr (ym7 n _) hR
theorem fin {p:Prop} (hp:p:=by first|(simp only [*,Bool.true_and,Bool.false_and,Bool.and_false,Bool.and_true,Bool.true_or,Bool.or_false,Bool.false_or,Bool.or_true,if_true,if_false,Bool.false_eq_true,Bool.not_true,Bool.not_false];done)|(simp_all;done)|(simp_all <;> omega)):p:=hp
theorem eA (hs:Ent nt ⟨t,h,ds⟩ ⟨t',h',ds⟩:=by first|exact ed 0|exact ed 1|exact ed 2|exact ed 3|exact ed 4|exact ed 5|exact ed 6):Ent nt ⟨t,h,ds⟩ ⟨t',h',ds⟩:=hs
theorem zz1 (n:Nat) (p:Nat→Prop) (v:Nat→Fr) (cs:Fr) (hp:p 0)
 (round:∀k,k≤n→p k→aw P ro nt c (thn (fun s'=>k < n∧p (k+1)∧Ent nt s' ⟨v (k+1)++cs,h,ds⟩) Q) ⟨v k++cs,h,ds⟩)
 (hs:SubF t (v 0++cs):=by repeat (first|exact .nil|refine .cons _ _ _ rfl ?_)):aw P ro nt (.loop c) Q ⟨t,h,ds⟩:=
 zak (fun k=>k≤n∧p k) (fun k=>⟨v k++cs,h,ds⟩) (fun k=>n - k) 0 ⟨Nat.zero_le _,hp⟩ (u0 hs) fun k hk=>zho (fun e s' hq=>by
  cases e with
  |normal=>exact ⟨k+1,⟨hq.1,hq.2.1⟩,hq.2.2,by have:=hq.1;omega⟩
  |_=>exact hq) (round k hk.1 hk.2)
theorem zcv (n:Nat) (p:Nat→Prop) (inv:Nat→St) (hp:p 0) (h0:Ent nt ⟨t,h,ds⟩ (inv 0))
 (round:∀k,k≤n→p k→aw P ro nt c (thn (fun s'=>k < n∧p (k+1)∧Ent nt s' (inv (k+1))) Q) (inv k)):aw P ro nt (.loop c) Q ⟨t,h,ds⟩:=
 zak (fun k=>k≤n∧p k) inv (fun k=>n - k) 0 ⟨Nat.zero_le _,hp⟩ h0 fun k hk=>zho (fun e s' hq=>by
  cases e with
  |normal=>exact ⟨k+1,⟨hq.1,hq.2.1⟩,hq.2.2,by have:=hq.1;omega⟩
  |_=>exact hq) (round k hk.1 hk.2)
theorem zl6 (n:Nat) (inv:Nat→SV→St) (a:SV) (h0:Ent nt ⟨t,h,ds⟩ (inv 0 a))
 (round:∀k a,k≤n→aw P ro nt c (thn (fun s'=>k < n∧∃a,Ent nt s' (inv (k+1) a)) Q) (inv k a)):aw P ro nt (.loop c) Q ⟨t,h,ds⟩:=
 zak (fun x:Nat×SV=>x.1≤n) (fun x=>inv x.1 x.2) (fun x=>n - x.1) (0,a) (Nat.zero_le _) h0 fun x hx=>zho (fun e s' hq=>by
  cases e with
  |normal=>
   obtain ⟨h1,a',h2⟩:=hq
   exact ⟨(x.1+1,a'),h1,h2,by simp only;omega⟩
  |_=>exact hq) (round x.1 x.2 hx)
theorem zor {σ:Type} (p:σ→Prop) (inv:σ→St) (μ:σ→Nat) (x0:σ) (hp:p x0) (h0:Ent nt ⟨t,h,ds⟩ (inv x0))
 (round:∀x,p x→aw P ro nt c (thn (fun s'=>∃x',p x'∧Ent nt s' (inv x')∧μ x' < μ x) Q) (inv x)):aw P ro nt (.loop c) Q ⟨t,h,ds⟩:=
 zak p inv μ x0 hp h0 round
end
theorem zga {P:Program} {fv:AV} {args:List AV} {s:Value} {i sz:Nat} {T:TypeId} {rows rows':List (List AV)} {h:List Res} {h':Res→List Res} [hr:HasRow h s i sz T rows] [hset:∀y,SetAt h i y (h' y)]
 (hc:z8 P fv args [.row s sz T rows] (fun r h2=>∃s':SV,h2= [.row s'.v sz T rows']∧r= .v s'.v)):z8 P fv args h (fun r h2=>∃s':SV,h2=h' (.row s'.v sz T rows')∧r= .v s'.v):=by
 have hi:i < h.length:=(List.getElem?_eq_some_iff.1 hr.h).1
 have hp:=zkg hr.h
 refine (z8.perm hp (z8.permR ((z8.frame (h.eraseIdx i) hc).mono ?_)))
 rintro av h2 ⟨h1',rfl,s',rfl,rfl⟩
 refine ⟨h' (.row s'.v sz T rows'),?_,s',rfl,rfl⟩
 rw [←(hset (.row s'.v sz T rows')).h]
 exact (zj5 hi).symm
theorem ze5 {P:Program} {fv r0:AV} {args:List AV} {s:Value} {i sz:Nat} {T:TypeId} {rows rows':List (List AV)} {h:List Res} {h':Res→List Res} [hr:HasRow h s i sz T rows] [hset:∀y,SetAt h i y (h' y)]
 (hc:z8 P fv args [.row s sz T rows] (fun r h2=>h2= [.row s sz T rows']∧r=r0)):z8 P fv args h (fun r h2=>h2=h' (.row s sz T rows')∧r=r0):=by
 have hi:i < h.length:=(List.getElem?_eq_some_iff.1 hr.h).1
 have hp:=zkg hr.h
 refine (z8.perm hp (z8.permR ((z8.frame (h.eraseIdx i) hc).mono ?_)))
 rintro av h2 ⟨h1',rfl,rfl,rfl⟩
 refine ⟨h' (.row s sz T rows'),?_,rfl,rfl⟩
 rw [←(hset (.row s sz T rows')).h]
 exact (zj5 hi).symm
section
variable {P:Program} {h:List Res} {f:Operand→Option AV} {dst:Option Tmp} {ty:TypeId} {pos:String} {after:Array Edge} {g:Option (Nat×Bool)} {x y:Operand}
theorem za7 {T E:TypeId} {full:Bool} {sz:Nat} {i:Int} {rows:List (List AV)} {row:List AV} (hx:f x=some (.list full sz rows)) (hy:f y=some (.v (.int .i64 i))) [Und P T (.slice E)] [Siz P E sz] (h0:0≤i)
 (hi:rows[i.toNat]? =some row):QR P h f ⟨dst,.indexAddr T x y,ty,pos,after,g⟩ (.pp row):=zan (i:=i.toNat) hx (by rw [Int.toNat_of_nonneg h0];exact hy) hi
end
theorem zcb {A:Type} {f:A→List AV} {l:List A} {k:Nat} (hk:k < l.length):(l.map f)[k]? =some (f l[k]):=by simp [hk]
theorem zef {A B:Type} {f:A→B} {l:List A} {k:Nat} (h:decide ((k:Int) < ((l.map f).length:Nat))=true):k < l.length:=by simpa using h
theorem zeh {A B:Type} {f:A→B} {l:List A} {k:Nat} (h:decide ((k:Int) < ((l.map f).length:Nat))=false) (hk:k≤l.length):k=l.length:=by
 have:l.length≤k:=by simpa using h
 omega
section
variable {A:Type} {f:A→A} {R:A→List AV} {l:List A} {k:Nat}
end
def zwe (s:Value) (sz:Nat):Value:=match s with
 | .slice a n _=>sliced a 0 n n sz
 |v=>v
theorem zzk (a:Addr) (n sz:Nat):(if n=0 then some a else (some a).map (fun x:Addr=>x.add (0 * sz)))=some a:=by
 split
 ·rfl
 ·simp [Addr.add]
theorem zqh (a:Addr) (n c sz:Nat):zwe (.slice (some a) n c) sz= .slice (some a) n n:=by
 unfold zwe
 simp only [sliced]
 rw [zzk,Nat.sub_zero]
theorem zqi (n c sz:Nat):zwe (.slice none n c) sz= .slice none n n:=by
 unfold zwe
 simp [sliced]
theorem zzj (s:Value) (sz:Nat) (T:TypeId) (rows:List (List AV)):(Res.row (zwe s sz) sz T rows).own=(Res.row s sz T rows).own:=by
 cases s with
 |slice a n c=>
  cases a with
  |none=>rw [zqi];rfl
  |some a=>rw [zqh];rfl
 |_=>rfl
theorem cut_holds {w:World} {O:Nat→Prop} {s:Value} {sz:Nat} {T:TypeId} {rows:List (List AV)} (h:(Res.row s sz T rows).holds w O):(Res.row (zwe s sz) sz T rows).holds w O:=by
 cases s with
 |slice a n c=>
  cases a with
  |none=>
   obtain ⟨h1,h2,h3⟩:=h
   rw [zqi];exact ⟨h1,h2,h2⟩
  |some a=>
   obtain ⟨h1,h2,h3,h4,cc,h5,h6,h7⟩:=h
   rw [zqh]
   exact ⟨h1,h2,Nat.le_refl _,h4,cc,h5,Nat.le_trans (Nat.add_le_add_left (Nat.mul_le_mul_right _ h3) _) h6,h7⟩
 |_=>exact h
theorem HRel.cut {X:Nat→Prop} {w:World} {h:List Res} {i:Nat} {s:Value} {sz:Nat} {T:TypeId} {rows:List (List AV)} (hh:HRel X w h) (hi:h[i]? =some (.row s sz T rows)):HRel X w (h.set i (.row (zwe s sz) sz T rows)):=by
 have ho:u9 (h.set i (.row (zwe s sz) sz T rows))=u9 h:=by
  unfold u9
  rw [List.flatMap_def,List.flatMap_def,List.map_set,zzj]
  congr 1
  obtain ⟨hl,e⟩:=List.getElem?_eq_some_iff.1 hi
  refine List.ext_getElem (by simp) fun j h1 h2=> ?_
  rw [List.getElem_set]
  split
  ·rename_i e2;subst e2;rw [List.getElem_map,e]
  ·rfl
 have hO:OO (h.set i (.row (zwe s sz) sz T rows)) X=OO h X:=by unfold OO;rw [ho]
 refine ⟨by rw [ho];exact hh.nodup,by rw [ho];exact hh.lt,hh.xlt,fun r hr=> ?_⟩
 rw [hO]
 rcases List.mem_or_eq_of_mem_set hr with h1|h1
 ·exact hh.holds r h1
 ·rw [h1];exact cut_holds (hh.holds _ (List.mem_of_getElem? hi))
section
variable {P:Program} {ro:Option Nat} {nt:Nat} {h:List Res} {f:Operand→Option AV} {dst:Option Tmp} {ty:TypeId} {pos:String} {after:Array Edge} {guard:Option (Nat×Bool)} {x y z:Operand}
theorem zm2 {T E:TypeId} {s:Value} {sz i:Nat} {E':TypeId} {rows:List (List AV)} (hx:f x=some (.v s)) [hr:HasRow h s i sz E' rows] (hy:f y=some (.v (.int .i64 rows.length))) (hz:f z=some (.v (.int .i64 rows.length)))
 [Und P T (.slice E)] [Siz P E sz]:QR P h f ⟨dst,.slice T x none (some y) (some z),ty,pos,after,guard⟩ (.v (zwe s sz)):=fun X ρ w he=>by
 obtain ⟨a,cap,es,hcap,_⟩:=zhw he.heap hr.h
 obtain ⟨e1,e2⟩:=zgl (P:=P) (T:=T) (E:=E)
 have hv:=(he.rel x _ hx).v_eq
 refine ⟨zwe s sz,run_v _ ?_,.v _⟩
 simp only [Option.map_none,Option.map_some]
 rw [run_sliceAt_slice w T _ _ _ _ e2,hv,(he.rel y _ hy).v_eq,(he.rel z _ hz).v_eq,es,run_slice_hm w T a _ cap e2 .i64 .i64 rows.length rows.length (by omega) (by omega) (by omega),e1]
 simp only [run_sizeOf (n:=sz),Result.andThen_ok,Int.toNat_natCast]
 rfl
theorem zur {ops:Array Oper} {l:List Oper} {Q:Exit→St→Prop} {t:Fr} {h h':List Res} {ds:List Nat} (s:Value) {i sz:Nat} {T:TypeId} {rows:List (List AV)} [hr:HasRow h s i sz T rows] [hset:SetAt h i (.row (zwe s sz) sz T rows) h']
 (k:zb7 P ro nt ops l Q ⟨t,h',ds⟩):zb7 P ro nt ops l Q ⟨t,h,ds⟩:=by
 refine zgv (s':=⟨t,h',ds⟩) ?_ k
 have ho:u9 h'=u9 h:=by
  rw [←hset.h]
  unfold u9
  rw [List.flatMap_def,List.flatMap_def,List.map_set,zzj]
  congr 1
  obtain ⟨hl,e⟩:=List.getElem?_eq_some_iff.1 hr.h
  refine List.ext_getElem (by simp) fun j h1 h2=> ?_
  rw [List.getElem_set]
  split
  ·rename_i e2;subst e2;rw [List.getElem_map,e]
  ·rfl
 refine ⟨fun b hb=>by rw [←ho];exact hb,fun X a w hs=>⟨by rw [←hset.h];exact hs.heap.cut hr.h,hs.size,?_,hs.defs⟩⟩
 have:OO h' X=OO h X:=by unfold OO;rw [ho]
 show zem w (OO h' X) t a.tmps
 rw [this];exact hs.fr
end
theorem zu4 {P:Program} {w:World} {O:Nat→Prop} {full:Bool} {sz n:Nat} {rows:List (List AV)} {v:Value} (hr:Rel w O (.list full sz rows) v) (hn:n≤rows.length):
 ∃c:Array Value,(∀w':World,w'.heap=w.heap→(Builtin.firstCells sz n v).run P w'= .ok c w')∧c.size=n * sz∧(∀i (hi:i < n) j (hj:j < (rows[i]'(by omega)).length),∃u,c[i * sz+j]? =some u∧Rel w O (rows[i]'(by omega))[j] u)∧∀i (hi:i < n),(rows[i]'(by omega)).length=sz:=by
 cases hr with
 |lnil _ _ a cap h=>
  obtain rfl:n=0:=by simpa using hn
  refine ⟨#[],fun w' _=> ?_,by simp,fun i hi=>absurd hi (Nat.not_lt_zero i),fun i hi=>absurd hi (Nat.not_lt_zero i)⟩
  cases a with
  |none=>rfl
  |some a=>simp only [Builtin.firstCells,Nat.zero_mul];rfl
 |list _ _ _ b off cap g h1 h2 h3 h4 h5 h6 h7=>
  have hcell:∀k,k < n * sz→w.cell? ⟨b,off+k,none⟩=some ((w.cell? ⟨b,off+k,none⟩).getD undef):=fun k hk=>by
   have hsz:0 < sz:=by
    rcases Nat.eq_zero_or_pos sz with h|h
    ·subst h;simp at hk
    ·exact h
   have hi:k / sz < n:=(Nat.div_lt_iff_lt_mul hsz).2 hk
   have hi':k / sz < rows.length:=by omega
   have hj:k % sz < rows[k / sz].length:=by rw [h5 _ hi'];exact Nat.mod_lt _ hsz
   have e:=h6 _ hi' _ hj
   have ek:off+k / sz * sz+k % sz=off+k:=by have:=Nat.div_add_mod k sz;rw [Nat.mul_comm] at this;omega
   rw [ek] at e
   rw [e];rfl
  refine ⟨((List.range (n * sz)).map fun k=>(w.cell? ⟨b,off+k,none⟩).getD undef).toArray,fun w' hw'=> ?_,by simp,fun i hi j hj=>⟨g i j,?_,h7 i (by omega) j hj⟩,fun i hi=>h5 i (by omega)⟩
  ·simp only [Builtin.firstCells]
   exact run_loadCells w' _ _ _ fun k hk=>by rw [zav,ze9 (show w'.heap[b]? =w.heap[b]? by rw [hw'])];exact hcell k hk
  ·have hj':j < sz:=by rw [←h5 i (by omega)];exact hj
   have hlt:i * sz+j < n * sz:=by
    have:(i+1) * sz≤n * sz:=Nat.mul_le_mul_right _ hi
    rw [Nat.add_mul] at this;omega
   have e:=h6 i (by omega) j hj
   rw [Nat.add_assoc] at e
   simp [hlt,e]
section
variable {P:Program} {ro:Option Nat} {nt:Nat} {dst:Option Tmp} {ty:TypeId} {pos:String} {after:Array Edge} {guard:Option (Nat×Bool)} {x y:Operand}
end
def zk8 (s:Value) (lo hi sz:Nat):Value:=match s with
 | .slice a _ c=>sliced a lo hi c sz
 |v=>v
section
variable {P:Program} {ro:Option Nat} {nt:Nat} {h:List Res} {f:Operand→Option AV} {dst:Option Tmp} {ty:TypeId} {pos:String} {after:Array Edge} {guard:Option (Nat×Bool)} {x y z:Operand}
end
section
variable {P:Program} {ro:Option Nat} {nt:Nat} {dst:Option Tmp} {ty:TypeId} {pos:String} {after:Array Edge} {guard:Option (Nat×Bool)} {x y:Operand}
theorem zpv {T T2 E sz i d hi:Nat} {s:Value} {rows ys:List (List AV)} {t:Fr} {h h':List Res} {ds:List Nat} {dt:Tmp} {next:St→Prop} (hx:ev t x=some (.v (zk8 s d hi sz))) [hrow:HasRow h s i sz E rows]
 [Und P T (.slice E)] [Siz P E sz] (hdh:d≤hi) (hhi:hi≤rows.length)
 (hsrc:∀X a w,Sim X nt ⟨t,h,ds⟩ a w→∃c2 m,(∀w':World,w'.heap=w.heap→(Builtin.lenOf (a.eval y)).run P w'= .ok m w')∧Nat.min m (hi - d)=ys.length∧(∀w':World,w'.heap=w.heap→(Builtin.firstCells sz ys.length (a.eval y)).run P w'= .ok c2 w')∧c2.size=ys.length * sz∧
  (∀i (hi:i < ys.length) j (hj:j < ys[i].length),∃u,c2[i * sz+j]? =some u∧Rel w (OO h X) ys[i][j] u)∧∀i (hi:i < ys.length),ys[i].length=sz)
 (hd:dok nt (some dt)=true) [hset:SetAt h i (.row s sz E (rows.take d++(ys++rows.drop (d+ys.length)))) h'] (hk:next ⟨(dt,.v (.int .i64 ys.length))::t,h',ds⟩) (hone:∀r∈ys,r.all AV.one=true):
 OE P ro nt ⟨some dt,.call ⟨.builtin .copy,[x,y].toArray,[T,T2].toArray⟩,ty,pos,after,guard⟩ ⟨t,h,ds⟩ next:=by
 intro X a w K Q hs hK
 have ex:=(hs.env.rel x _ hx).v_eq
 have hx0:=hs.heap.holds _ (List.mem_of_getElem? hrow.h)
 obtain ⟨ax,cap,es,hcap,hsz,_⟩:=zhw hs.heap hrow.h
 obtain ⟨c2,m,l2,hmin,e2,s2,g2,hlx2⟩:=hsrc X a w hs
 have hcnt:d+ys.length≤hi:=by have:ys.length≤hi - d:=hmin ▸ Nat.min_le_right m (hi - d);omega
 have hrun:(execOp a.eval ⟨some dt,.call ⟨.builtin .copy,[x,y].toArray,[T,T2].toArray⟩,ty,pos,after,guard⟩).run P w=((Builtin.copy_ [T,T2].toArray ty [zk8 s d hi sz,a.eval y].toArray).run P w).andThen fun v w=> .ok (.value v) w:=by
  simp only [execOp,resolve,List.map_toArray,List.map_cons,List.map_nil,Sem.run_bind,Sem.run_pure,Result.andThen_ok,invoke,builtin,ex]
 refine ⟨zab,?_⟩
 rw [za3 rfl,hrun]
 have hsub:∀q c,(Builtin.copy_ [T,T2].toArray ty [.slice q (hi - d) c,a.eval y].toArray).run P w=(((match q with|some a=>storeCells a c2.toList|none=>pure ()):Sem Unit).run P w).andThen fun _ w=> .ok (goInt ys.length) w:=by
  intro q c
  simp only [Builtin.copy_,List.getElem?_toArray,List.getElem?_cons_zero,List.getElem?_cons_succ,Sem.run_bind,run_underlying (d:=TypeDesc.slice E),run_sizeOf (n:=sz),Result.andThen_ok,Sem.run_pure,l2 w rfl,hmin,e2 w rfl]
  cases q with
  |none=>rfl
  |some a2=>simp only [Sem.run_bind,Sem.run_pure]
 by_cases h0:ys.length=0
 ·obtain rfl:ys= []:=List.eq_nil_of_length_eq_zero h0
  have hc0:c2= #[]:=by simpa using s2
  have he:h'=h:=by
   rw [←hset.h]
   obtain ⟨hlt,e⟩:=List.getElem?_eq_some_iff.1 hrow.h
   rw [List.nil_append,List.length_nil,Nat.add_zero,List.take_append_drop,←e,List.set_getElem_self]
  rw [es]
  simp only [zk8,sliced]
  rw [hsub,hc0]
  have:∀q:Option Addr,(((match q with|some a=>storeCells a (#[]:Array Value).toList|none=>pure ()):Sem Unit).run P w)= .ok () w:=fun q=>by cases q <;> rfl
  rw [this]
  simp only [Result.andThen_ok,Oper.uponIn]
  refine hK _ _ _ hk ?_ (by rw [he];exact .refl _ _)
  have hsim:Sim X nt ⟨t,h',ds⟩ a w:=by rw [he];exact hs
  exact hsim.put (av:= .v _) hd (.v _)
 ·cases ax with
  |none=>
   rw [es] at hx0
   obtain ⟨q0,_⟩:=hx0
   rw [q0] at hhi
   simp only [List.length_nil] at hhi
   omega
  |some addr=>
  rw [es] at hx0
  obtain ⟨m1,_,m3,m4,c0,m5,m6,m7⟩:=hx0
  obtain ⟨b,off,spot⟩:=addr
  simp only at m1 m5 m6 m7
  subst m1
  have ep:zk8 s d hi sz= .slice (some ⟨b,off+d * sz,none⟩) (hi - d) (cap - d):=by
   rw [es];simp only [zk8,sliced];rw [if_neg (by omega)];simp only [Option.map_some,zav]
  have hcs:∀v∈c2.toList,v.oneCell'=true:=by
   intro v hv
   obtain ⟨k,hk1,hk2⟩:=List.mem_iff_getElem.1 hv
   have hk3:k < ys.length * sz:=by rw [←s2];simpa using hk1
   have hsz0:0 < sz:=by
    rcases Nat.eq_zero_or_pos sz with h|h
    ·subst h;simp at hk3
    ·exact h
   have hi:k / sz < ys.length:=(Nat.div_lt_iff_lt_mul hsz0).2 hk3
   have hj:k % sz < ys[k / sz].length:=by rw [hlx2 _ hi];exact Nat.mod_lt _ hsz0
   obtain ⟨u,e,r⟩:=g2 _ hi _ hj
   have ek:k / sz * sz+k % sz=k:=by have:=Nat.div_add_mod k sz;rw [Nat.mul_comm] at this;exact this
   rw [ek] at e
   have:u=v:=by
    have h2:c2[k]? =some v:=by rw [←hk2];simp [show k < c2.size by rw [s2];exact hk3]
    exact Option.some.inj (e.symm.trans h2)
   subst this
   exact r.one (List.all_eq_true.1 (hone _ (List.getElem_mem hi)) _ (List.getElem_mem hj))
  have hmul:(d+ys.length) * sz≤cap * sz:=Nat.mul_le_mul_right _ (by omega)
  rw [Nat.add_mul] at hmul
  obtain ⟨w',f1,f2,f3,c',f4,f5,f6,ev⟩:=zb8 (P:=P) c2.toList (off+d * sz) 0 w c0 hcs m5 (by simp [s2];omega)
  rw [ep,hsub]
  simp only
  rw [f1]
  simp only [Result.andThen_ok,Oper.uponIn]
  have hbown:b∈(Res.row s sz E rows).own:=by rw [es];simp [Res.own]
  have hkk:∀b',¬OO h X b'→b' < w.heap.size→w'.heap[b']? =w.heap[b']? ∧¬OO h X b':=fun b' hb' _=>⟨f3 b' (fun he=>hb' (.inl (j9.2 ⟨_,List.mem_of_getElem? hrow.h,he ▸ hbown⟩))),hb'⟩
  have hoth:∀b',b' < w.heap.size→b' ∉ (Res.row s sz E rows).own→w'.heap[b']? =w.heap[b']? :=fun b' _ hne=>f3 b' fun he=>hne (he ▸ hbown)
  have hown:(Res.row s sz E (rows.take d++(ys++rows.drop (d+ys.length)))).own=(Res.row s sz E rows).own:=by rw [es];rfl
  have hlen:(rows.take d++(ys++rows.drop (d+ys.length))).length=rows.length:=by simp;omega
  have hlow:∀k (hk:k < (rows.take d++(ys++rows.drop (d+ys.length))).length) (h:k < d∨d+ys.length≤k),(rows.take d++(ys++rows.drop (d+ys.length)))[k]=rows[k]'(by omega):=fun k hk h=>by
   rcases h with h|h
   ·rw [List.getElem_append_left (by simp;omega)];simp
   ·rw [List.getElem_append_right (by simp;omega),List.getElem_append_right (by simp;omega),List.getElem_drop];congr 1;simp;omega
  have hmid:∀k (hk:k < (rows.take d++(ys++rows.drop (d+ys.length))).length) (h1:d≤k) (h2:k < d+ys.length),(rows.take d++(ys++rows.drop (d+ys.length)))[k]=ys[k - d]'(by omega):=fun k hk h1 h2=>by
   rw [List.getElem_append_right (by simp;omega),List.getElem_append_left (by simp;omega)];congr 1;simp;omega
  have hholds:(Res.row s sz E (rows.take d++(ys++rows.drop (d+ys.length)))).holds w' (OO h X):=by
   rw [es]
   refine ⟨rfl,hlen.symm,hcap,fun k hk=> ?_,c',f4,by rw [f5];exact m6,fun k hk j hj=> ?_⟩
   ·by_cases h:d≤k∧k < d+ys.length
    ·rw [hmid k hk h.1 h.2];exact hlx2 _ (by omega)
    ·rw [hlow k hk (by omega)];exact hsz _ (by omega)
   ·have hk':k < rows.length:=by rw [←hlen];exact hk
    by_cases h:d≤k∧k < d+ys.length
    ·simp only [hmid k hk h.1 h.2] at hj ⊢
     obtain ⟨u,e,r⟩:=g2 (k - d) (by omega) j hj
     have hj':j < sz:=by rw [←hlx2 (k - d) (by omega)];exact hj
     have q1:(k - d+1) * sz≤ys.length * sz:=Nat.mul_le_mul_right _ (by omega)
     rw [Nat.add_mul] at q1
     have q2:k * sz=d * sz+(k - d) * sz:=by rw [←Nat.add_mul];congr 1;omega
     refine ⟨u,?_,r.keep (by omega) hkk⟩
     show c'[off+k * sz+j]? =some u
     rw [f6,if_pos (by simp;omega),show off+k * sz+j - (off+d * sz+0)=(k - d) * sz+j by omega]
     simpa using e
    ·simp only [hlow k hk (by omega)] at hj ⊢
     obtain ⟨u,e,r⟩:=m7 k hk' j hj
     have hj':j < sz:=by rw [←hsz k hk'];exact hj
     refine ⟨u,?_,r.keep (by omega) hkk⟩
     show c'[off+k * sz+j]? =some u
     rw [f6,if_neg ?_]
     ·exact e
     ·simp only [Array.length_toList,s2]
      rcases Nat.lt_or_ge k d with q|q
      ·have:(k+1) * sz≤d * sz:=Nat.mul_le_mul_right _ q
       rw [Nat.add_mul] at this;omega
      ·have:(d+ys.length) * sz≤k * sz:=Nat.mul_le_mul_right _ (by omega)
       rw [Nat.add_mul] at this;omega
  refine hK _ _ _ hk ?_ (by rw [←hset.h];exact Keep.set hrow.h hown (by omega) hoth ev)
  have hO:OO h' X=OO h X:=by funext b';rw [←hset.h];simp only [OO,zcu hrow.h hown]
  have hsim:Sim X nt ⟨t,h',ds⟩ a w':=⟨by rw [←hset.h];exact hs.heap.set hrow.h hown (by omega) hoth hholds,hs.size,by rw [hO];exact hs.fr.keep (by omega) hkk,hs.defs⟩
  exact hsim.put (av:= .v _) hd (.v _)
theorem zvj {T T2 E sz i d hi n:Nat} {full:Bool} {s:Value} {rows zs:List (List AV)} {t:Fr} {h h':List Res} {ds:List Nat} {dt:Tmp} {next:St→Prop} (hx:ev t x=some (.v (zk8 s d hi sz))) (hy:ev t y=some (.list full sz zs)) [hrow:HasRow h s i sz E rows]
 [Und P T (.slice E)] [Siz P E sz] (hdh:d≤hi) (hhi:hi≤rows.length) (hn:min zs.length (hi - d)=n)
 (hd:dok nt (some dt)=true) [hset:SetAt h i (.row s sz E (rows.take d++(zs.take n++rows.drop (d+(zs.take n).length)))) h'] (hk:next ⟨(dt,.v (.int .i64 (zs.take n).length))::t,h',ds⟩) (hone:∀r∈zs,r.all AV.one=true):
 OE P ro nt ⟨some dt,.call ⟨.builtin .copy,[x,y].toArray,[T,T2].toArray⟩,ty,pos,after,guard⟩ ⟨t,h,ds⟩ next:=by
 have hnl:n≤zs.length:=by omega
 have hl:(zs.take n).length=n:=by simp;omega
 refine zpv hx hdh hhi (fun X a w hs=> ?_) hd hk (fun r hr=>hone r (List.mem_of_mem_take hr))
 have ry:=hs.env.rel y _ hy
 obtain ⟨c2,e2,s2,g2,l2⟩:=zu4 (P:=P) ry hnl
 obtain ⟨q,cap,e,_⟩:=zc6 ry
 refine ⟨c2,zs.length,fun w' _=>by rw [e];rfl,by rw [hl];exact hn,by rw [hl];exact e2,by rw [hl];exact s2,fun k hk j hj=> ?_,fun k hk=> ?_⟩
 ·have hk':k < n:=by rw [hl] at hk;exact hk
  simp only [List.getElem_take] at hj ⊢
  exact g2 k hk' j hj
 ·rw [List.getElem_take];exact l2 k (by rw [hl] at hk;exact hk)
end
def yi7 (b n:Nat):Value:= .slice (some ⟨b,0,none⟩) n n
theorem box_holds {w:World} {O:Nat→Prop} {b:Nat} {T:TypeId} {cells:List AV} (h:(Res.box b T cells).holds w O):(Res.row (yi7 b cells.length) 1 T (cells.map fun a=> [a])).holds w O:=by
 obtain ⟨c,h1,h2,h3⟩:=h
 refine ⟨rfl,by simp,Nat.le_refl _,fun i hi=>by simp,c,h1,by simp only;omega,fun i hi j hj=> ?_⟩
 simp only [List.getElem_map,List.length_singleton] at hj ⊢
 obtain rfl:j=0:=by omega
 have hi':i < cells.length:=by simpa using hi
 refine ⟨c[i]'(by omega),?_,?_⟩
 ·simp only [Nat.zero_add,Nat.mul_one,Nat.add_zero]
  exact Array.getElem?_eq_getElem (by omega)
 ·exact h3 i hi' (by omega)
theorem HRel.setOwn {X:Nat→Prop} {w:World} {h:List Res} {i:Nat} {r r':Res} (hh:HRel X w h) (hi:h[i]? =some r) (ho:r'.own=r.own) (hc:∀O,r.holds w O→r'.holds w O):HRel X w (h.set i r')∧u9 (h.set i r')=u9 h:=by
 have ho':u9 (h.set i r')=u9 h:=by
  unfold u9
  rw [List.flatMap_def,List.flatMap_def,List.map_set,ho]
  congr 1
  obtain ⟨hl,e⟩:=List.getElem?_eq_some_iff.1 hi
  refine List.ext_getElem (by simp) fun j h1 h2=> ?_
  rw [List.getElem_set]
  split
  ·rename_i e2;subst e2;rw [List.getElem_map,e]
  ·rfl
 have hO:OO (h.set i r') X=OO h X:=by unfold OO;rw [ho']
 refine ⟨⟨by rw [ho'];exact hh.nodup,by rw [ho'];exact hh.lt,hh.xlt,fun r2 hr=> ?_⟩,ho'⟩
 rw [hO]
 rcases List.mem_or_eq_of_mem_set hr with h1|h1
 ·exact hh.holds r2 h1
 ·rw [h1];exact hc _ (hh.holds _ (List.mem_of_getElem? hi))
section
variable {P:Program} {ro:Option Nat} {nt:Nat} {h:List Res} {f:Operand→Option AV} {dst:Option Tmp} {ty:TypeId} {pos:String} {after:Array Edge} {guard:Option (Nat×Bool)} {x y z:Operand}
theorem zz7 {ops:Array Oper} {l:List Oper} {Q:Exit→St→Prop} {t:Fr} {h h':List Res} {ds:List Nat} {i:Nat} {r r':Res} (hi:h[i]? =some r) (ho:r'.own=r.own) (hc:∀w O,r.holds w O→r'.holds w O) (hset:h.set i r'=h')
 (k:zb7 P ro nt ops l Q ⟨t,h',ds⟩):zb7 P ro nt ops l Q ⟨t,h,ds⟩:=by
 refine zgv (s':=⟨t,h',ds⟩) ?_ k
 refine ⟨fun b hb=> ?_,fun X a w hs=> ?_⟩
 ·have:u9 h'=u9 h:=by
   rw [←hset]
   unfold u9
   rw [List.flatMap_def,List.flatMap_def,List.map_set,ho]
   congr 1
   obtain ⟨hl,e⟩:=List.getElem?_eq_some_iff.1 hi
   refine List.ext_getElem (by simp) fun j h1 h2=> ?_
   rw [List.getElem_set]
   split
   ·rename_i e2;subst e2;rw [List.getElem_map,e]
   ·rfl
  rw [←this];exact hb
 ·obtain ⟨q1,q2⟩:=hs.heap.setOwn hi ho (hc w)
  rw [hset] at q1 q2
  refine ⟨q1,hs.size,?_,hs.defs⟩
  have:OO h' X=OO h X:=by unfold OO;rw [q2]
  show zem w (OO h' X) t a.tmps
  rw [this];exact hs.fr
theorem zus {ops:Array Oper} {l:List Oper} {Q:Exit→St→Prop} {t:Fr} {h h':List Res} {ds:List Nat} (b:Nat) {i:Nat} {T:TypeId} {cells:List AV} [hb:HasBox h b i T cells] [hset:SetAt h i (.row (yi7 b cells.length) 1 T (cells.map fun a=> [a])) h']
 (k:zb7 P ro nt ops l Q ⟨t,h',ds⟩):zb7 P ro nt ops l Q ⟨t,h,ds⟩:=zz7 hb.h (by rfl) (fun _ _ q=>box_holds q) hset.h k
theorem zjg {T E:TypeId} {b n sz:Nat} (hx:f x=some (pZ b)) [hu:Und P T (.array n E)] [Siz P E sz]:
 QR P h f ⟨dst,.slice T x none none none,ty,pos,after,guard⟩ (.v (yi7 b n)):=fun X ρ w he=>by
 refine ⟨yi7 b n,run_v _ ?_,.v _⟩
 rw [(he.rel x _ hx).v_eq]
 simp only [Option.map_none,Instr.sliceAt,Sem.run_bind,run_underlying (d:=TypeDesc.array n E),Result.andThen_ok,Instr.sureAddr,Sem.run_pure,Instr.sliceBounds,run_sizeOf (n:=sz),Nat.sub_zero,Nat.zero_mul,zav,Nat.add_zero,ite_self]
 rfl
theorem ykk (a:Addr) (n c k sz:Nat):zk8 (.slice (some a) n c) 0 k sz= .slice (some a) k c:=by
 unfold zk8
 simp only [sliced]
 rw [zzk];simp
end
theorem yb6 (a:Option Addr) (n c sz:Nat):zk8 (.slice a n c) 0 n sz= .slice a n c:=by
 cases a with
 |none=>simp [zk8,sliced]
 |some a=>exact ykk a n c n sz
section
variable {P:Program} {ro:Option Nat} {nt:Nat} {ty:TypeId} {pos:String} {after:Array Edge} {guard:Option (Nat×Bool)} {x y:Operand}
theorem zvk {T T2 E sz i:Nat} (n:Nat) {full:Bool} {s:Value} {rows zs:List (List AV)} {t:Fr} {h h':List Res} {ds:List Nat} {dt:Tmp} {next:St→Prop} (hx:ev t x=some (.v s)) (hy:ev t y=some (.list full sz zs)) [hrow:HasRow h s i sz E rows]
 [Und P T (.slice E)] [Siz P E sz] (hn:min zs.length rows.length=n)
 (hd:dok nt (some dt)=true) [hset:SetAt h i (.row s sz E (zs.take n++rows.drop n)) h'] (hk:next ⟨(dt,.v (.int .i64 n))::t,h',ds⟩) (hone:∀r∈zs,r.all AV.one=true):
 OE P ro nt ⟨some dt,.call ⟨.builtin .copy,[x,y].toArray,[T,T2].toArray⟩,ty,pos,after,guard⟩ ⟨t,h,ds⟩ next:=by
 intro X a w K Q hs hK
 obtain ⟨ax,cap,es,_⟩:=zhw hs.heap hrow.h
 have hp:zk8 s 0 rows.length sz=s:=by rw [es];exact yb6 _ _ _ _
 have hl:(zs.take n).length=n:=by simp;omega
 have hset':SetAt h i (.row s sz E (rows.take 0++(zs.take n++rows.drop (0+(zs.take n).length)))) h':=by
  rw [hl,List.take_zero,List.nil_append,Nat.zero_add];exact hset
 exact zvj (P:=P) (ro:=ro) (nt:=nt) (T:=T) (T2:=T2) (E:=E) (sz:=sz) (i:=i) (d:=0) (hi:=rows.length) (n:=n) (full:=full) (s:=s) (rows:=rows) (zs:=zs) (h':=h') (next:=next) (by rw [hp];exact hx) hy (Nat.zero_le _) (Nat.le_refl _) (by rw [Nat.sub_zero];exact hn) hd (hset:=hset') (by rw [hl];exact hk) hone X a w K Q hs hK
end
theorem ye6 {zv:Array Value} {n i j sz:Nat} (hs:zv.size=sz) (hi:i < n) (hj:j < zv.size):(Builtin.zeroCells zv n)[i * sz+j]? =some zv[j]:=by
 subst hs
 have h1:(i+1) * zv.size≤n * zv.size:=Nat.mul_le_mul_right _ hi
 rw [Nat.add_mul] at h1
 have hlt:i * zv.size+j < n * zv.size:=by omega
 have hm:(i * zv.size+j) % zv.size=j:=by rw [Nat.mul_comm,Nat.mul_add_mod,Nat.mod_eq_of_lt hj]
 simp [Builtin.zeroCells,hlt,hm,hj]
section
variable {P:Program} {ro:Option Nat} {nt:Nat} {h:List Res} {f:Operand→Option AV} {dst:Option Tmp} {ty:TypeId} {pos:String} {after:Array Edge} {guard:Option (Nat×Bool)} {x y z u:Operand} {t:Fr} {ds:List Nat} {next:St→Prop}
theorem ztp {d:Tmp} {T E bytes sz:Nat} {n c:Nat} {zv:Value} [hu:Und P T (.slice E)] [hz:ZerV P E zv] [Siz P E sz] [hby:Byt P E bytes] (hx:ev t x=some (.v (.int .i64 n))) (hy:ev t y=some (.v (.int .i64 c))) (hlt:dok nt (some d)=true)
 (hnc:n≤c) (hn:c≤1099511627776) (hb:bytes≤128:=by decide) (hzs:zv.cells.size=sz:=by rfl) (hk:∀b,next ⟨(d,.v (.slice (some ⟨b,0,none⟩) n c))::t,.row (.slice (some ⟨b,0,none⟩) n c) sz E (List.replicate n (zv.cells.toList.map AV.v))::h,ds⟩):
 OE P ro nt ⟨some d,.makeSlice T x y,ty,pos,after,guard⟩ ⟨t,h,ds⟩ next:=by
 intro X a w K Q hs hK
 refine ⟨zab,?_⟩
 have hbi:=hby.h
 cases hi:P.info? E with
 |none=>simp [hi] at hbi
 |some inf=>
  simp [hi] at hbi
  have hwn:IntKind.i64.wrap (n:Int)=n:=IntWalk.i64_in _ ⟨by omega,by omega⟩
  have hwc:IntKind.i64.wrap (c:Int)=c:=IntWalk.i64_in _ ⟨by omega,by omega⟩
  let cells:Array Value:=if c * sz=0 then (#[]:Array Value) else Builtin.zeroCells zv.cells c
  have hmul:inf.bytes * c≤128 * 1099511627776:=Nat.mul_le_mul (by omega) hn
  have hl2:¬((inf.bytes:Int) * (c:Int) > 2 ^ 48):=by
   rw [←Int.natCast_mul]
   generalize inf.bytes * c=m at hmul ⊢
   omega
  have hsize:cells.size=c * sz:=by
   simp only [cells];split
   ·rename_i h0;rw [h0];rfl
   ·simp [Builtin.zeroCells,hzs]
  have e:(execOp a.eval (⟨some d,.makeSlice T x y,ty,pos,after,guard⟩:Oper)).run P w= .ok (.value (.slice (some ⟨w.heap.size,0,none⟩) n c)) {w with heap:=w.heap.push (.cells cells E (0,0))}:=by
   refine run_v _ ?_
   rw [(hs.env.rel x _ hx).v_eq,(hs.env.rel y _ hy).v_eq]
   have hai:∀(m:Nat) (w:World),(asInt (.int .i64 (m:Int))).run P w= .ok (m:Int) w:=fun m w=>rfl
   simp only [Instr.makeSlice,Sem.run_bind,run_underlying (h:=hu),hai,Result.andThen_ok,zcc hi,hwn,hwc]
   rw [if_neg (by simp only [Bool.or_eq_true,decide_eq_true_eq,not_or];exact ⟨⟨⟨by omega,hl2⟩,by omega⟩,by omega⟩)]
   simp only [Sem.run_bind,run_askRoom,Result.andThen_ok,run_sizeOf (n:=sz),Int.toNat_natCast]
   by_cases h0:c * sz=0
   ·have hr0:Array.range 0= #[]:=by simp
    simp [h0,newRow,hr0,cells]
   ·simp [h0,newRow,run_zeroValue hz.h,cells,Builtin.zeroCells,hzs]
  rw [za3 rfl,e]
  have hx2:Res.holds {w with heap:=w.heap.push (.cells cells E (0,0))} (OO (.row (.slice (some ⟨w.heap.size,0,none⟩) n c) sz E (List.replicate n (zv.cells.toList.map AV.v))::h) X) (.row (.slice (some ⟨w.heap.size,0,none⟩) n c) sz E (List.replicate n (zv.cells.toList.map AV.v))):=by
   refine ⟨rfl,by simp,hnc,fun i hi=>by simp [hzs],cells,by simp,by simp [hsize],fun i hi j hj=> ?_⟩
   have hi':i < n:=by simpa using hi
   have hj':j < sz:=by simpa [hzs] using hj
   have h0:¬c * sz=0:=fun h0=>by rcases Nat.mul_eq_zero.1 h0 with h|h <;> omega
   have hz2:=ye6 (zv:=zv.cells) (n:=c) (i:=i) (j:=j) hzs (by omega) (by omega)
   refine ⟨zv.cells[j]'(by omega),?_,?_⟩
   ·simp only [cells,h0,if_false,Nat.zero_add];exact hz2
   ·simp only [List.getElem_replicate,List.getElem_map,Array.getElem_toList];exact .v _
  have hk2:Keep (u9 h) w (u9 (.row (.slice (some ⟨w.heap.size,0,none⟩) n c) sz E (List.replicate n (zv.cells.toList.map AV.v))::h)) {w with heap:=w.heap.push (.cells cells E (0,0))}:=Keep.alloc (h:=h) (.cells cells E (0,0)) (.row (.slice (some ⟨w.heap.size,0,none⟩) n c) sz E (List.replicate n (zv.cells.toList.map AV.v))) rfl
  have hh2:=hs.heap.alloc (.cells cells E (0,0)) (.row (.slice (some ⟨w.heap.size,0,none⟩) n c) sz E (List.replicate n (zv.cells.toList.map AV.v))) rfl hx2
  exact hK _ _ _ (hk w.heap.size) (Sim.put (s:=⟨t,.row (.slice (some ⟨w.heap.size,0,none⟩) n c) sz E (List.replicate n (zv.cells.toList.map AV.v))::h,ds⟩) ⟨hh2,hs.size,hs.fr.keep hk2.size (fun b hb hl=>hk2.oo b hb hl),hs.defs⟩ hlt (.v _)) hk2
theorem zpl {T E:TypeId} {full:Bool} {sz l k:Nat} {rows:List (List AV)} (hx:f x=some (.list full sz rows)) (hy:f y=some (.v (.int .i64 l))) (hz:f z=some (.v (.int .i64 k))) (hu:f u=some (.v (.int .i64 k)))
 (hl:l≤k) (hk:k≤rows.length) [Und P T (.slice E)] [Siz P E sz]:QR P h f ⟨dst,.slice T x (some y) (some z) (some u),ty,pos,after,guard⟩ (.list true sz ((rows.take k).drop l)):=fun X ρ w he=>by
 have hr:=he.rel x _ hx
 obtain ⟨a,cap,e,hc⟩:=zc6 hr
 obtain ⟨e1,e2⟩:=zgl (P:=P) (T:=T) (E:=E)
 refine ⟨sliced a l k k sz,run_v _ ?_,?_⟩
 ·simp only [Option.map_some]
  rw [run_sliceAt_slice w T _ _ _ _ e2,e,(he.rel y _ hy).v_eq,(he.rel z _ hz).v_eq,(he.rel u _ hu).v_eq,run_slice_lhm w T a _ cap e2 .i64 .i64 .i64 l k k (by omega) (by omega) (by omega) (by omega),e1]
  simp only [run_sizeOf (n:=sz),Result.andThen_ok,Int.toNat_natCast]
 ·rw [e] at hr
  exact zez hr hl hk (Nat.le_refl _) (by omega) (fun _=>rfl)
theorem ykg {T T':TypeId} {a b c:Int} (hx:f x=some (.v (.int .i64 a))) (hy:f y=some (.v (.int .i64 b))) (hb:b≠0) (hc:a.tdiv b=c) (hr: -9223372036854775808≤c∧c≤9223372036854775807):
 QR P h f ⟨dst,.binOp .quo T x y T',ty,pos,after,guard⟩ (.v (.int .i64 c)):=fun X ρ w he=>by
 refine ⟨_,run_v _ ?_,.v _⟩
 rw [(he.rel x _ hx).v_eq,(he.rel y _ hy).v_eq,zd5]
 simp [binOp,Op.intDiv,hb,hc,IntWalk.i64_in _ hr]
end
def mem? (i:Nat) (l:List Nat):Bool:=l.any (Nat.beq i)
theorem mem?_iff {i:Nat} {l:List Nat}:mem? i l=true ↔ i∈l:=by
 rw [mem?,List.any_eq_true]
 constructor
 ·rintro ⟨x,hx,e⟩;rw [Nat.eq_of_beq_eq_true e];exact hx
 ·intro h;exact ⟨i,h,by simp⟩
def ztq:List Nat→Bool
 | []=>true
 |i::r=> !mem? i r && ztq r
theorem zpw:∀{l:List Nat},ztq l=true→l.Nodup
 | [],_=> .nil
 |i::r,h=>by
  simp only [ztq,Bool.and_eq_true,Bool.not_eq_true'] at h
  exact List.nodup_cons.2 ⟨fun hm=>(by rw [mem?_iff.2 hm] at h;cases h.1),zpw h.2⟩
def zo6 (l:List Oper) (n:Nat) (eff late:List Nat):Bool:=
 (late.all fun i=> !mem? i eff && Nat.blt i n && eff.all fun j=>(zmp l i (u4 l i)).any (Nat.beq j)) && ztq late &&
 Nat.ble n l.length &&
 ((List.range l.length).all fun i=>(u4 l i).all fun j=>Nat.blt j i) &&
 ((List.range n).all fun i=>match l[i]? with
   |some o=>(match o.dst with
    |some d=>((List.range n).all fun j=>Nat.beq j i||match k8 l j with
     |some d'=> !Nat.beq d d'
     |none=>true)
    |none=>mem? i eff) && (!mem? i eff||(match o.guard with
     |none=>true
     |some _=>false))
   |none=>false) &&
 ((List.range l.length).all fun t=>Nat.blt t n||(List.range t).all fun j=>(zmp l t (u4 l t)).any (Nat.beq j))
structure SoupD (l:List Oper) (n:Nat) (eff late:List Nat):Prop extends SoupT l n where
 lat:∀i∈late,i ∉ eff∧i < n∧∀j∈eff,j∈zmp l i (u4 l i)
 lnd:late.Nodup
 dst:∀i,i < n→∃o,l[i]? =some o∧(i ∉ eff→∃d,o.dst=some d)∧(i∈eff→o.guard=none)∧∀d,o.dst=some d→∀j,j < n→j≠i→∀d',k8 l j=some d'→d≠d'
theorem zs9 {l:List Oper} {n:Nat} {eff late:List Nat} (hc:zo6 l n eff late=true):SoupD l n eff late:=by
 simp only [zo6,Bool.and_eq_true,List.all_eq_true,List.mem_range] at hc
 obtain ⟨⟨⟨⟨⟨h5,h6⟩,h1⟩,h2⟩,h3⟩,h4⟩:=hc
 refine ⟨⟨Nat.le_of_ble_eq_true h1,fun i hi j hj=>Nat.le_of_ble_eq_true (h2 i hi j hj),fun t ht htl j hj=> ?_⟩,fun i hi=> ?_,zpw h6,fun i hi=> ?_⟩
 rotate_left
 ·obtain ⟨⟨g1,g2⟩,g3⟩:=h5 i hi
  refine ⟨fun hm=>(by rw [mem?_iff.2 hm] at g1;cases g1),Nat.le_of_ble_eq_true g2,fun j hj=> ?_⟩
  obtain ⟨x,hx,e⟩:=List.any_eq_true.1 (g3 j hj)
  rw [Nat.eq_of_beq_eq_true e];exact hx
 rotate_left
 ·have:=h4 t htl
  simp only [Bool.or_eq_true] at this
  rcases this with e|e
  ·exact absurd (Nat.le_of_ble_eq_true e) (by omega)
  ·have:=List.all_eq_true.1 e j (List.mem_range.2 hj)
   obtain ⟨x,hx,e2⟩:=List.any_eq_true.1 this
   rw [Nat.eq_of_beq_eq_true e2];exact hx
 ·have:=h3 i hi
  split at this
  ·rename_i o ho
   simp only [Bool.and_eq_true] at this
   obtain ⟨g1,g2⟩:=this
   refine ⟨o,ho,fun hne=> ?_,fun he=> ?_,fun d hd j hj hji d' hd'=> ?_⟩
   ·cases hd:o.dst with
    |some d=>exact ⟨d,rfl⟩
    |none=>simp only [hd] at g1;exact absurd (mem?_iff.1 g1) hne
   ·rw [mem?_iff.2 he] at g2
    simp only [Bool.not_true,Bool.false_or] at g2
    split at g2
    ·assumption
    ·cases g2
   ·simp only [hd] at g1
    have:=List.all_eq_true.1 g1 j (List.mem_range.2 hj)
    simp only [hd',Bool.or_eq_true,Bool.not_eq_true'] at this
    rcases this with e|e
    ·exact absurd (Nat.eq_of_beq_eq_true e) hji
    ·exact Nat.ne_of_beq_eq_false e
  ·cases this
def zft (ds:List Tmp) (f:Fr):Fr:=f.filter fun p=>ds.any (Nat.beq p.1)
def zof (ds:List Tmp) (f:Fr):Fr:=f.filter fun p=> !ds.any (Nat.beq p.1)
def stF (o:Oper) (av:AV) (f:Fr):Fr:=match o.dst with
 |some d=>(d,av)::f
 |none=>f
theorem zdn {q:Nat→Bool}:∀{f:Fr} {d:Nat},q d=true→lk (f.filter fun p=>q p.1) d=lk f d
 | [],_,_=>rfl
 |(j,a)::f,d,hq=>by
  have ih:=zdn (f:=f) hq
  simp only [List.filter_cons,lk]
  split
  ·simp only [lk,ih]
  ·rename_i hj
   have:Nat.beq j d=false:=by
    cases h:Nat.beq j d with
    |false=>rfl
    |true=>rw [Nat.eq_of_beq_eq_true h] at hj;exact absurd hq hj
   rw [this];exact ih
theorem zbi {q:Nat→Bool}:∀{f:Fr} {d:Nat},q d=false→lk (f.filter fun p=>q p.1) d=none
 | [],_,_=>rfl
 |(j,a)::f,d,hq=>by
  have ih:=zbi (f:=f) hq
  simp only [List.filter_cons]
  split
  ·rename_i hj
   simp only [lk]
   have:Nat.beq j d=false:=by
    cases h:Nat.beq j d with
    |false=>rfl
    |true=>rw [Nat.eq_of_beq_eq_true h] at hj;rw [hq] at hj;cases hj
   rw [this];exact ih
  ·exact ih
section
variable {P:Program} {ro:Option Nat} {nt:Nat} {l:List Oper} {eff:List Nat} {sd:Nat→List Tmp} {t0:Fr} {C:List Res→Prop}
def QJ (P:Program) (ro:Option Nat) (nt:Nat) (C:List Res→Prop) (l:List Oper) (sd:List Tmp) (t0:Fr) (o:Oper) (d:Tmp) (av:AV) (e:Fr):Prop:=
 o.dst=some d∧Nat.blt d nt=true∧((gdS l (lkS sd (zby l o) e t0) o=some true∧∀h,C h→QV P ro h (evS sd (zby l o) e t0) o av)∨(gdS l (lkS sd (zby l o) e t0) o=some false∧av= .v undef))
def zc1 (P:Program) (ro:Option Nat) (nt:Nat) (C:List Res→Prop) (l:List Oper) (eff:List Nat) (sd:Nat→List Tmp) (t0:Fr):List Oper→Nat→Fr→(Fr→Prop)→Prop
 | [],_,e,K=>K e
 |o::rest,i,e,K=>(mem? i eff=true∧zc1 P ro nt C l eff sd t0 rest (i+1) e K)∨(mem? i eff=false∧∃d av,QJ P ro nt C l (sd i) t0 o d av e∧zc1 P ro nt C l eff sd t0 rest (i+1) ((d,av)::e) K)
theorem yan {i:Nat} {e:Fr} {K:Fr→Prop} (hk:K e):zc1 P ro nt C l eff sd t0 [] i e K:=hk
theorem je {o:Oper} {rest:List Oper} {i:Nat} {e:Fr} {K:Fr→Prop} (hi:mem? i eff=true) (hk:zc1 P ro nt C l eff sd t0 rest (i+1) e K):zc1 P ro nt C l eff sd t0 (o::rest) i e K:= .inl ⟨hi,hk⟩
theorem jq {d:Tmp} {op:Op} {ty:TypeId} {pos:String} {after:Array Edge} {g:Option (Nat×Bool)} {av:AV} {rest:List Oper} {i:Nat} {e:Fr} {K:Fr→Prop}
 (hg:gdS l (lkS (sd i) (zby l ⟨some d,op,ty,pos,after,g⟩) e t0) ⟨some d,op,ty,pos,after,g⟩=some true)
 (hq:∀h,C h→QR P h (evS (sd i) (zby l ⟨some d,op,ty,pos,after,g⟩) e t0) ⟨some d,op,ty,pos,after,g⟩ av) (hk:zc1 P ro nt C l eff sd t0 rest (i+1) ((d,av)::e) K)
 (hi:mem? i eff=false:=by rfl) (hd:Nat.blt d nt=true:=by rfl) (hn:zbe ⟨some d,op,ty,pos,after,g⟩=true:=by rfl):zc1 P ro nt C l eff sd t0 (⟨some d,op,ty,pos,after,g⟩::rest) i e K:=
 .inr ⟨hi,d,av,⟨rfl,hd,.inl ⟨hg,fun h hc=>zfe (hq h hc) hn⟩⟩,hk⟩
theorem jv {d:Tmp} {op:Op} {ty:TypeId} {pos:String} {after:Array Edge} {g:Option (Nat×Bool)} {av:AV} {rest:List Oper} {i:Nat} {e:Fr} {K:Fr→Prop}
 (hg:gdS l (lkS (sd i) (zby l ⟨some d,op,ty,pos,after,g⟩) e t0) ⟨some d,op,ty,pos,after,g⟩=some true)
 (hq:∀h,C h→QV P ro h (evS (sd i) (zby l ⟨some d,op,ty,pos,after,g⟩) e t0) ⟨some d,op,ty,pos,after,g⟩ av) (hk:zc1 P ro nt C l eff sd t0 rest (i+1) ((d,av)::e) K)
 (hi:mem? i eff=false:=by rfl) (hd:Nat.blt d nt=true:=by rfl):zc1 P ro nt C l eff sd t0 (⟨some d,op,ty,pos,after,g⟩::rest) i e K:=
 .inr ⟨hi,d,av,⟨rfl,hd,.inl ⟨hg,hq⟩⟩,hk⟩
theorem zyp {n:Nat} {ef la:List Nat} (hC:SoupD l n ef la) (hsk:∀i,i ∉ eff→i ∉ ef) {K:Fr→Prop}:∀{os:List Oper} {i:Nat} {e:Fr},i+os.length=n→os=(l.take n).drop i→(∀d a,lk e d=some a→∃j,j < i∧j ∉ eff∧k8 l j=some d)→(∀j,j < i→j ∉ eff→∀d,k8 l j=some d→lk e d≠none)→zc1 P ro nt C l eff sd t0 os i e K→
 ∃E,K E∧(∀d a,lk e d=some a→lk E d=some a)∧(∀d a,lk E d=some a→∃j,j < n∧j ∉ eff∧k8 l j=some d)∧(∀j,j < n→j ∉ eff→∀d,k8 l j=some d→lk E d≠none)∧
  ∀j o,i≤j→j < n→j ∉ eff→l[j]? =some o→∃d av e',lk E d=some av∧(∀d a,lk e' d=some a→lk E d=some a)∧QJ P ro nt C l (sd j) t0 o d av e'
 | [],i,e,hn,ho,he,hf,hk=>⟨e,hk,fun _ _ h=>h,fun d a h=>let ⟨j,h1,h2⟩:=he d a h;⟨j,by simp at hn;omega,h2⟩,fun j hj=>hf j (by simp at hn;omega),fun j o h1 h2=>by simp at hn;omega⟩
 |o::os,i,e,hn,ho,he,hf,hk=>by
  have hin:i < n:=by simp at hn;omega
  have hoi:l[i]? =some o:=by
   have:(l.take n)[i]? =some o:=by
    have:=congrArg List.head? ho
    rw [List.head?_cons,List.head?_drop] at this;exact this.symm
   rwa [List.getElem?_take_of_lt hin] at this
  have ho':os=(l.take n).drop (i+1):=by
   have:=congrArg List.tail ho
   rwa [List.tail_cons,List.tail_drop] at this
  rcases hk with ⟨hi,hk⟩|⟨hi,d,av,hq,hk⟩
  ·have hie:=mem?_iff.1 hi
   obtain ⟨E,h1,h2,h3,h4,h5⟩:=zyp hC hsk (by simp at hn;omega) ho' (fun d a h=>let ⟨j,g1,g2⟩:=he d a h;⟨j,by omega,g2⟩) (fun j hj hje d hd=>by
    rcases Nat.lt_or_ge j i with h|h
    ·exact hf j h hje d hd
    ·have:j=i:=by omega
     subst this;exact absurd hie hje) hk
   refine ⟨E,h1,h2,h3,h4,fun j oj hj1 hj2 hje hoj=> ?_⟩
   rcases Nat.lt_or_ge i j with h|h
   ·exact h5 j oj h hj2 hje hoj
   ·have:j=i:=by omega
    subst this;exact absurd hie hje
  ·have hie:i ∉ eff:=fun h=>by rw [mem?_iff.2 h] at hi;cases hi
   obtain ⟨o2,g1,_,_,g4⟩:=hC.dst i hin
   have:o2=o:=Option.some.inj (g1.symm.trans hoi)
   subst this
   have hdd:k8 l i=some d:=by simp [k8,hoi,hq.1]
   have hnew:lk e d=none:=by
    cases hl:lk e d with
    |none=>rfl
    |some a=>
     obtain ⟨j,k1,k2,k3⟩:=he d a hl
     exact absurd rfl (g4 d hq.1 j (by omega) (by omega) d k3)
   have hmono:∀d' a,lk e d'=some a→lk ((d,av)::e) d'=some a:=fun d' a h=>by
    simp only [lk]
    split
    ·rename_i hb
     rw [←Nat.eq_of_beq_eq_true hb,hnew] at h;cases h
    ·exact h
   obtain ⟨E,h1,h2,h3,h4,h5⟩:=zyp hC hsk (by simp at hn;omega) ho' (fun d' a h=>by
    simp only [lk] at h
    split at h
    ·rename_i hb
     rw [←Nat.eq_of_beq_eq_true hb];exact ⟨i,by omega,hie,hdd⟩
    ·obtain ⟨j,k1,k2⟩:=he d' a h;exact ⟨j,by omega,k2⟩) (fun j hj hje d' hd'=>by
    simp only [lk]
    split
    ·simp
    ·rename_i hb
     rcases Nat.lt_or_ge j i with h|h
     ·exact hf j h hje d' hd'
     ·have:j=i:=by omega
      subst this
      rw [hdd] at hd';cases hd'
      simp at hb) hk
   refine ⟨E,h1,fun d' a h=>h2 d' a (hmono d' a h),h3,h4,fun j oj hj1 hj2 hje hoj=> ?_⟩
   rcases Nat.lt_or_ge i j with h|h
   ·exact h5 j oj h hj2 hje hoj
   ·have:j=i:=by omega
    subst this
    have:oj=o2:=Option.some.inj (hoj.symm.trans hoi)
    subst this
    exact ⟨d,av,e,h2 d av (by simp [lk]),fun d' a h=>h2 d' a (hmono d' a h),hq⟩
end
def zel (P:Program) (ro:Option Nat) (nt:Nat) (he:List Res) (l:List Oper) (sd:Nat→List Tmp) (t0:Fr):List Nat→Fr→(Fr→Prop)→Prop
 | [],e,K=>K e
 |i::r,e,K=>∃o d av,l[i]? =some o∧QJ P ro nt (fun h=>h=he) l (sd i) t0 o d av e∧zel P ro nt he l sd t0 r ((d,av)::e) K
section
variable {P:Program} {ro:Option Nat} {nt:Nat} {l:List Oper} {sd:Nat→List Tmp} {t0:Fr} {he:List Res}
theorem ln {e:Fr} {K:Fr→Prop} (hk:K e):zel P ro nt he l sd t0 [] e K:=hk
theorem lq {i:Nat} {r:List Nat} {e:Fr} {K:Fr→Prop} {d:Tmp} {op:Op} {ty:TypeId} {pos:String} {after:Array Edge} {g:Option (Nat×Bool)} {av:AV} (ho:l[i]? =some ⟨some d,op,ty,pos,after,g⟩)
 (hg:gdS l (lkS (sd i) (zby l ⟨some d,op,ty,pos,after,g⟩) e t0) ⟨some d,op,ty,pos,after,g⟩=some true)
 (hq:QR P he (evS (sd i) (zby l ⟨some d,op,ty,pos,after,g⟩) e t0) ⟨some d,op,ty,pos,after,g⟩ av) (hk:zel P ro nt he l sd t0 r ((d,av)::e) K)
 (hd:Nat.blt d nt=true:=by rfl) (hn:zbe ⟨some d,op,ty,pos,after,g⟩=true:=by rfl):zel P ro nt he l sd t0 (i::r) e K:=
 ⟨_,d,av,ho,⟨rfl,hd,.inl ⟨hg,fun h hh=>by subst hh;exact zfe hq hn⟩⟩,hk⟩
theorem zyi {n:Nat} {ef la:List Nat} (hC:SoupD l n ef la) {K:Fr→Prop}:∀{r:List Nat} {e:Fr},(∀i∈r,i∈la)→r.Nodup→(∀i∈r,∀d,k8 l i=some d→lk e d=none)→zel P ro nt he l sd t0 r e K→
 ∃F,K F∧(∀d a,lk e d=some a→lk F d=some a)∧(∀d a,lk F d=some a→lk e d=some a∨∃i∈r,k8 l i=some d)∧(∀i∈r,∀d,k8 l i=some d→lk F d≠none)∧
  ∀i∈r,∀o,l[i]? =some o→∃d av e',lk F d=some av∧(∀d a,lk e' d=some a→lk F d=some a)∧QJ P ro nt (fun h=>h=he) l (sd i) t0 o d av e'
 | [],e,_,_,_,hk=>⟨e,hk,fun _ _ h=>h,fun _ _ h=> .inl h,fun i h=>(by cases h),fun i h=>(by cases h)⟩
 |i::r,e,hr,hnd,hdis,⟨o,d,av,ho,hq,hk⟩=>by
  obtain ⟨hir,hnd'⟩:=List.nodup_cons.1 hnd
  have hdd:k8 l i=some d:=by simp [k8,ho,hq.1]
  have hnew:=hdis i (by simp) d hdd
  have hin:=(hC.lat i (hr i (by simp))).2.1
  have hmono:∀d' a,lk e d'=some a→lk ((d,av)::e) d'=some a:=fun d' a h=>by
   simp only [lk]
   split
   ·rename_i hb
    rw [←Nat.eq_of_beq_eq_true hb,hnew] at h;cases h
   ·exact h
  obtain ⟨F,h1,h2,h3,h4,h5⟩:=zyi hC (r:=r) (fun j hj=>hr j (by simp [hj])) hnd' (fun j hj d' hd'=>by
   simp only [lk]
   split
   ·rename_i hb
    have:=Nat.eq_of_beq_eq_true hb
    subst this
    obtain ⟨oi,g1,_,_,g4⟩:=hC.dst i hin
    have:oi=o:=Option.some.inj (g1.symm.trans ho)
    subst this
    exact absurd rfl (g4 d hq.1 j (hC.lat j (hr j (by simp [hj]))).2.1 (fun e=>hir (e ▸ hj)) d hd')
   ·exact hdis j (by simp [hj]) d' hd') hk
  refine ⟨F,h1,fun d' a h=>h2 d' a (hmono d' a h),fun d' a h=> ?_,fun j hj d' hd'=> ?_,fun j hj oj hoj=> ?_⟩
  ·rcases h3 d' a h with h|⟨j,hj,h⟩
   ·simp only [lk] at h
    split at h
    ·rename_i hb
     exact .inr ⟨i,by simp,by rw [←Nat.eq_of_beq_eq_true hb];exact hdd⟩
    ·exact .inl h
   ·exact .inr ⟨j,by simp [hj],h⟩
  ·rcases List.mem_cons.1 hj with rfl|hj
   ·rw [hdd] at hd';cases hd'
    rw [h2 d av (by simp [lk])];simp
   ·exact h4 j hj d' hd'
  ·rcases List.mem_cons.1 hj with rfl|hj
   ·have:oj=o:=Option.some.inj (hoj.symm.trans ho)
    subst this
    exact ⟨d,av,e,h2 d av (by simp [lk]),fun d' a h=>h2 d' a (hmono d' a h),hq⟩
   ·exact h5 j hj oj hoj
end
structure InvJ (P:Program) (X:Nat→Prop) (nt:Nat) (h:List Res) (l:List Oper) (n:Nat) (eff late:List Nat) (t:Fr) (dsl:List Nat) (E:Fr) (J:List Nat→Fr→List Res→Prop) (w0:World) (L:List Nat) (ee:Fr) (he:List Res) (F:Fr) (listed:Array Bool) (a:Act) (w:World):Prop where
 size:listed.size=l.length
 closed:∀i,listed.getD i false=true→∀j∈u4 l i,listed.getD j false=true
 tail:∀i,n≤i→listed.getD i false=false
 tsz:a.tmps.size=nt
 defs:a.defers=dsl.map zh6
 J:J L ee he
 heap:HRel X w he
 lst:∀i,i∈L ↔ i∈eff∧i < n∧listed.getD i false=true
 lvals:∀i d av,i∈late→k8 l i=some d→lk F d=some av→listed.getD i false=true→∃v,a.tmps[d]? =some v∧Rel w (OO he X) av v
 vals:∀i d av,i < n→i ∉ eff++late→k8 l i=some d→lk E d=some av→listed.getD i false=true→∃v,a.tmps[d]? =some v∧Rel w (OO he X) av v
 evals:∀d av,lk ee d=some av→∃v,a.tmps[d]? =some v∧Rel w (OO he X) av v
 edom:∀d,lk ee d≠none ↔ ∃i,i∈L∧k8 l i=some d
 base:∀d av,(∀j,j < n→k8 l j=some d→listed.getD j false=false)→lk t d=some av→∃v,a.tmps[d]? =some v∧Rel w (OO he X) av v
 keep:Keep (u9 h) w0 (u9 he) w
structure GoodF (P:Program) (ro:Option Nat) (nt:Nat) (Q:Exit→St→Prop) (l:List Oper) (n:Nat) (late:List Nat) (sd:Nat→List Tmp) (t:Fr) (dsl:List Nat) (E ee:Fr) (he:List Res) (F:Fr):Prop where
 fin:zb7 P ro nt l.toArray (l.drop n) Q ⟨F++t,he,dsl⟩
 up:∀d a,lk (E++ee) d=some a→lk F d=some a
 dn:∀d a,lk F d=some a→lk (E++ee) d=some a∨∃i∈late,k8 l i=some d
 nn:∀i∈late,∀d,k8 l i=some d→lk F d≠none
 facts:∀i∈late,∀o,l[i]? =some o→∃d av e',lk F d=some av∧(∀d a,lk e' d=some a→lk F d=some a)∧QJ P ro nt (fun h=>h=he) l (sd i) t o d av e'
theorem zw3 {l:List Oper} {n:Nat} {d:Nat} (hf:(zdb l n).any (Nat.beq d)=false) {j:Nat} (hj:j < n) (hd:k8 l j=some d):False:=by
 have:d∈zdb l n:=by
  simp only [zdb,List.mem_filterMap]
  simp only [k8] at hd
  cases hlj:l[j]? with
  |none=>simp [hlj] at hd
  |some oj=>
   simp only [hlj,Option.bind_some] at hd
   exact ⟨oj,List.mem_of_getElem? (i:=j) (by rw [List.getElem?_take_of_lt hj];exact hlj),hd⟩
 have:(zdb l n).any (Nat.beq d)=true:=List.any_eq_true.2 ⟨d,this,by simp⟩
 rw [hf] at this;cases this
theorem zuq {P:Program} {ro:Option Nat} {nt rid:Nat} {Q:Exit→St→Prop} {l:List Oper} {t:Fr} {h:List Res} {dsl:List Nat} (n:Nat) (eff late:List Nat) (sd:Nat→List Tmp) (hS:∀i,i < n→∀d,(sd i).any (Nat.beq d)=false→∀j,j < n→k8 l j=some d→i∈zmp l j (u4 l j)) (C:List Res→Prop) [hm:Mixed P] (hc:zo6 l n eff late=true)
 (hk:zc1 P ro nt C l (eff++late) sd t (l.take n) 0 [] (fun E=>∃J:List Nat→Fr→List Res→Prop,J [] [] h∧(∀L ee he,J L ee he→C he)∧
  (∀L ee he,J L ee he→∀i o,i∈eff→i ∉ L→l[i]? =some o→(∀j,j∈zmp l i (u4 l i)→j∈eff→j∈L)→∀u,OE P ro nt o ⟨zft (zby l o) E++(zft (zby l o) ee++(zof (zdb l n) t++u)),he,dsl⟩
   (fun s'=>∃av he',s'=⟨stF o av (zft (zby l o) E++(zft (zby l o) ee++(zof (zdb l n) t++u))),he',dsl⟩∧J (i::L) (stF o av ee) he'))∧
  (∀L ee he,J L ee he→(∀i,i∈eff→i < n→i∈L)→zel P ro nt he l sd t late (E++ee) (fun F=>zb7 P ro nt l.toArray (l.drop n) Q ⟨F++t,he,dsl⟩)))):aw P ro nt (.region rid l.toArray true) Q ⟨t,h,dsl⟩:=by
 intro X a0 w0 hs
 have hC:=zs9 hc
 obtain ⟨E,⟨J,h0,hJC,hstep,hfin⟩,_,hE1,hE2,hfact⟩:=zyp (os:=l.take n) (i:=0) (n:=n) (K:=fun E=>_) hC (fun i hi he=>hi (List.mem_append_left _ he)) (by have:=hC.le;simp;omega) rfl (fun d a h=>by simp [lk] at h) (fun j hj=>by omega) hk
 refine wpIn_region_any hm.h ?_
 have hsome_dst:∀j o,l[j]? =some o→k8 l j=o.dst:=fun j o ho=>by simp [k8,ho]
 have hE1':∀d a,lk E d=some a→∃j,j < n∧j ∉ eff∧j ∉ late∧k8 l j=some d:=fun d a h=>by
  obtain ⟨j,h1,h2,h3⟩:=hE1 d a h
  exact ⟨j,h1,fun he=>h2 (List.mem_append_left _ he),fun he=>h2 (List.mem_append_right _ he),h3⟩
 have main:∀(fuel:Nat) (U L:List Nat) (ee:Fr) (he:List Res) (F:Fr) (listed:Array Bool) (a:Act) (w:World),InvJ P X nt h l n eff late t dsl E J w0 L ee he F listed a w→((∀i,i∈eff→i < n→i∈L)→GoodF P ro nt Q l n late sd t dsl E ee he F)→(∀i,i < l.length→listed.getD i false=false→i∈U)→U.length≤fuel→
  wpAnyIn (FW ro) 0 P .any l.toArray (zow X nt ⟨t,h,dsl⟩ w0 Q) fuel listed a w:=by
  have done:∀(fuel:Nat) (U L:List Nat) (ee:Fr) (he:List Res) (F:Fr) (listed:Array Bool) (a:Act) (w:World),InvJ P X nt h l n eff late t dsl E J w0 L ee he F listed a w→((∀i,i∈eff→i < n→i∈L)→GoodF P ro nt Q l n late sd t dsl E ee he F)→(∀i,i < l.length→listed.getD i false=false→i∈U)→U.length≤fuel→
   (∀i,i < n→listed.getD i false=true)→wpAnyIn (FW ro) 0 P .any l.toArray (zow X nt ⟨t,h,dsl⟩ w0 Q) fuel listed a w:=by
   intro fuel U L ee he F listed a w hi hG hU hf hall
   have hg:=hG (fun i h1 h2=>(hi.lst i).2 ⟨h1,h2,hall i h2⟩)
   refine znp hC.toSoupT fuel U n listed a w (Nat.le_refl _) hC.le hi.size (fun j hj=>⟨fun hl=> ?_,fun hl=>hall j hl⟩) (fun i h1 h2=>hU i h2 (hi.tail i h1)) hf ?_
   ·rcases Nat.lt_or_ge j n with h|h
    ·exact h
    ·rw [hi.tail j h] at hl;cases hl
   ·have hsim:Sim X nt ⟨F++t,he,dsl⟩ a w:=by
     refine ⟨hi.heap,hi.tsz,fun d av hl=> ?_,hi.defs⟩
     have hl':lk (F++t) d=some av:=hl
     rw [u5] at hl'
     cases hF:lk F d with
     |some av'=>
      simp only [hF,Option.some.injEq] at hl';subst hl'
      rcases hg.dn d _ hF with hE|⟨j,g1,g2⟩
      ·rw [u5] at hE
       cases hE2:lk E d with
       |some av2=>
        simp only [hE2,Option.some.injEq] at hE;subst hE
        obtain ⟨j,g1,g2,g3⟩:=hE1 d _ hE2
        exact hi.vals j d _ g1 g2 g3 hE2 (hall j g1)
       |none=>simp only [hE2] at hE;exact hi.evals d _ hE
      ·exact hi.lvals j d _ g1 g2 hF (hall j (hC.lat j g1).2.1)
     |none=>
      simp only [hF] at hl'
      have hEe:lk (E++ee) d=none:=by
       cases hx:lk (E++ee) d with
       |none=>rfl
       |some y=>rw [hg.up d y hx] at hF;cases hF
      rw [u5] at hEe
      refine hi.base d av (fun j hj hd=> ?_) hl'
      exfalso
      by_cases hje:j∈eff
      ·have:=(hi.edom d).2 ⟨j,(hi.lst j).2 ⟨hje,hj,hall j hj⟩,hd⟩
       cases hE:lk E d with
       |some y=>simp [hE] at hEe
       |none=>simp only [hE] at hEe;exact this hEe
      ·by_cases hjl:j∈late
       ·exact hg.nn j hjl d hd hF
       ·refine hE2 j hj (fun hm=>(List.mem_append.1 hm).elim hje hjl) d hd ?_
        cases hE:lk E d with
        |some y=>simp [hE] at hEe
        |none=>rfl
    have:=hg.fin X a w hsim
    exact zay (s:=⟨t,h,dsl⟩) (s':=⟨F++t,he,dsl⟩) hi.keep this
  intro fuel
  induction fuel with
  |zero=>
   intro U L ee he F listed a w hi hG hU hf
   refine done 0 U L ee he F listed a w hi hG hU hf fun i hin=> ?_
   have hU0:U= []:=List.eq_nil_of_length_eq_zero (by omega)
   cases hl:listed.getD i false with
   |true=>rfl
   |false=>have:=hU i (by have:=hC.le;omega) hl;simp [hU0] at this
  |succ fuel ih=>
   intro U L ee he F listed a w hi hG hU hf
   by_cases hall:∀i,i < n→listed.getD i false=true
   ·exact done _ U L ee he F listed a w hi hG hU hf hall
   ·have hready:∀i,i∈Region.ready .any l.toArray listed→i < n∧listed.getD i false=false∧i < l.length∧∀j∈u4 l i,listed.getD j false=true:=by
     intro i hir
     obtain ⟨h1,h2,h3⟩:=zed.1 hir
     have hun:listed.getD i false=false:=by rw [zf9 (by rw [hi.size];exact h2) false true];exact h1
     refine ⟨?_,hun,h2,h3⟩
     rcases Nat.lt_or_ge i n with h|h
     ·exact h
     ·exfalso
      apply hall
      intro j hj
      exact zbo hi.closed i _ h3 j (hC.tail i h h2 j (by omega))
    have hsome:∀m,(∃i,i < n∧i < m∧listed.getD i false=false)→Region.ready .any l.toArray listed≠ []:=by
     intro m
     induction m with
     |zero=>rintro ⟨i,_,h,_⟩;omega
     |succ m ihm=>
      rintro ⟨i,hin,him,hun⟩
      by_cases hp:∀j∈u4 l i,listed.getD j false=true
      ·intro h0
       have hin':i < l.length:=by have:=hC.le;omega
       have:i∈Region.ready .any l.toArray listed:=zed.2 ⟨by rw [zf9 (by rw [hi.size];exact hin') true false];exact hun,hin',hp⟩
       rw [h0] at this;exact absurd this (by simp)
      ·have:∃j,j∈u4 l i∧listed.getD j false=false:=by
        refine Classical.byContradiction fun hne=>hp fun j hj=> ?_
        cases hl:listed.getD j false with
        |true=>rfl
        |false=>exact absurd ⟨j,hj,hl⟩ hne
       obtain ⟨j,hj,hjun⟩:=this
       have:=hC.back i (by have:=hC.le;omega) j hj
       exact ihm ⟨j,by omega,by omega,hjun⟩
    refine ⟨fun h0=> ?_,fun i hir=> ?_⟩
    ·exfalso
     have:∃i,i < n∧listed.getD i false=false:=by
      refine Classical.byContradiction fun hne=>hall fun i hin=> ?_
      cases hl:listed.getD i false with
      |true=>rfl
      |false=>exact absurd ⟨i,hin,hl⟩ hne
     obtain ⟨i,hin,hun⟩:=this
     exact hsome (i+1) ⟨i,hin,by omega,hun⟩ h0
    ·obtain ⟨hin,hun,hil,hp⟩:=hready i hir
     obtain ⟨o,ho,hq1,hq2,hq3⟩:=hC.dst i hin
     have hU':∀k,k < l.length→(listed.setIfInBounds i true).getD k false=false→k∈U.erase i:=fun k hkl hk=>by
      have hki:i≠k:=fun e=>by subst e;rw [za4 (by rw [hi.size];exact hil)] at hk;cases hk
      rw [getD_set_ne false hki] at hk
      exact (List.mem_erase_of_ne (fun h=>hki h.symm)).2 (hU k hkl hk)
     have hf':(U.erase i).length≤fuel:=by rw [List.length_erase_of_mem (hU i hil hun)];omega
     have hcl:∀k,(listed.setIfInBounds i true).getD k false=true→∀j∈u4 l k,(listed.setIfInBounds i true).getD j false=true:=fun k hk j hj=>by
      by_cases hik:i=k
      ·subst hik;exact getD_set_true (hp j hj)
      ·rw [getD_set_ne false hik] at hk;exact getD_set_true (hi.closed k hk j hj)
     have hdo:=hsome_dst i o ho
     have hne:∀d j dj,o.dst=some d→j < n→j≠i→k8 l j=some dj→d≠dj:=fun d j dj hd hj hji hdj=>hq3 d hd j hj hji dj hdj
     -- what is looked up
     have hsd:∀d,(zdb l n).any (Nat.beq d)=false→∀j,j < n→k8 l j≠some d:=fun d hf j hj hd=>by
      have:d∈zdb l n:=by
       simp only [zdb,List.mem_filterMap]
       simp only [k8] at hd
       cases hlj:l[j]? with
       |none=>simp [hlj] at hd
       |some oj=>
        simp only [hlj,Option.bind_some] at hd
        exact ⟨oj,List.mem_of_getElem? (i:=j) (by rw [List.getElem?_take_of_lt hj];exact hlj),hd⟩
      have:(zdb l n).any (Nat.beq d)=true:=List.any_eq_true.2 ⟨d,this,by simp⟩
      simp_all
     have hpd:∀d,(zby l o).any (Nat.beq d)=true→∃j,j∈u4 l i∧k8 l j=some d:=fun d hpd=>by
      obtain ⟨x,hx,e⟩:=List.any_eq_true.1 hpd
      have:=Nat.eq_of_beq_eq_true e
      subst this
      simp only [zby,List.mem_filterMap] at hx
      obtain ⟨j',hj',hd'⟩:=hx
      exact ⟨j',by simp only [u4,ho];exact hj',hd'⟩
     have hlookE:∀d av,(zby l o).any (Nat.beq d)=true→lk E d=some av→∃v,a.tmps[d]? =some v∧Rel w (OO he X) av v:=fun d av hpd' hl=>by
      obtain ⟨j,hj,hjd⟩:=hpd d hpd'
      obtain ⟨j',g1,g2,g3⟩:=hE1 d av hl
      have hji:=hC.back i hil j hj
      have:j'=j:=by
       refine Classical.byContradiction fun hne'=> ?_
       obtain ⟨oj,k1,_,_,k4⟩:=hC.dst j (by omega)
       exact k4 d (by rw [←hsome_dst j oj k1];exact hjd) j' g1 hne' d g3 rfl
      subst this
      exact hi.vals j' d av g1 g2 g3 hl (hp j' hj)
     have hbase:∀d av,(zdb l n).any (Nat.beq d)=false→lk t d=some av→∃v,a.tmps[d]? =some v∧Rel w (OO he X) av v:=fun d av hf hl=>hi.base d av (fun j hj hd=>absurd hd (hsd d hf j hj)) hl
     obtain ⟨lw,hlw⟩:∃lw:Nat→Bool,lw=fun d=>(List.range n).any fun j=>listed.getD j false && (match k8 l j with|some d2=>Nat.beq d2 d|none=>false):=⟨_,rfl⟩
     have hlwt:∀d j,j < n→k8 l j=some d→listed.getD j false=true→lw d=true:=fun d j hj hd hl=>by
      rw [hlw];exact List.any_eq_true.2 ⟨j,List.mem_range.2 hj,by simp [hd,hl]⟩
     have hlwf:∀d,lw d=false→∀j,j < n→k8 l j=some d→listed.getD j false=false:=fun d hf j hj hd=>by
      cases hl:listed.getD j false with
      |false=>rfl
      |true=>rw [hlwt d j hj hd hl] at hf;cases hf
     have hbase2:∀d av,lw d=false→lk t d=some av→∃v,a.tmps[d]? =some v∧Rel w (OO he X) av v:=fun d av hf hl=>hi.base d av (hlwf d hf) hl
     unfold wpOpIn
     simp only [List.getElem?_toArray,ho]
     by_cases hie:i∈eff
     ·have hg:=hq2 hie
      have hiL:i ∉ L:=fun h=>by have:=((hi.lst i).1 h).2.2;rw [hun] at this;cases this
      rw [if_pos (by simp [Region.wanted,hg])]
      -- all that is known,once more
      obtain ⟨T,hT⟩:∃T:Fr,T=(E.filter fun p=>(List.range n).any fun j=> !mem? j (eff++late) && listed.getD j false && (match k8 l j with|some d=>Nat.beq d p.1|none=>false))++(ee++t.filter fun p=> !lw p.1):=⟨_,rfl⟩
      have hO2:=hstep L ee he hi.J i o hie hiL ho (fun j hj hje=>(hi.lst j).2 ⟨hje,(by
       have:=zbo hi.closed i _ hp j hj
       rcases Nat.lt_or_ge j n with h|h
       ·exact h
       ·rw [hi.tail j h] at this;cases this),zbo hi.closed i _ hp j hj⟩) T
      obtain ⟨G,hG⟩:∃G,G=zft (zby l o) E++(zft (zby l o) ee++(zof (zdb l n) t++T)):=⟨_,rfl⟩
      rw [←hG] at hO2
      have hGr:zem w (OO he X) G a.tmps:=fun d av hl=>by
       rw [hG,u5] at hl
       by_cases hpd':(zby l o).any (Nat.beq d)=true
       ·rw [zft,zdn (q:=fun d=>(zby l o).any (Nat.beq d)) hpd'] at hl
        cases hE:lk E d with
        |some av'=>simp only [hE,Option.some.injEq] at hl;subst hl;exact hlookE d _ hpd' hE
        |none=>
         simp only [hE] at hl
         rw [u5,zft,zdn (q:=fun d=>(zby l o).any (Nat.beq d)) hpd'] at hl
         cases he':lk ee d with
         |some av'=>simp only [he',Option.some.injEq] at hl;subst hl;exact hi.evals d _ he'
         |none=>
          simp only [he'] at hl
          rw [u5] at hl
          by_cases hsd':(zdb l n).any (Nat.beq d)=false
          ·rw [zof,zdn (q:=fun d=> !(zdb l n).any (Nat.beq d)) (by simp [hsd'])] at hl
           cases ht:lk t d with
           |some av'=>simp only [ht,Option.some.injEq] at hl;subst hl;exact hbase d _ hsd' ht
           |none=>
            simp only [ht] at hl
            rw [hT,u5,u5] at hl
            have h3:lk (t.filter fun p=> !lw p.1) d=none:=by
             by_cases hlq:lw d=true
             ·rw [zbi (q:=fun d=> !lw d) (by simp [hlq])]
             ·rw [zdn (q:=fun d=> !lw d) (by simp [hlq]),ht]
            rw [he',h3] at hl
            split at hl
            ·rename_i q
             by_cases hq:((List.range n).any fun j=> !mem? j (eff++late) && listed.getD j false && (match k8 l j with|some d2=>Nat.beq d2 d|none=>false))=true
             ·rw [zdn (q:=fun d=>(List.range n).any fun j=> !mem? j (eff++late) && listed.getD j false && (match k8 l j with|some d2=>Nat.beq d2 d|none=>false)) hq,hE] at q;cases q
             ·rw [zbi (q:=fun d=>(List.range n).any fun j=> !mem? j (eff++late) && listed.getD j false && (match k8 l j with|some d2=>Nat.beq d2 d|none=>false)) (by simpa using hq)] at q;cases q
            ·cases hl
          ·rw [zof,zbi (q:=fun d=> !(zdb l n).any (Nat.beq d)) (by simpa using hsd')] at hl
           simp only at hl
           have h3:lk (t.filter fun p=> !lw p.1) d=none:=by
            obtain ⟨j,hj,hjd⟩:=hpd d hpd'
            have hji:=hC.back i hil j hj
            rw [zbi (q:=fun d=> !lw d) (by simp [hlwt d j (by omega) hjd (hp j hj)])]
           rw [hT,u5,u5,he',h3] at hl
           split at hl
           ·rename_i q
            by_cases hq:((List.range n).any fun j=> !mem? j (eff++late) && listed.getD j false && (match k8 l j with|some d2=>Nat.beq d2 d|none=>false))=true
            ·rw [zdn (q:=fun d=>(List.range n).any fun j=> !mem? j (eff++late) && listed.getD j false && (match k8 l j with|some d2=>Nat.beq d2 d|none=>false)) hq,hE] at q;cases q
            ·rw [zbi (q:=fun d=>(List.range n).any fun j=> !mem? j (eff++late) && listed.getD j false && (match k8 l j with|some d2=>Nat.beq d2 d|none=>false)) (by simpa using hq)] at q;cases q
           ·cases hl
       ·rw [zft,zbi (q:=fun d=>(zby l o).any (Nat.beq d)) (Bool.eq_false_iff.2 hpd')] at hl
        simp only at hl
        rw [u5,zft,zbi (q:=fun d=>(zby l o).any (Nat.beq d)) (Bool.eq_false_iff.2 hpd')] at hl
        simp only at hl
        have hrest:∀av,lk T d=some av→∃v,a.tmps[d]? =some v∧Rel w (OO he X) av v:=fun av hl=>by
         rw [hT,u5] at hl
         by_cases hq:((List.range n).any fun j=> !mem? j (eff++late) && listed.getD j false && (match k8 l j with|some d2=>Nat.beq d2 d|none=>false))=true
         ·rw [zdn (q:=fun d=>(List.range n).any fun j=> !mem? j (eff++late) && listed.getD j false && (match k8 l j with|some d2=>Nat.beq d2 d|none=>false)) hq] at hl
          obtain ⟨j,hj,hq'⟩:=List.any_eq_true.1 hq
          simp only [Bool.and_eq_true,Bool.not_eq_true'] at hq'
          obtain ⟨⟨k1,k2⟩,k3⟩:=hq'
          have hje:j ∉ eff++late:=fun h=>by rw [mem?_iff.2 h] at k1;cases k1
          have hjd:k8 l j=some d:=by
           split at k3
           ·rename_i d2 hd2;rw [hd2,Nat.eq_of_beq_eq_true k3]
           ·cases k3
          cases hE:lk E d with
          |some av'=>simp only [hE,Option.some.injEq] at hl;subst hl;exact hi.vals j d _ (List.mem_range.1 hj) hje hjd hE k2
          |none=>exact absurd hE (hE2 j (List.mem_range.1 hj) hje d hjd)
         ·rw [zbi (q:=fun d=>(List.range n).any fun j=> !mem? j (eff++late) && listed.getD j false && (match k8 l j with|some d2=>Nat.beq d2 d|none=>false)) (by simpa using hq)] at hl
          simp only at hl
          rw [u5] at hl
          cases he':lk ee d with
          |some av'=>simp only [he',Option.some.injEq] at hl;subst hl;exact hi.evals d _ he'
          |none=>
           simp only [he'] at hl
           cases hlq:lw d with
           |false=>
            rw [zdn (q:=fun d=> !lw d) (by simp [hlq])] at hl
            exact hbase2 d _ hlq hl
           |true=>rw [zbi (q:=fun d=> !lw d) (by simp [hlq])] at hl;cases hl
        rw [u5] at hl
        split at hl
        ·rename_i q
         cases hl
         by_cases hsd':(zdb l n).any (Nat.beq d)=false
         ·rw [zof,zdn (q:=fun d=> !(zdb l n).any (Nat.beq d)) (by simp [hsd'])] at q
          exact hbase d _ hsd' q
         ·rw [zof,zbi (q:=fun d=> !(zdb l n).any (Nat.beq d)) (by simpa using hsd')] at q;cases q
        ·exact hrest _ hl
      refine hO2 X a w _ _ ⟨hi.heap,hi.tsz,hGr,hi.defs⟩ fun s' a' w' hs' hsim' hkp=> ?_
      obtain ⟨av,he',rfl,hJ'⟩:=hs'
      have hT':∀d av,(∀d',o.dst=some d'→d'≠d)→lk G d=some av→∃v,a'.tmps[d]? =some v∧Rel w' (OO he' X) av v:=fun d av' hnd hl=>by
       refine hsim'.fr d av' ?_
       show lk (stF o av G) d=_
       unfold stF
       split
       ·rename_i d' hd'
        simp only [lk]
        have:Nat.beq d' d=false:=by
         cases hb:Nat.beq d' d with
         |false=>rfl
         |true=>exact absurd (Nat.eq_of_beq_eq_true hb) (hnd d' hd')
        rw [this];exact hl
       ·exact hl
      have hGT:∀d av,lk T d=some av→(lk G d=some av)∨∃av',lk G d=some av':=fun d av hl=>by
       cases hg:lk G d with
       |some av'=>exact .inr ⟨av',rfl⟩
       |none=>
        exfalso
        rw [hG] at hg
        simp only [u5] at hg
        repeat' split at hg
        all_goals first|(rw [hl] at hg;cases hg)|cases hg
      have hedom':∀d,lk (stF o av ee) d≠none ↔ ∃k,k∈i::L∧k8 l k=some d:=fun d=>by
       unfold stF
       constructor
       ·intro hx
        split at hx
        ·rename_i d' hd'
         simp only [lk] at hx
         split at hx
         ·rename_i hb
          have:=Nat.eq_of_beq_eq_true hb
          subst this
          exact ⟨i,by simp,by rw [hdo];exact hd'⟩
         ·obtain ⟨k,k1,k2⟩:=(hi.edom d).1 hx;exact ⟨k,by simp [k1],k2⟩
        ·obtain ⟨k,k1,k2⟩:=(hi.edom d).1 hx;exact ⟨k,by simp [k1],k2⟩
       ·rintro ⟨k,k1,k2⟩
        rcases List.mem_cons.1 k1 with rfl|k1
        ·rw [hdo] at k2;rw [k2];simp [lk]
        ·have:=(hi.edom d).2 ⟨k,k1,k2⟩
         split
         ·simp only [lk];split
          ·simp
          ·exact this
         ·exact this
      obtain ⟨F',hF'⟩:∃F',(∀k,k∈eff→k < n→k∈i::L)→GoodF P ro nt Q l n late sd t dsl E (stF o av ee) he' F':=by
       by_cases hA:∀k,k∈eff→k < n→k∈i::L
       ·obtain ⟨F',k1,k2,k3,k4,k5⟩:=zyi hC (r:=late) (fun _ h=>h) hC.lnd (fun j hj d hd=>by
         rw [u5]
         obtain ⟨oj,g1,_,_,g4⟩:=hC.dst j (hC.lat j hj).2.1
         have hoj:oj.dst=some d:=by rw [←hsome_dst j oj g1];exact hd
         cases hx:lk E d with
         |some y=>
          obtain ⟨q,q1,q2,q3,q4⟩:=hE1' d y hx
          exact absurd rfl (g4 d hoj q q1 (fun e=>q3 (e ▸ hj)) d q4)
         |none=>
          simp only
          cases hy:lk (stF o av ee) d with
          |none=>rfl
          |some y=>
           obtain ⟨q,q1,q2⟩:=(hedom' d).1 (by rw [hy];simp)
           have hqe:q∈eff∧q < n:=(List.mem_cons.1 q1).elim (fun e=>e ▸ ⟨hie,hin⟩) (fun h=>let h:=(hi.lst q).1 h;⟨h.1,h.2.1⟩)
           exact absurd rfl (g4 d hoj q hqe.2 (fun e=>(hC.lat j hj).1 (e ▸ hqe.1)) d q2)) (hfin _ _ _ hJ' hA)
        exact ⟨F',fun _=>⟨k1,k2,k3,k4,k5⟩⟩
       ·exact ⟨[],fun h=>absurd h hA⟩
      refine ih (U.erase i) (i::L) (stF o av ee) he' F' _ _ _ ?_ hF' hU' hf'
      have hGE:∀j d,j < n→j ∉ eff++late→k8 l j=some d→listed.getD j false=true→∀av,lk E d=some av→lk G d=some av:=fun j d hj hje hjd hlj av hl=>by
       have hed:lk ee d=none:=by
        cases hx:lk ee d with
        |none=>rfl
        |some y=>
         obtain ⟨k,hk1,hk2⟩:=(hi.edom d).1 (by rw [hx];simp)
         obtain ⟨hk3,hk4,_⟩:=(hi.lst k).1 hk1
         obtain ⟨oj,g1,_,_,g4⟩:=hC.dst j hj
         have hkj:k≠j:=fun e=>hje (List.mem_append_left _ (e ▸ hk3))
         exact absurd rfl (g4 d (by rw [←hsome_dst j oj g1];exact hjd) k hk4 hkj d hk2)
       have hsd':¬(zdb l n).any (Nat.beq d)=false:=fun hf=>hsd d hf j hj hjd
       rw [hG,u5]
       by_cases hpd':(zby l o).any (Nat.beq d)=true
       ·rw [zft,zdn (q:=fun d=>(zby l o).any (Nat.beq d)) hpd',hl]
       ·rw [zft,zbi (q:=fun d=>(zby l o).any (Nat.beq d)) (Bool.eq_false_iff.2 hpd')]
        simp only
        rw [u5,zft,zbi (q:=fun d=>(zby l o).any (Nat.beq d)) (Bool.eq_false_iff.2 hpd')]
        simp only
        rw [u5,zof,zbi (q:=fun d=> !(zdb l n).any (Nat.beq d)) (by simpa using hsd')]
        simp only
        rw [hT,u5,zdn (q:=fun d=>(List.range n).any fun j=> !mem? j (eff++late) && listed.getD j false && (match k8 l j with|some d2=>Nat.beq d2 d|none=>false)) (by
         refine List.any_eq_true.2 ⟨j,List.mem_range.2 hj,?_⟩
         have:mem? j (eff++late)=false:=by
          cases hb:mem? j (eff++late) with
          |false=>rfl
          |true=>exact absurd (mem?_iff.1 hb) hje
         simp [this,hlj,hjd]),hl]
      have hGe:∀d av,lk ee d=some av→lk G d=some av:=fun d av hl=>by
       obtain ⟨k,hk1,hk2⟩:=(hi.edom d).1 (by rw [hl];simp)
       obtain ⟨hk3,hk4,_⟩:=(hi.lst k).1 hk1
       have hEd:lk E d=none:=by
        cases hx:lk E d with
        |none=>rfl
        |some y=>
         obtain ⟨j,g1,g2,g3⟩:=hE1 d y hx
         obtain ⟨ok,k1,_,_,k4⟩:=hC.dst k hk4
         have hkj:j≠k:=fun e=>g2 (List.mem_append_left _ (e ▸ hk3))
         exact absurd rfl (k4 d (by rw [←hsome_dst k ok k1];exact hk2) j g1 hkj d g3)
       have hsd':¬(zdb l n).any (Nat.beq d)=false:=fun hf=>hsd d hf k hk4 hk2
       have hflt:lk (E.filter fun p=>(List.range n).any fun j=> !mem? j (eff++late) && listed.getD j false && (match k8 l j with|some d=>Nat.beq d p.1|none=>false)) d=none:=by
        by_cases hq:((List.range n).any fun j=> !mem? j (eff++late) && listed.getD j false && (match k8 l j with|some d2=>Nat.beq d2 d|none=>false))=true
        ·rw [zdn (q:=fun d=>(List.range n).any fun j=> !mem? j (eff++late) && listed.getD j false && (match k8 l j with|some d2=>Nat.beq d2 d|none=>false)) hq,hEd]
        ·rw [zbi (q:=fun d=>(List.range n).any fun j=> !mem? j (eff++late) && listed.getD j false && (match k8 l j with|some d2=>Nat.beq d2 d|none=>false)) (by simpa using hq)]
       rw [hG,u5]
       by_cases hpd':(zby l o).any (Nat.beq d)=true
       ·rw [zft,zdn (q:=fun d=>(zby l o).any (Nat.beq d)) hpd',hEd]
        simp only
        rw [u5,zft,zdn (q:=fun d=>(zby l o).any (Nat.beq d)) hpd',hl]
       ·rw [zft,zbi (q:=fun d=>(zby l o).any (Nat.beq d)) (Bool.eq_false_iff.2 hpd')]
        simp only
        rw [u5,zft,zbi (q:=fun d=>(zby l o).any (Nat.beq d)) (Bool.eq_false_iff.2 hpd')]
        simp only
        rw [u5,zof,zbi (q:=fun d=> !(zdb l n).any (Nat.beq d)) (by simpa using hsd')]
        simp only
        rw [hT,u5,hflt]
        simp only
        rw [u5,hl]
      have hGt:∀d av,(∀j,j < n→k8 l j=some d→listed.getD j false=false)→lk t d=some av→lk G d=some av:=fun d av hj hl=>by
       have hlq:lw d=false:=by
        cases hb:lw d with
        |false=>rfl
        |true=>
         rw [hlw] at hb
         obtain ⟨j,hj1,hq⟩:=List.any_eq_true.1 hb
         simp only [Bool.and_eq_true] at hq
         obtain ⟨k2,k3⟩:=hq
         have hjd:k8 l j=some d:=by
          split at k3
          ·rename_i d2 hd2;rw [hd2,Nat.eq_of_beq_eq_true k3]
          ·cases k3
         rw [hj j (List.mem_range.1 hj1) hjd] at k2;cases k2
       have hpd0:(zby l o).any (Nat.beq d)=false:=by
        cases hb:(zby l o).any (Nat.beq d) with
        |false=>rfl
        |true=>
         obtain ⟨j,hj1,hjd⟩:=hpd d hb
         have hji:=hC.back i hil j hj1
         have:=hj j (by omega) hjd
         rw [hp j hj1] at this;cases this
       have hed:lk ee d=none:=by
        cases hx:lk ee d with
        |none=>rfl
        |some y=>
         obtain ⟨k,hk1,hk2⟩:=(hi.edom d).1 (by rw [hx];simp)
         obtain ⟨_,hk4,hk5⟩:=(hi.lst k).1 hk1
         have:=hj k hk4 hk2
         rw [hk5] at this;cases this
       have hflt:lk (E.filter fun p=>(List.range n).any fun j=> !mem? j (eff++late) && listed.getD j false && (match k8 l j with|some d=>Nat.beq d p.1|none=>false)) d=none:=by
        refine zbi (q:=fun d=>(List.range n).any fun j=> !mem? j (eff++late) && listed.getD j false && (match k8 l j with|some d2=>Nat.beq d2 d|none=>false)) ?_
        cases hb:((List.range n).any fun j=> !mem? j (eff++late) && listed.getD j false && (match k8 l j with|some d2=>Nat.beq d2 d|none=>false)) with
        |false=>rfl
        |true=>
         obtain ⟨j,hj1,hq⟩:=List.any_eq_true.1 hb
         simp only [Bool.and_eq_true] at hq
         obtain ⟨⟨_,k2⟩,k3⟩:=hq
         have hjd:k8 l j=some d:=by
          split at k3
          ·rename_i d2 hd2;rw [hd2,Nat.eq_of_beq_eq_true k3]
          ·cases k3
         rw [hj j (List.mem_range.1 hj1) hjd] at k2;cases k2
       rw [hG,u5,zft,zbi (q:=fun d=>(zby l o).any (Nat.beq d)) hpd0]
       simp only
       rw [u5,zft,zbi (q:=fun d=>(zby l o).any (Nat.beq d)) hpd0]
       simp only
       rw [u5]
       have hlast:lk T d=some av:=by
        rw [hT,u5,hflt]
        simp only
        rw [u5,hed]
        simp only
        rw [zdn (q:=fun d=> !lw d) (by simp [hlq]),hl]
       by_cases hsd':(zdb l n).any (Nat.beq d)=false
       ·rw [zof,zdn (q:=fun d=> !(zdb l n).any (Nat.beq d)) (by simp [hsd']),hl]
       ·rw [zof,zbi (q:=fun d=> !(zdb l n).any (Nat.beq d)) (by simpa using hsd')]
        simp only
        exact hlast
      refine ⟨by simp [hi.size],hcl,fun k hk=>by rw [getD_set_ne false (by omega)];exact hi.tail k hk,hsim'.size,hsim'.defs,hJ',hsim'.heap,fun k=> ?_,fun k d av' hk hkd hFd hlk=> ?_,fun k d av' hk hke hkd hEd hlk=> ?_,fun d av' hl=> ?_,fun d=> ?_,fun d av' hj hl=> ?_,hi.keep.trans hkp⟩
      ·rw [List.mem_cons,hi.lst k]
       by_cases hki:k=i
       ·subst hki
        simp only [true_or,true_iff]
        exact ⟨hie,hin,za4 (by rw [hi.size];exact hil)⟩
       ·rw [getD_set_ne false (Ne.symm hki)];simp [hki]
      ·exfalso
       have hki:i≠k:=fun e=>(hC.lat k hk).1 (e ▸ hie)
       rw [getD_set_ne false hki] at hlk
       have:=zbo hi.closed k _ (fun j hj=>hi.closed k hlk j hj) i ((hC.lat k hk).2.2 i hie)
       rw [hun] at this;cases this
      ·have hki:i≠k:=fun e=>hke (List.mem_append_left _ (e ▸ hie))
       rw [getD_set_ne false hki] at hlk
       exact hT' d av' (fun d' hd' e=>by subst e;exact hne d' k d' hd' hk (Ne.symm hki) hkd rfl) (hGE k d hk hke hkd hlk av' hEd)
      ·unfold stF at hl
       split at hl
       ·rename_i d' hd'
        simp only [lk] at hl
        split at hl
        ·rename_i hb
         have:=Nat.eq_of_beq_eq_true hb
         subst this
         cases hl
         refine hsim'.fr d' av ?_
         show lk (stF o av G) d'=_
         unfold stF;rw [hd'];simp [lk]
        ·rename_i hb
         exact hT' d av' (fun d2 hd2 e=>by rw [hd'] at hd2;cases hd2;subst e;simp at hb) (hGe d av' hl)
       ·rename_i hd'
        exact hT' d av' (fun d2 hd2=>by rw [hd'] at hd2;cases hd2) (hGe d av' hl)
      ·exact hedom' d
      ·have hj':∀j,j < n→k8 l j=some d→listed.getD j false=false:=fun j hjn hjd=>by
        by_cases hij:i=j
        ·subst hij;exact hun
        ·have:=hj j hjn hjd;rwa [getD_set_ne false hij] at this
       exact hT' d av' (fun d' hd' e=>by
        subst e
        have:=hj i hin (by rw [hdo];exact hd')
        rw [za4 (by rw [hi.size];exact hil)] at this;cases this) (hGt d av' hj' hl)
     ·have hgood:i∈late→GoodF P ro nt Q l n late sd t dsl E ee he F:=fun hil'=>hG fun k h1 h2=>(hi.lst k).2 ⟨h1,h2,zbo hi.closed i _ hp k ((hC.lat i hil').2.2 k h1)⟩
      obtain ⟨d,av,e',hown,hlookP,hqd,hdn,hq⟩:∃d av e',((i∈late∧lk F d=some av)∨(i ∉ late∧lk E d=some av))∧(∀d' a',(zby l o).any (Nat.beq d')=true→lk e' d'=some a'→∃v,a.tmps[d']? =some v∧Rel w (OO he X) a' v)∧QJ P ro nt (fun h=>h=he) l (sd i) t o d av e':=by
       by_cases hil':i∈late
       ·obtain ⟨d,av,e',k1,k2,k3⟩:=(hgood hil').facts i hil' o ho
        refine ⟨d,av,e',.inl ⟨hil',k1⟩,fun d' a' hpd' hl=> ?_,k3⟩
        have hF:=k2 d' a' hl
        rcases (hgood hil').dn d' a' hF with hE|⟨j,g1,g2⟩
        ·rw [u5] at hE
         cases hE2':lk E d' with
         |some av2=>simp only [hE2',Option.some.injEq] at hE;subst hE;exact hlookE d' _ hpd' hE2'
         |none=>simp only [hE2'] at hE;exact hi.evals d' _ hE
        ·obtain ⟨j',hj',hjd'⟩:=hpd d' hpd'
         have hji:=hC.back i hil j' hj'
         have:j=j':=by
          refine Classical.byContradiction fun hne'=> ?_
          obtain ⟨oj,q1,_,_,q4⟩:=hC.dst j' (by omega)
          exact q4 d' (by rw [←hsome_dst j' oj q1];exact hjd') j (hC.lat j g1).2.1 hne' d' g2 rfl
         subst this
         exact hi.lvals j d' _ g1 g2 hF (hp j hj')
       ·obtain ⟨d,av,e',hEd,hmono,hqd,hdn,hq⟩:=hfact i o (Nat.zero_le _) hin (fun hm=>(List.mem_append.1 hm).elim hie hil') ho
        exact ⟨d,av,e',.inr ⟨hil',hEd⟩,fun d' a' hpd' hl=>hlookE d' a' hpd' (hmono d' a' hl),hqd,hdn,hq.imp (fun h=>⟨h.1,fun h' e=>by subst e;exact h.2 _ (hJC L ee _ hi.J)⟩) id⟩
      have hlook:∀d' av',lkS (sd i) (zby l o) e' t d'=some av'→∃v,a.tmps[d']? =some v∧Rel w (OO he X) av' v:=fun d' av' hl=>by
       unfold lkS at hl
       split at hl
       ·rename_i hpd';exact hlookP d' av' hpd' hl
       ·split at hl
        ·cases hl
        ·rename_i hsd'
         refine hi.base d' av' (fun j hj hd=> ?_) hl
         have hcj:=hS i hin d' hsd' j hj hd
         cases hlj:listed.getD j false with
         |false=>rfl
         |true=>
          have:=zbo hi.closed j _ (fun k hk=>hi.closed j hlj k hk) i hcj
          rw [hun] at this;cases this
      have henv:Env X he (evS (sd i) (zby l o) e' t) a.eval w:=by
       refine ⟨hi.heap,fun x av' hx=> ?_⟩
       cases x with
       |tmp d'=>
        obtain ⟨v,e,r⟩:=hlook d' av' hx
        have:a.eval (.tmp d')=v:=by simp [Act.eval,Array.getD_eq_getD_getElem?,e]
        rw [this];exact r
       |const x=>cases hx;exact .v x
       |global g=>cases hx;exact .v _
       |func f=>cases hx;exact .fn _ _ _ _ _ rfl rfl (fun j h=>absurd h (Nat.not_lt_zero j)) (fun j h=>absurd h (Nat.not_lt_zero j))
      have hguard:∀b,gdS l (lkS (sd i) (zby l o) e' t) o=some b→Region.wanted o (yielded l.toArray a.tmps)=b:=fun b hg=>by
       unfold gdS at hg
       unfold Region.wanted
       split at hg
       ·rename_i h0;rw [h0];simpa using hg
       ·rename_i j want h0
        rw [h0]
        simp only
        split at hg
        ·rename_i d2 hd2
         have hd':((l.toArray)[j]?).bind (·.dst)=some d2:=by simpa [k8] using hd2
         split at hg
         ·rename_i c hcc
          obtain ⟨v,e,r⟩:=hlook _ _ hcc
          rw [r.v_eq] at e
          simp only [Option.some.injEq] at hg
          subst hg
          simp only [yielded,hd',Option.bind_some,e]
          cases c <;> cases want <;> rfl
         ·rename_i c hcc
          obtain ⟨v,e,r⟩:=hlook _ _ hcc
          rw [r.v_eq] at e
          simp only [Option.some.injEq] at hg
          subst hg
          simp only [yielded,hd',Option.bind_some,e]
          cases want <;> rfl
         ·cases hg
        ·cases hg
      have hdni:d < nt:=Nat.le_of_ble_eq_true hdn
      have hdi:k8 l i=some d:=by rw [hdo];exact hqd
      have hput:∀v d',d≠d'→(a.put (some d) v).tmps[d']? =a.tmps[d']? :=fun v d' hdd=>by simp [Act.put,hdd]
      have hgo:∀v w',Rel w' (OO he X) av v→HRel X w' he→Keep (u9 he) w (u9 he) w'→wpAnyIn (FW ro) 0 P .any l.toArray (zow X nt ⟨t,h,dsl⟩ w0 Q) fuel (listed.setIfInBounds i true) (a.put o.dst v) w':=fun v w' hr hh hkp=>by
       rw [hqd]
       refine ih (U.erase i) L ee he F _ _ _ ?_ hG hU' hf'
       have hkk:=fun b (hb:¬OO he X b) hl=>hkp.oo (X:=X) b hb hl
       refine ⟨by simp [hi.size],hcl,fun k hk=>by rw [getD_set_ne false (by omega)];exact hi.tail k hk,by simp [Act.put,hi.tsz],hi.defs,hi.J,hh,fun k=> ?_,fun k dk avk hk hkd hFk hlk=> ?_,fun k dk avk hk hke hkd hEk hlk=> ?_,fun dk avk hl=> ?_,hi.edom,fun dk avk hj hl=> ?_,hi.keep.trans hkp⟩
       ·rw [hi.lst k]
        by_cases hki:k=i
        ·subst hki;simp [hie]
        ·rw [getD_set_ne false (Ne.symm hki)]
       ·by_cases hki:i=k
        ·subst hki
         have:dk=d:=by rw [hdi] at hkd;exact (Option.some.inj hkd).symm
         subst this
         have:avk=av:=hown.elim (fun h=>Option.some.inj (hFk.symm.trans h.2)) (fun h=>absurd hk h.1)
         subst this
         exact ⟨v,by simp [Act.put,hi.tsz,hdni],hr⟩
        ·rw [getD_set_ne false hki] at hlk
         obtain ⟨u,e,r⟩:=hi.lvals k dk avk hk hkd hFk hlk
         exact ⟨u,by rw [hput v dk (hne d k dk hqd (hC.lat k hk).2.1 (Ne.symm hki) hkd)];exact e,r.keep hkp.size hkk⟩
       ·by_cases hki:i=k
        ·subst hki
         have:dk=d:=by rw [hdi] at hkd;exact (Option.some.inj hkd).symm
         subst this
         have:avk=av:=hown.elim (fun h=>absurd (List.mem_append_right _ h.1) hke) (fun h=>Option.some.inj (hEk.symm.trans h.2))
         subst this
         exact ⟨v,by simp [Act.put,hi.tsz,hdni],hr⟩
        ·rw [getD_set_ne false hki] at hlk
         obtain ⟨u,e,r⟩:=hi.vals k dk avk hk hke hkd hEk hlk
         exact ⟨u,by rw [hput v dk (hne d k dk hqd hk (Ne.symm hki) hkd)];exact e,r.keep hkp.size hkk⟩
       ·obtain ⟨u,e,r⟩:=hi.evals dk avk hl
        obtain ⟨k,k1,k2⟩:=(hi.edom dk).1 (by rw [hl];simp)
        obtain ⟨k3,k4,_⟩:=(hi.lst k).1 k1
        exact ⟨u,by rw [hput v dk (hne d k dk hqd k4 (fun e=>hie (e ▸ k3)) k2)];exact e,r.keep hkp.size hkk⟩
       ·have hj':∀j,j < n→k8 l j=some dk→listed.getD j false=false:=fun j hjn hjd=>by
         by_cases hij:i=j
         ·subst hij;exact hun
         ·have:=hj j hjn hjd;rwa [getD_set_ne false hij] at this
        obtain ⟨u,e,r⟩:=hi.base dk avk hj' hl
        exact ⟨u,by rw [hput v dk (fun e=>by
         have:=hj i hin (by rw [←e];exact hdi)
         rw [za4 (by rw [hi.size];exact hil)] at this;cases this)];exact e,r.keep hkp.size hkk⟩
      rcases hq with ⟨hg,hq⟩|⟨hg,rfl⟩
      ·rw [if_pos (hguard _ hg)]
       exact hq he rfl X a w _ _ henv fun v w' hr hh hkp=>hgo v w' hr hh hkp
      ·rw [if_neg (by rw [hguard _ hg];simp)]
       exact ⟨zab,hgo _ _ (.v _) hi.heap (.refl _ _)⟩
 have hrep:∀i,(Array.replicate l.length false).getD i false=false:=zoe l.length
 have hsz:l.toArray.size=l.length:=by simp
 obtain ⟨F0,hF0⟩:∃F0,(∀k,k∈eff→k < n→k∈([]:List Nat))→GoodF P ro nt Q l n late sd t dsl E [] h F0:=by
  by_cases hA:∀k,k∈eff→k < n→k∈([]:List Nat)
  ·obtain ⟨F',k1,k2,k3,k4,k5⟩:=zyi hC (r:=late) (fun _ h=>h) hC.lnd (fun j hj d hd=>by
    rw [u5]
    obtain ⟨oj,g1,_,_,g4⟩:=hC.dst j (hC.lat j hj).2.1
    have hoj:oj.dst=some d:=by rw [←hsome_dst j oj g1];exact hd
    cases hx:lk E d with
    |some y=>
     obtain ⟨q,q1,q2,q3,q4⟩:=hE1' d y hx
     exact absurd rfl (g4 d hoj q q1 (fun e=>q3 (e ▸ hj)) d q4)
    |none=>rfl) (hfin _ _ _ h0 hA)
   exact ⟨F',fun _=>⟨k1,k2,k3,k4,k5⟩⟩
  ·exact ⟨[],fun h=>absurd h hA⟩
 refine main l.toArray.size (List.range l.length) [] [] h F0 _ a0 {w0 with drawn:=w0.drawn+1} ⟨by simp,fun i hi=> ?_,fun i _=> ?_,hs.size,hs.defs,h0,?_,fun i=> ?_,fun i d av _ _ _ hl=> ?_,fun i d av _ _ _ _ hl=> ?_,fun d av hl=>by simp [lk] at hl,fun d=>by simp [lk],fun d av _ hl=> ?_,⟨Nat.le_refl _,fun b _ h=>⟨rfl,h⟩,zhc.eq rfl rfl rfl (by first|exact Nat.le_refl _|exact Nat.le_succ _)⟩⟩
  hF0 (fun i hi _=>List.mem_range.2 hi) (by simp)
 ·rw [hsz,hrep i] at hi;cases hi
 ·rw [hsz];exact hrep i
 ·exact hs.heap.grow (Nat.le_refl _) fun _ _=>rfl
 ·rw [hsz,hrep i];simp
 ·rw [hsz,hrep i] at hl;cases hl
 ·rw [hsz,hrep i] at hl;cases hl
 ·obtain ⟨v,e,r⟩:=hs.fr d av hl
  exact ⟨v,e,Rel.keep (w:=w0) (O:=OO h X) (Nat.le_refl _) (fun b hb _=>⟨rfl,hb⟩) r⟩
theorem zup {P:Program} {ro:Option Nat} {nt rid:Nat} {Q:Exit→St→Prop} {l:List Oper} {t:Fr} {h:List Res} {dsl:List Nat} (n:Nat) (eff late:List Nat) (C:List Res→Prop) [hm:Mixed P] (hc:zo6 l n eff late=true)
 (hk:zc1 P ro nt C l (eff++late) (fun _=>zdb l n) t (l.take n) 0 [] (fun E=>∃J:List Nat→Fr→List Res→Prop,J [] [] h∧(∀L ee he,J L ee he→C he)∧
  (∀L ee he,J L ee he→∀i o,i∈eff→i ∉ L→l[i]? =some o→(∀j,j∈zmp l i (u4 l i)→j∈eff→j∈L)→∀u,OE P ro nt o ⟨zft (zby l o) E++(zft (zby l o) ee++(zof (zdb l n) t++u)),he,dsl⟩
   (fun s'=>∃av he',s'=⟨stF o av (zft (zby l o) E++(zft (zby l o) ee++(zof (zdb l n) t++u))),he',dsl⟩∧J (i::L) (stF o av ee) he'))∧
  (∀L ee he,J L ee he→(∀i,i∈eff→i < n→i∈L)→zel P ro nt he l (fun _=>zdb l n) t late (E++ee) (fun F=>zb7 P ro nt l.toArray (l.drop n) Q ⟨F++t,he,dsl⟩)))):aw P ro nt (.region rid l.toArray true) Q ⟨t,h,dsl⟩:=
 zuq n eff late (fun _=>zdb l n) (fun i hi d hf j hj hd=>(zw3 hf hj hd).elim) C hc hk
def zjx (l:List Oper) (n:Nat):List Nat→Bool
 | []=>true
 | [i]=>Nat.blt i n
 |i::j::r=>Nat.blt i n && ((zmp l j (u4 l j)).any (Nat.beq i) && zjx l n (j::r))
section
variable {P:Program} {ro:Option Nat} {nt:Nat} {l:List Oper} {dsl:List Nat}
def jch (P:Program) (ro:Option Nat) (nt:Nat) (C:List Res→Prop) (l:List Oper) (dsl:List Nat) (E tt:Fr):List Nat→Fr→List Res→(Fr→List Res→Prop)→Prop
 | [],ee,he,K=>K ee he
 |i::r,ee,he,K=>∃o,l[i]? =some o∧∀u,OE P ro nt o ⟨zft (zby l o) E++(zft (zby l o) ee++(tt++u)),he,dsl⟩
   (fun s'=>∃av he',s'=⟨stF o av (zft (zby l o) E++(zft (zby l o) ee++(tt++u))),he',dsl⟩∧C he'∧jch P ro nt C l dsl E tt r (stF o av ee) he' K)
theorem jcn {C:List Res→Prop} {E tt ee:Fr} {he:List Res} {K:Fr→List Res→Prop} (hk:K ee he):jch P ro nt C l dsl E tt [] ee he K:=hk
theorem jce {C:List Res→Prop} {E tt ee:Fr} {he:List Res} {K:Fr→List Res→Prop} {i:Nat} {r:List Nat} {o:Oper} (ho:l[i]? =some o)
 (hk:∀u,OE P ro nt o ⟨zft (zby l o) E++(zft (zby l o) ee++(tt++u)),he,dsl⟩
  (fun s'=>∃av he',s'=⟨stF o av (zft (zby l o) E++(zft (zby l o) ee++(tt++u))),he',dsl⟩∧C he'∧jch P ro nt C l dsl E tt r (stF o av ee) he' K)):jch P ro nt C l dsl E tt (i::r) ee he K:=⟨o,ho,hk⟩
theorem zop {n:Nat}:∀{eff:List Nat},zjx l n eff=true→∀k,(hk:k+1 < eff.length)→eff[k]∈zmp l eff[k+1] (u4 l eff[k+1])
 | [],_,k,hk=>by simp at hk
 | [i],_,k,hk=>by simp at hk
 |i::j::r,h,k,hk=>by
  simp only [zjx,Bool.and_eq_true] at h
  cases k with
  |zero=>
   obtain ⟨x,hx,e⟩:=List.any_eq_true.1 h.2.1
   simp only [List.getElem_cons_zero,List.getElem_cons_succ,Nat.zero_add]
   rw [Nat.eq_of_beq_eq_true e];exact hx
  |succ k=>exact zop (eff:=j::r) h.2.2 k (by simpa using hk)
end
theorem zqw {P:Program} {ro:Option Nat} {nt rid:Nat} {Q:Exit→St→Prop} {l:List Oper} {t:Fr} {h:List Res} {dsl:List Nat} (n:Nat) (eff late:List Nat) (sd:Nat→List Tmp) (hS:∀i,i < n→∀d,(sd i).any (Nat.beq d)=false→∀j,j < n→k8 l j=some d→i∈zmp l j (u4 l j)) (C:List Res→Prop) [hm:Mixed P] (hc:zo6 l n eff late=true) (hch:zjx l n eff=true) (h0:C h)
 (hk:zc1 P ro nt C l (eff++late) sd t (l.take n) 0 [] (fun E=>jch P ro nt C l dsl E (zof (zdb l n) t) eff [] h (fun ee he=>zel P ro nt he l sd t late (E++ee) (fun F=>zb7 P ro nt l.toArray (l.drop n) Q ⟨F++t,he,dsl⟩)))):aw P ro nt (.region rid l.toArray true) Q ⟨t,h,dsl⟩:=by
 have hmono:∀(os:List Oper) (i:Nat) (e:Fr) (K K':Fr→Prop),(∀e,K e→K' e)→zc1 P ro nt C l (eff++late) sd t os i e K→zc1 P ro nt C l (eff++late) sd t os i e K':=by
  intro os
  induction os with
  |nil=>intro i e K K' h hk;exact h _ hk
  |cons o os ih=>
   intro i e K K' h hk
   rcases hk with ⟨h1,h2⟩|⟨h1,d,av,h2,h3⟩
   ·exact .inl ⟨h1,ih _ _ _ _ h h2⟩
   ·exact .inr ⟨h1,d,av,h2,ih _ _ _ _ h h3⟩
 have hnd:∀(L:List Nat),zjx l n L=true→(∀i,i < l.length→∀j∈u4 l i,j < i)→L.Pairwise (· < ·)∧∀i∈L,i < n:=by
  intro L
  induction L with
  |nil=>intro _ _;exact ⟨.nil,fun i h=>by cases h⟩
  |cons i L ih=>
   intro hL hb
   cases L with
   |nil=>exact ⟨by simp,fun j hj=>by simp only [List.mem_singleton] at hj;subst hj;exact Nat.le_of_ble_eq_true hL⟩
   |cons j L=>
    have hL':=hL
    simp only [zjx,Bool.and_eq_true] at hL
    obtain ⟨h1,h2⟩:=ih hL.2.2 hb
    have hjn:j < n:=h2 j (by simp)
    have hij:i < j:=by
     have hcl:=zop hL' 0 (by simp)
     have hlt:∀(k:Nat) (S:List Nat) (b:Nat),(∀x∈S,x < b)→∀x∈zmp l k S,x < b:=by
      intro k
      induction k with
      |zero=>intro S b hS x hx;exact hS x hx
      |succ k ihk=>
       intro S b hS x hx
       unfold zmp at hx
       refine ihk _ b (fun y hy=> ?_) x hx
       split at hy
       ·rename_i hany
        rcases List.mem_append.1 hy with hy|hy
        ·exact hS y hy
        ·obtain ⟨z,hz,e⟩:=List.any_eq_true.1 hany
         have hzb:=hS z hz
         rw [←Nat.eq_of_beq_eq_true e] at hzb
         by_cases hkl:k < l.length
         ·have:=hb k hkl y hy;omega
         ·simp only [u4,List.getElem?_eq_none (Nat.le_of_not_lt hkl)] at hy;cases hy
       ·exact hS y hy
     simp only [List.getElem_cons_zero,List.getElem_cons_succ,Nat.zero_add] at hcl
     by_cases hjl:j < l.length
     ·exact hlt j _ j (hb j hjl) i hcl
     ·have:u4 l j= []:=by simp only [u4,List.getElem?_eq_none (Nat.le_of_not_lt hjl)]
      rw [this] at hcl
      have:=hlt j [] 0 (fun x hx=>by cases hx) i hcl;omega
    refine ⟨List.pairwise_cons.2 ⟨fun x hx=> ?_,h1⟩,fun x hx=> ?_⟩
    ·rcases List.mem_cons.1 hx with rfl|hx
     ·exact hij
     ·have:=(List.pairwise_cons.1 h1).1 x hx;omega
    ·rcases List.mem_cons.1 hx with rfl|hx
     ·exact Nat.le_of_ble_eq_true hL.1
     ·exact h2 x hx
 obtain ⟨hlt,hin⟩:=hnd eff hch (zs9 hc).back
 refine zuq n eff late sd hS C hc (hmono _ _ _ _ _ (fun E hE=> ?_) hk)
 refine ⟨fun L ee he=>C he∧∃k,L=(eff.take k).reverse∧jch P ro nt C l dsl E (zof (zdb l n) t) (eff.drop k) ee he (fun ee he=>zel P ro nt he l sd t late (E++ee) (fun F=>zb7 P ro nt l.toArray (l.drop n) Q ⟨F++t,he,dsl⟩)),⟨h0,0,by simp,by simpa using hE⟩,fun L ee he h=>h.1,?_,?_⟩
 ·rintro L ee he ⟨hCe,k,rfl,hj⟩ i o hie hiL hio hpre u
  obtain ⟨m,hm',rfl⟩:=List.getElem_of_mem hie
  have hkm:k≤m:=Classical.byContradiction fun h=>hiL (by rw [List.mem_reverse,List.mem_take_iff_getElem];exact ⟨m,by omega,rfl⟩)
  have hmk:m=k:=by
   rcases Nat.eq_or_lt_of_le hkm with h|h
   ·exact h.symm
   ·exfalso
    obtain ⟨m,rfl⟩:∃m',m=m'+1:=⟨m - 1,by omega⟩
    have hcl:=zop hch m hm'
    have:=hpre _ hcl (List.getElem_mem _)
    rw [List.mem_reverse,List.mem_take_iff_getElem] at this
    obtain ⟨q,hq,e⟩:=this
    have hq':q < m:=by omega
    have:=List.pairwise_iff_getElem.1 hlt q m (by omega) (by omega) hq'
    omega
  subst hmk
  rw [List.drop_eq_getElem_cons hm'] at hj
  obtain ⟨o',ho',hoe⟩:=hj
  obtain rfl:o'=o:=Option.some.inj (ho'.symm.trans hio)
  intro X a w K Q' hs hK
  refine hoe u X a w K Q' hs fun s' a' w' hn hs' hk'=> ?_
  obtain ⟨av,he',e,hC',hj'⟩:=hn
  exact hK s' a' w' ⟨av,he',e,hC',m+1,by rw [List.take_succ_eq_append_getElem hm',List.reverse_append];rfl,hj'⟩ hs' hk'
 ·rintro L ee he ⟨hCe,k,rfl,hj⟩ hall
  have:eff.length≤k:=Classical.byContradiction fun h=>by
   have hk':k < eff.length:=by omega
   have:=hall eff[k] (List.getElem_mem _) (hin _ (List.getElem_mem _))
   rw [List.mem_reverse,List.mem_take_iff_getElem] at this
   obtain ⟨q,hq,e⟩:=this
   have:=List.pairwise_iff_getElem.1 hlt q k (by omega) hk' (by omega)
   omega
  rw [List.drop_eq_nil_of_le this] at hj
  exact hj
theorem zgu {P:Program} {ro:Option Nat} {nt rid:Nat} {Q:Exit→St→Prop} {l:List Oper} {t:Fr} {h:List Res} {dsl:List Nat} (n:Nat) (eff late:List Nat) (C:List Res→Prop) [hm:Mixed P] (hc:zo6 l n eff late=true) (hch:zjx l n eff=true) (h0:C h)
 (hk:zc1 P ro nt C l (eff++late) (fun _=>zdb l n) t (l.take n) 0 [] (fun E=>jch P ro nt C l dsl E (zof (zdb l n) t) eff [] h (fun ee he=>zel P ro nt he l (fun _=>zdb l n) t late (E++ee) (fun F=>zb7 P ro nt l.toArray (l.drop n) Q ⟨F++t,he,dsl⟩)))):aw P ro nt (.region rid l.toArray true) Q ⟨t,h,dsl⟩:=
 zqw n eff late (fun _=>zdb l n) (fun i hi d hf j hj hd=>(zw3 hf hj hd).elim) C hc hch h0 hk
def sdU (l:List Oper) (n i:Nat):List Tmp:=(List.range n).filterMap fun j=>match (zmp l j (u4 l j)).any (Nat.beq i) with
 |true=>none
 |false=>k8 l j
theorem yjl {l:List Oper} {n i:Nat} {d:Nat} (hf:(sdU l n i).any (Nat.beq d)=false) {j:Nat} (hj:j < n) (hd:k8 l j=some d):i∈zmp l j (u4 l j):=by
 cases hb:(zmp l j (u4 l j)).any (Nat.beq i) with
 |true=>
  obtain ⟨x,hx,e⟩:=List.any_eq_true.1 hb
  rw [Nat.eq_of_beq_eq_true e];exact hx
 |false=>
  have:d∈sdU l n i:=by
   simp only [sdU,List.mem_filterMap]
   exact ⟨j,List.mem_range.2 hj,by rw [hb];exact hd⟩
  have:(sdU l n i).any (Nat.beq d)=true:=List.any_eq_true.2 ⟨d,this,by simp⟩
  rw [hf] at this;cases this
theorem zun {P:Program} {ro:Option Nat} {nt rid:Nat} {Q:Exit→St→Prop} {l:List Oper} {t:Fr} {h:List Res} {dsl:List Nat} (n:Nat) (eff late:List Nat) (C:List Res→Prop) [hm:Mixed P] (hc:zo6 l n eff late=true) (hch:zjx l n eff=true) (h0:C h)
 (hk:zc1 P ro nt C l (eff++late) (sdU l n) t (l.take n) 0 [] (fun E=>jch P ro nt C l dsl E (zof (zdb l n) t) eff [] h (fun ee he=>zel P ro nt he l (sdU l n) t late (E++ee) (fun F=>zb7 P ro nt l.toArray (l.drop n) Q ⟨F++t,he,dsl⟩)))):aw P ro nt (.region rid l.toArray true) Q ⟨t,h,dsl⟩:=
 zqw n eff late (sdU l n) (fun i hi d hf j hj hd=>yjl hf hj hd) C hc hch h0 hk
end Go.Ab
