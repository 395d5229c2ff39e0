/- The abstract logic, part 21: a region that draws its order, and among whose operations some make memory of their own (calls, allocations, maps). .. -/
import Derived.Test.YtcaijocpofcbdaaGreatDoorSShB
set_option linter.unusedSimpArgs false
set_option linter.unusedVariables false
namespace Go.Ab
open Go
structure SV where
 a:Option Addr
 n:Nat
 c:Nat
def SV.v (s:SV):Value:= .slice s.a s.n s.c
structure MX where
 vs:List SV
 ns:List Nat
abbrev MR:=MX→AV×List Res
abbrev CM:=List Res×MR
def ye7 (P:Program) (ro:Option Nat) (nt:Nat) (h:List Res) (dsl:List Nat) (l:List Oper) (sd:List Tmp) (t0:Fr) (o:Oper) (m:CM) (e:Fr):Prop:=
 ∃d,o.dst=some d∧Nat.blt d nt=true∧o.guard=none∧
  ∀X a w K Q,a.tmps.size=nt→a.defers=dsl.map zg9→Env X (m.1++h) (evS sd (zbb l o) e t0) a.eval w→(∀x v w',Rel w' (OO ((m.2 x).2++h) X) (m.2 x).1 v→HRel X w' ((m.2 x).2++h)→Keep (u4 (m.1++h)) w (u4 ((m.2 x).2++h)) w'→K (a.put o.dst v) w')→o.wpIn (FW ro) 0 P a w K Q
def zb4 (P:Program) (ro:Option Nat) (nt:Nat) (h:List Res) (dsl:List Nat) (l:List Oper) (sd:List Tmp) (t0:Fr):List Oper→Fr→(Fr→List (Option CM)→Prop)→Prop
 | [],e,K=>K e []
 |o::rest,e,K=>(∃d av,o.dst=some d∧zq2 P ro nt h l sd t0 o av e∧zb4 P ro nt h dsl l sd t0 rest ((d,av)::e) (fun e ms=>K e (none::ms)))∨
   (∃m,ye7 P ro nt h dsl l sd t0 o m e∧zb4 P ro nt h dsl l sd t0 rest e (fun e ms=>K e (some m::ms)))
def zal:List Oper→List (Option CM)→Fr→List Res→(Fr→List Res→Prop)→Prop
 |o::os,some m::ms,e,h,K=>∀d x,o.dst=some d→zal os ms ((d,(m.2 x).1)::e) ((m.2 x).2++h) K
 |_::os,none::ms,e,h,K=>zal os ms e h K
 |_,_,e,h,K=>K e h
def zgq:List Oper→List (Option AV)→Fr→Fr
 |o::os,some a::as,e=>zgq os as (match o.dst with
  |some d=>(d,a)::e
  |none=>e)
 |_::os,none::as,e=>zgq os as e
 |_,_,e=>e
def zbs (P:Program) (ro:Option Nat) (nt:Nat) (h:List Res) (dsl:List Nat) (l:List Oper) (sd:List Tmp) (t0:Fr):List Oper→List (Option AV)→List (Option CM)→Fr→Prop
 | [],[],[],_=>True
 |o::os,some a::as,none::ms,e=>∃d,o.dst=some d∧zq2 P ro nt h l sd t0 o a e∧zbs P ro nt h dsl l sd t0 os as ms ((d,a)::e)
 |o::os,none::as,some m::ms,e=>ye7 P ro nt h dsl l sd t0 o m e∧zbs P ro nt h dsl l sd t0 os as ms e
 |_,_,_,_=>False
theorem zj7 {P:Program} {ro:Option Nat} {nt:Nat} {h:List Res} {dsl:List Nat} {l:List Oper} {sd:List Tmp} {t0:Fr}:∀{os:List Oper} {e:Fr} {K:Fr→List (Option CM)→Prop},zb4 P ro nt h dsl l sd t0 os e K→
 ∃as ms,zbs P ro nt h dsl l sd t0 os as ms e∧K (zgq os as e) ms
 | [],e,K,hk=>⟨[],[],trivial,hk⟩
 |o::os,e,K,.inl ⟨d,av,h1,h2,h3⟩=>let ⟨as,ms,a,b⟩:=zj7 h3;⟨some av::as,none::ms,⟨d,h1,h2,a⟩,by simpa [zgq,h1] using b⟩
 |o::os,e,K,.inr ⟨m,h1,h2⟩=>let ⟨as,ms,a,b⟩:=zj7 h2;⟨none::as,some m::ms,⟨h1,a⟩,by simpa [zgq] using b⟩
theorem zbs.length {P:Program} {ro:Option Nat} {nt:Nat} {h:List Res} {dsl:List Nat} {l:List Oper} {sd:List Tmp} {t0:Fr}:∀{os:List Oper} {as:List (Option AV)} {ms:List (Option CM)} {e:Fr},zbs P ro nt h dsl l sd t0 os as ms e→as.length=os.length∧ms.length=os.length
 | [],[],[],_,_=>⟨rfl,rfl⟩
 |o::os,some a::as,none::ms,e,⟨d,_,_,hh⟩=>by have:=zbs.length hh;simp [this.1,this.2]
 |o::os,none::as,some m::ms,e,⟨_,hh⟩=>by have:=zbs.length hh;simp [this.1,this.2]
 | [],_::_,_,_,hh=>by simp [zbs] at hh
 | [],[],_::_,_,hh=>by simp [zbs] at hh
 |_::_,[],_,_,hh=>by simp [zbs] at hh
 |_::_,some _::_,[],_,hh=>by simp [zbs] at hh
 |_::_,none::_,[],_,hh=>by simp [zbs] at hh
 |_::_,some _::_,some _::_,_,hh=>by simp [zbs] at hh
 |_::_,none::_,none::_,_,hh=>by simp [zbs] at hh
theorem zbs.at {P:Program} {ro:Option Nat} {nt:Nat} {h:List Res} {dsl:List Nat} {l:List Oper} {sd:List Tmp} {t0:Fr}:∀{os:List Oper} {as:List (Option AV)} {ms:List (Option CM)} {e:Fr},zbs P ro nt h dsl l sd t0 os as ms e→∀(i:Nat) (o:Oper),os[i]? =some o→
 (∃a,as[i]? =some (some a)∧ms[i]? =some none∧zq2 P ro nt h l sd t0 o a (zgq (os.take i) (as.take i) e))∨(∃m,as[i]? =some none∧ms[i]? =some (some m)∧ye7 P ro nt h dsl l sd t0 o m (zgq (os.take i) (as.take i) e))
 |o::os,some a::as,none::ms,e,⟨d,h1,h2,h3⟩,0,o',ho=>by
  simp only [List.getElem?_cons_zero,Option.some.injEq] at ho
  subst ho
  exact .inl ⟨a,rfl,rfl,h2⟩
 |o::os,none::as,some m::ms,e,⟨h1,h2⟩,0,o',ho=>by
  simp only [List.getElem?_cons_zero,Option.some.injEq] at ho
  subst ho
  exact .inr ⟨m,rfl,rfl,h1⟩
 |o::os,some a::as,none::ms,e,⟨d,h1,h2,h3⟩,i+1,o',ho=>by
  have:=zbs.at h3 i o' (by simpa using ho)
  simpa [zgq,h1] using this
 |o::os,none::as,some m::ms,e,⟨h1,h2⟩,i+1,o',ho=>by
  have:=zbs.at h2 i o' (by simpa using ho)
  simpa [zgq] using this
 | [],_,_,_,_,_,_,ho=>by simp at ho
 |_::_,[],_,_,hh,_,_,_=>by simp [zbs] at hh
 |_::_,some _::_,[],_,hh,_,_,_=>by simp [zbs] at hh
 |_::_,none::_,[],_,hh,_,_,_=>by simp [zbs] at hh
 |_::_,some _::_,some _::_,_,hh,_,_,_=>by simp [zbs] at hh
 |_::_,none::_,none::_,_,hh,_,_,_=>by simp [zbs] at hh
theorem zi5:∀{os:List Oper} {as:List (Option AV)} {e:Fr} {d:Nat} {av:AV},lk (zgq os as e) d=some av→(∃(i:Nat) (o:Oper),os[i]? =some o∧as[i]? =some (some av)∧o.dst=some d)∨lk e d=some av
 | [],as,e,d,av,hh=>by cases as <;> exact .inr hh
 |o::os,[],e,d,av,hh=> .inr hh
 |o::os,none::as,e,d,av,hh=>by
  rcases zi5 (os:=os) (as:=as) hh with ⟨i,o',h1,h2,h3⟩|h1
  ·exact .inl ⟨i+1,o',by simpa using h1,by simpa using h2,h3⟩
  ·exact .inr h1
 |o::os,some a::as,e,d,av,hh=>by
  rcases zi5 (os:=os) (as:=as) hh with ⟨i,o',h1,h2,h3⟩|h1
  ·exact .inl ⟨i+1,o',by simpa using h1,by simpa using h2,h3⟩
  ·split at h1
   ·rename_i d' hd'
    simp only [lk] at h1
    split at h1
    ·rename_i hb
     have:=Nat.eq_of_beq_eq_true hb
     subst this
     cases h1
     exact .inl ⟨0,o,rfl,rfl,hd'⟩
    ·exact .inr h1
   ·exact .inr h1
theorem zmn:∀{os:List Oper} {as:List (Option AV)} {e:Fr} {i:Nat} {o:Oper} {a:AV} {d:Nat},os[i]? =some o→as[i]? =some (some a)→o.dst=some d→lk (zgq os as e) d≠none:=by
 have mono:∀(os:List Oper) (as:List (Option AV)) (e:Fr) (d:Nat),lk e d≠none→lk (zgq os as e) d≠none:=by
  intro os
  induction os with
  |nil=>intro as e d h;cases as <;> exact h
  |cons o os ih=>
   intro as e d h
   cases as with
   |nil=>exact h
   |cons a as=>
    cases a with
    |none=>exact ih as _ d h
    |some a=>
     refine ih as _ d ?_
     split
     ·simp only [lk];split
      ·simp
      ·exact h
     ·exact h
 intro os
 induction os with
 |nil=>intro as e i o a d ho;simp at ho
 |cons o' os ih=>
  intro as e i o a d ho ha hd
  cases as with
  |nil=>simp at ha
  |cons x as=>
   cases i with
   |zero=>
    simp only [List.getElem?_cons_zero,Option.some.injEq] at ho ha
    subst ho ha
    refine mono os as _ d ?_
    simp [hd,lk]
   |succ i=>
    have:=ih (as:=as) (e:=match x with
     |some a=>(match o'.dst with
      |some d=>(d,a)::e
      |none=>e)
     |none=>e) (by simpa using ho) (by simpa using ha) hd
    cases x <;> exact this
theorem HRel.addres {X:Nat→Prop} {w:World} {h rs:List Res} (hh:HRel (Sub X (u4 rs)) w h) (hn:(u4 rs).Nodup) (hX:∀b∈u4 rs,¬X b) (hr:∀r∈rs,r.holds w (OO h (Sub X (u4 rs)))):HRel X w (rs++h):=by
 have hOO:OO (rs++h) X=OO h (Sub X (u4 rs)):=by
  funext b;simp only [OO,Sub,x7,List.mem_append,eq_iff_iff]
  exact ⟨fun q=>by rcases q with (q|q)|q <;> simp [q],fun q=>by rcases q with q|q|q <;> simp [q]⟩
 refine ⟨?_,fun b hb=> ?_,fun b hb=>hh.xlt b (.inl hb),fun r hr'=> ?_⟩
 ·rw [x7,List.nodup_append]
  exact ⟨hn,hh.nodup,fun x hx y hy e=>(hh.lt y hy).2 (.inr (e ▸ hx))⟩
 ·rw [x7,List.mem_append] at hb
  rcases hb with hb|hb
  ·exact ⟨hh.xlt b (.inr hb),hX b hb⟩
  ·exact ⟨(hh.lt b hb).1,fun q=>(hh.lt b hb).2 (.inl q)⟩
 ·rw [hOO]
  rcases List.mem_append.1 hr' with q|q
  ·exact hr r q
  ·exact hh.holds r q
abbrev XB (X:Nat→Prop) (B:Nat→List Nat):Nat→Prop:=fun b=>X b∨∃i:Nat,b∈B i
structure znh (P:Program) (X:Nat→Prop) (nt:Nat) (h:List Res) (CO:List Nat) (l:List Oper) (n:Nat) (t:Fr) (dsl:List Nat) (as:List (Option AV)) (ms:List (Option CM)) (w0:World) (B:Nat→List Nat) (listed:Array Bool) (a:Act) (w:World):Prop where
 size:listed.size=l.length
 closed:∀i,listed.getD i false=true→∀j∈q7 l i,listed.getD j false=true
 tail:∀i,n≤i→listed.getD i false=false
 tsz:a.tmps.size=nt
 defs:a.defers=dsl.map zg9
 heap:HRel (XB X B) w h
 inj:∀(i j:Nat) b,b∈B i→b∈B j→i=j
 blk:∀(i:Nat) b,b∈B i→i < n∧¬X b∧(w0.heap.size≤b∨b∈CO)
 pend:∀i m,i < n→ms[i]? =some (some m)→listed.getD i false=false→u4 m.1=B i∧(B i).Nodup∧∀r∈m.1,r.holds w (OO h (XB X B))
 mks:∀i o d m,i < n→l[i]? =some o→o.dst=some d→ms[i]? =some (some m)→listed.getD i false=true→∃x v,a.tmps[d]? =some v∧u4 (m.2 x).2=B i∧(B i).Nodup∧Rel w (OO h (XB X B)) (m.2 x).1 v∧∀r∈(m.2 x).2,r.holds w (OO h (XB X B))
 nomk:∀i,ms[i]? =some none→B i= []
 vals:∀i o d av,i < n→l[i]? =some o→o.dst=some d→as[i]? =some (some av)→listed.getD i false=true→∃v,a.tmps[d]? =some v∧Rel w (OO h (XB X B)) av v
 base:∀d av,(∀j,j < n→u6 l j≠some d)→lk t d=some av→∃v,a.tmps[d]? =some v∧Rel w (OO h (XB X B)) av v
 keep:Keep (u4 h++CO) w0 (u4 h++CO) w
section
variable {P:Program} {X:Nat→Prop} {nt n:Nat} {h:List Res} {CO:List Nat} {l:List Oper} {t:Fr} {dsl:List Nat} {as:List (Option AV)} {ms:List (Option CM)} {w0:World} {B:Nat→List Nat} {listed:Array Bool} {a:Act} {w:World}
theorem znh.look (hc:SoupC l n) (hi:znh P X nt h CO l n t dsl as ms w0 B listed a w) {i:Nat} {o:Oper} (ho:l[i]? =some o) (hin:i < n) (hp:∀j∈q7 l i,listed.getD j false=true) {d:Nat} {av:AV}
 (hl:lkS (zb9 l n) (zbb l o) (zgq ((l.take n).take i) (as.take i) []) t d=some av):∃v,a.tmps[d]? =some v∧Rel w (OO h (XB X B)) av v:=by
 unfold lkS at hl
 split at hl
 ·rename_i hpd
  obtain ⟨x,hx,e⟩:=List.any_eq_true.1 hpd
  have:=Nat.eq_of_beq_eq_true e
  subst this
  simp only [zbb,List.mem_filterMap] at hx
  obtain ⟨j',hj',hd'⟩:=hx
  have hj'p:j'∈q7 l i:=by simp only [q7,ho];exact hj'
  rcases zi5 hl with ⟨j,oj,h1,h2,h4⟩|h1
  ·have hji:j < i:=by
    have:=(List.getElem?_eq_some_iff.1 h2).1
    simp at this;omega
   have hoj:l[j]? =some oj:=by
    rw [List.take_take,Nat.min_eq_left (by omega)] at h1
    rw [List.getElem?_take_of_lt hji] at h1;exact h1
   have hjj:j=j':=by
    obtain ⟨_,g3,_⟩:=hc.one (show j < n by omega) hoj h4
    rcases Nat.decEq j j' with hne|heq
    ·exact absurd rfl (g3 j' (by have:=hc.back i (by have:=hc.le;omega) j' hj'p;omega) (fun h=>hne h.symm) d hd')
    ·exact heq
   subst hjj
   exact hi.vals j oj d av (by omega) hoj h4 (by rw [List.getElem?_take_of_lt hji] at h2;exact h2) (hp j hj'p)
  ·simp [lk] at h1
 ·split at hl
  ·cases hl
  ·rename_i hsd
   refine hi.base d av (fun j hj hd=> ?_) hl
   have:d∈zb9 l n:=by
    simp only [zb9,List.mem_filterMap]
    simp only [u6] at hd
    cases hlj:l[j]? with
    |none=>simp [hlj] at hd
    |some oj=>
     simp only [hlj,Option.bind_some] at hd
     exact ⟨oj,List.mem_of_getElem? (i:=j) (by rw [List.getElem?_take_of_lt hj];exact hlj),hd⟩
   have:(zb9 l n).any (Nat.beq d)=true:=List.any_eq_true.2 ⟨d,this,by simp⟩
   simp_all
theorem znh.env (hc:SoupC l n) (hi:znh P X nt h CO l n t dsl as ms w0 B listed a w) {i:Nat} {o:Oper} (ho:l[i]? =some o) (hin:i < n) (hp:∀j∈q7 l i,listed.getD j false=true):
 Env (XB X B) h (evS (zb9 l n) (zbb l o) (zgq ((l.take n).take i) (as.take i) []) t) a.eval w:=by
 refine ⟨hi.heap,fun x av hx=> ?_⟩
 cases x with
 |tmp d=>
  obtain ⟨v,e,r⟩:=hi.look hc ho hin hp hx
  have:a.eval (.tmp d)=v:=by simp [Act.eval,Array.getD_eq_getD_getElem?,e]
  rw [this];exact r
 |const x=>cases hx;exact .v x
 |global g=>cases hx;exact .v _
 |func f=>cases hx;exact .fn _ _ _ _ _ rfl rfl (fun j h=>absurd h (Nat.not_lt_zero j)) (fun j h=>absurd h (Nat.not_lt_zero j))
theorem znh.guard (hc:SoupC l n) (hi:znh P X nt h CO l n t dsl as ms w0 B listed a w) {i:Nat} {o:Oper} (ho:l[i]? =some o) (hin:i < n) (hp:∀j∈q7 l i,listed.getD j false=true) {b:Bool}
 (hg:gdS l (lkS (zb9 l n) (zbb l o) (zgq ((l.take n).take i) (as.take i) []) t) o=some b):Region.wanted o (yielded l.toArray a.tmps)=b:=by
 unfold gdS at hg
 unfold Region.wanted
 split at hg
 ·rename_i h0;rw [h0];simpa using hg
 ·rename_i j want h0
  rw [h0]
  simp only
  split at hg
  ·rename_i d hd
   have hd':((l.toArray)[j]?).bind (·.dst)=some d:=by simpa [u6] using hd
   split at hg
   ·rename_i c hcc
    obtain ⟨v,e,r⟩:=hi.look hc ho hin hp hcc
    rw [r.v_eq] at e
    simp only [Option.some.injEq] at hg
    subst hg
    simp only [yielded,hd',Option.bind_some,e]
    cases c <;> cases want <;> rfl
   ·rename_i c hcc
    obtain ⟨v,e,r⟩:=hi.look hc ho hin hp hcc
    rw [r.v_eq] at e
    simp only [Option.some.injEq] at hg
    subst hg
    simp only [yielded,hd',Option.bind_some,e]
    cases want <;> rfl
   ·cases hg
  ·cases hg
theorem zws (hc:SoupC l n) (hi:znh P X nt h CO l n t dsl as ms w0 B listed a w) {i:Nat} (hp:∀j∈q7 l i,listed.getD j false=true):
 ∀k,(listed.setIfInBounds i true).getD k false=true→∀j∈q7 l k,(listed.setIfInBounds i true).getD j false=true:=fun k hk j hj=>by
 by_cases hik:i=k
 ·subst hik;exact getD_set_true (hp j hj)
 ·rw [getD_set_ne false hik] at hk;exact getD_set_true (hi.closed k hk j hj)
theorem znh.stepQ (hc:SoupC l n) (hi:znh P X nt h CO l n t dsl as ms w0 B listed a w) {i:Nat} {o:Oper} {d:Nat} {av:AV} {v:Value} {w':World} (ho:l[i]? =some o) (hin:i < n) (hp:∀j∈q7 l i,listed.getD j false=true)
 (hd:o.dst=some d) (hdn:d < nt) (hav:as[i]? =some (some av)) (hms:ms[i]? =some none) (hr:Rel w' (OO h (XB X B)) av v) (hh:HRel (XB X B) w' h) (hk:Keep (u4 h) w (u4 h) w'):
 znh P X nt h CO l n t dsl as ms w0 B (listed.setIfInBounds i true) (a.put (some d) v) w':=by
 have hne:∀j oj dj,j < n→j≠i→l[j]? =some oj→oj.dst=some dj→d≠dj:=fun j oj dj hj hji hoj hdj=>by
  obtain ⟨_,g3,_⟩:=hc.one hin ho hd
  exact g3 j hj hji dj (by simp [u6,hoj,hdj])
 have hput:∀d',d≠d'→(a.put (some d) v).tmps[d']? =a.tmps[d']? :=fun d' hdd=>by simp [Act.put,hdd]
 have hkk:=fun b (hb:¬OO h (XB X B) b) hl=>hk.oo (X:=XB X B) b hb hl
 have hkB:∀k b,b∈B k→w'.heap[b]? =w.heap[b]? :=fun k b hb=>(hk.same b (hi.heap.xlt b (.inr ⟨k,hb⟩)) (fun hm=>(hi.heap.lt b hm).2 (.inr ⟨k,hb⟩))).1
 refine ⟨by simp [hi.size],zws hc hi hp,fun k hk=> ?_,by simp [Act.put,hi.tsz],hi.defs,hh,hi.inj,hi.blk,fun k m hkn hmk hlk=> ?_,fun k ok dk m hkn hok hdk hmk hlk=> ?_,hi.nomk,fun k ok dk avk hkn hok hdk havk hlk=> ?_,fun d' av' hd' hlk=> ?_,hi.keep.trans hk.more⟩
 ·rw [getD_set_ne false (by omega)];exact hi.tail k hk
 ·have hki:i≠k:=fun e=>by subst e;rw [hms] at hmk;cases hmk
  rw [getD_set_ne false hki] at hlk
  obtain ⟨g1,g2,g3⟩:=hi.pend k m hkn hmk hlk
  exact ⟨g1,g2,fun r hr=>Res.holds_keep hk.size hkk (fun b hb=>hkB k b (g1 ▸ u9.2 ⟨r,hr,hb⟩)) (g3 r hr)⟩
 ·have hki:k≠i:=fun e=>by subst e;rw [hms] at hmk;cases hmk
  rw [getD_set_ne false (fun e=>hki e.symm)] at hlk
  obtain ⟨x,v',g1,g2,g3,g5,g4⟩:=hi.mks k ok dk m hkn hok hdk hmk hlk
  exact ⟨x,v',by rw [hput dk (hne k ok dk hkn hki hok hdk)];exact g1,g2,g3,g5.keep hk.size hkk,fun r hr=>Res.holds_keep hk.size hkk (fun b hb=>hkB k b (g2 ▸ u9.2 ⟨r,hr,hb⟩)) (g4 r hr)⟩
 ·by_cases hki:i=k
  ·subst hki
   have:ok=o:=Option.some.inj (hok.symm.trans ho)
   subst this
   have:dk=d:=Option.some.inj (hdk.symm.trans hd)
   subst this
   have:avk=av:=Option.some.inj (Option.some.inj (havk.symm.trans hav))
   subst this
   exact ⟨v,by simp [Act.put,hi.tsz,hdn],hr⟩
  ·rw [getD_set_ne false hki] at hlk
   obtain ⟨u,e,r⟩:=hi.vals k ok dk avk hkn hok hdk havk hlk
   exact ⟨u,by rw [hput dk (hne k ok dk hkn (fun h=>hki h.symm) hok hdk)];exact e,r.keep hk.size hkk⟩
 ·have hdd:d≠d':=fun e=>hd' i hin (by simp [u6,ho,hd,e])
  obtain ⟨u,e,r⟩:=hi.base d' av' hd' hlk
  exact ⟨u,by rw [hput d' hdd];exact e,r.keep hk.size hkk⟩
abbrev XBo (X:Nat→Prop) (B:Nat→List Nat) (i:Nat):Nat→Prop:=fun b=>X b∨∃k:Nat,k≠i∧b∈B k
theorem znh.open (hi:znh P X nt h CO l n t dsl as ms w0 B listed a w) {i:Nat} {m:CM} (hin:i < n) (hms:ms[i]? =some (some m)) (hun:listed.getD i false=false):
 HRel (XBo X B i) w (m.1++h)∧OO (m.1++h) (XBo X B i)=OO h (XB X B):=by
 obtain ⟨g1,g2,g3⟩:=hi.pend i m hin hms hun
 have hX:XB X B=Sub (XBo X B i) (u4 m.1):=by
  funext b;simp only [XB,XBo,Sub,g1,eq_iff_iff]
  constructor
  ·rintro (q|⟨k,q⟩)
   ·exact .inl (.inl q)
   ·by_cases hk:k=i
    ·subst hk;exact .inr q
    ·exact .inl (.inr ⟨k,hk,q⟩)
  ·rintro ((q|⟨k,_,q⟩)|q)
   ·exact .inl q
   ·exact .inr ⟨k,q⟩
   ·exact .inr ⟨i,q⟩
 have hO:OO (m.1++h) (XBo X B i)=OO h (XB X B):=by
  rw [hX];funext b;simp only [OO,Sub,x7,List.mem_append,eq_iff_iff]
  exact ⟨fun q=>by rcases q with (q|q)|q <;> simp [q],fun q=>by rcases q with q|q|q <;> simp [q]⟩
 refine ⟨HRel.addres (by rw [←hX];exact hi.heap) (by rw [g1];exact g2) (fun b hb q=> ?_) (fun r hr=>by rw [←hX];exact g3 r hr),hO⟩
 rw [g1] at hb
 rcases q with q|⟨k,hk,q⟩
 ·exact (hi.blk i b hb).2.1 q
 ·exact hk (hi.inj k i b q hb)
theorem znh.stepM (hc:SoupC l n) (hi:znh P X nt h CO l n t dsl as ms w0 B listed a w) {i:Nat} {o:Oper} {d:Nat} {m:CM} {x:MX} {v:Value} {w':World} (ho:l[i]? =some o) (hin:i < n) (hp:∀j∈q7 l i,listed.getD j false=true)
 (hd:o.dst=some d) (hdn:d < nt) (has:as[i]? =some none) (hms:ms[i]? =some (some m)) (hun:listed.getD i false=false) (hr:Rel w' (OO ((m.2 x).2++h) (XBo X B i)) (m.2 x).1 v) (hh:HRel (XBo X B i) w' ((m.2 x).2++h)) (hk:Keep (u4 (m.1++h)) w (u4 ((m.2 x).2++h)) w'):
 znh P X nt h CO l n t dsl as ms w0 (fun k=>if k=i then u4 (m.2 x).2 else B k) (listed.setIfInBounds i true) (a.put (some d) v) w':=by
 obtain ⟨p1,p2,p3⟩:=hi.pend i m hin hms hun
 obtain ⟨C,hC⟩:∃C:Nat→List Nat,C=fun k=>if k=i then u4 (m.2 x).2 else B k:=⟨_,rfl⟩
 rw [←hC]
 have hCi:C i=u4 (m.2 x).2:=by simp [hC]
 have hCk:∀k,k≠i→C k=B k:=fun k hki=>by simp [hC,hki]
 have hXC:∀b,XB X C b ↔ (XBo X B i b∨b∈u4 (m.2 x).2):=fun b=>by
  constructor
  ·rintro (hx|⟨k,hk⟩)
   ·exact .inl (.inl hx)
   ·by_cases hki:k=i
    ·subst hki;rw [hCi] at hk;exact .inr hk
    ·rw [hCk k hki] at hk;exact .inl (.inr ⟨k,hki,hk⟩)
  ·rintro ((hx|⟨k,hki,hk⟩)|hb)
   ·exact .inl hx
   ·exact .inr ⟨k,by rw [hCk k hki];exact hk⟩
   ·exact .inr ⟨i,by rw [hCi];exact hb⟩
 have hXC':XB X C=Sub (XBo X B i) (u4 (m.2 x).2):=by funext b;exact propext (hXC b)
 have hOO:OO ((m.2 x).2++h) (XBo X B i)=OO h (XB X C):=by
  funext b;simp only [OO,x7,List.mem_append,eq_iff_iff,hXC]
  exact ⟨fun q=>by rcases q with (q|q)|q <;> simp [q],fun q=>by rcases q with q|q|q <;> simp [q]⟩
 have hnd:=hh.nodup
 rw [x7,List.nodup_append] at hnd
 have hheap:HRel (XB X C) w' h:=by
  rw [hXC']
  exact (hh.perm List.perm_append_comm).part
 have hfresh:∀b∈u4 (m.2 x).2,w.heap.size≤b∨b∈B i:=fun b hb=>by
  refine Classical.byContradiction fun hlt=> ?_
  rw [not_or] at hlt
  have hlt1:b < w.heap.size:=by omega
  have hbh:b ∉ u4 h:=fun hm=>hnd.2.2 b hb b hm rfl
  exact (hk.same b hlt1 (by rw [x7,List.mem_append,p1];exact fun q=>q.elim hlt.2 hbh)).2 (by rw [x7];exact List.mem_append_left _ hb)
 have hBh:∀k b,b∈B k→b ∉ u4 h:=fun k b hb hm=>(hi.heap.lt b hm).2 (.inr ⟨k,hb⟩)
 have hsame:∀b,b < w.heap.size→b ∉ u4 h→b ∉ B i→w'.heap[b]? =w.heap[b]? :=fun b h1 h2 h3=>(hk.same b h1 (by rw [x7,List.mem_append,p1];exact fun q=>q.elim h3 h2)).1
 have hkk:∀b,¬OO h (XB X B) b→b < w.heap.size→w'.heap[b]? =w.heap[b]? ∧¬OO h (XB X C) b:=fun b hb hl=>
  ⟨hsame b hl (fun q=>hb (.inl q)) (fun q=>hb (.inr (.inr ⟨i,q⟩))),fun hm=>by
   rcases hm with hm|hm
   ·exact hb (.inl hm)
   ·rcases (hXC b).1 hm with (hm|⟨k,_,hm⟩)|hm
    ·exact hb (.inr (.inl hm))
    ·exact hb (.inr (.inr ⟨k,hm⟩))
    ·rcases hfresh b hm with q|q
     ·omega
     ·exact hb (.inr (.inr ⟨i,q⟩))⟩
 have hlB:∀k b,b∈B k→b < w.heap.size:=fun k b hb=>hi.heap.xlt b (.inr ⟨k,hb⟩)
 have hkB:∀k b,k≠i→b∈B k→w'.heap[b]? =w.heap[b]? :=fun k b hki hb=>hsame b (hlB k b hb) (hBh k b hb) (fun q=>hki (hi.inj k i b hb q))
 have hne:∀j oj dj,j < n→j≠i→l[j]? =some oj→oj.dst=some dj→d≠dj:=fun j oj dj hj hji hoj hdj=>by
  obtain ⟨_,g3,_⟩:=hc.one hin ho hd
  exact g3 j hj hji dj (by simp [u6,hoj,hdj])
 have hput:∀d',d≠d'→(a.put (some d) v).tmps[d']? =a.tmps[d']? :=fun d' hdd=>by simp [Act.put,hdd]
 have hgs:(listed.setIfInBounds i true).getD i false=true:=zaj (by rw [hi.size];exact (List.getElem?_eq_some_iff.1 ho).1)
 have hkeep:Keep (u4 h++CO) w0 (u4 h++CO) w':=⟨Nat.le_trans hi.keep.size hk.size,fun b hb ho=>⟨(hsame b (Nat.lt_of_lt_of_le hb hi.keep.size) (fun q=>ho (List.mem_append_left _ q)) (fun q=>by
  rcases (hi.blk i b q).2.2 with g|g
  ·omega
  ·exact ho (List.mem_append_right _ g))).trans (hi.keep.same b hb ho).1,ho⟩,hi.keep.env.trans hk.env⟩
 refine ⟨by simp [hi.size],zws hc hi hp,fun k hk=> ?_,by simp [Act.put,hi.tsz],hi.defs,hheap,fun j k b hj hk=> ?_,fun k b hb=> ?_,fun k mk hkn hmk hlk=> ?_,fun k ok dk mk hkn hok hdk hmk hlk=> ?_,fun k hk=> ?_,fun k ok dk avk hkn hok hdk havk hlk=> ?_,fun d' av' hd' hlk=> ?_,hkeep⟩
 ·rw [getD_set_ne false (by omega)];exact hi.tail k hk
 ·by_cases hji:j=i <;> by_cases hki:k=i
  ·omega
  ·subst hji;rw [hCi] at hj;rw [hCk k hki] at hk
   rcases hfresh b hj with q|q
   ·have:=hlB k b hk;omega
   ·exact hi.inj j k b q hk
  ·subst hki;rw [hCi] at hk;rw [hCk j hji] at hj
   rcases hfresh b hk with q|q
   ·have:=hlB j b hj;omega
   ·exact hi.inj j k b hj q
  ·rw [hCk j hji] at hj;rw [hCk k hki] at hk;exact hi.inj j k b hj hk
 ·by_cases hki:k=i
  ·subst hki
   rw [hCi] at hb
   refine ⟨hin,fun hx=>(hh.lt b (by rw [x7];exact List.mem_append_left _ hb)).2 (.inl hx),?_⟩
   rcases hfresh b hb with q|q
   ·have:=hi.keep.size;exact .inl (by omega)
   ·exact (hi.blk k b q).2.2
  ·rw [hCk k hki] at hb
   exact hi.blk k b hb
 ·by_cases hki:k=i
  ·subst hki;rw [hgs] at hlk;cases hlk
  ·rw [getD_set_ne false (fun e=>hki e.symm)] at hlk
   obtain ⟨g1,g2,g3⟩:=hi.pend k mk hkn hmk hlk
   exact ⟨by rw [hCk k hki];exact g1,by rw [hCk k hki];exact g2,fun r hr'=>Res.holds_keep hk.size hkk (fun b hb=>hkB k b hki (g1 ▸ u9.2 ⟨r,hr',hb⟩)) (g3 r hr')⟩
 ·by_cases hki:k=i
  ·subst hki
   have:ok=o:=Option.some.inj (hok.symm.trans ho)
   subst this
   have:dk=d:=Option.some.inj (hdk.symm.trans hd)
   subst this
   have:mk=m:=Option.some.inj (Option.some.inj (hmk.symm.trans hms))
   subst this
   exact ⟨x,v,by simp [Act.put,hi.tsz,hdn],hCi.symm,by rw [hCi];exact hnd.1,by rw [←hOO];exact hr,fun r hr'=>by rw [←hOO];exact hh.holds r (List.mem_append_left _ hr')⟩
  ·rw [getD_set_ne false (fun e=>hki e.symm)] at hlk
   obtain ⟨x',v',g1,g2,g3,g5,g4⟩:=hi.mks k ok dk mk hkn hok hdk hmk hlk
   exact ⟨x',v',by rw [hput dk (hne k ok dk hkn hki hok hdk)];exact g1,by rw [hCk k hki];exact g2,by rw [hCk k hki];exact g3,g5.keep hk.size hkk,fun r hr'=>Res.holds_keep hk.size hkk (fun b hb=>hkB k b hki (g2 ▸ u9.2 ⟨r,hr',hb⟩)) (g4 r hr')⟩
 ·have hki:k≠i:=fun e=>by subst e;rw [hms] at hk;cases hk
  rw [hCk k hki];exact hi.nomk k hk
 ·have hki:i≠k:=fun e=>by subst e;rw [has] at havk;cases havk
  rw [getD_set_ne false hki] at hlk
  obtain ⟨u,e,r⟩:=hi.vals k ok dk avk hkn hok hdk havk hlk
  exact ⟨u,by rw [hput dk (hne k ok dk hkn (fun h=>hki h.symm) hok hdk)];exact e,r.keep hk.size hkk⟩
 ·have hdd:d≠d':=fun e=>hd' i hin (by simp [u6,ho,hd,e])
  obtain ⟨u,e,r⟩:=hi.base d' av' hd' hlk
  exact ⟨u,by rw [hput d' hdd];exact e,r.keep hk.size hkk⟩
end
theorem zkn {X:Nat→Prop} {K:Fr→List Res→Prop} {tmps:Array Value} {w:World} {B:Nat→List Nat} {Oq:Nat→Prop}:∀(os:List Oper) (ms:List (Option CM)) (k:Nat) (e:Fr) (hc:List Res),
 HRel (fun b=>X b∨∃i:Nat,k≤i∧b∈B i) w hc→OO hc (fun b=>X b∨∃i:Nat,k≤i∧b∈B i)=Oq→
 (∀(i j:Nat) b,b∈B i→b∈B j→i=j)→
 (∀(i:Nat) o m,os[i]? =some o→ms[i]? =some (some m)→∃x v d,o.dst=some d∧tmps[d]? =some v∧u4 (m.2 x).2=B (k+i)∧(B (k+i)).Nodup∧Rel w Oq (m.2 x).1 v∧(∀r∈(m.2 x).2,r.holds w Oq)∧∀b∈B (k+i),¬X b)→
 (∀(i:Nat),ms[i]? =some none→B (k+i)= [])→(∀i,k+os.length≤i→B i= [])→ms.length=os.length→
 (∀d av,lk e d=some av→∃v,tmps[d]? =some v∧Rel w Oq av v)→zal os ms e hc K→
 ∃e' h',K e' h'∧HRel X w h'∧OO h' X=Oq∧(∀d av,lk e' d=some av→∃v,tmps[d]? =some v∧Rel w Oq av v)∧(∀d,lk e d≠none→lk e' d≠none)∧(∀(i:Nat) o m d,os[i]? =some o→ms[i]? =some (some m)→o.dst=some d→lk e' d≠none)∧
  (∀b,b∈u4 h'→b∈u4 hc∨∃i,b∈B i)
 | [],ms,k,e,hc,hh,hO,hinj,hmk,hno,hend,hml,he,hd=>by
   have hXX:(fun b=>X b∨∃i:Nat,k≤i∧b∈B i)=X:=by
    funext b;simp only [eq_iff_iff]
    exact ⟨fun hm=>hm.elim id fun ⟨i,hi,hb⟩=>(by rw [hend i (by simpa using hi)] at hb;cases hb),.inl⟩
   rw [hXX] at hh hO
   have hd':K e hc:=by cases ms <;> simpa [zal] using hd
   exact ⟨e,hc,hd',hh,hO,he,fun _ h=>h,fun i o m d h=>by simp at h,fun b hb=> .inl hb⟩
 |o::os,[],k,e,hc,hh,hO,hinj,hmk,hno,hend,hml,he,hd=>by simp at hml
 |o::os,none::ms,k,e,hc,hh,hO,hinj,hmk,hno,hend,hml,he,hd=>by
  have shift:∀(i:Nat),k+1+i=k+(i+1):=fun i=>by omega
  have hB0:=hno 0 rfl
  rw [Nat.add_zero] at hB0
  have hX1:(fun x=>X x∨∃i:Nat,k≤i∧x∈B i)=fun x=>X x∨∃i:Nat,k+1≤i∧x∈B i:=by
   funext x;simp only [eq_iff_iff]
   constructor
   ·rintro (hx|⟨i,hi,hb⟩)
    ·exact .inl hx
    ·by_cases hik:i=k
     ·subst hik;rw [hB0] at hb;cases hb
     ·exact .inr ⟨i,by omega,hb⟩
   ·rintro (hx|⟨i,hi,hb⟩)
    ·exact .inl hx
    ·exact .inr ⟨i,by omega,hb⟩
  rw [hX1] at hh hO
  obtain ⟨e',h',r1,r2,r3,r4,r5,r6,r7⟩:=zkn os ms (k+1) e hc hh hO hinj (fun i o' m ho' hm'=>by rw [shift];exact hmk (i+1) o' m (by simpa using ho') (by simpa using hm')) (fun i hm'=>by rw [shift];exact hno (i+1) (by simpa using hm'))
   (fun i hi=>hend i (by simp;omega)) (by simpa using hml) he (by simpa [zal] using hd)
  refine ⟨e',h',r1,r2,r3,r4,r5,fun i o' m d2 ho' hm' hd'=> ?_,r7⟩
  cases i with
  |zero=>simp at hm'
  |succ i=>exact r6 i o' m d2 (by simpa using ho') (by simpa using hm') hd'
 |o::os,some m::ms,k,e,hc,hh,hO,hinj,hmk,hno,hend,hml,he,hd=>by
  have shift:∀(i:Nat),k+1+i=k+(i+1):=fun i=>by omega
  obtain ⟨x,v,d,h1,h2,h3,h4,h5,h6,h7⟩:=hmk 0 o m rfl rfl
  rw [Nat.add_zero] at h3 h4 h7
  have hX1:(fun y=>X y∨∃i:Nat,k≤i∧y∈B i)=Sub (fun y=>X y∨∃i:Nat,k+1≤i∧y∈B i) (u4 (m.2 x).2):=by
   funext y;simp only [Sub,eq_iff_iff,h3]
   constructor
   ·rintro (hx|⟨i,hi,hb⟩)
    ·exact .inl (.inl hx)
    ·by_cases hik:i=k
     ·subst hik;exact .inr hb
     ·exact .inl (.inr ⟨i,by omega,hb⟩)
   ·rintro ((hx|⟨i,hi,hb⟩)|hb)
    ·exact .inl hx
    ·exact .inr ⟨i,by omega,hb⟩
    ·exact .inr ⟨k,Nat.le_refl _,hb⟩
  rw [hX1] at hh hO
  have hh2:=HRel.addres hh (by rw [h3];exact h4) (fun b hb=>fun q=>by
   rw [h3] at hb
   rcases q with q|⟨i,hi,hb'⟩
   ·exact h7 b hb q
   ·have:=hinj i k b hb' hb;omega) (fun r hr=>by rw [hO];exact h6 r hr)
  have hO2:OO ((m.2 x).2++hc) (fun y=>X y∨∃i:Nat,k+1≤i∧y∈B i)=Oq:=by
   rw [←hO]
   funext b;simp only [OO,Sub,x7,List.mem_append,eq_iff_iff]
   exact ⟨fun q=>by rcases q with (q|q)|q <;> simp [q],fun q=>by rcases q with q|q|q <;> simp [q]⟩
  have hd2:zal os ms ((d,(m.2 x).1)::e) ((m.2 x).2++hc) K:=by
   simp only [zal] at hd;exact hd d x h1
  obtain ⟨e',h',r1,r2,r3,r4,r5,r6,r7⟩:=zkn os ms (k+1) _ _ hh2 hO2 hinj (fun i o' m ho' hm'=>by rw [shift];exact hmk (i+1) o' m (by simpa using ho') (by simpa using hm')) (fun i hm'=>by rw [shift];exact hno (i+1) (by simpa using hm'))
   (fun i hi=>hend i (by simp;omega)) (by simpa using hml) (fun d2 av h=>by
    simp only [lk] at h
    split at h
    ·rename_i hb
     have:=Nat.eq_of_beq_eq_true hb
     subst this
     cases h
     exact ⟨v,h2,h5⟩
    ·exact he d2 av h) hd2
  refine ⟨e',h',r1,r2,r3,r4,fun d2 h=>r5 d2 ?_,fun i o' m' d2 ho' hm' hd'=> ?_,fun y hy=> ?_⟩
  ·simp only [lk];split
   ·simp
   ·exact h
  ·cases i with
   |zero=>
    simp only [List.getElem?_cons_zero,Option.some.injEq] at ho'
    subst ho'
    have:d2=d:=Option.some.inj (hd'.symm.trans h1)
    subst this
    exact r5 d2 (by simp [lk])
   |succ i=>exact r6 i o' m' d2 (by simpa using ho') (by simpa using hm') hd'
  ·rcases r7 y hy with hy|hy
   ·rw [x7,List.mem_append] at hy
    rcases hy with hy|hy
    ·exact .inr ⟨k,h3 ▸ hy⟩
    ·exact .inl hy
   ·exact .inr hy
def zdg (ms:List (Option CM)):List Res:=ms.flatMap fun m=>match m with
 |some m=>m.1
 |none=> []
def yc8 (m:Option CM):List Nat:=match m with
 |some m=>u4 m.1
 |none=> []
def zb5 (ms:List (Option CM)) (i:Nat):List Nat:=match ms[i]? with
 |some (some m)=>u4 m.1
 |_=> []
theorem zds:∀{ms:List (Option CM)} {b:Nat},(∃i,b∈zb5 ms i) ↔ b∈u4 (zdg ms)
 | [],b=>by simp [zb5,zdg,u4]
 |m::ms,b=>by
  have ih:=zds (ms:=ms) (b:=b)
  have e:u4 (zdg (m::ms))=yc8 m++u4 (zdg ms):=by
   cases m <;> simp [zdg,x7,u4,yc8]
  rw [e,List.mem_append,←ih]
  constructor
  ·rintro ⟨i,h⟩
   cases i with
   |zero=>left;cases m <;> simp [zb5,yc8] at h ⊢;exact h
   |succ i=>exact .inr ⟨i,by simpa [zb5] using h⟩
  ·rintro (h|⟨i,h⟩)
   ·exact ⟨0,by cases m <;> simp [zb5,yc8] at h ⊢;exact h⟩
   ·exact ⟨i+1,by simpa [zb5] using h⟩
theorem zls:∀{ms:List (Option CM)},(u4 (zdg ms)).Nodup→(∀(i j:Nat) b,b∈zb5 ms i→b∈zb5 ms j→i=j)∧∀i,(zb5 ms i).Nodup
 | [],_=>⟨fun i j b h=>by simp [zb5] at h,fun i=>by simp [zb5]⟩
 |m::ms,hn=>by
  have e:u4 (zdg (m::ms))=yc8 m++u4 (zdg ms):=by
   cases m <;> simp [zdg,x7,u4,yc8]
  have e0:zb5 (m::ms) 0=yc8 m:=by cases m <;> rfl
  have e1:∀i,zb5 (m::ms) (i+1)=zb5 ms i:=fun i=>by simp [zb5]
  rw [e,List.nodup_append] at hn
  obtain ⟨h1,h2⟩:=zls hn.2.1
  refine ⟨fun i j b hi hj=> ?_,fun i=> ?_⟩
  ·cases i with
   |zero=>
    cases j with
    |zero=>rfl
    |succ j=>
     rw [e0] at hi;rw [e1] at hj
     exact absurd rfl (hn.2.2 b hi b (zds.1 ⟨j,hj⟩))
   |succ i=>
    cases j with
    |zero=>
     rw [e0] at hj;rw [e1] at hi
     exact absurd rfl (hn.2.2 b hj b (zds.1 ⟨i,hi⟩))
    |succ j=>rw [e1] at hi hj;rw [h1 i j b hi hj]
  ·cases i with
   |zero=>rw [e0];exact hn.1
   |succ i=>rw [e1];exact h2 i
theorem zz9 {P:Program} {ro:Option Nat} {nt rid:Nat} {Q:Exit→St→Prop} {l:List Oper} {t:Fr} {hh:List Res} {dsl:List Nat} (n:Nat) (h:List Res) [hm:Mixed P] (hc:zk7 l n=true)
 (hk:zb4 P ro nt h dsl l (zb9 l n) t (l.take n) [] (fun e ms=>hh.Perm (zdg ms++h)∧zal (l.take n) ms e h (fun e' h'=>zb0 P ro nt l.toArray (l.drop n) Q ⟨e'++t,h',dsl⟩))):aw P ro nt (.region rid l.toArray true) Q ⟨t,hh,dsl⟩:=by
 intro X a0 w0 hs
 have hC:=zrf hc
 obtain ⟨as,ms,hfacts,hp,hK⟩:=zj7 hk
 have hperm:=hs.heap.perm hp
 have hown0:∀b,b∈u4 hh ↔ b∈u4 h∨b∈u4 (zdg ms):=fun b=>by rw [(zbh hp).mem_iff,x7,List.mem_append];exact Or.comm
 have hasl:as.length=n:=by have:=hfacts.length.1;rw [this];have:=hC.le;simp;omega
 have hmsl:ms.length=n:=by have:=hfacts.length.2;rw [this];have:=hC.le;simp;omega
 refine wpIn_region_any hm.h ?_
 have main:∀(fuel:Nat) (U:List Nat) (B:Nat→List Nat) (listed:Array Bool) (a:Act) (w:World),znh P X nt h (u4 (zdg ms)) l n t dsl as ms w0 B listed a w→(∀i,i < l.length→listed.getD i false=false→i∈U)→U.length≤fuel→
  wpAnyIn (FW ro) 0 P .any l.toArray (zne X nt ⟨t,hh,dsl⟩ w0 Q) fuel listed a w:=by
  have done:∀(fuel:Nat) (U:List Nat) (B:Nat→List Nat) (listed:Array Bool) (a:Act) (w:World),znh P X nt h (u4 (zdg ms)) l n t dsl as ms w0 B listed a w→(∀i,i < l.length→listed.getD i false=false→i∈U)→U.length≤fuel→
   (∀i,i < n→listed.getD i false=true)→wpAnyIn (FW ro) 0 P .any l.toArray (zne X nt ⟨t,hh,dsl⟩ w0 Q) fuel listed a w:=by
   intro fuel U B listed a w hi hU hf hall
   refine zl3 hC.toSoupT fuel U n listed a w (Nat.le_refl _) hC.le hi.size (fun j hj=>⟨fun hl=> ?_,fun hl=>hall j hl⟩) (fun i h1 h2=>hU i h2 (hi.tail i h1)) hf ?_
   ·rcases Nat.lt_or_ge j n with h|h
    ·exact h
    ·rw [hi.tail j h] at hl;cases hl
   ·have hlt:∀(i:Nat) o,(l.take n)[i]? =some o→i < n∧l[i]? =some o:=fun i o ho=>by
     have:=(List.getElem?_eq_some_iff.1 ho).1
     have hin:i < n:=by simp at this;omega
     exact ⟨hin,by rw [List.getElem?_take_of_lt hin] at ho;exact ho⟩
    have hX0:(fun b=>X b∨∃i:Nat,0≤i∧b∈B i)=XB X B:=by funext b;simp [XB]
    obtain ⟨e',h',r1,r2,r3,r4,r5,r6,r7⟩:=zkn (X:=X) (tmps:=a.tmps) (w:=w) (B:=B) (Oq:=OO h (XB X B)) (l.take n) ms 0 _ h (by rw [hX0];exact hi.heap) (by rw [hX0]) hi.inj
     (fun i o m ho hms=>by
      obtain ⟨hin,hlo⟩:=hlt i o ho
      rcases hfacts.at i o ho with ⟨a',_,g,_⟩|⟨m',_,g,d,hd,_⟩
      ·rw [g] at hms;cases hms
      ·obtain ⟨x,v,q1,q2,q3,q4,q5⟩:=hi.mks i o d m hin hlo hd hms (hall i hin)
       rw [Nat.zero_add]
       exact ⟨x,v,d,hd,q1,q2,q3,q4,q5,fun b hb=>(hi.blk i b hb).2.1⟩)
     (fun i hms=>by rw [Nat.zero_add];exact hi.nomk i hms)
     (fun i hin=>by
      cases hb:B i with
      |nil=>rfl
      |cons b r=>have:=(hi.blk i b (by simp [hb])).1;simp at hin;have:=hC.le;omega)
     (by rw [hmsl];have:=hC.le;simp;omega)
     (fun d av hl=>by
      rcases zi5 hl with ⟨i,o,g1,g2,g4⟩|g1
      ·obtain ⟨hin,hlo⟩:=hlt i o g1
       exact hi.vals i o d av hin hlo g4 g2 (hall i hin)
      ·simp [lk] at g1) hK
    have hsim:Sim X nt ⟨e'++t,h',dsl⟩ a w:=by
     refine ⟨r2,hi.tsz,fun d av hl=> ?_,hi.defs⟩
     show ∃v,a.tmps[d]? =some v∧Rel w (OO h' X) av v
     rw [r3]
     have hl':lk (e'++t) d=some av:=hl
     rw [v6] at hl'
     cases he:lk e' d with
     |some av'=>simp only [he] at hl';cases hl';exact r4 d _ he
     |none=>
      simp only [he] at hl'
      refine hi.base d av (fun j hj hd=> ?_) hl'
      obtain ⟨o,g1⟩:∃o,l[j]? =some o:=⟨l[j]'(by have:=hC.le;omega),by simp [show j < l.length by have:=hC.le;omega]⟩
      have g2:o.dst=some d:=by simpa [u6,g1] using hd
      have ho:(l.take n)[j]? =some o:=by rw [List.getElem?_take_of_lt hj];exact g1
      rcases hfacts.at j o ho with ⟨a',q1,_⟩|⟨m',_,q1,_⟩
      ·exact r5 d (zmn ho q1 g2) he
      ·exact r6 j o m' d ho q1 g2 he
    have:=r1 X a w hsim
    refine zag (s:=⟨t,hh,dsl⟩) (s':=⟨e'++t,h',dsl⟩) ⟨hi.keep.size,fun b hb hn=>⟨(hi.keep.same b hb (fun q=>hn ((hown0 b).2 (List.mem_append.1 q)))).1,fun hm=> ?_⟩,hi.keep.env⟩ this
    rcases r7 b hm with hm|⟨i,hB⟩
    ·exact hn ((hown0 b).2 (.inl hm))
    ·rcases (hi.blk i b hB).2.2 with q|q
     ·omega
     ·exact hn ((hown0 b).2 (.inr q))
  intro fuel
  induction fuel with
  |zero=>
   intro U B listed a w hi hU hf
   refine done 0 U B listed a w hi hU hf fun i hin=> ?_
   have hU0:U= []:=List.eq_nil_of_length_eq_zero (by omega)
   cases hl:listed.getD i false with
   |true=>rfl
   |false=>have:=hU i (by have:=hC.le;omega) hl;simp [hU0] at this
  |succ fuel ih=>
   intro U B listed a w hi hU hf
   by_cases hall:∀i,i < n→listed.getD i false=true
   ·exact done _ U B listed a w hi hU hf hall
   ·have hready:∀i,i∈Region.ready .any l.toArray listed→i < n∧listed.getD i false=false∧i < l.length∧∀j∈q7 l i,listed.getD j false=true:=by
     intro i hir
     obtain ⟨h1,h2,h3⟩:=zdu.1 hir
     have hun:listed.getD i false=false:=by rw [zfp (by rw [hi.size];exact h2) false true];exact h1
     refine ⟨?_,hun,h2,h3⟩
     rcases Nat.lt_or_ge i n with h|h
     ·exact h
     ·exfalso
      apply hall
      intro j hj
      exact zam hi.closed i _ h3 j (hC.tail i h h2 j (by omega))
    have hsome:∀m,(∃i,i < n∧i < m∧listed.getD i false=false)→Region.ready .any l.toArray listed≠ []:=by
     intro m
     induction m with
     |zero=>rintro ⟨i,_,h,_⟩;omega
     |succ m ihm=>
      rintro ⟨i,hin,him,hun⟩
      by_cases hp:∀j∈q7 l i,listed.getD j false=true
      ·intro h0
       have hin':i < l.length:=by have:=hC.le;omega
       have:i∈Region.ready .any l.toArray listed:=zdu.2 ⟨by rw [zfp (by rw [hi.size];exact hin') true false];exact hun,hin',hp⟩
       rw [h0] at this;exact absurd this (by simp)
      ·have:∃j,j∈q7 l i∧listed.getD j false=false:=by
        refine Classical.byContradiction fun hne=>hp fun j hj=> ?_
        cases hl:listed.getD j false with
        |true=>rfl
        |false=>exact absurd ⟨j,hj,hl⟩ hne
       obtain ⟨j,hj,hjun⟩:=this
       have:=hC.back i (by have:=hC.le;omega) j hj
       exact ihm ⟨j,by omega,by omega,hjun⟩
    refine ⟨fun h0=> ?_,fun i hir=> ?_⟩
    ·exfalso
     have:∃i,i < n∧listed.getD i false=false:=by
      refine Classical.byContradiction fun hne=>hall fun i hin=> ?_
      cases hl:listed.getD i false with
      |true=>rfl
      |false=>exact absurd ⟨i,hin,hl⟩ hne
     obtain ⟨i,hin,hun⟩:=this
     exact hsome (i+1) ⟨i,hin,by omega,hun⟩ h0
    ·obtain ⟨hin,hun,hil,hp⟩:=hready i hir
     have ho:l[i]? =some l[i]:=by simp [hil]
     generalize l[i]=o at ho
     have hU':∀k,k < l.length→(listed.setIfInBounds i true).getD k false=false→k∈U.erase i:=fun k hkl hk=>by
      have hki:i≠k:=fun e=>by subst e;rw [zaj (by rw [hi.size];exact hil)] at hk;cases hk
      rw [getD_set_ne false hki] at hk
      exact (List.mem_erase_of_ne (fun h=>hki h.symm)).2 (hU k hkl hk)
     have hf':(U.erase i).length≤fuel:=by rw [List.length_erase_of_mem (hU i hil hun)];omega
     unfold wpOpIn
     simp only [List.getElem?_toArray,ho]
     rcases hfacts.at i o (by rw [List.getElem?_take_of_lt hin];exact ho) with ⟨av,q1,q2,d,hd,hdn,q3⟩|⟨m,q1,q2,d,hd,hdn,hgn,q3⟩
     ·rcases q3 with ⟨hg,hq⟩|⟨hg,rfl⟩
      ·rw [if_pos (hi.guard hC ho hin hp hg)]
       refine hq _ a w _ _ (hi.env hC ho hin hp) fun v w' hr hh hkp=> ?_
       rw [hd]
       exact ih (U.erase i) B _ _ _ (hi.stepQ hC ho hin hp hd (Nat.le_of_ble_eq_true hdn) q1 q2 hr hh hkp) hU' hf'
      ·rw [if_neg (by rw [hi.guard hC ho hin hp hg];simp)]
       refine ⟨k6,?_⟩
       rw [hd]
       exact ih (U.erase i) B _ _ _ (hi.stepQ hC ho hin hp hd (Nat.le_of_ble_eq_true hdn) q1 q2 (.v _) hi.heap (.refl _ _)) hU' hf'
     ·rw [if_pos (by simp [Region.wanted,hgn])]
      obtain ⟨o1,o2⟩:=hi.open hin q2 hun
      have henv:=hi.env hC ho hin hp
      refine q3 _ a w _ _ hi.tsz hi.defs ⟨o1,fun z av hz=>by rw [o2];exact henv.rel z av hz⟩ fun x v w' hr hh hkp=> ?_
      rw [hd]
      exact ih (U.erase i) _ _ _ _ (hi.stepM hC ho hin hp hd (Nat.le_of_ble_eq_true hdn) q1 q2 hun hr hh hkp) hU' hf'
 have hX0:XB X (zb5 ms)=Sub X (u4 (zdg ms)):=by funext b;simp only [XB,Sub,zds]
 have hpart:HRel (Sub X (u4 (zdg ms))) w0 h:=(hperm.perm List.perm_append_comm).part
 have hO0:OO h (XB X (zb5 ms))=OO hh X:=by
  rw [hX0];funext b;simp only [OO,Sub,hown0,eq_iff_iff]
  exact ⟨fun q=>by rcases q with q|q|q <;> simp [q],fun q=>by rcases q with (q|q)|q <;> simp [q]⟩
 have hnd:=hperm.nodup
 rw [x7,List.nodup_append] at hnd
 obtain ⟨hinj,hndi⟩:=zls hnd.1
 have hsz:l.toArray.size=l.length:=by simp
 have hrep:∀i,(Array.replicate l.length false).getD i false=false:=zmv l.length
 refine main l.toArray.size (List.range l.length) (zb5 ms) _ a0 {w0 with drawn:=w0.drawn+1} ⟨by simp,fun i hi=> ?_,fun i _=> ?_,hs.size,hs.defs,?_,hinj,fun i b h=> ?_,fun i m hin hms _=> ?_,fun i o d m _ _ _ _ h=> ?_,fun i h=> ?_,fun i o d av _ _ _ _ h=> ?_,fun d av _ hl=> ?_,⟨Nat.le_refl _,fun b _ h=>⟨rfl,h⟩,zgz.eq rfl rfl rfl (by first|exact Nat.le_refl _|exact Nat.le_succ _)⟩⟩
  (fun i hi _=>List.mem_range.2 hi) (by simp)
 ·rw [hsz,hrep i] at hi;cases hi
 ·rw [hsz];exact hrep i
 ·rw [hX0];exact hpart.grow (Nat.le_refl _) fun _ _=>rfl
 ·refine ⟨?_,fun hx=> ?_,.inr (zds.1 ⟨i,h⟩)⟩
  ·rw [←hmsl]
   unfold zb5 at h
   split at h
   ·rename_i m hm;exact (List.getElem?_eq_some_iff.1 hm).1
   ·cases h
  ·exact (hperm.lt b (by rw [x7];exact List.mem_append_left _ (zds.1 ⟨i,h⟩))).2 hx
 ·refine ⟨by simp [zb5,hms],hndi i,fun r hr=> ?_⟩
  rw [hO0]
  have hmem:r∈zdg ms++h:=List.mem_append_left _ (List.mem_flatMap.2 ⟨some m,List.mem_of_getElem? hms,hr⟩)
  have:=hperm.holds r hmem
  rw [←zcf hp] at this
  exact Res.holds_keep (w:=w0) (Nat.le_refl _) (fun b hb _=>⟨rfl,hb⟩) (fun _ _=>rfl) this
 ·rw [hsz,hrep i] at h;cases h
 ·simp [zb5,h]
 ·rw [hsz,hrep i] at h;cases h
 ·rw [hO0]
  obtain ⟨v,e,r⟩:=hs.fr d av hl
  exact ⟨v,e,Rel.keep (w:=w0) (Nat.le_refl _) (fun b hb _=>⟨rfl,hb⟩) r⟩
theorem zsi {P:Program} {ro:Option Nat} {nt rid:Nat} {Q:Exit→St→Prop} {l:List Oper} {t:Fr} {h:List Res} {dsl:List Nat} (n:Nat) [hm:Mixed P] (hc:zk7 l n=true)
 (hk:zb4 P ro nt h dsl l (zb9 l n) t (l.take n) [] (fun e ms=>h.Perm (zdg ms++h)∧zal (l.take n) ms e h (fun e' h'=>zb0 P ro nt l.toArray (l.drop n) Q ⟨e'++t,h',dsl⟩))):aw P ro nt (.region rid l.toArray true) Q ⟨t,h,dsl⟩:=
 zz9 n h hc hk
section
variable {P:Program} {ro:Option Nat} {nt:Nat} {h:List Res} {dsl:List Nat} {l:List Oper} {sd:List Tmp} {t0:Fr} {rest:List Oper} {e:Fr} {K:Fr→List (Option CM)→Prop} {o:Oper} {av:AV} {d:Tmp} {op:Op} {ty:TypeId} {pos:String} {after:Array Edge} {g:Option (Nat×Bool)} {x y z:Operand}
theorem mq (hg:gdS l (lkS sd (zbb l ⟨some d,op,ty,pos,after,g⟩) e t0) ⟨some d,op,ty,pos,after,g⟩=some true) (hd:Nat.blt d nt=true)
 (hq:QR P h (evS sd (zbb l ⟨some d,op,ty,pos,after,g⟩) e t0) ⟨some d,op,ty,pos,after,g⟩ av) (hk:zb4 P ro nt h dsl l sd t0 rest ((d,av)::e) (fun e ms=>K e (none::ms)))
 (hn:zan ⟨some d,op,ty,pos,after,g⟩=true:=by rfl):zb4 P ro nt h dsl l sd t0 (⟨some d,op,ty,pos,after,g⟩::rest) e K:=
 .inl ⟨d,av,rfl,⟨d,rfl,hd,.inl ⟨hg,zet hq hn⟩⟩,hk⟩
theorem ms (hg:gdS l (lkS sd (zbb l ⟨some d,op,ty,pos,after,g⟩) e t0) ⟨some d,op,ty,pos,after,g⟩=some false) (hd:Nat.blt d nt=true) (hk:zb4 P ro nt h dsl l sd t0 rest ((d,.v (.tuple #[]))::e) (fun e ms=>K e (none::ms))):
 zb4 P ro nt h dsl l sd t0 (⟨some d,op,ty,pos,after,g⟩::rest) e K:=
 .inl ⟨d,.v undef,rfl,⟨d,rfl,hd,.inr ⟨hg,rfl⟩⟩,hk⟩
theorem yk2 (hk:K e []):zb4 P ro nt h dsl l sd t0 [] e K:=hk
theorem ydn {args:List Operand} {tys:Array TypeId} {fv:AV} {avs:List AV} (m:MR) (hd:Nat.blt d nt=true) (hx:evS sd (zbb l ⟨some d,.call ⟨.value x,args.toArray,tys⟩,ty,pos,after,none⟩) e t0 x=some fv)
 (ha:evs (evS sd (zbb l ⟨some d,.call ⟨.value x,args.toArray,tys⟩,ty,pos,after,none⟩) e t0) args=some avs) (hc:z8 P fv avs h (fun r h'=>∃x,r=(m x).1∧h'=(m x).2++h))
 (hk:zb4 P ro nt h dsl l sd t0 rest e (fun e ms=>K e (some ([],m)::ms))):zb4 P ro nt h dsl l sd t0 (⟨some d,.call ⟨.value x,args.toArray,tys⟩,ty,pos,after,none⟩::rest) e K:=by
 refine .inr ⟨([],m),⟨d,rfl,hd,rfl,fun X a w K Q _ _ he hK=> ?_⟩,hk⟩
 refine zjj (f:=0) (hc X w _ _ he.heap (he.rel x _ hx) (he.evs ha)) ?_
 rintro e w' ⟨v,av',h',e1,⟨x,rfl,rfl⟩,hrel,hh,hkeep⟩
 exact ⟨v,e1,hK x v w' hrel hh hkeep⟩
theorem ydo {o:Oper} {os:List Oper} {ms:List (Option CM)} {e:Fr} {h:List Res} {K:Fr→List Res→Prop} (hk:zal os ms e h K):zal (o::os) (none::ms) e h K:=hk
theorem zp9 {e:Fr} {h:List Res} {K:Fr→List Res→Prop} (hk:K e h):zal [] [] e h K:=hk
end
def MX.v0 (x:MX):SV:=x.vs.headD ⟨none,0,0⟩
abbrev yfc (sz:Nat) (T:TypeId) (rows:List (List AV)):MR:=fun x=>(.v x.v0.v,[.row x.v0.v sz T rows])
theorem z8.rowS {P:Program} {fv:AV} {args:List AV} {h:List Res} {sz:Nat} {T:TypeId} {rows:List (List AV)} (hc:z8 P fv args h (fun r h'=>∃s,h'= [.row s sz T rows]∧r= .v s)):
 z8 P fv args h (fun r h'=>∃s:SV,h'= [.row s.v sz T rows]∧r= .v s.v):=by
 intro X w v vs hh hv ha
 refine (hc X w v vs hh hv ha).mono ?_
 rintro e w' ⟨u,av,h',e1,⟨s,rfl,rfl⟩,hrel,hh',hk⟩
 have q:=hh'.holds _ (List.mem_singleton.2 rfl)
 cases s with
 |slice a n c=>exact ⟨u,_,_,e1,⟨⟨a,n,c⟩,rfl,rfl⟩,hrel,hh',hk⟩
 |_=>exact q.elim
theorem zvf {P:Program} {fv:AV} {args:List AV} {h:List Res} {sz:Nat} {T:TypeId} {rows:List (List AV)} (hc:z8 P fv args [] (fun r h'=>∃s,h'= [.row s sz T rows]∧r= .v s)):
 z8 P fv args h (fun r h'=>∃x,r=(yfc sz T rows x).1∧h'=(yfc sz T rows x).2++h):=by
 refine (hc.rowS.frame h).mono ?_
 rintro r _ ⟨h1,rfl,s,rfl,rfl⟩
 exact ⟨⟨[s],[]⟩,rfl,rfl⟩
theorem zp8 {op:Op} {ty:TypeId} {pos:String} {after:Array Edge} {g:Option (Nat×Bool)} {d:Tmp} {os:List Oper} {sz:Nat} {T:TypeId} {rows:List (List AV)} {c:List Res} {ms:List (Option CM)} {e:Fr} {h:List Res} {K:Fr→List Res→Prop}
 (hk:∀s:SV,zal os ms ((d,.v s.v)::e) (.row s.v sz T rows::h) K):zal (⟨some d,op,ty,pos,after,g⟩::os) (some (c,yfc sz T rows)::ms) e h K:=fun d' x e=>by cases e;exact hk x.v0
theorem zil {P:Program} {h:List Res} {f:Operand→Option AV} {dst:Option Tmp} {ty:TypeId} {pos:String} {after:Array Edge} {guard:Option (Nat×Bool)} {x:Operand} {T FT E:TypeId} {s:Value} {k sz i kk off n ri:Nat} {rows:List (List AV)} (hx:f x=some (.rp s sz i kk)) [hr:HasRow h s ri sz E rows] [hf:Fld P T k off FT] [Siz P FT n] (hn:n≠0):
 QR P h f ⟨dst,.fieldAddr T x k,ty,pos,after,guard⟩ (.rp s sz i (kk+off)):=fun X ρ w he=>by
 have hrr:=he.rel x _ hx
 generalize hv:ρ x=v at hrr
 cases hrr with
 |rp a len cap _ _ _=>
  have hx2:=he.heap.holds _ (List.mem_of_getElem? hr.h)
  obtain ⟨h1,_⟩:=hx2
  obtain ⟨b,o,spot⟩:=a
  simp only at h1;subst h1
  refine ⟨_,run_v _ (by rw [hv,zap];exact zer (n:=n) (FT:=FT) hn),?_⟩
  have:=Rel.rp (w:=w) (O:=OO h X) ⟨b,o,none⟩ len cap sz i (kk+off)
  rw [zap,←Nat.add_assoc (i * sz),←Nat.add_assoc o] at this
  exact this
theorem za8 {P:Program} {ro:Option Nat} {nt:Nat} {ops:Array Oper} {l:List Oper} {Q:Exit→St→Prop} {t:Fr} {h:List Res} {ds:List Nat} (s:Value) {i sz:Nat} {T:TypeId} {rows:List (List AV)} [hr:HasRow h s i sz T rows]
 (k:∀v:SV,s=v.v→zb0 P ro nt ops l Q ⟨t,h,ds⟩):zb0 P ro nt ops l Q ⟨t,h,ds⟩:=fun X a w hs=>by
 have q:=hs.heap.holds _ (List.mem_of_getElem? hr.h)
 cases s with
 |slice a' n c=>exact k ⟨a',n,c⟩ rfl X a w hs
 |_=>exact q.elim
section
variable {P:Program} {ro:Option Nat} {nt:Nat} {h:List Res} {dsl:List Nat} {l:List Oper} {sd:List Tmp} {t0:Fr} {rest:List Oper} {e:Fr} {K:Fr→List (Option CM)→Prop} {d i j:Tmp} {ty:TypeId} {pos:String} {after:Array Edge}
end
theorem zik {h:List Res} {s:Value} {sz:Nat} {T:TypeId} {rows:List (List AV)} (A B:List AV):zf8 (.row s sz T rows::h) (.agg (A++ .v s::B)) h (.agg (A++ .list false sz rows::B)):=by
 refine ⟨fun x hx=>by rw [w8];exact List.mem_append_right _ hx,fun X w v hh hr=>⟨HRel.drop (h:= [_]) hh,?_⟩⟩
 have hf:=zf0 hh
 cases hr with
 |agg _ cs hl hc=>
  refine .agg _ cs (by simpa using hl) fun j h1 h2=> ?_
  have hj:j < (A++ .v s::B).length:=by simpa using h1
  have hcj:=hc j hj h2
  have hkeep:∀av u,Rel w (OO (.row s sz T rows::h) X) av u→Rel w (OO h X) av u:=fun av u r=>r.keep (Nat.le_refl _) fun b hb _=>⟨rfl,fun q=>hb (by
   rcases q with q|q
   ·exact .inl (by rw [w8];exact List.mem_append_right _ q)
   ·exact .inr q)⟩
  by_cases hA:j < A.length
  ·rw [List.getElem_append_left hA] at hcj ⊢;exact hkeep _ _ hcj
  ·rw [List.getElem_append_right (by omega)] at hcj ⊢
   by_cases h0:j - A.length=0
   ·simp only [h0,List.getElem_cons_zero] at hcj ⊢
    rw [hcj.v_eq];exact hf
   ·obtain ⟨k,hk⟩:∃k,j - A.length=k+1:=⟨j - A.length - 1,by omega⟩
    simp only [hk,List.getElem_cons_succ] at hcj ⊢
    exact hkeep _ _ hcj
theorem za3 {h:List Res} {s:Value} {sz:Nat} {T:TypeId} {rows:List (List AV)} (A B:List AV):zf8 (.row s sz T rows::h) (.tup (A++ .v s::B)) h (.tup (A++ .list false sz rows::B)):=by
 refine ⟨fun x hx=>by rw [w8];exact List.mem_append_right _ hx,fun X w v hh hr=>⟨HRel.drop (h:= [_]) hh,?_⟩⟩
 have hf:=zf0 hh
 cases hr with
 |tup _ cs hl hc=>
  refine .tup _ cs (by simpa using hl) fun j h1 h2=> ?_
  have hj:j < (A++ .v s::B).length:=by simpa using h1
  have hcj:=hc j hj h2
  have hkeep:∀av u,Rel w (OO (.row s sz T rows::h) X) av u→Rel w (OO h X) av u:=fun av u r=>r.keep (Nat.le_refl _) fun b hb _=>⟨rfl,fun q=>hb (by
   rcases q with q|q
   ·exact .inl (by rw [w8];exact List.mem_append_right _ q)
   ·exact .inr q)⟩
  by_cases hA:j < A.length
  ·rw [List.getElem_append_left hA] at hcj ⊢;exact hkeep _ _ hcj
  ·rw [List.getElem_append_right (by omega)] at hcj ⊢
   by_cases h0:j - A.length=0
   ·simp only [h0,List.getElem_cons_zero] at hcj ⊢
    rw [hcj.v_eq];exact hf
   ·obtain ⟨k,hk⟩:∃k,j - A.length=k+1:=⟨j - A.length - 1,by omega⟩
    simp only [hk,List.getElem_cons_succ] at hcj ⊢
    exact hkeep _ _ hcj
theorem x3.ventR {P:Program} {f:FuncId} {args:List AV} {h:List Res} {R R2:AV→List Res→Prop} (hc:x3 P f args h R) (hv:∀r h',R r h'→∃r2 h2,zf8 h' r h2 r2∧R2 r2 h2):x3 P f args h R2:=by
 intro X w vs hh ha
 refine (hc X w vs hh ha).mono ?_
 rintro e w' ⟨u,av,h',e1,hR,hrel,hh',hk⟩
 obtain ⟨r2,h2,⟨o,q⟩,hR2⟩:=hv _ _ hR
 obtain ⟨q1,q2⟩:=q X w' u hh' hrel
 exact ⟨u,r2,h2,e1,hR2,q2,q1,⟨hk.size,fun b hb ho=>⟨(hk.same b hb ho).1,fun hm=>(hk.same b hb ho).2 (o b hm)⟩,hk.env⟩⟩
theorem z8.ventR {P:Program} {fv:AV} {args:List AV} {h:List Res} {R R2:AV→List Res→Prop} (hc:z8 P fv args h R) (hv:∀r h',R r h'→∃r2 h2,zf8 h' r h2 r2∧R2 r2 h2):z8 P fv args h R2:=by
 intro X w v vs hh hvv ha
 refine (hc X w v vs hh hvv ha).mono ?_
 rintro e w' ⟨u,av,h',e1,hR,hrel,hh',hk⟩
 obtain ⟨r2,h2,⟨o,q⟩,hR2⟩:=hv _ _ hR
 obtain ⟨q1,q2⟩:=q X w' u hh' hrel
 exact ⟨u,r2,h2,e1,hR2,q2,q1,⟨hk.size,fun b hb ho=>⟨(hk.same b hb ho).1,fun hm=>(hk.same b hb ho).2 (o b hm)⟩,hk.env⟩⟩
theorem z8.ventE {P:Program} {fv:AV} {args:List AV} {h:List Res} {R:AV→List Res→Prop} (hc:z8 P fv args h (fun r h'=>∃r2 h2,zf8 h' r h2 r2∧R r2 h2)):z8 P fv args h R:=hc.ventR fun _ _ q=>q
inductive Scal:AV→Prop where
 |any:Scal .any
 |v (x:Value):Scal (.v x)
 |tup (vs:List AV):(∀j (h:j < vs.length),Scal vs[j])→Scal (.tup vs)
 |fn (f:Fn):Scal (.fn f [] [])
theorem Scal.rel {a:AV} (s:Scal a):∀{w w':World} {O O':Nat→Prop} {v:Value},Rel w O a v→Rel w' O' a v:=by
 induction s with
 |any=>intro w w' O O' v r;exact .any _
 |v x=>intro w w' O O' v r;rw [r.v_eq];exact .v _
 |tup vs _ ih=>
  intro w w' O O' v r
  cases r with
  |tup _ cs h1 h2=>exact .tup _ _ h1 fun j a b=>ih j a (h2 j a b)
 |fn f=>
  intro w w' O O' v r
  cases r with
  |fn _ _ _ fa ca h1 h2 h3 h4=>exact .fn _ _ _ _ _ h1 h2 (fun j h=>absurd h (Nat.not_lt_zero j)) (fun j h=>absurd h (Nat.not_lt_zero j))
theorem ye6 {r:Res} {h:List Res} {X:Nat→Prop} {b:Nat}:OO (r::h) X b ↔ b∈r.own∨OO h X b:=by
 simp only [OO,w8,List.mem_append];exact or_assoc
theorem zgh {nt:Nat} {t:Fr} {h:List Res} {ds:List Nat} {s:Value} {sz:Nat} {T TB:TypeId} {rows:List (List AV)} {b:Nat} (A B:List AV):
 Ent nt ⟨t,.row s sz T rows:: .box b TB (A++ .v s::B)::h,ds⟩ ⟨t,.box b TB (A++ .list false sz rows::B)::h,ds⟩:=by
 refine ⟨fun x hx=> ?_,fun X a w hs=> ?_⟩
 ·simp only [w8,List.mem_append] at hx ⊢
  exact .inr hx
 have hO:∀b',OO (.box b TB (A++ .list false sz rows::B)::h) X b' ↔ OO (.box b TB (A++ .v s::B)::h) X b':=fun b'=>by simp [OO,w8,Res.own]
 have hO':OO (.box b TB (A++ .list false sz rows::B)::h) X=OO (.box b TB (A++ .v s::B)::h) X:=by funext b';exact propext (hO b')
 have hd:=HRel.drop (h:= [_]) hs.heap
 have hf:=zf0 hs.heap
 have hkeep:∀av u,Rel w (OO (.row s sz T rows:: .box b TB (A++ .v s::B)::h) X) av u→Rel w (OO (.box b TB (A++ .v s::B)::h) X) av u:=fun av u r=>r.keep (Nat.le_refl _) fun b hb _=>⟨rfl,fun q=>hb (ye6.2 (.inr q))⟩
 refine ⟨⟨by simpa [w8,Res.own] using hd.nodup,fun b' hb'=>hd.lt b' (by simpa [w8,Res.own] using hb'),hd.xlt,fun r hr=> ?_⟩,hs.size,fun i av e=> ?_,hs.defs⟩
 ·rw [hO']
  rcases List.mem_cons.1 hr with rfl|hr
  ·obtain ⟨c,h1,h2,h3⟩:=hd.holds _ (List.mem_cons_self)
   refine ⟨c,h1,by simpa using h2,fun j j1 j2=> ?_⟩
   have hj:j < (A++ .v s::B).length:=by simpa using j1
   have hcj:=h3 j hj j2
   by_cases hA:j < A.length
   ·rw [List.getElem_append_left hA] at hcj ⊢;exact hcj
   ·rw [List.getElem_append_right (by omega)] at hcj ⊢
    by_cases h0:j - A.length=0
    ·simp only [h0,List.getElem_cons_zero] at hcj ⊢
     rw [hcj.v_eq];exact hf
    ·obtain ⟨k,hk⟩:∃k,j - A.length=k+1:=⟨j - A.length - 1,by omega⟩
     simp only [hk,List.getElem_cons_succ] at hcj ⊢
     exact hcj
  ·exact hd.holds r (List.mem_cons_of_mem _ hr)
 ·obtain ⟨u,e1,r⟩:=hs.fr i av e
  refine ⟨u,e1,?_⟩
  show Rel w (OO (.box b TB (A++ .list false sz rows::B)::h) X) av u
  rw [hO'];exact hkeep _ _ r
theorem zpn {H:List Res} {X:Nat→Prop} {w:World} {s:Value} {sz:Nat} {T:TypeId} {rows rows':List (List AV)} {O':Nat→Prop} (hh:HRel X w H) (hm: .row s sz T rows∈H) (hO:∀b∈(Res.row s sz T rows).own,¬O' b) (hl:rows'.length=rows.length)
 (hl2:∀i (h:i < rows.length) (h':i < rows'.length),rows'[i].length=rows[i].length)
 (hc:∀i (h:i < rows.length) (h':i < rows'.length) j (k:j < rows[i].length) (k':j < rows'[i].length) u,Rel w (OO H X) rows[i][j] u→Rel w O' rows'[i][j] u):Rel w O' (.list false sz rows') s:=by
 have hx:=hh.holds _ hm
 cases s <;> try exact hx.elim
 rename_i a len cap
 cases a with
 |none=>
  obtain ⟨rfl,rfl,rfl⟩:=hx
  obtain rfl:rows'= []:=List.eq_nil_of_length_eq_zero (by simpa using hl)
  exact .lnil _ _ _ _ (by simp)
 |some a=>
  obtain ⟨h1,h2,h3,h4,c,h5,h6,h7⟩:=hx
  obtain ⟨b,off,spot⟩:=a
  simp only at h1;subst h1;subst h2
  have hb:=hh.lt b (u9.2 ⟨_,hm,by simp [Res.own]⟩)
  rw [←hl]
  refine .list _ _ _ b off cap (fun i j=>c[off+i * sz+j]?.getD undef) (by simp) (by omega) (hO b (by simp [Res.own])) hb.1 (fun i hi=>by rw [hl2 i (by omega) hi];exact h4 i (by omega)) (fun i hi j hj=> ?_) fun i hi j hj=> ?_
  ·obtain ⟨v,e,_⟩:=h7 i (by omega) j (by rw [←hl2 i (by omega) hi];exact hj)
   simp only at e h5
   simp [World.cell?,h5,e]
  ·obtain ⟨v,e,r⟩:=h7 i (by omega) j (by rw [←hl2 i (by omega) hi];exact hj)
   simp only at e
   rw [e];exact hc i (by omega) hi j (by rw [←hl2 i (by omega) hi];exact hj) hj v r
section
variable {P:Program} {h:List Res} {f:Operand→Option AV} {dst:Option Tmp} {ty:TypeId} {pos:String} {after:Array Edge} {guard:Option (Nat×Bool)} {x y:Operand}
theorem zuy {tys:Array TypeId} {k k':IntKind} (a b:Nat) (hx:f x=some (.v (.int k a))) (hy:f y=some (.v (.int k' b))):
 QR P h f ⟨dst,.call ⟨.builtin .min,[x,y].toArray,tys⟩,ty,pos,after,guard⟩ (.v (.int k ((min a b:Nat):Int))):=by
 have:=zuz (P:=P) (h:=h) (tys:=tys) (dst:=dst) (ty:=ty) (pos:=pos) (after:=after) (guard:=guard) hx hy
 rw [show ((min a b:Nat):Int)=min (a:Int) (b:Int) from by omega];exact this
theorem zpv {T E:TypeId} {full:Bool} {sz k:Nat} {rows rows':List (List AV)} (hx:f x=some (.list full sz rows)) (hy:f y=some (.v (.int .i64 k))) (hk:k≤rows.length) (he:rows.take k=rows')
 [Und P T (.slice E)] [Siz P E sz]:QR P h f ⟨dst,.slice T x none (some y) none,ty,pos,after,guard⟩ (.list false sz rows'):=by
 subst he;exact zdq hx hy hk
end
section
variable {P:Program} {h:List Res} {f:Operand→Option AV} {dst:Option Tmp} {ty T T':TypeId} {pos:String} {after:Array Edge} {g:Option (Nat×Bool)} {x y z:Operand} {av:AV}
theorem yhp (q:QR P h f ⟨dst,.move x,ty,pos,after,g⟩ av):QR P h f ⟨dst,.move x,ty,pos,after,g⟩ av:=q
theorem zzv (q:QR P h f ⟨dst,.assign x,ty,pos,after,g⟩ av):QR P h f ⟨dst,.assign x,ty,pos,after,g⟩ av:=q
theorem yho (q:QR P h f ⟨dst,.pick x y z,ty,pos,after,g⟩ av):QR P h f ⟨dst,.pick x y z,ty,pos,after,g⟩ av:=q
theorem yki {op:BinOp} (q:QR P h f ⟨dst,.binOp op T x y T',ty,pos,after,g⟩ av):QR P h f ⟨dst,.binOp op T x y T',ty,pos,after,g⟩ av:=q
theorem ylw {op:UnOp} (q:QR P h f ⟨dst,.unOp op T x,ty,pos,after,g⟩ av):QR P h f ⟨dst,.unOp op T x,ty,pos,after,g⟩ av:=q
theorem zql {k:Nat} (q:QR P h f ⟨dst,.fieldAddr T x k,ty,pos,after,g⟩ av):QR P h f ⟨dst,.fieldAddr T x k,ty,pos,after,g⟩ av:=q
theorem yee {k:Nat} (q:QR P h f ⟨dst,.field T x k,ty,pos,after,g⟩ av):QR P h f ⟨dst,.field T x k,ty,pos,after,g⟩ av:=q
theorem yhq (q:QR P h f ⟨dst,.load T x,ty,pos,after,g⟩ av):QR P h f ⟨dst,.load T x,ty,pos,after,g⟩ av:=q
theorem ztg (q:QR P h f ⟨dst,.nilCheck x,ty,pos,after,g⟩ av):QR P h f ⟨dst,.nilCheck x,ty,pos,after,g⟩ av:=q
theorem zqk (q:QR P h f ⟨dst,.indexAddr T x y,ty,pos,after,g⟩ av):QR P h f ⟨dst,.indexAddr T x y,ty,pos,after,g⟩ av:=q
theorem yed (q:QR P h f ⟨dst,.index T x y,ty,pos,after,g⟩ av):QR P h f ⟨dst,.index T x y,ty,pos,after,g⟩ av:=q
theorem ykh {b:Builtin} {as:Array Operand} {ts:Array TypeId} (q:QR P h f ⟨dst,.call ⟨.builtin b,as,ts⟩,ty,pos,after,g⟩ av):QR P h f ⟨dst,.call ⟨.builtin b,as,ts⟩,ty,pos,after,g⟩ av:=q
theorem yeb {a b c:Option Operand} (q:QR P h f ⟨dst,.slice T x a b c,ty,pos,after,g⟩ av):QR P h f ⟨dst,.slice T x a b c,ty,pos,after,g⟩ av:=q
theorem zwa {k:Nat} (q:QR P h f ⟨dst,.extract x k,ty,pos,after,g⟩ av):QR P h f ⟨dst,.extract x k,ty,pos,after,g⟩ av:=q
def yib (op:BinOp) (k:IntKind):Bool:=match op,k with
 | .add,.i64=>false
 | .sub,.i64=>false
 | .mul,.i64=>false
 |_,_=>true
theorem zyw {op:BinOp} {k:IntKind} {a b c:Int} (hx:f x=some (.v (.int k a))) (hy:f y=some (.v (.int k b))) (hk:yib op k=true) (hc:zz7 op k a b=some c):
 QR P h f ⟨dst,.binOp op T x y T',ty,pos,after,g⟩ (.v (.int k c)):=yc5 hx hy hc
end
theorem qrA {P:Program} {h:List Res} {f:Operand→Option AV} {o:Oper} {av:AV} (hq:QR P h f o av:=by
 first
 |(apply yhp;exact yc2 rfl)
 |(apply yki;first
  |exact zco rfl rfl rfl
  |exact j6 rfl rfl rfl (by omega)
  |exact zg6 rfl rfl rfl (by decide)
  |exact zyw rfl rfl rfl rfl
  |exact zyt rfl rfl
  |exact zys rfl rfl
  |exact zn0 rfl rfl rfl
  |exact znt rfl rfl
  |exact zyu rfl rfl rfl rfl
  |exact zme rfl rfl rfl rfl)
 |(apply yhq;first
  |exact j3 rfl rfl
  |exact zky rfl rfl
  |exact zgc rfl (by assumption) rfl
  |exact zpz rfl rfl
  |exact zkz rfl rfl
  |exact zgl rfl (Nat.le_of_ble_eq_true rfl)
  |exact zgd rfl (Nat.le_of_ble_eq_true rfl)
  |exact u3 rfl (by assumption) rfl)
 |(apply zql;first
  |exact znz rfl (Nat.succ_ne_zero _)
  |exact zjv rfl (Nat.succ_ne_zero _)
  |exact zju rfl (Nat.succ_ne_zero _)
  |exact zil rfl (Nat.succ_ne_zero _))
 |(apply yho;first
  |exact zuv rfl rfl
  |exact zuw rfl rfl
  |exact zux rfl rfl rfl)
 |(apply zzv;exact zu2 rfl)
 |(apply zqk;first
  |exact zau rfl rfl (by assumption)
  |exact q8 rfl rfl (by assumption)
  |exact u7 rfl rfl (by omega))
 |(apply ykh;first
  |exact zp0 rfl
  |exact zle rfl
  |exact zmf rfl
  |exact zuz rfl rfl
  |exact yc4 rfl rfl
  |exact yc3 rfl rfl rfl)
 |(apply yee;first
  |exact znx rfl rfl
  |exact zny rfl (Nat.le_of_ble_eq_true rfl))
 |(apply ztg;first
  |exact zpw rfl
  |exact zkw rfl
  |exact zkv rfl)
 |(apply ylw;exact ygm rfl)
 |(apply zwa;exact zs4 rfl rfl)
 |(apply yeb;first
  |exact zhn rfl rfl (by omega)
  |exact zei rfl rfl (by omega)
  |exact zpu rfl rfl rfl (by omega)
  |exact zpt rfl rfl rfl (by omega) (by omega)
  |exact zdq rfl rfl (by omega)
  |exact zs2 rfl rfl (by omega))
 |(apply yed;exact zb7 rfl rfl (by omega) (by assumption))
 |exact zbu rfl rfl
 |exact zpx rfl rfl
 |exact j8 rfl (by rfl)
 |exact zcb rfl (by rfl)
 |exact zyv rfl (by assumption)):QR P h f o av:=hq
section
variable {P:Program} {ro:Option Nat} {nt:Nat} {Q:Exit→St→Prop} {s:St} {c:Operand} {x y:Code}
theorem ztp (hc:ev s.t c=some (.v (.bool true))) (h:aw P ro nt x Q s):aw P ro nt (.cond c x y) Q s:=y3 hc (fun _=>h) (fun h=>by cases h)
theorem zqy (hc:ev s.t c=some (.v (.bool false))) (h:aw P ro nt y Q s):aw P ro nt (.cond c x y) Q s:=y3 hc (fun h=>by cases h) (fun _=>h)
variable {ops:Array Oper} {l:List Oper} {dst:Option Tmp} {T ty:TypeId} {a b:Operand} {pos:String} {after:Array Edge} {g:Option (Nat×Bool)}
theorem zxm (q:zb0 P ro nt ops (⟨dst,.store T a b,ty,pos,after,g⟩::l) Q s):zb0 P ro nt ops (⟨dst,.store T a b,ty,pos,after,g⟩::l) Q s:=q
theorem yis (q:zb0 P ro nt ops l Q s):zb0 P ro nt ops l Q s:=q
theorem yl1 (q:aw P ro nt x Q s):aw P ro nt x Q s:=q
theorem yiq {e:Exit} {n:St→Prop} (q:thn n Q e s):thn n Q e s:=q
theorem yir {e:Exit} {n:Nat} (q:zfo n Q e s):zfo n Q e s:=q
theorem yky {h:List Res} {S:SB} {sd:List Tmp} {t0:Fr} {os:List Oper} {e:Fr} {σ:List SI} {K:Fr→List SI→Prop} (q:zcx P ro nt h S l sd t0 os e σ K):zcx P ro nt h S l sd t0 os e σ K:=q
theorem ykz {h:List Res} {dsl:List Nat} {sd:List Tmp} {t0:Fr} {os:List Oper} {e:Fr} {K:Fr→List (Option CM)→Prop} (q:zb4 P ro nt h dsl l sd t0 os e K):zb4 P ro nt h dsl l sd t0 os e K:=q
theorem ye4 {ms:List (Option CM)} {e:Fr} {h:List Res} {K:Fr→List Res→Prop} (q:zal l ms e h K):zal l ms e h K:=q
theorem ye5 {e:Fr} {h:List Res} {K:Fr→List Res→Prop} (q:zbi P nt l e h K):zbi P nt l e h K:=q
theorem q1 {d:Tmp} {op:Op} {t:Fr} {h:List Res} {ds:List Nat} {av:AV} (hk:zb0 P ro nt ops l Q ⟨(d,av)::t,h,ds⟩) (hg:gd ops t ⟨some d,op,ty,pos,after,g⟩=some true:=by rfl) (hd:Nat.blt d nt=true:=by rfl) (hq:QR P h (ev t) ⟨some d,op,ty,pos,after,g⟩ av:=by exact qrA)
 (hn:zan ⟨some d,op,ty,pos,after,g⟩=true:=by rfl):zb0 P ro nt ops (⟨some d,op,ty,pos,after,g⟩::l) Q ⟨t,h,ds⟩:=zxd hg hd (zet hq hn) hk
end
structure Hide (B:Prop):Prop where
 out:B
theorem rn {A B:Prop} (b:B) (hab:Hide B→A:=by
 intro hB
 repeat (first
  |(refine yis ?_;first
   |refine u5 ?_
   |refine qq rfl rfl qrA ?_
   |refine qs rfl rfl ?_
   |refine qs0 rfl ?_
   |(refine zxm ?_;first
    |refine z7 rfl (zac rfl rfl rfl ?_)
    |refine z7 rfl (zbl rfl rfl rfl rfl (Nat.le_of_ble_eq_true rfl) ?_)))
  |(refine yiq ?_;first
   |refine k7 ?_
   |refine zgj ?_
   |refine yfj ?_)
  |(refine yl1 ?_;first
   |refine w6 ?_
   |refine y6 ?_
   |refine zab ?_
   |refine zah ?_
   |refine zgu ?_
   |refine yig ?_
   |refine zsh ?_)
  |(refine yir ?_;first
   |refine zj0 ?_
   |refine zv6 ?_
   |refine zdf ?_
   |refine zht rfl ?_)
  |(refine yky ?_;first
   |refine ykq ⟨rfl,?_⟩
   |refine dq rfl rfl qrA ?_
   |refine ds rfl rfl ?_
   |refine da ?_)
  |(refine ye5 ?_;first
   |refine zhy ?_
   |refine zm2 rfl ?_)
  |(refine ykz ?_;first
   |refine mq rfl rfl qrA ?_
   |refine ms rfl rfl ?_)
  |(refine ye4 ?_;first
   |refine ydo ?_
   |refine zp9 ?_))
 exact hB.out):A:=hab ⟨b⟩
theorem rn0 {A B:Prop} (b:B) (hab:Hide B→A:=by
 intro hB
 repeat (first
  |(refine yis ?_;first
   |refine u5 ?_
   |refine qq rfl rfl qrA ?_
   |refine qs rfl rfl ?_
   |refine qs0 rfl ?_
   |(refine zxm ?_;first
    |refine z7 rfl (zac rfl rfl rfl ?_)
    |refine z7 rfl (zbl rfl rfl rfl rfl (Nat.le_of_ble_eq_true rfl) ?_)))
  |(refine yiq ?_;first
   |refine k7 ?_
   |refine zgj ?_
   |refine yfj ?_)
  |(refine yir ?_;first
   |refine zj0 ?_
   |refine zv6 ?_
   |refine zdf ?_
   |refine zht rfl ?_)
  |(refine yky ?_;first
   |refine ykq ⟨rfl,?_⟩
   |refine dq rfl rfl qrA ?_
   |refine ds rfl rfl ?_
   |refine da ?_)
  |(refine ye5 ?_;first
   |refine zhy ?_
   |refine zm2 rfl ?_)
  |(refine ykz ?_;first
   |refine mq rfl rfl qrA ?_
   |refine ms rfl rfl ?_)
  |(refine ye4 ?_;first
   |refine ydo ?_
   |refine zp9 ?_))
 exact hB.out):A:=hab ⟨b⟩
theorem rn2 {A B:Prop} (b:B) (hab:Hide B→A:=by
 intro hB
 repeat (first
  |(refine yky ?_;first
   |refine ykq ⟨rfl,?_⟩
   |refine dq rfl rfl qrA ?_
   |refine ds rfl rfl ?_
   |refine da ?_)
  |(refine ye5 ?_;first
   |refine zhy ?_
   |refine zm2 rfl ?_)
  |(refine ykz ?_;first
   |refine mq rfl rfl qrA ?_
   |refine ms rfl rfl ?_)
  |(refine ye4 ?_;first
   |refine ydo ?_
   |refine zp9 ?_))
 exact hB.out):A:=hab ⟨b⟩
section
variable {P:Program} {ro:Option Nat} {nt:Nat} {Q:Exit→St→Prop} {t t':Fr} {h h':List Res} {ds:List Nat} {c:Code}
theorem es (hs:SubF t t':=by repeat (first|exact .nil|refine .cons _ _ _ rfl ?_)):Ent nt ⟨t,h,ds⟩ ⟨t',h,ds⟩:=w9 hs
theorem ed (n:Nat) (hd:h.drop n=h':=by rfl) (hs:SubF t t':=by repeat (first|exact .nil|refine .cons _ _ _ rfl ?_)):Ent nt ⟨t,h,ds⟩ ⟨t',h',ds⟩:=by
 subst hd
 refine v8 ?_ (w9 hs)
 have:=zc6 (nt:=nt) (t:=t) (h1:=h.take n) (h2:=h.drop n) (ds:=ds)
 rwa [List.take_append_drop] at this
theorem eD (i:Nat) {x:Res} (hx:h[i]? =some x:=by rfl) (hd:h.eraseIdx i=h':=by rfl) (hs:SubF t t':=by repeat (first|exact .nil|refine .cons _ _ _ rfl ?_)):Ent nt ⟨t,h,ds⟩ ⟨t',h',ds⟩:=by
 subst hd
 exact v8 (v8 (zae (zi9 hx)) zwl) (w9 hs)
theorem zjg {ops:Array Oper} {l:List Oper} {s s':St} (he:Ent nt s s') (hk:zb0 P ro nt ops l Q s'):zb0 P ro nt ops l Q s:=fun X a w hs=>
 zag (s:=s) (s':=s') ⟨Nat.le_refl _,fun b hb ho=>⟨rfl,fun q=>ho (he.1 b q)⟩,zgz.eq rfl rfl rfl (by first|exact Nat.le_refl _|exact Nat.le_succ _)⟩ (hk X a w (he.2 X a w hs))
inductive SubB (t:Fr):Fr→Prop where
 |nil:SubB t []
 |cons (i:Nat) (a b:AV) (r:Fr):lk t i=some b→Sb b a→SubB t r→SubB t ((i,a)::r)
theorem yi5 (n:Nat) (a:AV):zf8 h a (h.drop n) a:=by
 have:=zf8.drop (h.take n) (h.drop n) a
 rwa [List.take_append_drop] at this
theorem rq (n:Nat) {rs:List ResultVar} {R:AV→List Res→Prop} {av:List AV} (hR:R (zd0 av) (h.drop n)) (hr:RVs P t h rs av:=by first|exact .cons _ _ _ _ (.tmp _ _ rfl) .nil|exact .cons _ _ _ _ (.tmp _ _ rfl) (.cons _ _ _ _ (.tmp _ _ rfl) .nil)|exact .cons _ _ _ _ (.tmp _ _ rfl) (.cons _ _ _ _ (.tmp _ _ rfl) (.cons _ _ _ _ (.tmp _ _ rfl) .nil))|exact .cons _ _ _ _ (.tmp _ _ rfl) (.cons _ _ _ _ (.tmp _ _ rfl) (.cons _ _ _ _ (.tmp _ _ rfl) (.cons _ _ _ _ (.tmp _ _ rfl) .nil)))):zxv P rs R .ret ⟨t,h,[]⟩:=
 zeh hr (yi5 n _) hR
theorem rqz {rs:List ResultVar} {R:AV→List Res→Prop} (hR:R (zd0 []) h) (hr:RVs P t h rs []:=by exact .nil):zxv P rs R .ret ⟨t,h,[]⟩:=zeh hr (.refl _ _) hR
theorem yas {rs:List ResultVar} {R:AV→List Res→Prop} (hR:R (zd0 []) h) (hr:RVs P t h rs []:=by exact .nil):zxv P rs R .normal ⟨t,h,[]⟩:=zdz hr (.refl _ _) hR
theorem fin {p:Prop} (hp:p:=by first|(simp only [*,Bool.true_and,Bool.false_and,Bool.and_false,Bool.and_true,Bool.true_or,Bool.or_false,Bool.false_or,Bool.or_true,if_true,if_false,Bool.false_eq_true,Bool.not_true,Bool.not_false];done)|(simp_all;done)|(simp_all <;> omega)):p:=hp
theorem eA (hs:Ent nt ⟨t,h,ds⟩ ⟨t',h',ds⟩:=by first|exact ed 0|exact ed 1|exact ed 2|exact ed 3|exact ed 4|exact ed 5|exact ed 6):Ent nt ⟨t,h,ds⟩ ⟨t',h',ds⟩:=hs
theorem zw4 (n:Nat) (p:Nat→Prop) (v:Nat→Fr) (cs:Fr) (hp:p 0)
 (round:∀k,k≤n→p k→aw P ro nt c (thn (fun s'=>k < n∧p (k+1)∧Ent nt s' ⟨v (k+1)++cs,h,ds⟩) Q) ⟨v k++cs,h,ds⟩)
 (hs:SubF t (v 0++cs):=by repeat (first|exact .nil|refine .cons _ _ _ rfl ?_)):aw P ro nt (.loop c) Q ⟨t,h,ds⟩:=
 j9 (fun k=>k≤n∧p k) (fun k=>⟨v k++cs,h,ds⟩) (fun k=>n - k) 0 ⟨Nat.zero_le _,hp⟩ (w9 hs) fun k hk=>zgt (fun e s' hq=>by
  cases e with
  |normal=>exact ⟨k+1,⟨hq.1,hq.2.1⟩,hq.2.2,by have:=hq.1;omega⟩
  |_=>exact hq) (round k hk.1 hk.2)
theorem za1 (n:Nat) (p:Nat→Prop) (inv:Nat→St) (hp:p 0) (h0:Ent nt ⟨t,h,ds⟩ (inv 0))
 (round:∀k,k≤n→p k→aw P ro nt c (thn (fun s'=>k < n∧p (k+1)∧Ent nt s' (inv (k+1))) Q) (inv k)):aw P ro nt (.loop c) Q ⟨t,h,ds⟩:=
 j9 (fun k=>k≤n∧p k) inv (fun k=>n - k) 0 ⟨Nat.zero_le _,hp⟩ h0 fun k hk=>zgt (fun e s' hq=>by
  cases e with
  |normal=>exact ⟨k+1,⟨hq.1,hq.2.1⟩,hq.2.2,by have:=hq.1;omega⟩
  |_=>exact hq) (round k hk.1 hk.2)
theorem zqx (n:Nat) (inv:Nat→SV→St) (a:SV) (h0:Ent nt ⟨t,h,ds⟩ (inv 0 a))
 (round:∀k a,k≤n→aw P ro nt c (thn (fun s'=>k < n∧∃a,Ent nt s' (inv (k+1) a)) Q) (inv k a)):aw P ro nt (.loop c) Q ⟨t,h,ds⟩:=
 j9 (fun x:Nat×SV=>x.1≤n) (fun x=>inv x.1 x.2) (fun x=>n - x.1) (0,a) (Nat.zero_le _) h0 fun x hx=>zgt (fun e s' hq=>by
  cases e with
  |normal=>
   obtain ⟨h1,a',h2⟩:=hq
   exact ⟨(x.1+1,a'),h1,h2,by simp only;omega⟩
  |_=>exact hq) (round x.1 x.2 hx)
theorem zc7 {σ:Type} (p:σ→Prop) (inv:σ→St) (μ:σ→Nat) (x0:σ) (hp:p x0) (h0:Ent nt ⟨t,h,ds⟩ (inv x0))
 (round:∀x,p x→aw P ro nt c (thn (fun s'=>∃x',p x'∧Ent nt s' (inv x')∧μ x' < μ x) Q) (inv x)):aw P ro nt (.loop c) Q ⟨t,h,ds⟩:=
 j9 p inv μ x0 hp h0 round
end
theorem zj6 {P:Program} {fv:AV} {args:List AV} {s:Value} {i sz:Nat} {T:TypeId} {rows rows':List (List AV)} {h:List Res} {h':Res→List Res} [hr:HasRow h s i sz T rows] [hset:∀y,SetAt h i y (h' y)]
 (hc:z8 P fv args [.row s sz T rows] (fun r h2=>∃s':SV,h2= [.row s'.v sz T rows']∧r= .v s'.v)):z8 P fv args h (fun r h2=>∃s':SV,h2=h' (.row s'.v sz T rows')∧r= .v s'.v):=by
 have hi:i < h.length:=(List.getElem?_eq_some_iff.1 hr.h).1
 have hp:=zi9 hr.h
 refine (z8.perm hp (z8.permR ((z8.frame (h.eraseIdx i) hc).mono ?_)))
 rintro av h2 ⟨h1',rfl,s',rfl,rfl⟩
 refine ⟨h' (.row s'.v sz T rows'),?_,s',rfl,rfl⟩
 rw [←(hset (.row s'.v sz T rows')).h]
 exact (zix hi).symm
theorem zf4 {P:Program} {fv r0:AV} {args:List AV} {s:Value} {i sz:Nat} {T:TypeId} {rows rows':List (List AV)} {h:List Res} {h':Res→List Res} [hr:HasRow h s i sz T rows] [hset:∀y,SetAt h i y (h' y)]
 (hc:z8 P fv args [.row s sz T rows] (fun r h2=>h2= [.row s sz T rows']∧r=r0)):z8 P fv args h (fun r h2=>h2=h' (.row s sz T rows')∧r=r0):=by
 have hi:i < h.length:=(List.getElem?_eq_some_iff.1 hr.h).1
 have hp:=zi9 hr.h
 refine (z8.perm hp (z8.permR ((z8.frame (h.eraseIdx i) hc).mono ?_)))
 rintro av h2 ⟨h1',rfl,rfl,rfl⟩
 refine ⟨h' (.row s sz T rows'),?_,rfl,rfl⟩
 rw [←(hset (.row s sz T rows')).h]
 exact (zix hi).symm
section
variable {P:Program} {h:List Res} {f:Operand→Option AV} {dst:Option Tmp} {ty:TypeId} {pos:String} {after:Array Edge} {g:Option (Nat×Bool)} {x y:Operand}
end
theorem zcy {A:Type} {f:A→List AV} {l:List A} {k:Nat} (hk:k < l.length):(l.map f)[k]? =some (f l[k]):=by simp [hk]
theorem zd7 {A B:Type} {f:A→B} {l:List A} {k:Nat} (h:decide ((k:Int) < ((l.map f).length:Nat))=true):k < l.length:=by simpa using h
theorem zd9 {A B:Type} {f:A→B} {l:List A} {k:Nat} (h:decide ((k:Int) < ((l.map f).length:Nat))=false) (hk:k≤l.length):k=l.length:=by
 have:l.length≤k:=by simpa using h
 omega
section
variable {A:Type} {f:A→A} {R:A→List AV} {l:List A} {k:Nat}
end
def ztu (s:Value) (sz:Nat):Value:=match s with
 | .slice a n _=>sliced a 0 n n sz
 |v=>v
theorem yep (a:Addr) (n sz:Nat):(if n=0 then some a else (some a).map (fun x:Addr=>x.add (0 * sz)))=some a:=by
 split
 ·rfl
 ·simp [Addr.add]
theorem zor (a:Addr) (n c sz:Nat):ztu (.slice (some a) n c) sz= .slice (some a) n n:=by
 unfold ztu
 simp only [sliced]
 rw [yep,Nat.sub_zero]
theorem zos (n c sz:Nat):ztu (.slice none n c) sz= .slice none n n:=by
 unfold ztu
 simp [sliced]
theorem zwn (s:Value) (sz:Nat) (T:TypeId) (rows:List (List AV)):(Res.row (ztu s sz) sz T rows).own=(Res.row s sz T rows).own:=by
 cases s with
 |slice a n c=>
  cases a with
  |none=>rw [zos];rfl
  |some a=>rw [zor];rfl
 |_=>rfl
theorem cut_holds {w:World} {O:Nat→Prop} {s:Value} {sz:Nat} {T:TypeId} {rows:List (List AV)} (h:(Res.row s sz T rows).holds w O):(Res.row (ztu s sz) sz T rows).holds w O:=by
 cases s with
 |slice a n c=>
  cases a with
  |none=>
   obtain ⟨h1,h2,h3⟩:=h
   rw [zos];exact ⟨h1,h2,h2⟩
  |some a=>
   obtain ⟨h1,h2,h3,h4,cc,h5,h6,h7⟩:=h
   rw [zor]
   exact ⟨h1,h2,Nat.le_refl _,h4,cc,h5,Nat.le_trans (Nat.add_le_add_left (Nat.mul_le_mul_right _ h3) _) h6,h7⟩
 |_=>exact h
theorem HRel.cut {X:Nat→Prop} {w:World} {h:List Res} {i:Nat} {s:Value} {sz:Nat} {T:TypeId} {rows:List (List AV)} (hh:HRel X w h) (hi:h[i]? =some (.row s sz T rows)):HRel X w (h.set i (.row (ztu s sz) sz T rows)):=by
 have ho:u4 (h.set i (.row (ztu s sz) sz T rows))=u4 h:=by
  unfold u4
  rw [List.flatMap_def,List.flatMap_def,List.map_set,zwn]
  congr 1
  obtain ⟨hl,e⟩:=List.getElem?_eq_some_iff.1 hi
  refine List.ext_getElem (by simp) fun j h1 h2=> ?_
  rw [List.getElem_set]
  split
  ·rename_i e2;subst e2;rw [List.getElem_map,e]
  ·rfl
 have hO:OO (h.set i (.row (ztu s sz) sz T rows)) X=OO h X:=by unfold OO;rw [ho]
 refine ⟨by rw [ho];exact hh.nodup,by rw [ho];exact hh.lt,hh.xlt,fun r hr=> ?_⟩
 rw [hO]
 rcases List.mem_or_eq_of_mem_set hr with h1|h1
 ·exact hh.holds r h1
 ·rw [h1];exact cut_holds (hh.holds _ (List.mem_of_getElem? hi))
section
variable {P:Program} {ro:Option Nat} {nt:Nat} {h:List Res} {f:Operand→Option AV} {dst:Option Tmp} {ty:TypeId} {pos:String} {after:Array Edge} {guard:Option (Nat×Bool)} {x y z:Operand}
theorem zlg {T E:TypeId} {s:Value} {sz i:Nat} {E':TypeId} {rows:List (List AV)} (hx:f x=some (.v s)) [hr:HasRow h s i sz E' rows] (hy:f y=some (.v (.int .i64 rows.length))) (hz:f z=some (.v (.int .i64 rows.length)))
 [Und P T (.slice E)] [Siz P E sz]:QR P h f ⟨dst,.slice T x none (some y) (some z),ty,pos,after,guard⟩ (.v (ztu s sz)):=fun X ρ w he=>by
 obtain ⟨a,cap,es,hcap,_⟩:=zmb he.heap hr.h
 obtain ⟨e1,e2⟩:=zg2 (P:=P) (T:=T) (E:=E)
 have hv:=(he.rel x _ hx).v_eq
 refine ⟨ztu s sz,run_v _ ?_,.v _⟩
 simp only [Option.map_none,Option.map_some]
 rw [run_sliceAt_slice w T _ _ _ _ e2,hv,(he.rel y _ hy).v_eq,(he.rel z _ hz).v_eq,es,run_slice_hm w T a _ cap e2 .i64 .i64 rows.length rows.length (by omega) (by omega) (by omega),e1]
 simp only [run_sizeOf (n:=sz),Result.andThen_ok,Int.toNat_natCast]
 rfl
theorem zsl {ops:Array Oper} {l:List Oper} {Q:Exit→St→Prop} {t:Fr} {h h':List Res} {ds:List Nat} (s:Value) {i sz:Nat} {T:TypeId} {rows:List (List AV)} [hr:HasRow h s i sz T rows] [hset:SetAt h i (.row (ztu s sz) sz T rows) h']
 (k:zb0 P ro nt ops l Q ⟨t,h',ds⟩):zb0 P ro nt ops l Q ⟨t,h,ds⟩:=by
 refine zjg (s':=⟨t,h',ds⟩) ?_ k
 have ho:u4 h'=u4 h:=by
  rw [←hset.h]
  unfold u4
  rw [List.flatMap_def,List.flatMap_def,List.map_set,zwn]
  congr 1
  obtain ⟨hl,e⟩:=List.getElem?_eq_some_iff.1 hr.h
  refine List.ext_getElem (by simp) fun j h1 h2=> ?_
  rw [List.getElem_set]
  split
  ·rename_i e2;subst e2;rw [List.getElem_map,e]
  ·rfl
 refine ⟨fun b hb=>by rw [←ho];exact hb,fun X a w hs=>⟨by rw [←hset.h];exact hs.heap.cut hr.h,hs.size,?_,hs.defs⟩⟩
 have:OO h' X=OO h X:=by unfold OO;rw [ho]
 show zec w (OO h' X) t a.tmps
 rw [this];exact hs.fr
end
theorem zoj {P:Program} {l:Nat} {pend:Option Code} {fn:FuncId} {nt:Nat} {t:Fr} {ps:List Tmp} {asn body:Code} {dd:Nat} {args:List AV} {h:List Res} {R:AV→List Res→Prop} (hps:Nat.beq ps.length args.length=true) (hpn:(ps.all fun p=>Nat.blt p nt)=true)
 (hb:aw P (some l) nt asn (thn (fun s=>∃t' h2,Ent nt s ⟨t',.loop l .ready pend fn nt t ps.toArray asn body dd::h2,[]⟩∧aw P (some l) nt body (ybl l pend fn nt t ps.toArray asn body dd R) ⟨t',.loop l .busy pend fn nt t ps.toArray asn body dd::h2,[]⟩) (fun _ _=>False))
  ⟨zl0 ps args t,.loop l .ready pend fn nt t ps.toArray asn body dd::h,[]⟩):z8 P (yv l) args (.loop l .ready pend fn nt t ps.toArray asn body dd::h) R:=by
 intro X w v vs hh hv ha
 rw [hv.v_eq]
 obtain ⟨tmps,hl,hsz,hfr⟩:=zfm hh
 have hlen:ps.length=vs.length:=by rw [Nat.eq_of_beq_eq_true hps];exact ha.length
 have hrun:(zki (.func (.yield l) #[] #[]) vs.toArray).run P w= .ok (.round l fn ((ps.zip vs).foldl (fun tmps (x:Tmp×Value)=>tmps.setIfInBounds x.1 x.2) tmps) asn body) w:=by
  simp only [zki,Deferred.ofValue,Sem.run_bind,Sem.run_pure,Result.andThen_ok,invoke,Instr.yield,zca hl]
  simp only [Array.append_eq_append,Array.empty_append,List.size_toArray]
  rw [if_neg (by omega)]
  simp only [Sem.run_pure]
  congr 2
  rw [←Array.foldl_toList]
  simp
 rw [hrun]
 have hpn':∀p∈ps,p < tmps.size:=fun p hp=>by have:=List.all_eq_true.1 hpn p hp;rw [hsz];exact Nat.le_of_ble_eq_true this
 obtain ⟨z1,z2⟩:=zo7 hpn' ha hfr
 refine roundIn_of_wpIn (F:=FW none) trivial ?_
 refine wpIn_mono (hb X {tmps:=(ps.zip vs).foldl (fun tmps (x:Tmp×Value)=>tmps.setIfInBounds x.1 x.2) tmps,defers:= []} w ⟨hh,by rw [z2,hsz],z1,rfl⟩) ?_
 rintro e a1 w1 ⟨s1,q1,r1,k1⟩
 cases e with
 |normal=>
  obtain ⟨t',h2,hent,hbody⟩:=q1
  have r1':=hent.2 X a1 w1 r1
  have k1':Keep (u4 (.loop l .ready pend fn nt t ps.toArray asn body dd::h)) w (u4 (.loop l .ready pend fn nt t ps.toArray asn body dd::h2)) w1:=⟨k1.size,fun b hb ho=>⟨(k1.same b hb ho).1,fun hm=>(k1.same b hb ho).2 (hent.1 b hm)⟩,k1.env⟩
  obtain ⟨tmps1,hl1,hsz1,hfr1⟩:=zfm r1'.heap
  obtain ⟨w2,g1,g2,g3,g4,g5⟩:=zi4 (P:=P) (st':= .busy) (pend':=pend) r1'.heap hl1
  refine ⟨w2,?_,?_⟩
  ·simp only [Instr.beginRound,Sem.run_bind,zca hl1,Result.andThen_ok,g1,Sem.run_pure]
  ·have hsim:Sim X nt ⟨t',.loop l .busy pend fn nt t ps.toArray asn body dd::h2,[]⟩ a1 w2:=⟨g2,r1'.size,r1'.fr.keep g3.size g4,r1'.defs⟩
   refine wpIn_mono (hbody X a1 w2 hsim) ?_
   rintro e2 a3 w3 ⟨s3,⟨h1,hp,hR⟩,r3,k3⟩
   have hh3:=r3.heap.perm hp
   obtain ⟨tmps3,hl3,hsz3,hfr3⟩:=zfm hh3
   have fin:∀(jump:Option Code),(∀b:Bool,b=jump.isNone→R (.v (.bool b)) (.loop l (if jump.isNone then .ready else .done) jump fn nt t ps.toArray asn body dd::h1))→
    ∃v w',(Instr.endRound l jump).run P w3= .ok v w'∧zkq X w (.loop l .ready pend fn nt t ps.toArray asn body dd::h) R (.returned v) w':=by
    intro jump hRj
    obtain ⟨w4,f1,f2,f3,f4,f5⟩:=zi4 (P:=P) (st':=if jump.isNone then .ready else .done) (pend':=jump) hh3 hl3
    refine ⟨.bool jump.isNone,w4,?_,.bool jump.isNone,.v (.bool jump.isNone),_,rfl,hRj _ rfl,.v _,f2,?_⟩
    ·simp only [Instr.endRound,Sem.run_bind,zca hl3,Result.andThen_ok,f1,Sem.run_pure]
    ·exact (k1'.trans g3).trans ((k3.perm_right hp).trans f3)
   cases e2 with
   |normal=>exact fin none fun b hb=>by subst hb;exact hR
   |ret=>exact fin (some .ret) fun b hb=>by subst hb;exact hR
   |exit id=>exact fin (some (.exit id)) fun b hb=>by subst hb;exact hR
   |goto g=>exact hR.elim
   |panic ch=>exact hR.elim
   |outgrown=>exact hR.elim
 |exit id=>exact q1.elim
 |goto g=>exact q1.elim
 |ret=>exact q1.elim
 |panic ch=>exact q1.elim
 |outgrown=>exact q1.elim
theorem zcu {P:Program} {l:Nat} {pend:Option Code} {fn:FuncId} {nt:Nat} {t:Fr} {ps:List Tmp} {asn body:Code} {dd:Nat} {args:List AV} {h:List Res} {R:AV→List Res→Prop} {lp:LP} (hlp:lp=fun st pend=> .loop l st pend fn nt t ps.toArray asn body dd)
 (hps:Nat.beq ps.length args.length=true) (hpn:(ps.all fun p=>Nat.blt p nt)=true)
 (hb:aw P (some l) nt asn (thn (fun s=>∃t' h2,Ent nt s ⟨t',lp .ready pend::h2,[]⟩∧aw P (some l) nt body (zo3 lp pend R) ⟨t',lp .busy pend::h2,[]⟩) (fun _ _=>False))
  ⟨zl0 ps args t,lp .ready pend::h,[]⟩):z8 P (yv l) args (lp .ready pend::h) R:=by
 subst hlp
 exact zoj hps hpn hb
section
variable {P:Program} {ro:Option Nat} {nt:Nat} {c:Code} {Q:Exit→St→Prop} {t:Fr} {h:List Res} {ds:List Nat}
theorem zgs {σ:Type} (n:Nat) (p:Nat→σ→Prop) (inv:Nat→σ→St) (x0:σ) (hp:p 0 x0) (h0:Ent nt ⟨t,h,ds⟩ (inv 0 x0))
 (round:∀k x,k≤n→p k x→aw P ro nt c (thn (fun s'=>k < n∧∃x',p (k+1) x'∧Ent nt s' (inv (k+1) x')) Q) (inv k x)):aw P ro nt (.loop c) Q ⟨t,h,ds⟩:=
 j9 (fun x:Nat×σ=>x.1≤n∧p x.1 x.2) (fun x=>inv x.1 x.2) (fun x=>n - x.1) (0,x0) ⟨Nat.zero_le _,hp⟩ h0 fun x hk=>zgt (fun e s' hq=>by
  cases e with
  |normal=>
   obtain ⟨h1,x',h2,h3⟩:=hq
   exact ⟨(x.1+1,x'),⟨h1,h2⟩,h3,by simp only;omega⟩
  |_=>exact hq) (round x.1 x.2 hk.1 hk.2)
end
section
variable {P:Program} {ro:Option Nat} {nt:Nat} {c:Code} {Q:Exit→St→Prop} {t:Fr} {h:List Res} {ds:List Nat}
end
section
variable {P:Program} {dst:Option Tmp} {ty:TypeId} {pos:String} {after:Array Edge} {guard:Option (Nat×Bool)} {x:Operand} {h:List Res} {f:Operand→Option AV}
theorem ze4 {T E:TypeId} {n i sz:Nat} {cells out:List AV} {y:Operand} (hx:f x=some (.agg cells)) (hy:f y=some (.v (.int .i64 i))) [Und P T (.array n E)] [IsA P E true] [Siz P E sz]
 (hi:i < n) (hle:i * sz+sz≤cells.length) (ho:(cells.drop (i * sz)).take sz=out):QR P h f ⟨dst,.index T x y,ty,pos,after,guard⟩ (.agg out):=fun X ρ w he=>by
 subst ho
 have hr:=he.rel x _ hx
 generalize hv:ρ x=v at hr
 cases hr with
 |agg _ cs g1 g2=>
  refine ⟨.agg (cs.extract (i * sz) (i * sz+sz)),?_,.agg _ _ (by simp;omega) fun j a b=> ?_⟩
  ·refine run_v _ ?_
   rw [hv,(he.rel y _ hy).v_eq]
   simp only [Instr.index,asIntOf,Sem.run_bind,Sem.run_pure,Result.andThen_ok,Go.Ab.run_underlying (d:=TypeDesc.array n E)]
   rw [if_pos (by omega)]
   simp only [Sem.run_bind,run_sizeOf (n:=sz),Result.andThen_ok,part,zef (b:=true),if_true,Int.toNat_natCast]
   rfl
  ·simp at a
   simpa using g2 (i * sz+j) (by omega) (by omega)
end
def mem? (i:Nat) (l:List Nat):Bool:=l.any (Nat.beq i)
theorem mem?_iff {i:Nat} {l:List Nat}:mem? i l=true ↔ i∈l:=by
 rw [mem?,List.any_eq_true]
 constructor
 ·rintro ⟨x,hx,e⟩;rw [Nat.eq_of_beq_eq_true e];exact hx
 ·intro h;exact ⟨i,h,by simp⟩
def zrx:List Nat→Bool
 | []=>true
 |i::r=> !mem? i r && zrx r
theorem zn3:∀{l:List Nat},zrx l=true→l.Nodup
 | [],_=> .nil
 |i::r,h=>by
  simp only [zrx,Bool.and_eq_true,Bool.not_eq_true'] at h
  exact List.nodup_cons.2 ⟨fun hm=>(by rw [mem?_iff.2 hm] at h;cases h.1),zn3 h.2⟩
def zl6 (l:List Oper) (n:Nat) (eff late:List Nat):Bool:=
 (late.all fun i=> !mem? i eff && Nat.blt i n && eff.all fun j=>(zkr l i (q7 l i)).any (Nat.beq j)) && zrx late &&
 Nat.ble n l.length &&
 ((List.range l.length).all fun i=>(q7 l i).all fun j=>Nat.blt j i) &&
 ((List.range n).all fun i=>match l[i]? with
   |some o=>(match o.dst with
    |some d=>((List.range n).all fun j=>Nat.beq j i||match u6 l j with
     |some d'=> !Nat.beq d d'
     |none=>true)
    |none=>mem? i eff) && (!mem? i eff||(match o.guard with
     |none=>true
     |some _=>false))
   |none=>false) &&
 ((List.range l.length).all fun t=>Nat.blt t n||(List.range t).all fun j=>(zkr l t (q7 l t)).any (Nat.beq j))
structure SoupD (l:List Oper) (n:Nat) (eff late:List Nat):Prop extends SoupT l n where
 lat:∀i∈late,i ∉ eff∧i < n∧∀j∈eff,j∈zkr l i (q7 l i)
 lnd:late.Nodup
 dst:∀i,i < n→∃o,l[i]? =some o∧(i ∉ eff→∃d,o.dst=some d)∧(i∈eff→o.guard=none)∧∀d,o.dst=some d→∀j,j < n→j≠i→∀d',u6 l j=some d'→d≠d'
theorem zre {l:List Oper} {n:Nat} {eff late:List Nat} (hc:zl6 l n eff late=true):SoupD l n eff late:=by
 simp only [zl6,Bool.and_eq_true,List.all_eq_true,List.mem_range] at hc
 obtain ⟨⟨⟨⟨⟨h5,h6⟩,h1⟩,h2⟩,h3⟩,h4⟩:=hc
 refine ⟨⟨Nat.le_of_ble_eq_true h1,fun i hi j hj=>Nat.le_of_ble_eq_true (h2 i hi j hj),fun t ht htl j hj=> ?_⟩,fun i hi=> ?_,zn3 h6,fun i hi=> ?_⟩
 rotate_left
 ·obtain ⟨⟨g1,g2⟩,g3⟩:=h5 i hi
  refine ⟨fun hm=>(by rw [mem?_iff.2 hm] at g1;cases g1),Nat.le_of_ble_eq_true g2,fun j hj=> ?_⟩
  obtain ⟨x,hx,e⟩:=List.any_eq_true.1 (g3 j hj)
  rw [Nat.eq_of_beq_eq_true e];exact hx
 rotate_left
 ·have:=h4 t htl
  simp only [Bool.or_eq_true] at this
  rcases this with e|e
  ·exact absurd (Nat.le_of_ble_eq_true e) (by omega)
  ·have:=List.all_eq_true.1 e j (List.mem_range.2 hj)
   obtain ⟨x,hx,e2⟩:=List.any_eq_true.1 this
   rw [Nat.eq_of_beq_eq_true e2];exact hx
 ·have:=h3 i hi
  split at this
  ·rename_i o ho
   simp only [Bool.and_eq_true] at this
   obtain ⟨g1,g2⟩:=this
   refine ⟨o,ho,fun hne=> ?_,fun he=> ?_,fun d hd j hj hji d' hd'=> ?_⟩
   ·cases hd:o.dst with
    |some d=>exact ⟨d,rfl⟩
    |none=>simp only [hd] at g1;exact absurd (mem?_iff.1 g1) hne
   ·rw [mem?_iff.2 he] at g2
    simp only [Bool.not_true,Bool.false_or] at g2
    split at g2
    ·assumption
    ·cases g2
   ·simp only [hd] at g1
    have:=List.all_eq_true.1 g1 j (List.mem_range.2 hj)
    simp only [hd',Bool.or_eq_true,Bool.not_eq_true'] at this
    rcases this with e|e
    ·exact absurd (Nat.eq_of_beq_eq_true e) hji
    ·exact Nat.ne_of_beq_eq_false e
  ·cases this
def ze9 (ds:List Tmp) (f:Fr):Fr:=f.filter fun p=>ds.any (Nat.beq p.1)
def zln (ds:List Tmp) (f:Fr):Fr:=f.filter fun p=> !ds.any (Nat.beq p.1)
def stF (o:Oper) (av:AV) (f:Fr):Fr:=match o.dst with
 |some d=>(d,av)::f
 |none=>f
theorem zc0 {q:Nat→Bool}:∀{f:Fr} {d:Nat},q d=true→lk (f.filter fun p=>q p.1) d=lk f d
 | [],_,_=>rfl
 |(j,a)::f,d,hq=>by
  have ih:=zc0 (f:=f) hq
  simp only [List.filter_cons,lk]
  split
  ·simp only [lk,ih]
  ·rename_i hj
   have:Nat.beq j d=false:=by
    cases h:Nat.beq j d with
    |false=>rfl
    |true=>rw [Nat.eq_of_beq_eq_true h] at hj;exact absurd hq hj
   rw [this];exact ih
theorem zar {q:Nat→Bool}:∀{f:Fr} {d:Nat},q d=false→lk (f.filter fun p=>q p.1) d=none
 | [],_,_=>rfl
 |(j,a)::f,d,hq=>by
  have ih:=zar (f:=f) hq
  simp only [List.filter_cons]
  split
  ·rename_i hj
   simp only [lk]
   have:Nat.beq j d=false:=by
    cases h:Nat.beq j d with
    |false=>rfl
    |true=>rw [Nat.eq_of_beq_eq_true h] at hj;rw [hq] at hj;cases hj
   rw [this];exact ih
  ·exact ih
section
variable {P:Program} {ro:Option Nat} {nt:Nat} {l:List Oper} {eff:List Nat} {sd:Nat→List Tmp} {t0:Fr} {C:Nat→List Res→Prop}
def QJ (P:Program) (ro:Option Nat) (nt:Nat) (C:List Res→Prop) (l:List Oper) (sd:List Tmp) (t0:Fr) (o:Oper) (d:Tmp) (av:AV) (e:Fr):Prop:=
 o.dst=some d∧Nat.blt d nt=true∧((gdS l (lkS sd (zbb l o) e t0) o=some true∧∀h,C h→QV P ro h (evS sd (zbb l o) e t0) o av)∨(gdS l (lkS sd (zbb l o) e t0) o=some false∧av= .v undef))
def zdd (P:Program) (ro:Option Nat) (nt:Nat) (C:Nat→List Res→Prop) (l:List Oper) (eff:List Nat) (sd:Nat→List Tmp) (t0:Fr):List Oper→Nat→Fr→(Fr→Prop)→Prop
 | [],_,e,K=>K e
 |o::rest,i,e,K=>(mem? i eff=true∧zdd P ro nt C l eff sd t0 rest (i+1) e K)∨(mem? i eff=false∧∃d av,QJ P ro nt (C i) l (sd i) t0 o d av e∧zdd P ro nt C l eff sd t0 rest (i+1) ((d,av)::e) K)
theorem zxt {i:Nat} {e:Fr} {K:Fr→Prop} (hk:K e):zdd P ro nt C l eff sd t0 [] i e K:=hk
theorem je {o:Oper} {rest:List Oper} {i:Nat} {e:Fr} {K:Fr→Prop} (hi:mem? i eff=true) (hk:zdd P ro nt C l eff sd t0 rest (i+1) e K):zdd P ro nt C l eff sd t0 (o::rest) i e K:= .inl ⟨hi,hk⟩
theorem jq {d:Tmp} {op:Op} {ty:TypeId} {pos:String} {after:Array Edge} {g:Option (Nat×Bool)} {av:AV} {rest:List Oper} {i:Nat} {e:Fr} {K:Fr→Prop}
 (hg:gdS l (lkS (sd i) (zbb l ⟨some d,op,ty,pos,after,g⟩) e t0) ⟨some d,op,ty,pos,after,g⟩=some true)
 (hq:∀h,C i h→QR P h (evS (sd i) (zbb l ⟨some d,op,ty,pos,after,g⟩) e t0) ⟨some d,op,ty,pos,after,g⟩ av) (hk:zdd P ro nt C l eff sd t0 rest (i+1) ((d,av)::e) K)
 (hi:mem? i eff=false:=by rfl) (hd:Nat.blt d nt=true:=by rfl) (hn:zan ⟨some d,op,ty,pos,after,g⟩=true:=by rfl):zdd P ro nt C l eff sd t0 (⟨some d,op,ty,pos,after,g⟩::rest) i e K:=
 .inr ⟨hi,d,av,⟨rfl,hd,.inl ⟨hg,fun h hc=>zet (hq h hc) hn⟩⟩,hk⟩
theorem zvw {n:Nat} {ef la:List Nat} (hC:SoupD l n ef la) (hsk:∀i,i ∉ eff→i ∉ ef) {K:Fr→Prop}:∀{os:List Oper} {i:Nat} {e:Fr},i+os.length=n→os=(l.take n).drop i→(∀d a,lk e d=some a→∃j,j < i∧j ∉ eff∧u6 l j=some d)→(∀j,j < i→j ∉ eff→∀d,u6 l j=some d→lk e d≠none)→zdd P ro nt C l eff sd t0 os i e K→
 ∃E,K E∧(∀d a,lk e d=some a→lk E d=some a)∧(∀d a,lk E d=some a→∃j,j < n∧j ∉ eff∧u6 l j=some d)∧(∀j,j < n→j ∉ eff→∀d,u6 l j=some d→lk E d≠none)∧
  ∀j o,i≤j→j < n→j ∉ eff→l[j]? =some o→∃d av e',lk E d=some av∧(∀d a,lk e' d=some a→lk E d=some a)∧QJ P ro nt (C j) l (sd j) t0 o d av e'
 | [],i,e,hn,ho,he,hf,hk=>⟨e,hk,fun _ _ h=>h,fun d a h=>let ⟨j,h1,h2⟩:=he d a h;⟨j,by simp at hn;omega,h2⟩,fun j hj=>hf j (by simp at hn;omega),fun j o h1 h2=>by simp at hn;omega⟩
 |o::os,i,e,hn,ho,he,hf,hk=>by
  have hin:i < n:=by simp at hn;omega
  have hoi:l[i]? =some o:=by
   have:(l.take n)[i]? =some o:=by
    have:=congrArg List.head? ho
    rw [List.head?_cons,List.head?_drop] at this;exact this.symm
   rwa [List.getElem?_take_of_lt hin] at this
  have ho':os=(l.take n).drop (i+1):=by
   have:=congrArg List.tail ho
   rwa [List.tail_cons,List.tail_drop] at this
  rcases hk with ⟨hi,hk⟩|⟨hi,d,av,hq,hk⟩
  ·have hie:=mem?_iff.1 hi
   obtain ⟨E,h1,h2,h3,h4,h5⟩:=zvw hC hsk (by simp at hn;omega) ho' (fun d a h=>let ⟨j,g1,g2⟩:=he d a h;⟨j,by omega,g2⟩) (fun j hj hje d hd=>by
    rcases Nat.lt_or_ge j i with h|h
    ·exact hf j h hje d hd
    ·have:j=i:=by omega
     subst this;exact absurd hie hje) hk
   refine ⟨E,h1,h2,h3,h4,fun j oj hj1 hj2 hje hoj=> ?_⟩
   rcases Nat.lt_or_ge i j with h|h
   ·exact h5 j oj h hj2 hje hoj
   ·have:j=i:=by omega
    subst this;exact absurd hie hje
  ·have hie:i ∉ eff:=fun h=>by rw [mem?_iff.2 h] at hi;cases hi
   obtain ⟨o2,g1,_,_,g4⟩:=hC.dst i hin
   have:o2=o:=Option.some.inj (g1.symm.trans hoi)
   subst this
   have hdd:u6 l i=some d:=by simp [u6,hoi,hq.1]
   have hnew:lk e d=none:=by
    cases hl:lk e d with
    |none=>rfl
    |some a=>
     obtain ⟨j,k1,k2,k3⟩:=he d a hl
     exact absurd rfl (g4 d hq.1 j (by omega) (by omega) d k3)
   have hmono:∀d' a,lk e d'=some a→lk ((d,av)::e) d'=some a:=fun d' a h=>by
    simp only [lk]
    split
    ·rename_i hb
     rw [←Nat.eq_of_beq_eq_true hb,hnew] at h;cases h
    ·exact h
   obtain ⟨E,h1,h2,h3,h4,h5⟩:=zvw hC hsk (by simp at hn;omega) ho' (fun d' a h=>by
    simp only [lk] at h
    split at h
    ·rename_i hb
     rw [←Nat.eq_of_beq_eq_true hb];exact ⟨i,by omega,hie,hdd⟩
    ·obtain ⟨j,k1,k2⟩:=he d' a h;exact ⟨j,by omega,k2⟩) (fun j hj hje d' hd'=>by
    simp only [lk]
    split
    ·simp
    ·rename_i hb
     rcases Nat.lt_or_ge j i with h|h
     ·exact hf j h hje d' hd'
     ·have:j=i:=by omega
      subst this
      rw [hdd] at hd';cases hd'
      simp at hb) hk
   refine ⟨E,h1,fun d' a h=>h2 d' a (hmono d' a h),h3,h4,fun j oj hj1 hj2 hje hoj=> ?_⟩
   rcases Nat.lt_or_ge i j with h|h
   ·exact h5 j oj h hj2 hje hoj
   ·have:j=i:=by omega
    subst this
    have:oj=o2:=Option.some.inj (hoj.symm.trans hoi)
    subst this
    exact ⟨d,av,e,h2 d av (by simp [lk]),fun d' a h=>h2 d' a (hmono d' a h),hq⟩
end
def zew (P:Program) (ro:Option Nat) (nt:Nat) (he:List Res) (l:List Oper) (sd:Nat→List Tmp) (t0:Fr):List Nat→Fr→(Fr→Prop)→Prop
 | [],e,K=>K e
 |i::r,e,K=>∃o d av,l[i]? =some o∧QJ P ro nt (fun h=>h=he) l (sd i) t0 o d av e∧zew P ro nt he l sd t0 r ((d,av)::e) K
section
variable {P:Program} {ro:Option Nat} {nt:Nat} {l:List Oper} {sd:Nat→List Tmp} {t0:Fr} {he:List Res}
theorem ln {e:Fr} {K:Fr→Prop} (hk:K e):zew P ro nt he l sd t0 [] e K:=hk
theorem lq {i:Nat} {r:List Nat} {e:Fr} {K:Fr→Prop} {d:Tmp} {op:Op} {ty:TypeId} {pos:String} {after:Array Edge} {g:Option (Nat×Bool)} {av:AV} (ho:l[i]? =some ⟨some d,op,ty,pos,after,g⟩)
 (hg:gdS l (lkS (sd i) (zbb l ⟨some d,op,ty,pos,after,g⟩) e t0) ⟨some d,op,ty,pos,after,g⟩=some true)
 (hq:QR P he (evS (sd i) (zbb l ⟨some d,op,ty,pos,after,g⟩) e t0) ⟨some d,op,ty,pos,after,g⟩ av) (hk:zew P ro nt he l sd t0 r ((d,av)::e) K)
 (hd:Nat.blt d nt=true:=by rfl) (hn:zan ⟨some d,op,ty,pos,after,g⟩=true:=by rfl):zew P ro nt he l sd t0 (i::r) e K:=
 ⟨_,d,av,ho,⟨rfl,hd,.inl ⟨hg,fun h hh=>by subst hh;exact zet hq hn⟩⟩,hk⟩
theorem zvo {n:Nat} {ef la:List Nat} (hC:SoupD l n ef la) {K:Fr→Prop}:∀{r:List Nat} {e:Fr},(∀i∈r,i∈la)→r.Nodup→(∀i∈r,∀d,u6 l i=some d→lk e d=none)→zew P ro nt he l sd t0 r e K→
 ∃F,K F∧(∀d a,lk e d=some a→lk F d=some a)∧(∀d a,lk F d=some a→lk e d=some a∨∃i∈r,u6 l i=some d)∧(∀i∈r,∀d,u6 l i=some d→lk F d≠none)∧
  ∀i∈r,∀o,l[i]? =some o→∃d av e',lk F d=some av∧(∀d a,lk e' d=some a→lk F d=some a)∧QJ P ro nt (fun h=>h=he) l (sd i) t0 o d av e'
 | [],e,_,_,_,hk=>⟨e,hk,fun _ _ h=>h,fun _ _ h=> .inl h,fun i h=>(by cases h),fun i h=>(by cases h)⟩
 |i::r,e,hr,hnd,hdis,⟨o,d,av,ho,hq,hk⟩=>by
  obtain ⟨hir,hnd'⟩:=List.nodup_cons.1 hnd
  have hdd:u6 l i=some d:=by simp [u6,ho,hq.1]
  have hnew:=hdis i (by simp) d hdd
  have hin:=(hC.lat i (hr i (by simp))).2.1
  have hmono:∀d' a,lk e d'=some a→lk ((d,av)::e) d'=some a:=fun d' a h=>by
   simp only [lk]
   split
   ·rename_i hb
    rw [←Nat.eq_of_beq_eq_true hb,hnew] at h;cases h
   ·exact h
  obtain ⟨F,h1,h2,h3,h4,h5⟩:=zvo hC (r:=r) (fun j hj=>hr j (by simp [hj])) hnd' (fun j hj d' hd'=>by
   simp only [lk]
   split
   ·rename_i hb
    have:=Nat.eq_of_beq_eq_true hb
    subst this
    obtain ⟨oi,g1,_,_,g4⟩:=hC.dst i hin
    have:oi=o:=Option.some.inj (g1.symm.trans ho)
    subst this
    exact absurd rfl (g4 d hq.1 j (hC.lat j (hr j (by simp [hj]))).2.1 (fun e=>hir (e ▸ hj)) d hd')
   ·exact hdis j (by simp [hj]) d' hd') hk
  refine ⟨F,h1,fun d' a h=>h2 d' a (hmono d' a h),fun d' a h=> ?_,fun j hj d' hd'=> ?_,fun j hj oj hoj=> ?_⟩
  ·rcases h3 d' a h with h|⟨j,hj,h⟩
   ·simp only [lk] at h
    split at h
    ·rename_i hb
     exact .inr ⟨i,by simp,by rw [←Nat.eq_of_beq_eq_true hb];exact hdd⟩
    ·exact .inl h
   ·exact .inr ⟨j,by simp [hj],h⟩
  ·rcases List.mem_cons.1 hj with rfl|hj
   ·rw [hdd] at hd';cases hd'
    rw [h2 d av (by simp [lk])];simp
   ·exact h4 j hj d' hd'
  ·rcases List.mem_cons.1 hj with rfl|hj
   ·have:oj=o:=Option.some.inj (hoj.symm.trans ho)
    subst this
    exact ⟨d,av,e,h2 d av (by simp [lk]),fun d' a h=>h2 d' a (hmono d' a h),hq⟩
   ·exact h5 j hj oj hoj
end
structure InvJ (P:Program) (X:Nat→Prop) (nt:Nat) (h:List Res) (l:List Oper) (n:Nat) (eff late:List Nat) (t:Fr) (dsl:List Nat) (E:Fr) (J:List Nat→Fr→List Res→Prop) (w0:World) (L:List Nat) (ee:Fr) (he:List Res) (F:Fr) (listed:Array Bool) (a:Act) (w:World):Prop where
 size:listed.size=l.length
 closed:∀i,listed.getD i false=true→∀j∈q7 l i,listed.getD j false=true
 tail:∀i,n≤i→listed.getD i false=false
 tsz:a.tmps.size=nt
 defs:a.defers=dsl.map zg9
 J:J L ee he
 heap:HRel X w he
 lst:∀i,i∈L ↔ i∈eff∧i < n∧listed.getD i false=true
 lvals:∀i d av,i∈late→u6 l i=some d→lk F d=some av→listed.getD i false=true→∃v,a.tmps[d]? =some v∧Rel w (OO he X) av v
 vals:∀i d av,i < n→i ∉ eff++late→u6 l i=some d→lk E d=some av→listed.getD i false=true→∃v,a.tmps[d]? =some v∧Rel w (OO he X) av v
 evals:∀d av,lk ee d=some av→∃v,a.tmps[d]? =some v∧Rel w (OO he X) av v
 edom:∀d,lk ee d≠none ↔ ∃i,i∈L∧u6 l i=some d
 base:∀d av,(∀j,j < n→u6 l j=some d→listed.getD j false=false)→lk t d=some av→∃v,a.tmps[d]? =some v∧Rel w (OO he X) av v
 keep:Keep (u4 h) w0 (u4 he) w
structure GoodF (P:Program) (ro:Option Nat) (nt:Nat) (Q:Exit→St→Prop) (l:List Oper) (n:Nat) (late:List Nat) (sd:Nat→List Tmp) (t:Fr) (dsl:List Nat) (E ee:Fr) (he:List Res) (F:Fr):Prop where
 fin:zb0 P ro nt l.toArray (l.drop n) Q ⟨F++t,he,dsl⟩
 up:∀d a,lk (E++ee) d=some a→lk F d=some a
 dn:∀d a,lk F d=some a→lk (E++ee) d=some a∨∃i∈late,u6 l i=some d
 nn:∀i∈late,∀d,u6 l i=some d→lk F d≠none
 facts:∀i∈late,∀o,l[i]? =some o→∃d av e',lk F d=some av∧(∀d a,lk e' d=some a→lk F d=some a)∧QJ P ro nt (fun h=>h=he) l (sd i) t o d av e'
theorem zpk {l:List Oper} {n:Nat} {d:Nat} (hf:(zb9 l n).any (Nat.beq d)=false) {j:Nat} (hj:j < n) (hd:u6 l j=some d):False:=by
 have:d∈zb9 l n:=by
  simp only [zb9,List.mem_filterMap]
  simp only [u6] at hd
  cases hlj:l[j]? with
  |none=>simp [hlj] at hd
  |some oj=>
   simp only [hlj,Option.bind_some] at hd
   exact ⟨oj,List.mem_of_getElem? (i:=j) (by rw [List.getElem?_take_of_lt hj];exact hlj),hd⟩
 have:(zb9 l n).any (Nat.beq d)=true:=List.any_eq_true.2 ⟨d,this,by simp⟩
 rw [hf] at this;cases this
theorem zsk {P:Program} {ro:Option Nat} {nt rid:Nat} {Q:Exit→St→Prop} {l:List Oper} {t:Fr} {h:List Res} {dsl:List Nat} (n:Nat) (eff late:List Nat) (sd:Nat→List Tmp) (hS:∀i,i < n→∀d,(sd i).any (Nat.beq d)=false→∀j,j < n→u6 l j=some d→i∈zkr l j (q7 l j)) (C:Nat→List Res→Prop) [hm:Mixed P] (hc:zl6 l n eff late=true)
 (hk:zdd P ro nt C l (eff++late) sd t (l.take n) 0 [] (fun E=>∃J:List Nat→Fr→List Res→Prop,J [] [] h∧(∀L ee he,J L ee he→∀i,i < n→i ∉ eff→(∀j∈L,i ∉ zkr l j (q7 l j))→C i he)∧
  (∀L ee he,J L ee he→∀i o,i∈eff→i ∉ L→l[i]? =some o→(∀j,j∈zkr l i (q7 l i)→j∈eff→j∈L)→∀u,OE P ro nt o ⟨ze9 (zbb l o) E++(ze9 (zbb l o) ee++(zln (zb9 l n) t++u)),he,dsl⟩
   (fun s'=>∃av he',s'=⟨stF o av (ze9 (zbb l o) E++(ze9 (zbb l o) ee++(zln (zb9 l n) t++u))),he',dsl⟩∧J (i::L) (stF o av ee) he'))∧
  (∀L ee he,J L ee he→(∀i,i∈eff→i < n→i∈L)→zew P ro nt he l sd t late (E++ee) (fun F=>zb0 P ro nt l.toArray (l.drop n) Q ⟨F++t,he,dsl⟩)))):aw P ro nt (.region rid l.toArray true) Q ⟨t,h,dsl⟩:=by
 intro X a0 w0 hs
 have hC:=zre hc
 obtain ⟨E,⟨J,h0,hJC,hstep,hfin⟩,_,hE1,hE2,hfact⟩:=zvw (os:=l.take n) (i:=0) (n:=n) (K:=fun E=>_) hC (fun i hi he=>hi (List.mem_append_left _ he)) (by have:=hC.le;simp;omega) rfl (fun d a h=>by simp [lk] at h) (fun j hj=>by omega) hk
 refine wpIn_region_any hm.h ?_
 have hsome_dst:∀j o,l[j]? =some o→u6 l j=o.dst:=fun j o ho=>by simp [u6,ho]
 have hE1':∀d a,lk E d=some a→∃j,j < n∧j ∉ eff∧j ∉ late∧u6 l j=some d:=fun d a h=>by
  obtain ⟨j,h1,h2,h3⟩:=hE1 d a h
  exact ⟨j,h1,fun he=>h2 (List.mem_append_left _ he),fun he=>h2 (List.mem_append_right _ he),h3⟩
 have main:∀(fuel:Nat) (U L:List Nat) (ee:Fr) (he:List Res) (F:Fr) (listed:Array Bool) (a:Act) (w:World),InvJ P X nt h l n eff late t dsl E J w0 L ee he F listed a w→((∀i,i∈eff→i < n→i∈L)→GoodF P ro nt Q l n late sd t dsl E ee he F)→(∀i,i < l.length→listed.getD i false=false→i∈U)→U.length≤fuel→
  wpAnyIn (FW ro) 0 P .any l.toArray (zne X nt ⟨t,h,dsl⟩ w0 Q) fuel listed a w:=by
  have done:∀(fuel:Nat) (U L:List Nat) (ee:Fr) (he:List Res) (F:Fr) (listed:Array Bool) (a:Act) (w:World),InvJ P X nt h l n eff late t dsl E J w0 L ee he F listed a w→((∀i,i∈eff→i < n→i∈L)→GoodF P ro nt Q l n late sd t dsl E ee he F)→(∀i,i < l.length→listed.getD i false=false→i∈U)→U.length≤fuel→
   (∀i,i < n→listed.getD i false=true)→wpAnyIn (FW ro) 0 P .any l.toArray (zne X nt ⟨t,h,dsl⟩ w0 Q) fuel listed a w:=by
   intro fuel U L ee he F listed a w hi hG hU hf hall
   have hg:=hG (fun i h1 h2=>(hi.lst i).2 ⟨h1,h2,hall i h2⟩)
   refine zl3 hC.toSoupT fuel U n listed a w (Nat.le_refl _) hC.le hi.size (fun j hj=>⟨fun hl=> ?_,fun hl=>hall j hl⟩) (fun i h1 h2=>hU i h2 (hi.tail i h1)) hf ?_
   ·rcases Nat.lt_or_ge j n with h|h
    ·exact h
    ·rw [hi.tail j h] at hl;cases hl
   ·have hsim:Sim X nt ⟨F++t,he,dsl⟩ a w:=by
     refine ⟨hi.heap,hi.tsz,fun d av hl=> ?_,hi.defs⟩
     have hl':lk (F++t) d=some av:=hl
     rw [v6] at hl'
     cases hF:lk F d with
     |some av'=>
      simp only [hF,Option.some.injEq] at hl';subst hl'
      rcases hg.dn d _ hF with hE|⟨j,g1,g2⟩
      ·rw [v6] at hE
       cases hE2:lk E d with
       |some av2=>
        simp only [hE2,Option.some.injEq] at hE;subst hE
        obtain ⟨j,g1,g2,g3⟩:=hE1 d _ hE2
        exact hi.vals j d _ g1 g2 g3 hE2 (hall j g1)
       |none=>simp only [hE2] at hE;exact hi.evals d _ hE
      ·exact hi.lvals j d _ g1 g2 hF (hall j (hC.lat j g1).2.1)
     |none=>
      simp only [hF] at hl'
      have hEe:lk (E++ee) d=none:=by
       cases hx:lk (E++ee) d with
       |none=>rfl
       |some y=>rw [hg.up d y hx] at hF;cases hF
      rw [v6] at hEe
      refine hi.base d av (fun j hj hd=> ?_) hl'
      exfalso
      by_cases hje:j∈eff
      ·have:=(hi.edom d).2 ⟨j,(hi.lst j).2 ⟨hje,hj,hall j hj⟩,hd⟩
       cases hE:lk E d with
       |some y=>simp [hE] at hEe
       |none=>simp only [hE] at hEe;exact this hEe
      ·by_cases hjl:j∈late
       ·exact hg.nn j hjl d hd hF
       ·refine hE2 j hj (fun hm=>(List.mem_append.1 hm).elim hje hjl) d hd ?_
        cases hE:lk E d with
        |some y=>simp [hE] at hEe
        |none=>rfl
    have:=hg.fin X a w hsim
    exact zag (s:=⟨t,h,dsl⟩) (s':=⟨F++t,he,dsl⟩) hi.keep this
  intro fuel
  induction fuel with
  |zero=>
   intro U L ee he F listed a w hi hG hU hf
   refine done 0 U L ee he F listed a w hi hG hU hf fun i hin=> ?_
   have hU0:U= []:=List.eq_nil_of_length_eq_zero (by omega)
   cases hl:listed.getD i false with
   |true=>rfl
   |false=>have:=hU i (by have:=hC.le;omega) hl;simp [hU0] at this
  |succ fuel ih=>
   intro U L ee he F listed a w hi hG hU hf
   by_cases hall:∀i,i < n→listed.getD i false=true
   ·exact done _ U L ee he F listed a w hi hG hU hf hall
   ·have hready:∀i,i∈Region.ready .any l.toArray listed→i < n∧listed.getD i false=false∧i < l.length∧∀j∈q7 l i,listed.getD j false=true:=by
     intro i hir
     obtain ⟨h1,h2,h3⟩:=zdu.1 hir
     have hun:listed.getD i false=false:=by rw [zfp (by rw [hi.size];exact h2) false true];exact h1
     refine ⟨?_,hun,h2,h3⟩
     rcases Nat.lt_or_ge i n with h|h
     ·exact h
     ·exfalso
      apply hall
      intro j hj
      exact zam hi.closed i _ h3 j (hC.tail i h h2 j (by omega))
    have hsome:∀m,(∃i,i < n∧i < m∧listed.getD i false=false)→Region.ready .any l.toArray listed≠ []:=by
     intro m
     induction m with
     |zero=>rintro ⟨i,_,h,_⟩;omega
     |succ m ihm=>
      rintro ⟨i,hin,him,hun⟩
      by_cases hp:∀j∈q7 l i,listed.getD j false=true
      ·intro h0
       have hin':i < l.length:=by have:=hC.le;omega
       have:i∈Region.ready .any l.toArray listed:=zdu.2 ⟨by rw [zfp (by rw [hi.size];exact hin') true false];exact hun,hin',hp⟩
       rw [h0] at this;exact absurd this (by simp)
      ·have:∃j,j∈q7 l i∧listed.getD j false=false:=by
        refine Classical.byContradiction fun hne=>hp fun j hj=> ?_
        cases hl:listed.getD j false with
        |true=>rfl
        |false=>exact absurd ⟨j,hj,hl⟩ hne
       obtain ⟨j,hj,hjun⟩:=this
       have:=hC.back i (by have:=hC.le;omega) j hj
       exact ihm ⟨j,by omega,by omega,hjun⟩
    refine ⟨fun h0=> ?_,fun i hir=> ?_⟩
    ·exfalso
     have:∃i,i < n∧listed.getD i false=false:=by
      refine Classical.byContradiction fun hne=>hall fun i hin=> ?_
      cases hl:listed.getD i false with
      |true=>rfl
      |false=>exact absurd ⟨i,hin,hl⟩ hne
     obtain ⟨i,hin,hun⟩:=this
     exact hsome (i+1) ⟨i,hin,by omega,hun⟩ h0
    ·obtain ⟨hin,hun,hil,hp⟩:=hready i hir
     obtain ⟨o,ho,hq1,hq2,hq3⟩:=hC.dst i hin
     have hU':∀k,k < l.length→(listed.setIfInBounds i true).getD k false=false→k∈U.erase i:=fun k hkl hk=>by
      have hki:i≠k:=fun e=>by subst e;rw [zaj (by rw [hi.size];exact hil)] at hk;cases hk
      rw [getD_set_ne false hki] at hk
      exact (List.mem_erase_of_ne (fun h=>hki h.symm)).2 (hU k hkl hk)
     have hf':(U.erase i).length≤fuel:=by rw [List.length_erase_of_mem (hU i hil hun)];omega
     have hcl:∀k,(listed.setIfInBounds i true).getD k false=true→∀j∈q7 l k,(listed.setIfInBounds i true).getD j false=true:=fun k hk j hj=>by
      by_cases hik:i=k
      ·subst hik;exact getD_set_true (hp j hj)
      ·rw [getD_set_ne false hik] at hk;exact getD_set_true (hi.closed k hk j hj)
     have hdo:=hsome_dst i o ho
     have hne:∀d j dj,o.dst=some d→j < n→j≠i→u6 l j=some dj→d≠dj:=fun d j dj hd hj hji hdj=>hq3 d hd j hj hji dj hdj
     -- what is looked up
     have hsd:∀d,(zb9 l n).any (Nat.beq d)=false→∀j,j < n→u6 l j≠some d:=fun d hf j hj hd=>by
      have:d∈zb9 l n:=by
       simp only [zb9,List.mem_filterMap]
       simp only [u6] at hd
       cases hlj:l[j]? with
       |none=>simp [hlj] at hd
       |some oj=>
        simp only [hlj,Option.bind_some] at hd
        exact ⟨oj,List.mem_of_getElem? (i:=j) (by rw [List.getElem?_take_of_lt hj];exact hlj),hd⟩
      have:(zb9 l n).any (Nat.beq d)=true:=List.any_eq_true.2 ⟨d,this,by simp⟩
      simp_all
     have hpd:∀d,(zbb l o).any (Nat.beq d)=true→∃j,j∈q7 l i∧u6 l j=some d:=fun d hpd=>by
      obtain ⟨x,hx,e⟩:=List.any_eq_true.1 hpd
      have:=Nat.eq_of_beq_eq_true e
      subst this
      simp only [zbb,List.mem_filterMap] at hx
      obtain ⟨j',hj',hd'⟩:=hx
      exact ⟨j',by simp only [q7,ho];exact hj',hd'⟩
     have hlookE:∀d av,(zbb l o).any (Nat.beq d)=true→lk E d=some av→∃v,a.tmps[d]? =some v∧Rel w (OO he X) av v:=fun d av hpd' hl=>by
      obtain ⟨j,hj,hjd⟩:=hpd d hpd'
      obtain ⟨j',g1,g2,g3⟩:=hE1 d av hl
      have hji:=hC.back i hil j hj
      have:j'=j:=by
       refine Classical.byContradiction fun hne'=> ?_
       obtain ⟨oj,k1,_,_,k4⟩:=hC.dst j (by omega)
       exact k4 d (by rw [←hsome_dst j oj k1];exact hjd) j' g1 hne' d g3 rfl
      subst this
      exact hi.vals j' d av g1 g2 g3 hl (hp j' hj)
     have hbase:∀d av,(zb9 l n).any (Nat.beq d)=false→lk t d=some av→∃v,a.tmps[d]? =some v∧Rel w (OO he X) av v:=fun d av hf hl=>hi.base d av (fun j hj hd=>absurd hd (hsd d hf j hj)) hl
     obtain ⟨lw,hlw⟩:∃lw:Nat→Bool,lw=fun d=>(List.range n).any fun j=>listed.getD j false && (match u6 l j with|some d2=>Nat.beq d2 d|none=>false):=⟨_,rfl⟩
     have hlwt:∀d j,j < n→u6 l j=some d→listed.getD j false=true→lw d=true:=fun d j hj hd hl=>by
      rw [hlw];exact List.any_eq_true.2 ⟨j,List.mem_range.2 hj,by simp [hd,hl]⟩
     have hlwf:∀d,lw d=false→∀j,j < n→u6 l j=some d→listed.getD j false=false:=fun d hf j hj hd=>by
      cases hl:listed.getD j false with
      |false=>rfl
      |true=>rw [hlwt d j hj hd hl] at hf;cases hf
     have hbase2:∀d av,lw d=false→lk t d=some av→∃v,a.tmps[d]? =some v∧Rel w (OO he X) av v:=fun d av hf hl=>hi.base d av (hlwf d hf) hl
     unfold wpOpIn
     simp only [List.getElem?_toArray,ho]
     by_cases hie:i∈eff
     ·have hg:=hq2 hie
      have hiL:i ∉ L:=fun h=>by have:=((hi.lst i).1 h).2.2;rw [hun] at this;cases this
      rw [if_pos (by simp [Region.wanted,hg])]
      -- all that is known,once more
      obtain ⟨T,hT⟩:∃T:Fr,T=(E.filter fun p=>(List.range n).any fun j=> !mem? j (eff++late) && listed.getD j false && (match u6 l j with|some d=>Nat.beq d p.1|none=>false))++(ee++t.filter fun p=> !lw p.1):=⟨_,rfl⟩
      have hO2:=hstep L ee he hi.J i o hie hiL ho (fun j hj hje=>(hi.lst j).2 ⟨hje,(by
       have:=zam hi.closed i _ hp j hj
       rcases Nat.lt_or_ge j n with h|h
       ·exact h
       ·rw [hi.tail j h] at this;cases this),zam hi.closed i _ hp j hj⟩) T
      obtain ⟨G,hG⟩:∃G,G=ze9 (zbb l o) E++(ze9 (zbb l o) ee++(zln (zb9 l n) t++T)):=⟨_,rfl⟩
      rw [←hG] at hO2
      have hGr:zec w (OO he X) G a.tmps:=fun d av hl=>by
       rw [hG,v6] at hl
       by_cases hpd':(zbb l o).any (Nat.beq d)=true
       ·rw [ze9,zc0 (q:=fun d=>(zbb l o).any (Nat.beq d)) hpd'] at hl
        cases hE:lk E d with
        |some av'=>simp only [hE,Option.some.injEq] at hl;subst hl;exact hlookE d _ hpd' hE
        |none=>
         simp only [hE] at hl
         rw [v6,ze9,zc0 (q:=fun d=>(zbb l o).any (Nat.beq d)) hpd'] at hl
         cases he':lk ee d with
         |some av'=>simp only [he',Option.some.injEq] at hl;subst hl;exact hi.evals d _ he'
         |none=>
          simp only [he'] at hl
          rw [v6] at hl
          by_cases hsd':(zb9 l n).any (Nat.beq d)=false
          ·rw [zln,zc0 (q:=fun d=> !(zb9 l n).any (Nat.beq d)) (by simp [hsd'])] at hl
           cases ht:lk t d with
           |some av'=>simp only [ht,Option.some.injEq] at hl;subst hl;exact hbase d _ hsd' ht
           |none=>
            simp only [ht] at hl
            rw [hT,v6,v6] at hl
            have h3:lk (t.filter fun p=> !lw p.1) d=none:=by
             by_cases hlq:lw d=true
             ·rw [zar (q:=fun d=> !lw d) (by simp [hlq])]
             ·rw [zc0 (q:=fun d=> !lw d) (by simp [hlq]),ht]
            rw [he',h3] at hl
            split at hl
            ·rename_i q
             by_cases hq:((List.range n).any fun j=> !mem? j (eff++late) && listed.getD j false && (match u6 l j with|some d2=>Nat.beq d2 d|none=>false))=true
             ·rw [zc0 (q:=fun d=>(List.range n).any fun j=> !mem? j (eff++late) && listed.getD j false && (match u6 l j with|some d2=>Nat.beq d2 d|none=>false)) hq,hE] at q;cases q
             ·rw [zar (q:=fun d=>(List.range n).any fun j=> !mem? j (eff++late) && listed.getD j false && (match u6 l j with|some d2=>Nat.beq d2 d|none=>false)) (by simpa using hq)] at q;cases q
            ·cases hl
          ·rw [zln,zar (q:=fun d=> !(zb9 l n).any (Nat.beq d)) (by simpa using hsd')] at hl
           simp only at hl
           have h3:lk (t.filter fun p=> !lw p.1) d=none:=by
            obtain ⟨j,hj,hjd⟩:=hpd d hpd'
            have hji:=hC.back i hil j hj
            rw [zar (q:=fun d=> !lw d) (by simp [hlwt d j (by omega) hjd (hp j hj)])]
           rw [hT,v6,v6,he',h3] at hl
           split at hl
           ·rename_i q
            by_cases hq:((List.range n).any fun j=> !mem? j (eff++late) && listed.getD j false && (match u6 l j with|some d2=>Nat.beq d2 d|none=>false))=true
            ·rw [zc0 (q:=fun d=>(List.range n).any fun j=> !mem? j (eff++late) && listed.getD j false && (match u6 l j with|some d2=>Nat.beq d2 d|none=>false)) hq,hE] at q;cases q
            ·rw [zar (q:=fun d=>(List.range n).any fun j=> !mem? j (eff++late) && listed.getD j false && (match u6 l j with|some d2=>Nat.beq d2 d|none=>false)) (by simpa using hq)] at q;cases q
           ·cases hl
       ·rw [ze9,zar (q:=fun d=>(zbb l o).any (Nat.beq d)) (Bool.eq_false_iff.2 hpd')] at hl
        simp only at hl
        rw [v6,ze9,zar (q:=fun d=>(zbb l o).any (Nat.beq d)) (Bool.eq_false_iff.2 hpd')] at hl
        simp only at hl
        have hrest:∀av,lk T d=some av→∃v,a.tmps[d]? =some v∧Rel w (OO he X) av v:=fun av hl=>by
         rw [hT,v6] at hl
         by_cases hq:((List.range n).any fun j=> !mem? j (eff++late) && listed.getD j false && (match u6 l j with|some d2=>Nat.beq d2 d|none=>false))=true
         ·rw [zc0 (q:=fun d=>(List.range n).any fun j=> !mem? j (eff++late) && listed.getD j false && (match u6 l j with|some d2=>Nat.beq d2 d|none=>false)) hq] at hl
          obtain ⟨j,hj,hq'⟩:=List.any_eq_true.1 hq
          simp only [Bool.and_eq_true,Bool.not_eq_true'] at hq'
          obtain ⟨⟨k1,k2⟩,k3⟩:=hq'
          have hje:j ∉ eff++late:=fun h=>by rw [mem?_iff.2 h] at k1;cases k1
          have hjd:u6 l j=some d:=by
           split at k3
           ·rename_i d2 hd2;rw [hd2,Nat.eq_of_beq_eq_true k3]
           ·cases k3
          cases hE:lk E d with
          |some av'=>simp only [hE,Option.some.injEq] at hl;subst hl;exact hi.vals j d _ (List.mem_range.1 hj) hje hjd hE k2
          |none=>exact absurd hE (hE2 j (List.mem_range.1 hj) hje d hjd)
         ·rw [zar (q:=fun d=>(List.range n).any fun j=> !mem? j (eff++late) && listed.getD j false && (match u6 l j with|some d2=>Nat.beq d2 d|none=>false)) (by simpa using hq)] at hl
          simp only at hl
          rw [v6] at hl
          cases he':lk ee d with
          |some av'=>simp only [he',Option.some.injEq] at hl;subst hl;exact hi.evals d _ he'
          |none=>
           simp only [he'] at hl
           cases hlq:lw d with
           |false=>
            rw [zc0 (q:=fun d=> !lw d) (by simp [hlq])] at hl
            exact hbase2 d _ hlq hl
           |true=>rw [zar (q:=fun d=> !lw d) (by simp [hlq])] at hl;cases hl
        rw [v6] at hl
        split at hl
        ·rename_i q
         cases hl
         by_cases hsd':(zb9 l n).any (Nat.beq d)=false
         ·rw [zln,zc0 (q:=fun d=> !(zb9 l n).any (Nat.beq d)) (by simp [hsd'])] at q
          exact hbase d _ hsd' q
         ·rw [zln,zar (q:=fun d=> !(zb9 l n).any (Nat.beq d)) (by simpa using hsd')] at q;cases q
        ·exact hrest _ hl
      refine hO2 X a w _ _ ⟨hi.heap,hi.tsz,hGr,hi.defs⟩ fun s' a' w' hs' hsim' hkp=> ?_
      obtain ⟨av,he',rfl,hJ'⟩:=hs'
      have hT':∀d av,(∀d',o.dst=some d'→d'≠d)→lk G d=some av→∃v,a'.tmps[d]? =some v∧Rel w' (OO he' X) av v:=fun d av' hnd hl=>by
       refine hsim'.fr d av' ?_
       show lk (stF o av G) d=_
       unfold stF
       split
       ·rename_i d' hd'
        simp only [lk]
        have:Nat.beq d' d=false:=by
         cases hb:Nat.beq d' d with
         |false=>rfl
         |true=>exact absurd (Nat.eq_of_beq_eq_true hb) (hnd d' hd')
        rw [this];exact hl
       ·exact hl
      have hGT:∀d av,lk T d=some av→(lk G d=some av)∨∃av',lk G d=some av':=fun d av hl=>by
       cases hg:lk G d with
       |some av'=>exact .inr ⟨av',rfl⟩
       |none=>
        exfalso
        rw [hG] at hg
        simp only [v6] at hg
        repeat' split at hg
        all_goals first|(rw [hl] at hg;cases hg)|cases hg
      have hedom':∀d,lk (stF o av ee) d≠none ↔ ∃k,k∈i::L∧u6 l k=some d:=fun d=>by
       unfold stF
       constructor
       ·intro hx
        split at hx
        ·rename_i d' hd'
         simp only [lk] at hx
         split at hx
         ·rename_i hb
          have:=Nat.eq_of_beq_eq_true hb
          subst this
          exact ⟨i,by simp,by rw [hdo];exact hd'⟩
         ·obtain ⟨k,k1,k2⟩:=(hi.edom d).1 hx;exact ⟨k,by simp [k1],k2⟩
        ·obtain ⟨k,k1,k2⟩:=(hi.edom d).1 hx;exact ⟨k,by simp [k1],k2⟩
       ·rintro ⟨k,k1,k2⟩
        rcases List.mem_cons.1 k1 with rfl|k1
        ·rw [hdo] at k2;rw [k2];simp [lk]
        ·have:=(hi.edom d).2 ⟨k,k1,k2⟩
         split
         ·simp only [lk];split
          ·simp
          ·exact this
         ·exact this
      obtain ⟨F',hF'⟩:∃F',(∀k,k∈eff→k < n→k∈i::L)→GoodF P ro nt Q l n late sd t dsl E (stF o av ee) he' F':=by
       by_cases hA:∀k,k∈eff→k < n→k∈i::L
       ·obtain ⟨F',k1,k2,k3,k4,k5⟩:=zvo hC (r:=late) (fun _ h=>h) hC.lnd (fun j hj d hd=>by
         rw [v6]
         obtain ⟨oj,g1,_,_,g4⟩:=hC.dst j (hC.lat j hj).2.1
         have hoj:oj.dst=some d:=by rw [←hsome_dst j oj g1];exact hd
         cases hx:lk E d with
         |some y=>
          obtain ⟨q,q1,q2,q3,q4⟩:=hE1' d y hx
          exact absurd rfl (g4 d hoj q q1 (fun e=>q3 (e ▸ hj)) d q4)
         |none=>
          simp only
          cases hy:lk (stF o av ee) d with
          |none=>rfl
          |some y=>
           obtain ⟨q,q1,q2⟩:=(hedom' d).1 (by rw [hy];simp)
           have hqe:q∈eff∧q < n:=(List.mem_cons.1 q1).elim (fun e=>e ▸ ⟨hie,hin⟩) (fun h=>let h:=(hi.lst q).1 h;⟨h.1,h.2.1⟩)
           exact absurd rfl (g4 d hoj q hqe.2 (fun e=>(hC.lat j hj).1 (e ▸ hqe.1)) d q2)) (hfin _ _ _ hJ' hA)
        exact ⟨F',fun _=>⟨k1,k2,k3,k4,k5⟩⟩
       ·exact ⟨[],fun h=>absurd h hA⟩
      refine ih (U.erase i) (i::L) (stF o av ee) he' F' _ _ _ ?_ hF' hU' hf'
      have hGE:∀j d,j < n→j ∉ eff++late→u6 l j=some d→listed.getD j false=true→∀av,lk E d=some av→lk G d=some av:=fun j d hj hje hjd hlj av hl=>by
       have hed:lk ee d=none:=by
        cases hx:lk ee d with
        |none=>rfl
        |some y=>
         obtain ⟨k,hk1,hk2⟩:=(hi.edom d).1 (by rw [hx];simp)
         obtain ⟨hk3,hk4,_⟩:=(hi.lst k).1 hk1
         obtain ⟨oj,g1,_,_,g4⟩:=hC.dst j hj
         have hkj:k≠j:=fun e=>hje (List.mem_append_left _ (e ▸ hk3))
         exact absurd rfl (g4 d (by rw [←hsome_dst j oj g1];exact hjd) k hk4 hkj d hk2)
       have hsd':¬(zb9 l n).any (Nat.beq d)=false:=fun hf=>hsd d hf j hj hjd
       rw [hG,v6]
       by_cases hpd':(zbb l o).any (Nat.beq d)=true
       ·rw [ze9,zc0 (q:=fun d=>(zbb l o).any (Nat.beq d)) hpd',hl]
       ·rw [ze9,zar (q:=fun d=>(zbb l o).any (Nat.beq d)) (Bool.eq_false_iff.2 hpd')]
        simp only
        rw [v6,ze9,zar (q:=fun d=>(zbb l o).any (Nat.beq d)) (Bool.eq_false_iff.2 hpd')]
        simp only
        rw [v6,zln,zar (q:=fun d=> !(zb9 l n).any (Nat.beq d)) (by simpa using hsd')]
        simp only
        rw [hT,v6,zc0 (q:=fun d=>(List.range n).any fun j=> !mem? j (eff++late) && listed.getD j false && (match u6 l j with|some d2=>Nat.beq d2 d|none=>false)) (by
         refine List.any_eq_true.2 ⟨j,List.mem_range.2 hj,?_⟩
         have:mem? j (eff++late)=false:=by
          cases hb:mem? j (eff++late) with
          |false=>rfl
          |true=>exact absurd (mem?_iff.1 hb) hje
         simp [this,hlj,hjd]),hl]
      have hGe:∀d av,lk ee d=some av→lk G d=some av:=fun d av hl=>by
       obtain ⟨k,hk1,hk2⟩:=(hi.edom d).1 (by rw [hl];simp)
       obtain ⟨hk3,hk4,_⟩:=(hi.lst k).1 hk1
       have hEd:lk E d=none:=by
        cases hx:lk E d with
        |none=>rfl
        |some y=>
         obtain ⟨j,g1,g2,g3⟩:=hE1 d y hx
         obtain ⟨ok,k1,_,_,k4⟩:=hC.dst k hk4
         have hkj:j≠k:=fun e=>g2 (List.mem_append_left _ (e ▸ hk3))
         exact absurd rfl (k4 d (by rw [←hsome_dst k ok k1];exact hk2) j g1 hkj d g3)
       have hsd':¬(zb9 l n).any (Nat.beq d)=false:=fun hf=>hsd d hf k hk4 hk2
       have hflt:lk (E.filter fun p=>(List.range n).any fun j=> !mem? j (eff++late) && listed.getD j false && (match u6 l j with|some d=>Nat.beq d p.1|none=>false)) d=none:=by
        by_cases hq:((List.range n).any fun j=> !mem? j (eff++late) && listed.getD j false && (match u6 l j with|some d2=>Nat.beq d2 d|none=>false))=true
        ·rw [zc0 (q:=fun d=>(List.range n).any fun j=> !mem? j (eff++late) && listed.getD j false && (match u6 l j with|some d2=>Nat.beq d2 d|none=>false)) hq,hEd]
        ·rw [zar (q:=fun d=>(List.range n).any fun j=> !mem? j (eff++late) && listed.getD j false && (match u6 l j with|some d2=>Nat.beq d2 d|none=>false)) (by simpa using hq)]
       rw [hG,v6]
       by_cases hpd':(zbb l o).any (Nat.beq d)=true
       ·rw [ze9,zc0 (q:=fun d=>(zbb l o).any (Nat.beq d)) hpd',hEd]
        simp only
        rw [v6,ze9,zc0 (q:=fun d=>(zbb l o).any (Nat.beq d)) hpd',hl]
       ·rw [ze9,zar (q:=fun d=>(zbb l o).any (Nat.beq d)) (Bool.eq_false_iff.2 hpd')]
        simp only
        rw [v6,ze9,zar (q:=fun d=>(zbb l o).any (Nat.beq d)) (Bool.eq_false_iff.2 hpd')]
        simp only
        rw [v6,zln,zar (q:=fun d=> !(zb9 l n).any (Nat.beq d)) (by simpa using hsd')]
        simp only
        rw [hT,v6,hflt]
        simp only
        rw [v6,hl]
      have hGt:∀d av,(∀j,j < n→u6 l j=some d→listed.getD j false=false)→lk t d=some av→lk G d=some av:=fun d av hj hl=>by
       have hlq:lw d=false:=by
        cases hb:lw d with
        |false=>rfl
        |true=>
         rw [hlw] at hb
         obtain ⟨j,hj1,hq⟩:=List.any_eq_true.1 hb
         simp only [Bool.and_eq_true] at hq
         obtain ⟨k2,k3⟩:=hq
         have hjd:u6 l j=some d:=by
          split at k3
          ·rename_i d2 hd2;rw [hd2,Nat.eq_of_beq_eq_true k3]
          ·cases k3
         rw [hj j (List.mem_range.1 hj1) hjd] at k2;cases k2
       have hpd0:(zbb l o).any (Nat.beq d)=false:=by
        cases hb:(zbb l o).any (Nat.beq d) with
        |false=>rfl
        |true=>
         obtain ⟨j,hj1,hjd⟩:=hpd d hb
         have hji:=hC.back i hil j hj1
         have:=hj j (by omega) hjd
         rw [hp j hj1] at this;cases this
       have hed:lk ee d=none:=by
        cases hx:lk ee d with
        |none=>rfl
        |some y=>
         obtain ⟨k,hk1,hk2⟩:=(hi.edom d).1 (by rw [hx];simp)
         obtain ⟨_,hk4,hk5⟩:=(hi.lst k).1 hk1
         have:=hj k hk4 hk2
         rw [hk5] at this;cases this
       have hflt:lk (E.filter fun p=>(List.range n).any fun j=> !mem? j (eff++late) && listed.getD j false && (match u6 l j with|some d=>Nat.beq d p.1|none=>false)) d=none:=by
        refine zar (q:=fun d=>(List.range n).any fun j=> !mem? j (eff++late) && listed.getD j false && (match u6 l j with|some d2=>Nat.beq d2 d|none=>false)) ?_
        cases hb:((List.range n).any fun j=> !mem? j (eff++late) && listed.getD j false && (match u6 l j with|some d2=>Nat.beq d2 d|none=>false)) with
        |false=>rfl
        |true=>
         obtain ⟨j,hj1,hq⟩:=List.any_eq_true.1 hb
         simp only [Bool.and_eq_true] at hq
         obtain ⟨⟨_,k2⟩,k3⟩:=hq
         have hjd:u6 l j=some d:=by
          split at k3
          ·rename_i d2 hd2;rw [hd2,Nat.eq_of_beq_eq_true k3]
          ·cases k3
         rw [hj j (List.mem_range.1 hj1) hjd] at k2;cases k2
       rw [hG,v6,ze9,zar (q:=fun d=>(zbb l o).any (Nat.beq d)) hpd0]
       simp only
       rw [v6,ze9,zar (q:=fun d=>(zbb l o).any (Nat.beq d)) hpd0]
       simp only
       rw [v6]
       have hlast:lk T d=some av:=by
        rw [hT,v6,hflt]
        simp only
        rw [v6,hed]
        simp only
        rw [zc0 (q:=fun d=> !lw d) (by simp [hlq]),hl]
       by_cases hsd':(zb9 l n).any (Nat.beq d)=false
       ·rw [zln,zc0 (q:=fun d=> !(zb9 l n).any (Nat.beq d)) (by simp [hsd']),hl]
       ·rw [zln,zar (q:=fun d=> !(zb9 l n).any (Nat.beq d)) (by simpa using hsd')]
        simp only
        exact hlast
      refine ⟨by simp [hi.size],hcl,fun k hk=>by rw [getD_set_ne false (by omega)];exact hi.tail k hk,hsim'.size,hsim'.defs,hJ',hsim'.heap,fun k=> ?_,fun k d av' hk hkd hFd hlk=> ?_,fun k d av' hk hke hkd hEd hlk=> ?_,fun d av' hl=> ?_,fun d=> ?_,fun d av' hj hl=> ?_,hi.keep.trans hkp⟩
      ·rw [List.mem_cons,hi.lst k]
       by_cases hki:k=i
       ·subst hki
        simp only [true_or,true_iff]
        exact ⟨hie,hin,zaj (by rw [hi.size];exact hil)⟩
       ·rw [getD_set_ne false (Ne.symm hki)];simp [hki]
      ·exfalso
       have hki:i≠k:=fun e=>(hC.lat k hk).1 (e ▸ hie)
       rw [getD_set_ne false hki] at hlk
       have:=zam hi.closed k _ (fun j hj=>hi.closed k hlk j hj) i ((hC.lat k hk).2.2 i hie)
       rw [hun] at this;cases this
      ·have hki:i≠k:=fun e=>hke (List.mem_append_left _ (e ▸ hie))
       rw [getD_set_ne false hki] at hlk
       exact hT' d av' (fun d' hd' e=>by subst e;exact hne d' k d' hd' hk (Ne.symm hki) hkd rfl) (hGE k d hk hke hkd hlk av' hEd)
      ·unfold stF at hl
       split at hl
       ·rename_i d' hd'
        simp only [lk] at hl
        split at hl
        ·rename_i hb
         have:=Nat.eq_of_beq_eq_true hb
         subst this
         cases hl
         refine hsim'.fr d' av ?_
         show lk (stF o av G) d'=_
         unfold stF;rw [hd'];simp [lk]
        ·rename_i hb
         exact hT' d av' (fun d2 hd2 e=>by rw [hd'] at hd2;cases hd2;subst e;simp at hb) (hGe d av' hl)
       ·rename_i hd'
        exact hT' d av' (fun d2 hd2=>by rw [hd'] at hd2;cases hd2) (hGe d av' hl)
      ·exact hedom' d
      ·have hj':∀j,j < n→u6 l j=some d→listed.getD j false=false:=fun j hjn hjd=>by
        by_cases hij:i=j
        ·subst hij;exact hun
        ·have:=hj j hjn hjd;rwa [getD_set_ne false hij] at this
       exact hT' d av' (fun d' hd' e=>by
        subst e
        have:=hj i hin (by rw [hdo];exact hd')
        rw [zaj (by rw [hi.size];exact hil)] at this;cases this) (hGt d av' hj' hl)
     ·have hgood:i∈late→GoodF P ro nt Q l n late sd t dsl E ee he F:=fun hil'=>hG fun k h1 h2=>(hi.lst k).2 ⟨h1,h2,zam hi.closed i _ hp k ((hC.lat i hil').2.2 k h1)⟩
      obtain ⟨d,av,e',hown,hlookP,hqd,hdn,hq⟩:∃d av e',((i∈late∧lk F d=some av)∨(i ∉ late∧lk E d=some av))∧(∀d' a',(zbb l o).any (Nat.beq d')=true→lk e' d'=some a'→∃v,a.tmps[d']? =some v∧Rel w (OO he X) a' v)∧QJ P ro nt (fun h=>h=he) l (sd i) t o d av e':=by
       by_cases hil':i∈late
       ·obtain ⟨d,av,e',k1,k2,k3⟩:=(hgood hil').facts i hil' o ho
        refine ⟨d,av,e',.inl ⟨hil',k1⟩,fun d' a' hpd' hl=> ?_,k3⟩
        have hF:=k2 d' a' hl
        rcases (hgood hil').dn d' a' hF with hE|⟨j,g1,g2⟩
        ·rw [v6] at hE
         cases hE2':lk E d' with
         |some av2=>simp only [hE2',Option.some.injEq] at hE;subst hE;exact hlookE d' _ hpd' hE2'
         |none=>simp only [hE2'] at hE;exact hi.evals d' _ hE
        ·obtain ⟨j',hj',hjd'⟩:=hpd d' hpd'
         have hji:=hC.back i hil j' hj'
         have:j=j':=by
          refine Classical.byContradiction fun hne'=> ?_
          obtain ⟨oj,q1,_,_,q4⟩:=hC.dst j' (by omega)
          exact q4 d' (by rw [←hsome_dst j' oj q1];exact hjd') j (hC.lat j g1).2.1 hne' d' g2 rfl
         subst this
         exact hi.lvals j d' _ g1 g2 hF (hp j hj')
       ·obtain ⟨d,av,e',hEd,hmono,hqd,hdn,hq⟩:=hfact i o (Nat.zero_le _) hin (fun hm=>(List.mem_append.1 hm).elim hie hil') ho
        exact ⟨d,av,e',.inr ⟨hil',hEd⟩,fun d' a' hpd' hl=>hlookE d' a' hpd' (hmono d' a' hl),hqd,hdn,hq.imp (fun h=>⟨h.1,fun h' e=>by subst e;exact h.2 _ (hJC L ee _ hi.J i hin hie fun j hj hcl=>by
         have hl:=zam hi.closed j _ (hi.closed j ((hi.lst j).1 hj).2.2) i hcl
         rw [hun] at hl;cases hl)⟩) id⟩
      have hlook:∀d' av',lkS (sd i) (zbb l o) e' t d'=some av'→∃v,a.tmps[d']? =some v∧Rel w (OO he X) av' v:=fun d' av' hl=>by
       unfold lkS at hl
       split at hl
       ·rename_i hpd';exact hlookP d' av' hpd' hl
       ·split at hl
        ·cases hl
        ·rename_i hsd'
         refine hi.base d' av' (fun j hj hd=> ?_) hl
         have hcj:=hS i hin d' hsd' j hj hd
         cases hlj:listed.getD j false with
         |false=>rfl
         |true=>
          have:=zam hi.closed j _ (fun k hk=>hi.closed j hlj k hk) i hcj
          rw [hun] at this;cases this
      have henv:Env X he (evS (sd i) (zbb l o) e' t) a.eval w:=by
       refine ⟨hi.heap,fun x av' hx=> ?_⟩
       cases x with
       |tmp d'=>
        obtain ⟨v,e,r⟩:=hlook d' av' hx
        have:a.eval (.tmp d')=v:=by simp [Act.eval,Array.getD_eq_getD_getElem?,e]
        rw [this];exact r
       |const x=>cases hx;exact .v x
       |global g=>cases hx;exact .v _
       |func f=>cases hx;exact .fn _ _ _ _ _ rfl rfl (fun j h=>absurd h (Nat.not_lt_zero j)) (fun j h=>absurd h (Nat.not_lt_zero j))
      have hguard:∀b,gdS l (lkS (sd i) (zbb l o) e' t) o=some b→Region.wanted o (yielded l.toArray a.tmps)=b:=fun b hg=>by
       unfold gdS at hg
       unfold Region.wanted
       split at hg
       ·rename_i h0;rw [h0];simpa using hg
       ·rename_i j want h0
        rw [h0]
        simp only
        split at hg
        ·rename_i d2 hd2
         have hd':((l.toArray)[j]?).bind (·.dst)=some d2:=by simpa [u6] using hd2
         split at hg
         ·rename_i c hcc
          obtain ⟨v,e,r⟩:=hlook _ _ hcc
          rw [r.v_eq] at e
          simp only [Option.some.injEq] at hg
          subst hg
          simp only [yielded,hd',Option.bind_some,e]
          cases c <;> cases want <;> rfl
         ·rename_i c hcc
          obtain ⟨v,e,r⟩:=hlook _ _ hcc
          rw [r.v_eq] at e
          simp only [Option.some.injEq] at hg
          subst hg
          simp only [yielded,hd',Option.bind_some,e]
          cases want <;> rfl
         ·cases hg
        ·cases hg
      have hdni:d < nt:=Nat.le_of_ble_eq_true hdn
      have hdi:u6 l i=some d:=by rw [hdo];exact hqd
      have hput:∀v d',d≠d'→(a.put (some d) v).tmps[d']? =a.tmps[d']? :=fun v d' hdd=>by simp [Act.put,hdd]
      have hgo:∀v w',Rel w' (OO he X) av v→HRel X w' he→Keep (u4 he) w (u4 he) w'→wpAnyIn (FW ro) 0 P .any l.toArray (zne X nt ⟨t,h,dsl⟩ w0 Q) fuel (listed.setIfInBounds i true) (a.put o.dst v) w':=fun v w' hr hh hkp=>by
       rw [hqd]
       refine ih (U.erase i) L ee he F _ _ _ ?_ hG hU' hf'
       have hkk:=fun b (hb:¬OO he X b) hl=>hkp.oo (X:=X) b hb hl
       refine ⟨by simp [hi.size],hcl,fun k hk=>by rw [getD_set_ne false (by omega)];exact hi.tail k hk,by simp [Act.put,hi.tsz],hi.defs,hi.J,hh,fun k=> ?_,fun k dk avk hk hkd hFk hlk=> ?_,fun k dk avk hk hke hkd hEk hlk=> ?_,fun dk avk hl=> ?_,hi.edom,fun dk avk hj hl=> ?_,hi.keep.trans hkp⟩
       ·rw [hi.lst k]
        by_cases hki:k=i
        ·subst hki;simp [hie]
        ·rw [getD_set_ne false (Ne.symm hki)]
       ·by_cases hki:i=k
        ·subst hki
         have:dk=d:=by rw [hdi] at hkd;exact (Option.some.inj hkd).symm
         subst this
         have:avk=av:=hown.elim (fun h=>Option.some.inj (hFk.symm.trans h.2)) (fun h=>absurd hk h.1)
         subst this
         exact ⟨v,by simp [Act.put,hi.tsz,hdni],hr⟩
        ·rw [getD_set_ne false hki] at hlk
         obtain ⟨u,e,r⟩:=hi.lvals k dk avk hk hkd hFk hlk
         exact ⟨u,by rw [hput v dk (hne d k dk hqd (hC.lat k hk).2.1 (Ne.symm hki) hkd)];exact e,r.keep hkp.size hkk⟩
       ·by_cases hki:i=k
        ·subst hki
         have:dk=d:=by rw [hdi] at hkd;exact (Option.some.inj hkd).symm
         subst this
         have:avk=av:=hown.elim (fun h=>absurd (List.mem_append_right _ h.1) hke) (fun h=>Option.some.inj (hEk.symm.trans h.2))
         subst this
         exact ⟨v,by simp [Act.put,hi.tsz,hdni],hr⟩
        ·rw [getD_set_ne false hki] at hlk
         obtain ⟨u,e,r⟩:=hi.vals k dk avk hk hke hkd hEk hlk
         exact ⟨u,by rw [hput v dk (hne d k dk hqd hk (Ne.symm hki) hkd)];exact e,r.keep hkp.size hkk⟩
       ·obtain ⟨u,e,r⟩:=hi.evals dk avk hl
        obtain ⟨k,k1,k2⟩:=(hi.edom dk).1 (by rw [hl];simp)
        obtain ⟨k3,k4,_⟩:=(hi.lst k).1 k1
        exact ⟨u,by rw [hput v dk (hne d k dk hqd k4 (fun e=>hie (e ▸ k3)) k2)];exact e,r.keep hkp.size hkk⟩
       ·have hj':∀j,j < n→u6 l j=some dk→listed.getD j false=false:=fun j hjn hjd=>by
         by_cases hij:i=j
         ·subst hij;exact hun
         ·have:=hj j hjn hjd;rwa [getD_set_ne false hij] at this
        obtain ⟨u,e,r⟩:=hi.base dk avk hj' hl
        exact ⟨u,by rw [hput v dk (fun e=>by
         have:=hj i hin (by rw [←e];exact hdi)
         rw [zaj (by rw [hi.size];exact hil)] at this;cases this)];exact e,r.keep hkp.size hkk⟩
      rcases hq with ⟨hg,hq⟩|⟨hg,rfl⟩
      ·rw [if_pos (hguard _ hg)]
       exact hq he rfl X a w _ _ henv fun v w' hr hh hkp=>hgo v w' hr hh hkp
      ·rw [if_neg (by rw [hguard _ hg];simp)]
       exact ⟨k6,hgo _ _ (.v _) hi.heap (.refl _ _)⟩
 have hrep:∀i,(Array.replicate l.length false).getD i false=false:=zmv l.length
 have hsz:l.toArray.size=l.length:=by simp
 obtain ⟨F0,hF0⟩:∃F0,(∀k,k∈eff→k < n→k∈([]:List Nat))→GoodF P ro nt Q l n late sd t dsl E [] h F0:=by
  by_cases hA:∀k,k∈eff→k < n→k∈([]:List Nat)
  ·obtain ⟨F',k1,k2,k3,k4,k5⟩:=zvo hC (r:=late) (fun _ h=>h) hC.lnd (fun j hj d hd=>by
    rw [v6]
    obtain ⟨oj,g1,_,_,g4⟩:=hC.dst j (hC.lat j hj).2.1
    have hoj:oj.dst=some d:=by rw [←hsome_dst j oj g1];exact hd
    cases hx:lk E d with
    |some y=>
     obtain ⟨q,q1,q2,q3,q4⟩:=hE1' d y hx
     exact absurd rfl (g4 d hoj q q1 (fun e=>q3 (e ▸ hj)) d q4)
    |none=>rfl) (hfin _ _ _ h0 hA)
   exact ⟨F',fun _=>⟨k1,k2,k3,k4,k5⟩⟩
  ·exact ⟨[],fun h=>absurd h hA⟩
 refine main l.toArray.size (List.range l.length) [] [] h F0 _ a0 {w0 with drawn:=w0.drawn+1} ⟨by simp,fun i hi=> ?_,fun i _=> ?_,hs.size,hs.defs,h0,?_,fun i=> ?_,fun i d av _ _ _ hl=> ?_,fun i d av _ _ _ _ hl=> ?_,fun d av hl=>by simp [lk] at hl,fun d=>by simp [lk],fun d av _ hl=> ?_,⟨Nat.le_refl _,fun b _ h=>⟨rfl,h⟩,zgz.eq rfl rfl rfl (by first|exact Nat.le_refl _|exact Nat.le_succ _)⟩⟩
  hF0 (fun i hi _=>List.mem_range.2 hi) (by simp)
 ·rw [hsz,hrep i] at hi;cases hi
 ·rw [hsz];exact hrep i
 ·exact hs.heap.grow (Nat.le_refl _) fun _ _=>rfl
 ·rw [hsz,hrep i];simp
 ·rw [hsz,hrep i] at hl;cases hl
 ·rw [hsz,hrep i] at hl;cases hl
 ·obtain ⟨v,e,r⟩:=hs.fr d av hl
  exact ⟨v,e,Rel.keep (w:=w0) (O:=OO h X) (Nat.le_refl _) (fun b hb _=>⟨rfl,hb⟩) r⟩
theorem zll {P:Program} {ro:Option Nat} {nt:Nat} {C:Nat→List Res→Prop} {l:List Oper} {eff:List Nat} {sd:Nat→List Tmp} {t:Fr}:∀(os:List Oper) (i:Nat) (e:Fr) (K K':Fr→Prop),(∀e,K e→K' e)→zdd P ro nt C l eff sd t os i e K→zdd P ro nt C l eff sd t os i e K':=by
 intro os
 induction os with
 |nil=>intro i e K K' h hk;exact h _ hk
 |cons o os ih=>
  intro i e K K' h hk
  rcases hk with ⟨h1,h2⟩|⟨h1,d,av,h2,h3⟩
  ·exact .inl ⟨h1,ih _ _ _ _ h h2⟩
  ·exact .inr ⟨h1,d,av,h2,ih _ _ _ _ h h3⟩
theorem zsj {P:Program} {ro:Option Nat} {nt rid:Nat} {Q:Exit→St→Prop} {l:List Oper} {t:Fr} {h:List Res} {dsl:List Nat} (n:Nat) (eff late:List Nat) (C:List Res→Prop) [hm:Mixed P] (hc:zl6 l n eff late=true)
 (hk:zdd P ro nt (fun _=>C) l (eff++late) (fun _=>zb9 l n) t (l.take n) 0 [] (fun E=>∃J:List Nat→Fr→List Res→Prop,J [] [] h∧(∀L ee he,J L ee he→C he)∧
  (∀L ee he,J L ee he→∀i o,i∈eff→i ∉ L→l[i]? =some o→(∀j,j∈zkr l i (q7 l i)→j∈eff→j∈L)→∀u,OE P ro nt o ⟨ze9 (zbb l o) E++(ze9 (zbb l o) ee++(zln (zb9 l n) t++u)),he,dsl⟩
   (fun s'=>∃av he',s'=⟨stF o av (ze9 (zbb l o) E++(ze9 (zbb l o) ee++(zln (zb9 l n) t++u))),he',dsl⟩∧J (i::L) (stF o av ee) he'))∧
  (∀L ee he,J L ee he→(∀i,i∈eff→i < n→i∈L)→zew P ro nt he l (fun _=>zb9 l n) t late (E++ee) (fun F=>zb0 P ro nt l.toArray (l.drop n) Q ⟨F++t,he,dsl⟩)))):aw P ro nt (.region rid l.toArray true) Q ⟨t,h,dsl⟩:=
 zsk n eff late (fun _=>zb9 l n) (fun i hi d hf j hj hd=>(zpk hf hj hd).elim) (fun _=>C) hc (zll _ _ _ _ _ (fun E ⟨J,h0,h1,h2,h3⟩=>⟨J,h0,fun L ee he hJ i _ _ _=>h1 L ee he hJ,h2,h3⟩) hk)
def zhh (l:List Oper) (n:Nat):List Nat→Bool
 | []=>true
 | [i]=>Nat.blt i n
 |i::j::r=>Nat.blt i n && ((zkr l j (q7 l j)).any (Nat.beq i) && zhh l n (j::r))
section
variable {P:Program} {ro:Option Nat} {nt:Nat} {l:List Oper} {dsl:List Nat}
def jch (P:Program) (ro:Option Nat) (nt:Nat) (C:List Res→Prop) (l:List Oper) (dsl:List Nat) (E tt:Fr):List Nat→Fr→List Res→(Fr→List Res→Prop)→Prop
 | [],ee,he,K=>K ee he
 |i::r,ee,he,K=>∃o,l[i]? =some o∧∀u,OE P ro nt o ⟨ze9 (zbb l o) E++(ze9 (zbb l o) ee++(tt++u)),he,dsl⟩
   (fun s'=>∃av he',s'=⟨stF o av (ze9 (zbb l o) E++(ze9 (zbb l o) ee++(tt++u))),he',dsl⟩∧C he'∧jch P ro nt C l dsl E tt r (stF o av ee) he' K)
theorem jcn {C:List Res→Prop} {E tt ee:Fr} {he:List Res} {K:Fr→List Res→Prop} (hk:K ee he):jch P ro nt C l dsl E tt [] ee he K:=hk
theorem jce {C:List Res→Prop} {E tt ee:Fr} {he:List Res} {K:Fr→List Res→Prop} {i:Nat} {r:List Nat} {o:Oper} (ho:l[i]? =some o)
 (hk:∀u,OE P ro nt o ⟨ze9 (zbb l o) E++(ze9 (zbb l o) ee++(tt++u)),he,dsl⟩
  (fun s'=>∃av he',s'=⟨stF o av (ze9 (zbb l o) E++(ze9 (zbb l o) ee++(tt++u))),he',dsl⟩∧C he'∧jch P ro nt C l dsl E tt r (stF o av ee) he' K)):jch P ro nt C l dsl E tt (i::r) ee he K:=⟨o,ho,hk⟩
theorem zm3 {n:Nat}:∀{eff:List Nat},zhh l n eff=true→∀k,(hk:k+1 < eff.length)→eff[k]∈zkr l eff[k+1] (q7 l eff[k+1])
 | [],_,k,hk=>by simp at hk
 | [i],_,k,hk=>by simp at hk
 |i::j::r,h,k,hk=>by
  simp only [zhh,Bool.and_eq_true] at h
  cases k with
  |zero=>
   obtain ⟨x,hx,e⟩:=List.any_eq_true.1 h.2.1
   simp only [List.getElem_cons_zero,List.getElem_cons_succ,Nat.zero_add]
   rw [Nat.eq_of_beq_eq_true e];exact hx
  |succ k=>exact zm3 (eff:=j::r) h.2.2 k (by simpa using hk)
end
theorem zo0 {P:Program} {ro:Option Nat} {nt rid:Nat} {Q:Exit→St→Prop} {l:List Oper} {t:Fr} {h:List Res} {dsl:List Nat} (n:Nat) (eff late:List Nat) (sd:Nat→List Tmp) (hS:∀i,i < n→∀d,(sd i).any (Nat.beq d)=false→∀j,j < n→u6 l j=some d→i∈zkr l j (q7 l j)) (C:Nat→List Res→Prop) (C0:List Res→Prop) [hm:Mixed P] (hc:zl6 l n eff late=true) (hch:zhh l n eff=true) (h0:C0 h)
 (hCC:∀i,i < n→i ∉ eff→∀k he,(eff.take k= []→he=h)→C0 he→(∀j∈eff.take k,i ∉ zkr l j (q7 l j))→C i he)
 (hk:zdd P ro nt C l (eff++late) sd t (l.take n) 0 [] (fun E=>jch P ro nt C0 l dsl E (zln (zb9 l n) t) eff [] h (fun ee he=>zew P ro nt he l sd t late (E++ee) (fun F=>zb0 P ro nt l.toArray (l.drop n) Q ⟨F++t,he,dsl⟩)))):aw P ro nt (.region rid l.toArray true) Q ⟨t,h,dsl⟩:=by
 have hnd:∀(L:List Nat),zhh l n L=true→(∀i,i < l.length→∀j∈q7 l i,j < i)→L.Pairwise (· < ·)∧∀i∈L,i < n:=by
  intro L
  induction L with
  |nil=>intro _ _;exact ⟨.nil,fun i h=>by cases h⟩
  |cons i L ih=>
   intro hL hb
   cases L with
   |nil=>exact ⟨by simp,fun j hj=>by simp only [List.mem_singleton] at hj;subst hj;exact Nat.le_of_ble_eq_true hL⟩
   |cons j L=>
    have hL':=hL
    simp only [zhh,Bool.and_eq_true] at hL
    obtain ⟨h1,h2⟩:=ih hL.2.2 hb
    have hjn:j < n:=h2 j (by simp)
    have hij:i < j:=by
     have hcl:=zm3 hL' 0 (by simp)
     have hlt:∀(k:Nat) (S:List Nat) (b:Nat),(∀x∈S,x < b)→∀x∈zkr l k S,x < b:=by
      intro k
      induction k with
      |zero=>intro S b hS x hx;exact hS x hx
      |succ k ihk=>
       intro S b hS x hx
       unfold zkr at hx
       refine ihk _ b (fun y hy=> ?_) x hx
       split at hy
       ·rename_i hany
        rcases List.mem_append.1 hy with hy|hy
        ·exact hS y hy
        ·obtain ⟨z,hz,e⟩:=List.any_eq_true.1 hany
         have hzb:=hS z hz
         rw [←Nat.eq_of_beq_eq_true e] at hzb
         by_cases hkl:k < l.length
         ·have:=hb k hkl y hy;omega
         ·simp only [q7,List.getElem?_eq_none (Nat.le_of_not_lt hkl)] at hy;cases hy
       ·exact hS y hy
     simp only [List.getElem_cons_zero,List.getElem_cons_succ,Nat.zero_add] at hcl
     by_cases hjl:j < l.length
     ·exact hlt j _ j (hb j hjl) i hcl
     ·have:q7 l j= []:=by simp only [q7,List.getElem?_eq_none (Nat.le_of_not_lt hjl)]
      rw [this] at hcl
      have:=hlt j [] 0 (fun x hx=>by cases hx) i hcl;omega
    refine ⟨List.pairwise_cons.2 ⟨fun x hx=> ?_,h1⟩,fun x hx=> ?_⟩
    ·rcases List.mem_cons.1 hx with rfl|hx
     ·exact hij
     ·have:=(List.pairwise_cons.1 h1).1 x hx;omega
    ·rcases List.mem_cons.1 hx with rfl|hx
     ·exact Nat.le_of_ble_eq_true hL.1
     ·exact h2 x hx
 obtain ⟨hlt,hin⟩:=hnd eff hch (zre hc).back
 refine zsk n eff late sd hS C hc (zll _ _ _ _ _ (fun E hE=> ?_) hk)
 refine ⟨fun L ee he=>C0 he∧∃k,(eff.take k= []→he=h)∧L=(eff.take k).reverse∧jch P ro nt C0 l dsl E (zln (zb9 l n) t) (eff.drop k) ee he (fun ee he=>zew P ro nt he l sd t late (E++ee) (fun F=>zb0 P ro nt l.toArray (l.drop n) Q ⟨F++t,he,dsl⟩)),⟨h0,0,fun _=>rfl,by simp,by simpa using hE⟩,?_,?_,?_⟩
 ·rintro L ee he ⟨hCe,k,hke,rfl,_⟩ i hi hie hcl
  exact hCC i hi hie k he hke hCe fun j hj=>hcl j (List.mem_reverse.2 hj)
 ·rintro L ee he ⟨hCe,k,hke,rfl,hj⟩ i o hie hiL hio hpre u
  obtain ⟨m,hm',rfl⟩:=List.getElem_of_mem hie
  have hkm:k≤m:=Classical.byContradiction fun h=>hiL (by rw [List.mem_reverse,List.mem_take_iff_getElem];exact ⟨m,by omega,rfl⟩)
  have hmk:m=k:=by
   rcases Nat.eq_or_lt_of_le hkm with h|h
   ·exact h.symm
   ·exfalso
    obtain ⟨m,rfl⟩:∃m',m=m'+1:=⟨m - 1,by omega⟩
    have hcl:=zm3 hch m hm'
    have:=hpre _ hcl (List.getElem_mem _)
    rw [List.mem_reverse,List.mem_take_iff_getElem] at this
    obtain ⟨q,hq,e⟩:=this
    have hq':q < m:=by omega
    have:=List.pairwise_iff_getElem.1 hlt q m (by omega) (by omega) hq'
    omega
  subst hmk
  rw [List.drop_eq_getElem_cons hm'] at hj
  obtain ⟨o',ho',hoe⟩:=hj
  obtain rfl:o'=o:=Option.some.inj (ho'.symm.trans hio)
  intro X a w K Q' hs hK
  refine hoe u X a w K Q' hs fun s' a' w' hn hs' hk'=> ?_
  obtain ⟨av,he',e,hC',hj'⟩:=hn
  exact hK s' a' w' ⟨av,he',e,hC',m+1,fun q=>absurd (congrArg List.length q) (by rw [List.length_take,List.length_nil];omega),by rw [List.take_succ_eq_append_getElem hm',List.reverse_append];rfl,hj'⟩ hs' hk'
 ·rintro L ee he ⟨hCe,k,hke,rfl,hj⟩ hall
  have:eff.length≤k:=Classical.byContradiction fun h=>by
   have hk':k < eff.length:=by omega
   have:=hall eff[k] (List.getElem_mem _) (hin _ (List.getElem_mem _))
   rw [List.mem_reverse,List.mem_take_iff_getElem] at this
   obtain ⟨q,hq,e⟩:=this
   have:=List.pairwise_iff_getElem.1 hlt q k (by omega) hk' (by omega)
   omega
  rw [List.drop_eq_nil_of_le this] at hj
  exact hj
theorem zw5 {P:Program} {ro:Option Nat} {nt rid:Nat} {Q:Exit→St→Prop} {l:List Oper} {t:Fr} {h:List Res} {dsl:List Nat} (n:Nat) (eff late:List Nat) (sd:Nat→List Tmp) (hS:∀i,i < n→∀d,(sd i).any (Nat.beq d)=false→∀j,j < n→u6 l j=some d→i∈zkr l j (q7 l j)) (C:List Res→Prop) [hm:Mixed P] (hc:zl6 l n eff late=true) (hch:zhh l n eff=true) (h0:C h)
 (hk:zdd P ro nt (fun _=>C) l (eff++late) sd t (l.take n) 0 [] (fun E=>jch P ro nt C l dsl E (zln (zb9 l n) t) eff [] h (fun ee he=>zew P ro nt he l sd t late (E++ee) (fun F=>zb0 P ro nt l.toArray (l.drop n) Q ⟨F++t,he,dsl⟩)))):aw P ro nt (.region rid l.toArray true) Q ⟨t,h,dsl⟩:=
 zo0 n eff late sd hS (fun _=>C) C hc hch h0 (fun _ _ _ _ _ _ h _=>h) hk
theorem zjf {P:Program} {ro:Option Nat} {nt rid:Nat} {Q:Exit→St→Prop} {l:List Oper} {t:Fr} {h:List Res} {dsl:List Nat} (n:Nat) (eff late:List Nat) (C:List Res→Prop) [hm:Mixed P] (hc:zl6 l n eff late=true) (hch:zhh l n eff=true) (h0:C h)
 (hk:zdd P ro nt (fun _=>C) l (eff++late) (fun _=>zb9 l n) t (l.take n) 0 [] (fun E=>jch P ro nt C l dsl E (zln (zb9 l n) t) eff [] h (fun ee he=>zew P ro nt he l (fun _=>zb9 l n) t late (E++ee) (fun F=>zb0 P ro nt l.toArray (l.drop n) Q ⟨F++t,he,dsl⟩)))):aw P ro nt (.region rid l.toArray true) Q ⟨t,h,dsl⟩:=
 zw5 n eff late (fun _=>zb9 l n) (fun i hi d hf j hj hd=>(zpk hf hj hd).elim) C hc hch h0 hk
def yba (l:List Oper) (eff early:List Nat):Bool:= !eff.isEmpty && early.all fun i=>eff.all fun j=>(zkr l j (q7 l j)).any (Nat.beq i)
theorem zje {P:Program} {ro:Option Nat} {nt rid:Nat} {Q:Exit→St→Prop} {l:List Oper} {t:Fr} {h:List Res} {dsl:List Nat} (n:Nat) (eff late early:List Nat) (C:List Res→Prop) [hm:Mixed P] (hc:zl6 l n eff late=true) (hch:zhh l n eff=true) (hy:yba l eff early=true) (h0:C h)
 (hk:zdd P ro nt (fun i he=>(mem? i early=true→he=h)∧C he) l (eff++late) (fun _=>zb9 l n) t (l.take n) 0 [] (fun E=>jch P ro nt C l dsl E (zln (zb9 l n) t) eff [] h (fun ee he=>zew P ro nt he l (fun _=>zb9 l n) t late (E++ee) (fun F=>zb0 P ro nt l.toArray (l.drop n) Q ⟨F++t,he,dsl⟩)))):aw P ro nt (.region rid l.toArray true) Q ⟨t,h,dsl⟩:=by
 refine zo0 n eff late (fun _=>zb9 l n) (fun i hi d hf j hj hd=>(zpk hf hj hd).elim) (fun i he=>(mem? i early=true→he=h)∧C he) C hc hch h0 (fun i hi hie k he hke hC hcl=>⟨fun hm=> ?_,hC⟩) hk
 simp only [yba,Bool.and_eq_true,List.all_eq_true] at hy
 obtain ⟨hne,hy⟩:=hy
 refine hke ?_;cases hq:eff.take k with
 |nil=>rfl
 |cons j r=>
  exfalso
  have hj:j∈eff.take k:=by rw [hq];simp
  obtain ⟨x,hx,e⟩:=List.any_eq_true.1 (hy i (mem?_iff.1 hm) j (List.mem_of_mem_take hj))
  rw [←Nat.eq_of_beq_eq_true e] at hx
  exact hcl j hj hx
section
variable {P:Program} {ro:Option Nat} {nt:Nat} {dst:Option Tmp} {ty:TypeId} {pos:String} {after:Array Edge} {guard:Option (Nat×Bool)} {x y:Operand}
end
section
variable {P:Program} {ro:Option Nat} {nt:Nat} {h:List Res} {f:Operand→Option AV} {dst:Option Tmp} {ty:TypeId} {pos:String} {after:Array Edge} {guard:Option (Nat×Bool)} {x y z:Operand}
end
section
variable {P:Program} {ro:Option Nat} {nt:Nat} {dst:Option Tmp} {ty:TypeId} {pos:String} {after:Array Edge} {guard:Option (Nat×Bool)} {x y:Operand}
end
section
variable {P:Program} {ro:Option Nat} {nt:Nat} {h:List Res} {f:Operand→Option AV} {dst:Option Tmp} {ty:TypeId} {pos:String} {after:Array Edge} {guard:Option (Nat×Bool)} {x y z:Operand}
end
section
variable {P:Program} {ro:Option Nat} {nt:Nat} {ty:TypeId} {pos:String} {after:Array Edge} {guard:Option (Nat×Bool)} {x y:Operand}
end
section
variable {P:Program} {ro:Option Nat} {nt:Nat} {h:List Res} {f:Operand→Option AV} {dst:Option Tmp} {ty:TypeId} {pos:String} {after:Array Edge} {guard:Option (Nat×Bool)} {x y z u:Operand} {t:Fr} {ds:List Nat} {next:St→Prop}
end
def yiv (T:TypeId) (H:List Res) (he:List Res):Prop:=he=H∨(∃b c,he= .box b T c::H)∨∃b c b' c',he= .box b T c:: .box b' T c'::H
abbrev bp (b:Nat):AV:=pZ b
theorem yh1 {nt:Nat} {t t':Fr} {h:List Res} {ds:List Nat} (hs:∀i,lk t' i=lk t i):Ent nt ⟨t,h,ds⟩ ⟨t',h,ds⟩:=
 ⟨fun _ h=>h,fun X ac w hsim=>⟨hsim.heap,hsim.size,fun i av e=>hsim.fr i av (by rw [←hs];exact e),hsim.defs⟩⟩
theorem yay {B B':Fr} (h:∀i,lk B i=lk B' i):∀{A:Fr} {i:Nat},lk (A++B) i=lk (A++B') i
 | [],i=>h i
 |(j,a)::r,i=>by
  simp only [List.cons_append,lk]
  split
  ·rfl
  ·exact yay h
theorem yg2 {di dj:Nat} {x y:AV} {t:Fr} (hdd:Nat.beq dj di=false) (i:Nat):lk ([(di,x),(dj,y)]++t) i=lk ([(dj,y),(di,x)]++t) i:=by
 simp only [List.cons_append,List.nil_append,lk]
 cases e1:Nat.beq di i with
 |false=>rfl
 |true=>
  cases e2:Nat.beq dj i with
  |false=>rfl
  |true=>
   rw [Nat.eq_of_beq_eq_true e1,Nat.eq_of_beq_eq_true e2] at hdd
   simp at hdd
theorem zw6 {P:Program} {ro:Option Nat} {nt rid:Nat} {Q:Exit→St→Prop} {l:List Oper} {t:Fr} {h:List Res} {dsl:List Nat} (n i j k di dj:Nat) (T:TypeId) {m:Nat} {zs:List Value} {y:Operand} (V:List AV)
 {ti tj tk:TypeId} {pi pj pk:String} {ai aj ak:Array Edge} [hm:Mixed P] [hz:Zer P T zs] [Siz P T m] (hc:zl6 l n [i,j,k] []=true)
 (hi:l[i]? =some ⟨some di,.alloc T,ti,pi,ai,none⟩) (hj:l[j]? =some ⟨some dj,.alloc T,tj,pj,aj,none⟩) (hkk:l[k]? =some ⟨none,.store T (.tmp di) y,tk,pk,ak,none⟩)
 (hik:(zkr l k (q7 l k)).any (Nat.beq i)=true) (h1:Nat.beq i j=false) (h2:Nat.beq i k=false) (h3:Nat.beq j k=false) (hdi:dok nt (some di)=true) (hdj:dok nt (some dj)=true) (hVc:(AV.agg V).cellsOf=some V) (hV:V.length=m) (hzm:zs.length=m) (hdd:Nat.beq dj di=false) (hn:(Nat.blt i n && (Nat.blt j n && Nat.blt k n))=true)
 (hk:zdd P ro nt (fun _=>yiv T h) l [i,j,k] (fun _=>zb9 l n) t (l.take n) 0 [] (fun E=>
  (∀ee u,(∃b,ee= [(di,bp b)])∨(∃b c,ee= [(dj,bp c),(di,bp b)])∨(∃b c,ee= [(di,bp b),(dj,bp c)])→
   ev (ze9 (zbb l ⟨none,.store T (.tmp di) y,tk,pk,ak,none⟩) E++(ze9 (zbb l ⟨none,.store T (.tmp di) y,tk,pk,ak,none⟩) ee++(zln (zb9 l n) t++u))) (.tmp di)=lk ee di∧
   ev (ze9 (zbb l ⟨none,.store T (.tmp di) y,tk,pk,ak,none⟩) E++(ze9 (zbb l ⟨none,.store T (.tmp di) y,tk,pk,ak,none⟩) ee++(zln (zb9 l n) t++u))) y=some (.agg V))∧
  ∀b c,zb0 P ro nt l.toArray (l.drop n) Q ⟨(E++ [(di,bp b),(dj,bp c)])++t,.box b T V:: .box c T (zs.map .v)::h,dsl⟩)):
 aw P ro nt (.region rid l.toArray true) Q ⟨t,h,dsl⟩:=by
 have hij:i≠j:=fun e=>by subst e;simp at h1
 have hik':i≠k:=fun e=>by subst e;simp at h2
 have hjk:j≠k:=fun e=>by subst e;simp at h3
 have hmem:i∈zkr l k (q7 l k):=by
  obtain ⟨x,hx,e⟩:=List.any_eq_true.1 hik
  rw [Nat.eq_of_beq_eq_true e];exact hx
 simp only [Bool.and_eq_true] at hn
 have ni:=Nat.le_of_ble_eq_true hn.1
 have nj:=Nat.le_of_ble_eq_true hn.2.1
 have nk:=Nat.le_of_ble_eq_true hn.2.2
 refine zsj n [i,j,k] [] (yiv T h) hc ?_
 have hmono:∀(os:List Oper) (q:Nat) (e:Fr) (K K':Fr→Prop),(∀e,K e→K' e)→zdd P ro nt (fun _=>yiv T h) l ([i,j,k]++ []) (fun _=>zb9 l n) t os q e K→zdd P ro nt (fun _=>yiv T h) l ([i,j,k]++ []) (fun _=>zb9 l n) t os q e K':=by
  intro os
  induction os with
  |nil=>intro q e K K' h hk;exact h _ hk
  |cons o os ih=>
   intro q e K K' h hk
   rcases hk with ⟨h1,h2⟩|⟨h1,d,av,h2,h3⟩
   ·exact .inl ⟨h1,ih _ _ _ _ h h2⟩
   ·exact .inr ⟨h1,d,av,h2,ih _ _ _ _ h h3⟩
 refine hmono _ _ _ _ _ (fun E hE=> ?_) hk
 obtain ⟨hE1,hE2⟩:=hE
 have Z:=zs.map AV.v
 refine ⟨fun L ee he=>(L= []∧ee= []∧he=h)∨(∃b,L= [i]∧ee= [(di,bp b)]∧he= .box b T (zs.map .v)::h)∨(∃c,L= [j]∧ee= [(dj,bp c)]∧he= .box c T (zs.map .v)::h)∨
  (∃b c,L= [j,i]∧ee= [(dj,bp c),(di,bp b)]∧he= .box c T (zs.map .v):: .box b T (zs.map .v)::h)∨(∃b c,L= [i,j]∧ee= [(di,bp b),(dj,bp c)]∧he= .box b T (zs.map .v):: .box c T (zs.map .v)::h)∨
  (∃b,L= [k,i]∧ee= [(di,bp b)]∧he= .box b T V::h)∨(∃b c,(L= [k,j,i]∨L= [j,k,i])∧ee= [(dj,bp c),(di,bp b)]∧he= .box c T (zs.map .v):: .box b T V::h)∨
  (∃b c,L= [k,i,j]∧ee= [(di,bp b),(dj,bp c)]∧he= .box b T V:: .box c T (zs.map .v)::h),.inl ⟨rfl,rfl,rfl⟩,?_,?_,?_⟩
 ·rintro L ee he (⟨_,_,rfl⟩|⟨b,_,_,rfl⟩|⟨c,_,_,rfl⟩|⟨b,c,_,_,rfl⟩|⟨b,c,_,_,rfl⟩|⟨b,_,_,rfl⟩|⟨b,c,_,_,rfl⟩|⟨b,c,_,_,rfl⟩)
  ·exact .inl rfl
  ·exact .inr (.inl ⟨_,_,rfl⟩)
  ·exact .inr (.inl ⟨_,_,rfl⟩)
  ·exact .inr (.inr ⟨_,_,_,_,rfl⟩)
  ·exact .inr (.inr ⟨_,_,_,_,rfl⟩)
  ·exact .inr (.inl ⟨_,_,rfl⟩)
  ·exact .inr (.inr ⟨_,_,_,_,rfl⟩)
  ·exact .inr (.inr ⟨_,_,_,_,rfl⟩)
 ·intro L ee he hJ q o hq hL ho hb u
  have hq':q=i∨q=j∨q=k:=by simpa using hq
  rcases hq' with rfl|rfl|rfl
  ·obtain rfl:_=o:=Option.some.inj (hi.symm.trans ho)
   rcases hJ with ⟨rfl,rfl,rfl⟩|⟨b,rfl,rfl,rfl⟩|⟨c,rfl,rfl,rfl⟩|⟨b,c,rfl,rfl,rfl⟩|⟨b,c,rfl,rfl,rfl⟩|⟨b,rfl,rfl,rfl⟩|⟨b,c,rfl|rfl,rfl,rfl⟩|⟨b,c,rfl,rfl,rfl⟩
   ·exact x4 hdi fun b=>⟨_,_,rfl,.inr (.inl ⟨b,rfl,rfl,rfl⟩)⟩
   ·exact absurd (by simp) hL
   ·exact x4 hdi fun b=>⟨_,_,rfl,.inr (.inr (.inr (.inr (.inl ⟨b,c,rfl,rfl,rfl⟩))))⟩
   all_goals exact absurd (by simp) hL
  ·obtain rfl:_=o:=Option.some.inj (hj.symm.trans ho)
   rcases hJ with ⟨rfl,rfl,rfl⟩|⟨b,rfl,rfl,rfl⟩|⟨c,rfl,rfl,rfl⟩|⟨b,c,rfl,rfl,rfl⟩|⟨b,c,rfl,rfl,rfl⟩|⟨b,rfl,rfl,rfl⟩|⟨b,c,rfl|rfl,rfl,rfl⟩|⟨b,c,rfl,rfl,rfl⟩
   ·exact x4 hdj fun c=>⟨_,_,rfl,.inr (.inr (.inl ⟨c,rfl,rfl,rfl⟩))⟩
   ·exact x4 hdj fun c=>⟨_,_,rfl,.inr (.inr (.inr (.inl ⟨b,c,rfl,rfl,rfl⟩)))⟩
   ·exact absurd (by simp) hL
   ·exact absurd (by simp) hL
   ·exact absurd (by simp) hL
   ·exact x4 hdj fun c=>⟨_,_,rfl,.inr (.inr (.inr (.inr (.inr (.inr (.inl ⟨b,c,.inr rfl,rfl,rfl⟩))))))⟩
   all_goals exact absurd (by simp) hL
  ·obtain rfl:_=o:=Option.some.inj (hkk.symm.trans ho)
   have hin:i∈L:=hb i hmem (by simp)
   have hl:∀(b:Nat) (r:Fr),lk ((di,bp b)::r) di=some (bp b):=fun b r=>by simp [lk]
   have hl2:∀(b c:Nat),lk [(dj,bp c),(di,bp b)] di=some (bp b):=fun b c=>by
    show (match Nat.beq dj di with|true=>some (bp c)|false=>lk [(di,bp b)] di)=_
    rw [hdd];exact hl b []
   rcases hJ with ⟨rfl,rfl,rfl⟩|⟨b,rfl,rfl,rfl⟩|⟨c,rfl,rfl,rfl⟩|⟨b,c,rfl,rfl,rfl⟩|⟨b,c,rfl,rfl,rfl⟩|⟨b,rfl,rfl,rfl⟩|⟨b,c,rfl|rfl,rfl,rfl⟩|⟨b,c,rfl,rfl,rfl⟩
   ·cases hin
   ·obtain ⟨a1,a2⟩:=hE1 [(di,bp b)] u (.inl ⟨b,rfl⟩)
    rw [hl] at a1
    exact zac a1 a2 hVc ⟨.any,_,rfl,.inr (.inr (.inr (.inr (.inr (.inl ⟨b,rfl,rfl,rfl⟩)))))⟩ hV (by simp [hzm])
   ·exact absurd (by simpa using hin) hij
   ·obtain ⟨a1,a2⟩:=hE1 [(dj,bp c),(di,bp b)] u (.inr (.inl ⟨b,c,rfl⟩))
    rw [hl2] at a1
    exact zac a1 a2 hVc ⟨.any,_,rfl,.inr (.inr (.inr (.inr (.inr (.inr (.inl ⟨b,c,.inl rfl,rfl,rfl⟩))))))⟩ hV (by simp [hzm])
   ·obtain ⟨a1,a2⟩:=hE1 [(di,bp b),(dj,bp c)] u (.inr (.inr ⟨b,c,rfl⟩))
    rw [hl] at a1
    exact zac a1 a2 hVc ⟨.any,_,rfl,.inr (.inr (.inr (.inr (.inr (.inr (.inr ⟨b,c,rfl,rfl,rfl⟩))))))⟩ hV (by simp [hzm])
   all_goals exact absurd (by simp) hL
 ·intro L ee he hJ hall
  have ai:=hall i (by simp) ni
  have aj:=hall j (by simp) nj
  have ak:=hall k (by simp) nk
  refine ln ?_;rcases hJ with ⟨rfl,rfl,rfl⟩|⟨b,rfl,rfl,rfl⟩|⟨c,rfl,rfl,rfl⟩|⟨b,c,rfl,rfl,rfl⟩|⟨b,c,rfl,rfl,rfl⟩|⟨b,rfl,rfl,rfl⟩|⟨b,c,_,rfl,rfl⟩|⟨b,c,rfl,rfl,rfl⟩
  ·cases ai
  ·exact absurd (by simpa using ak) (Ne.symm hik')
  ·exact absurd (by simpa using ak) (Ne.symm hjk)
  ·exact absurd (show k=j∨k=i by simpa using ak) (fun q=>q.elim (Ne.symm hjk) (Ne.symm hik'))
  ·exact absurd (show k=i∨k=j by simpa using ak) (fun q=>q.elim (Ne.symm hik') (Ne.symm hjk))
  ·exact absurd (show j=k∨j=i by simpa using aj) (fun q=>q.elim hjk (Ne.symm hij))
  ·refine zjg (v8 (zae (.swap _ _ _)) (yh1 fun q=> ?_)) (hE2 b c)
   rw [List.append_assoc,List.append_assoc]
   refine yay fun q=> ?_
   exact yg2 hdd q
  ·exact hE2 b c
end Go.Ab
namespace Go.H
open Go Go.Ab
abbrev iv (n:Int):AV:= .v (.int .i64 n)
abbrev bv (b:Bool):AV:= .v (.bool b)
abbrev sv (s:ByteArray):AV:= .v (.string s)
structure Ver where
 t:Int
 k:Int
 deriving DecidableEq
structure Seen where
 o:Int
 v:Ver
 deriving DecidableEq
structure Ev where
 kind:Int
 t:Int
 s:Int
 l:Int
 o:Int
 v:Ver
 p:Int
 scan:List Seen
 deriving DecidableEq
structure Ord where
 o:Int
 ts:List Int
 deriving DecidableEq
structure Mat where
 p:Int
 o:Int
 first:Bool
 ts:List Int
 deriving DecidableEq
structure Wan where
 s:Int
 bits:Int
 deriving DecidableEq
structure Hist where
 ts:List ByteArray
 ss:List ByteArray
 os:List ByteArray
 ps:List ByteArray
 evs:List Ev
 ords:List Ord
 mats:List Mat
 wants:List Wan
def zde (n:Int):List AV:= [iv n]
def zh0 (s:ByteArray):List AV:= [sv s]
def zx0 (v:Ver):List AV:= [iv v.t,iv v.k]
def zbp (s:Seen):List AV:= [iv s.o,iv s.v.t,iv s.v.k]
def zel (l:List Int):AV:= .list false 1 (l.map zde)
def zb8 (l:List ByteArray):AV:= .list false 1 (l.map zh0)
def zrn (l:List Seen):AV:= .list false 3 (l.map zbp)
def evR (e:Ev):List AV:= [iv e.kind,iv e.t,iv e.s,iv e.l,iv e.o,iv e.v.t,iv e.v.k,iv e.p,zrn e.scan]
def zdy (o:Ord):List AV:= [iv o.o,zel o.ts]
def zge (m:Mat):List AV:= [iv m.p,iv m.o,bv m.first,zel m.ts]
def zga (w:Wan):List AV:= [iv w.s,iv w.bits]
def zwh (l:List Ev):AV:= .list false 9 (l.map evR)
def yc9 (l:List Ord):AV:= .list false 2 (l.map zdy)
def zta (l:List Mat):AV:= .list false 4 (l.map zge)
def zsr (l:List Wan):AV:= .list false 2 (l.map zga)
def x5 (h:Hist):List AV:= [zb8 h.ts,zb8 h.ss,zb8 h.os,zb8 h.ps,zwh h.evs,yc9 h.ords,zta h.mats,zsr h.wants]
def zh6 (h:Hist):List AV:= [zb8 h.ts,zb8 h.ss,zb8 h.os,zb8 h.ps]
def zaq {α:Type} (p:α→Bool) (i:Nat):List α→Int
 | []=> -1
 |x::r=>if p x then i else zaq p (i+1) r
theorem zdv {α:Type} (p:α→Bool):∀(l:List α) (i:Nat),decide (zaq p i l ≥ 0)=l.any p
 | [],i=>by simp [zaq]
 |x::r,i=>by
  simp only [zaq,List.any_cons]
  split
  ·rename_i h;simp [h]
  ·rename_i h;simp [h,zdv p r (i+1)]
theorem zgx {α:Type} (p:α→Bool):∀(l:List α),(!l.any fun a=> !p a)=l.all p
 | []=>rfl
 |x::r=>by
  have:=zgx p r
  simp only [List.any_cons,List.all_cons,Bool.not_or,Bool.not_not,this]
def zxx {α β:Type} (p:α→β→Bool):List α→List β→Bool
 |x::xs,y::ys=>p x y && zxx p xs ys
 |_,_=>true
theorem zxw {α β:Type} (p:α→β→Bool) (m:List β):zxx p [] m=true:=by cases m <;> rfl
def eqF {α β:Type} (p:α→β→Bool) (l:List α) (m:List β):Bool:=l.length==m.length && zxx p l m
def zh3 (a b:Seen):Bool:= [a.o,a.v.t,a.v.k]== [b.o,b.v.t,b.v.k]
theorem zy2 {b:Bool} (h:(!b)=true):b=false:=by simpa using h
theorem zy3 {b:Bool} (h:(!b)=false):b=true:=by simpa using h
theorem ya9 {α:Type} [DecidableEq α] {p:α→α→Bool} (hp:∀a b,p a b=decide (a=b)):∀(l m:List α),eqF p l m=decide (l=m)
 | [],[]=>by simp [eqF,zxx]
 |x::xs,[]=>by simp [eqF]
 | [],y::ys=>by simp [eqF]
 |x::xs,y::ys=>by
  have:=ya9 hp xs ys
  simp only [eqF] at this
  simp only [eqF,zxx,List.length_cons,hp]
  by_cases h:x=y
  ·subst h
   simp only [decide_true,Bool.true_and,List.cons.injEq,true_and]
   rw [←this]
   congr 1
   simp
  ·simp [h]
def zva (c:Int):Bool:=decide (c ≥ 48) && decide (c≤57)
def ydr (c:Int):Bool:=c==95||(decide (c ≥ 97) && decide (c≤122))||(decide (c ≥ 65) && decide (c≤90))||decide (c ≥ 128)
def zdm (l:List ByteArray) (n:Int):Bool:=decide (n ≥ 0) && decide (n < l.length)
def ztz (ts:List ByteArray) (v:Ver):Bool:=if v.k==0 then v.t==0 else zdm ts v.t && decide (v.k > 0) && decide (v.k≤999)
def yg6 (l:Int):Int:=if decide (l < 1)||decide (l > 4) then 190 else 0
def yek (a b:Ev):Bool:=a.kind==b.kind && a.t==b.t && a.s==b.s && a.l==b.l && a.o==b.o && [a.v.t,a.v.k]== [b.v.t,b.v.k] && a.p==b.p && eqF zh3 a.scan b.scan
structure Lim (N:Nat) (h:Hist):Prop where
 ts:h.ts.length≤N
 ss:h.ss.length≤N
 os:h.os.length≤N
 ps:h.ps.length≤N
 evs:h.evs.length≤N
 ords:h.ords.length≤N
 mats:h.mats.length≤N
 wants:h.wants.length≤N
 scans:∀e∈h.evs,e.scan.length≤N
 ordts:∀o∈h.ords,o.ts.length≤N
 matts:∀m∈h.mats,m.ts.length≤N
structure Big (h:Hist):Prop where
 lim:Lim 4611686018427387904 h
 ts:h.ts.length≤8796093022208
 ss:h.ss.length≤8796093022208
 os:h.os.length≤8796093022208
 ps:h.ps.length≤8796093022208
 ords:h.ords.length≤4398046511104
 mats:h.mats.length≤2932031007402
 wants:h.wants.length≤8796093022208
 scans:∀e∈h.evs,e.scan.length≤5864062014805
 ordts:∀o∈h.ords,o.ts.length≤17592186044416
 matts:∀m∈h.mats,m.ts.length≤17592186044416
def nmK (h:Hist):Nat→List ByteArray
 |0=>h.ts
 |1=>h.ss
 |2=>h.os
 |_=>h.ps
theorem zvc (h:Hist) {k:Nat} (hk:k < 4):(zh6 h)[k]? =some (zb8 (nmK h k)):=by
 match k,hk with
 |0,_=>rfl
 |1,_=>rfl
 |2,_=>rfl
 |3,_=>rfl
theorem Lim.nm {N:Nat} {h:Hist} (l:Lim N h) (k:Nat):(nmK h k).length≤N:=by
 match k with
 |0=>exact l.ts
 |1=>exact l.ss
 |2=>exact l.os
 |k+3=>exact l.ps
def zc4 (h:Hist) (e:Ev):Bool:=zdm h.ss e.s && yg6 e.l==0
def zav (h:Hist) (e:Ev):Bool:=zdm h.os e.o && ztz h.ts e.v && e.v.t==e.t && decide (e.v.k > 0)
def zdh (h:Hist) (e:Ev):Bool:=zdm h.os e.o && ztz h.ts e.v
def zhm (h:Hist) (s:Seen):Bool:=zdm h.os s.o && ztz h.ts s.v
def zcc (h:Hist) (e:Ev):Bool:=zdm h.ps e.p && decide ((e.scan.length:Int)≤40) && e.scan.all (zhm h)
def zgr (h:Hist) (e:Ev):Ev×Bool:=
 if e.kind=1 then (⟨0,0,e.s,e.l,0,⟨0,0⟩,0,[]⟩,zc4 h e) else
 if e.kind=2 then (⟨0,0,0,0,e.o,e.v,0,[]⟩,zav h e) else
 if e.kind=3 then (⟨0,0,0,0,e.o,e.v,0,[]⟩,zdh h e) else
 if e.kind=4 then (⟨0,0,0,0,0,⟨0,0⟩,e.p,e.scan⟩,zcc h e) else
 (⟨0,0,0,0,0,⟨0,0⟩,0,[]⟩,true)
def zdk (h:Hist) (e:Ev):Bool:=
 !(decide (e.kind < 1)||decide (e.kind ≥ 7)|| !zdm h.ts e.t) && ((zgr h e).2 && yek {(zgr h e).1 with kind:=e.kind,t:=e.t} e)
theorem zwv (h:Hist) (e:Ev) {N:Nat} (he:e.scan.length≤N):(zgr h e).1.scan.length≤N:=by
 unfold zgr;repeat' split
 all_goals simp [he]
def tsB (h:Hist) (ts:List Int):Bool:=decide ((ts.length:Int)≤300) && ts.all (zdm h.ts)
def ztt (h:Hist) (r:Ord):Bool:=zdm h.os r.o && tsB h r.ts
def zze (h:Hist) (r:Mat):Bool:=zdm h.ps r.p && zdm h.os r.o && tsB h r.ts
def yah (h:Hist) (r:Wan):Bool:=zdm h.ss r.s && decide (r.bits ≥ 0) && decide (r.bits≤15)
end Go.H
