/- The abstract logic, part 21: a region that draws its order, and among whose operations some make memory of their own (calls, allocations, maps). .. -/
import Derived.Test.YtfmcbdjnmlcacaaGreatDoorROvB
set_option linter.unusedSimpArgs false
set_option linter.unusedVariables false
namespace Go.Ab
open Go
structure SV where
 a:Option Addr
 n:Nat
 c:Nat
def SV.v (s:SV):Value:= .slice s.a s.n s.c
structure MX where
 vs:List SV
 ns:List Nat
abbrev MR:=MX→AV×List Res
abbrev CM:=List Res×MR
def ypb (P:Program) (ro:Option Nat) (nt:Nat) (h:List Res) (dsl:List Nat) (l:List Oper) (sd:List Tmp) (t0:Fr) (o:Oper) (m:CM) (e:Fr):Prop:=
 ∃d,o.dst=some d∧Nat.blt d nt=true∧o.guard=none∧
  ∀X a w K Q,a.tmps.size=nt→a.defers=dsl.map zjy→Env X (m.1++h) (evS sd (zco l o) e t0) a.eval w→(∀x v w',Rel w' (OO ((m.2 x).2++h) X) (m.2 x).1 v→HRel X w' ((m.2 x).2++h)→Keep (j7 (m.1++h)) w (j7 ((m.2 x).2++h)) w'→K (a.put o.dst v) w')→o.wpIn (FW ro) 0 P a w K Q
def zcj (P:Program) (ro:Option Nat) (nt:Nat) (h:List Res) (dsl:List Nat) (l:List Oper) (sd:List Tmp) (t0:Fr):List Oper→Fr→(Fr→List (Option CM)→Prop)→Prop
 | [],e,K=>K e []
 |o::rest,e,K=>(∃d av,o.dst=some d∧zwb P ro nt h l sd t0 o av e∧zcj P ro nt h dsl l sd t0 rest ((d,av)::e) (fun e ms=>K e (none::ms)))∨
   (∃m,ypb P ro nt h dsl l sd t0 o m e∧zcj P ro nt h dsl l sd t0 rest e (fun e ms=>K e (some m::ms)))
def za7:List Oper→List (Option CM)→Fr→List Res→(Fr→List Res→Prop)→Prop
 |o::os,some m::ms,e,h,K=>∀d x,o.dst=some d→za7 os ms ((d,(m.2 x).1)::e) ((m.2 x).2++h) K
 |_::os,none::ms,e,h,K=>za7 os ms e h K
 |_,_,e,h,K=>K e h
def zi9:List Oper→List (Option AV)→Fr→Fr
 |o::os,some a::as,e=>zi9 os as (match o.dst with
  |some d=>(d,a)::e
  |none=>e)
 |_::os,none::as,e=>zi9 os as e
 |_,_,e=>e
def zc8 (P:Program) (ro:Option Nat) (nt:Nat) (h:List Res) (dsl:List Nat) (l:List Oper) (sd:List Tmp) (t0:Fr):List Oper→List (Option AV)→List (Option CM)→Fr→Prop
 | [],[],[],_=>True
 |o::os,some a::as,none::ms,e=>∃d,o.dst=some d∧zwb P ro nt h l sd t0 o a e∧zc8 P ro nt h dsl l sd t0 os as ms ((d,a)::e)
 |o::os,none::as,some m::ms,e=>ypb P ro nt h dsl l sd t0 o m e∧zc8 P ro nt h dsl l sd t0 os as ms e
 |_,_,_,_=>False
theorem znp {P:Program} {ro:Option Nat} {nt:Nat} {h:List Res} {dsl:List Nat} {l:List Oper} {sd:List Tmp} {t0:Fr}:∀{os:List Oper} {e:Fr} {K:Fr→List (Option CM)→Prop},zcj P ro nt h dsl l sd t0 os e K→
 ∃as ms,zc8 P ro nt h dsl l sd t0 os as ms e∧K (zi9 os as e) ms
 | [],e,K,hk=>⟨[],[],trivial,hk⟩
 |o::os,e,K,.inl ⟨d,av,h1,h2,h3⟩=>let ⟨as,ms,a,b⟩:=znp h3;⟨some av::as,none::ms,⟨d,h1,h2,a⟩,by simpa [zi9,h1] using b⟩
 |o::os,e,K,.inr ⟨m,h1,h2⟩=>let ⟨as,ms,a,b⟩:=znp h2;⟨none::as,some m::ms,⟨h1,a⟩,by simpa [zi9] using b⟩
theorem zc8.length {P:Program} {ro:Option Nat} {nt:Nat} {h:List Res} {dsl:List Nat} {l:List Oper} {sd:List Tmp} {t0:Fr}:∀{os:List Oper} {as:List (Option AV)} {ms:List (Option CM)} {e:Fr},zc8 P ro nt h dsl l sd t0 os as ms e→as.length=os.length∧ms.length=os.length
 | [],[],[],_,_=>⟨rfl,rfl⟩
 |o::os,some a::as,none::ms,e,⟨d,_,_,hh⟩=>by have:=zc8.length hh;simp [this.1,this.2]
 |o::os,none::as,some m::ms,e,⟨_,hh⟩=>by have:=zc8.length hh;simp [this.1,this.2]
 | [],_::_,_,_,hh=>by simp [zc8] at hh
 | [],[],_::_,_,hh=>by simp [zc8] at hh
 |_::_,[],_,_,hh=>by simp [zc8] at hh
 |_::_,some _::_,[],_,hh=>by simp [zc8] at hh
 |_::_,none::_,[],_,hh=>by simp [zc8] at hh
 |_::_,some _::_,some _::_,_,hh=>by simp [zc8] at hh
 |_::_,none::_,none::_,_,hh=>by simp [zc8] at hh
theorem zc8.at {P:Program} {ro:Option Nat} {nt:Nat} {h:List Res} {dsl:List Nat} {l:List Oper} {sd:List Tmp} {t0:Fr}:∀{os:List Oper} {as:List (Option AV)} {ms:List (Option CM)} {e:Fr},zc8 P ro nt h dsl l sd t0 os as ms e→∀(i:Nat) (o:Oper),os[i]? =some o→
 (∃a,as[i]? =some (some a)∧ms[i]? =some none∧zwb P ro nt h l sd t0 o a (zi9 (os.take i) (as.take i) e))∨(∃m,as[i]? =some none∧ms[i]? =some (some m)∧ypb P ro nt h dsl l sd t0 o m (zi9 (os.take i) (as.take i) e))
 |o::os,some a::as,none::ms,e,⟨d,h1,h2,h3⟩,0,o',ho=>by
  simp only [List.getElem?_cons_zero,Option.some.injEq] at ho
  subst ho
  exact .inl ⟨a,rfl,rfl,h2⟩
 |o::os,none::as,some m::ms,e,⟨h1,h2⟩,0,o',ho=>by
  simp only [List.getElem?_cons_zero,Option.some.injEq] at ho
  subst ho
  exact .inr ⟨m,rfl,rfl,h1⟩
 |o::os,some a::as,none::ms,e,⟨d,h1,h2,h3⟩,i+1,o',ho=>by
  have:=zc8.at h3 i o' (by simpa using ho)
  simpa [zi9,h1] using this
 |o::os,none::as,some m::ms,e,⟨h1,h2⟩,i+1,o',ho=>by
  have:=zc8.at h2 i o' (by simpa using ho)
  simpa [zi9] using this
 | [],_,_,_,_,_,_,ho=>by simp at ho
 |_::_,[],_,_,hh,_,_,_=>by simp [zc8] at hh
 |_::_,some _::_,[],_,hh,_,_,_=>by simp [zc8] at hh
 |_::_,none::_,[],_,hh,_,_,_=>by simp [zc8] at hh
 |_::_,some _::_,some _::_,_,hh,_,_,_=>by simp [zc8] at hh
 |_::_,none::_,none::_,_,hh,_,_,_=>by simp [zc8] at hh
theorem zmb:∀{os:List Oper} {as:List (Option AV)} {e:Fr} {d:Nat} {av:AV},lk (zi9 os as e) d=some av→(∃(i:Nat) (o:Oper),os[i]? =some o∧as[i]? =some (some av)∧o.dst=some d)∨lk e d=some av
 | [],as,e,d,av,hh=>by cases as <;> exact .inr hh
 |o::os,[],e,d,av,hh=> .inr hh
 |o::os,none::as,e,d,av,hh=>by
  rcases zmb (os:=os) (as:=as) hh with ⟨i,o',h1,h2,h3⟩|h1
  ·exact .inl ⟨i+1,o',by simpa using h1,by simpa using h2,h3⟩
  ·exact .inr h1
 |o::os,some a::as,e,d,av,hh=>by
  rcases zmb (os:=os) (as:=as) hh with ⟨i,o',h1,h2,h3⟩|h1
  ·exact .inl ⟨i+1,o',by simpa using h1,by simpa using h2,h3⟩
  ·split at h1
   ·rename_i d' hd'
    simp only [lk] at h1
    split at h1
    ·rename_i hb
     have:=Nat.eq_of_beq_eq_true hb
     subst this
     cases h1
     exact .inl ⟨0,o,rfl,rfl,hd'⟩
    ·exact .inr h1
   ·exact .inr h1
theorem zqs:∀{os:List Oper} {as:List (Option AV)} {e:Fr} {i:Nat} {o:Oper} {a:AV} {d:Nat},os[i]? =some o→as[i]? =some (some a)→o.dst=some d→lk (zi9 os as e) d≠none:=by
 have mono:∀(os:List Oper) (as:List (Option AV)) (e:Fr) (d:Nat),lk e d≠none→lk (zi9 os as e) d≠none:=by
  intro os
  induction os with
  |nil=>intro as e d h;cases as <;> exact h
  |cons o os ih=>
   intro as e d h
   cases as with
   |nil=>exact h
   |cons a as=>
    cases a with
    |none=>exact ih as _ d h
    |some a=>
     refine ih as _ d ?_
     split
     ·simp only [lk];split
      ·simp
      ·exact h
     ·exact h
 intro os
 induction os with
 |nil=>intro as e i o a d ho;simp at ho
 |cons o' os ih=>
  intro as e i o a d ho ha hd
  cases as with
  |nil=>simp at ha
  |cons x as=>
   cases i with
   |zero=>
    simp only [List.getElem?_cons_zero,Option.some.injEq] at ho ha
    subst ho ha
    refine mono os as _ d ?_
    simp [hd,lk]
   |succ i=>
    have:=ih (as:=as) (e:=match x with
     |some a=>(match o'.dst with
      |some d=>(d,a)::e
      |none=>e)
     |none=>e) (by simpa using ho) (by simpa using ha) hd
    cases x <;> exact this
theorem HRel.addres {X:Nat→Prop} {w:World} {h rs:List Res} (hh:HRel (Sub X (j7 rs)) w h) (hn:(j7 rs).Nodup) (hX:∀b∈j7 rs,¬X b) (hr:∀r∈rs,r.holds w (OO h (Sub X (j7 rs)))):HRel X w (rs++h):=by
 have hOO:OO (rs++h) X=OO h (Sub X (j7 rs)):=by
  funext b;simp only [OO,Sub,q7,List.mem_append,eq_iff_iff]
  exact ⟨fun q=>by rcases q with (q|q)|q <;> simp [q],fun q=>by rcases q with q|q|q <;> simp [q]⟩
 refine ⟨?_,fun b hb=> ?_,fun b hb=>hh.xlt b (.inl hb),fun r hr'=> ?_⟩
 ·rw [q7,List.nodup_append]
  exact ⟨hn,hh.nodup,fun x hx y hy e=>(hh.lt y hy).2 (.inr (e ▸ hx))⟩
 ·rw [q7,List.mem_append] at hb
  rcases hb with hb|hb
  ·exact ⟨hh.xlt b (.inr hb),hX b hb⟩
  ·exact ⟨(hh.lt b hb).1,fun q=>(hh.lt b hb).2 (.inl q)⟩
 ·rw [hOO]
  rcases List.mem_append.1 hr' with q|q
  ·exact hr r q
  ·exact hh.holds r q
abbrev XB (X:Nat→Prop) (B:Nat→List Nat):Nat→Prop:=fun b=>X b∨∃i:Nat,b∈B i
structure zob (P:Program) (X:Nat→Prop) (nt:Nat) (h:List Res) (CO:List Nat) (l:List Oper) (n:Nat) (t:Fr) (dsl:List Nat) (as:List (Option AV)) (ms:List (Option CM)) (w0:World) (B:Nat→List Nat) (listed:Array Bool) (a:Act) (w:World):Prop where
 size:listed.size=l.length
 closed:∀i,listed.getD i false=true→∀j∈j4 l i,listed.getD j false=true
 tail:∀i,n≤i→listed.getD i false=false
 tsz:a.tmps.size=nt
 defs:a.defers=dsl.map zjy
 heap:HRel (XB X B) w h
 inj:∀(i j:Nat) b,b∈B i→b∈B j→i=j
 blk:∀(i:Nat) b,b∈B i→i < n∧¬X b∧(w0.heap.size≤b∨b∈CO)
 pend:∀i m,i < n→ms[i]? =some (some m)→listed.getD i false=false→j7 m.1=B i∧(B i).Nodup∧∀r∈m.1,r.holds w (OO h (XB X B))
 mks:∀i o d m,i < n→l[i]? =some o→o.dst=some d→ms[i]? =some (some m)→listed.getD i false=true→∃x v,a.tmps[d]? =some v∧j7 (m.2 x).2=B i∧(B i).Nodup∧Rel w (OO h (XB X B)) (m.2 x).1 v∧∀r∈(m.2 x).2,r.holds w (OO h (XB X B))
 nomk:∀i,ms[i]? =some none→B i= []
 vals:∀i o d av,i < n→l[i]? =some o→o.dst=some d→as[i]? =some (some av)→listed.getD i false=true→∃v,a.tmps[d]? =some v∧Rel w (OO h (XB X B)) av v
 base:∀d av,(∀j,j < n→zag l j≠some d)→lk t d=some av→∃v,a.tmps[d]? =some v∧Rel w (OO h (XB X B)) av v
 keep:Keep (j7 h++CO) w0 (j7 h++CO) w
section
variable {P:Program} {X:Nat→Prop} {nt n:Nat} {h:List Res} {CO:List Nat} {l:List Oper} {t:Fr} {dsl:List Nat} {as:List (Option AV)} {ms:List (Option CM)} {w0:World} {B:Nat→List Nat} {listed:Array Bool} {a:Act} {w:World}
theorem zob.look (hc:SoupC l n) (hi:zob P X nt h CO l n t dsl as ms w0 B listed a w) {i:Nat} {o:Oper} (ho:l[i]? =some o) (hin:i < n) (hp:∀j∈j4 l i,listed.getD j false=true) {d:Nat} {av:AV}
 (hl:lkS (zeu l n) (zco l o) (zi9 ((l.take n).take i) (as.take i) []) t d=some av):∃v,a.tmps[d]? =some v∧Rel w (OO h (XB X B)) av v:=by
 unfold lkS at hl
 split at hl
 ·rename_i hpd
  obtain ⟨x,hx,e⟩:=List.any_eq_true.1 hpd
  have:=Nat.eq_of_beq_eq_true e
  subst this
  simp only [zco,List.mem_filterMap] at hx
  obtain ⟨j',hj',hd'⟩:=hx
  have hj'p:j'∈j4 l i:=by simp only [j4,ho];exact hj'
  rcases zmb hl with ⟨j,oj,h1,h2,h4⟩|h1
  ·have hji:j < i:=by
    have:=(List.getElem?_eq_some_iff.1 h2).1
    simp at this;omega
   have hoj:l[j]? =some oj:=by
    rw [List.take_take,Nat.min_eq_left (by omega)] at h1
    rw [List.getElem?_take_of_lt hji] at h1;exact h1
   have hjj:j=j':=by
    obtain ⟨_,g3,_⟩:=hc.one (show j < n by omega) hoj h4
    rcases Nat.decEq j j' with hne|heq
    ·exact absurd rfl (g3 j' (by have:=hc.back i (by have:=hc.le;omega) j' hj'p;omega) (fun h=>hne h.symm) d hd')
    ·exact heq
   subst hjj
   exact hi.vals j oj d av (by omega) hoj h4 (by rw [List.getElem?_take_of_lt hji] at h2;exact h2) (hp j hj'p)
  ·simp [lk] at h1
 ·split at hl
  ·cases hl
  ·rename_i hsd
   refine hi.base d av (fun j hj hd=> ?_) hl
   have:d∈zeu l n:=by
    simp only [zeu,List.mem_filterMap]
    simp only [zag] at hd
    cases hlj:l[j]? with
    |none=>simp [hlj] at hd
    |some oj=>
     simp only [hlj,Option.bind_some] at hd
     exact ⟨oj,List.mem_of_getElem? (i:=j) (by rw [List.getElem?_take_of_lt hj];exact hlj),hd⟩
   have:(zeu l n).any (Nat.beq d)=true:=List.any_eq_true.2 ⟨d,this,by simp⟩
   simp_all
theorem zob.env (hc:SoupC l n) (hi:zob P X nt h CO l n t dsl as ms w0 B listed a w) {i:Nat} {o:Oper} (ho:l[i]? =some o) (hin:i < n) (hp:∀j∈j4 l i,listed.getD j false=true):
 Env (XB X B) h (evS (zeu l n) (zco l o) (zi9 ((l.take n).take i) (as.take i) []) t) a.eval w:=by
 refine ⟨hi.heap,fun x av hx=> ?_⟩
 cases x with
 |tmp d=>
  obtain ⟨v,e,r⟩:=hi.look hc ho hin hp hx
  have:a.eval (.tmp d)=v:=by simp [Act.eval,Array.getD_eq_getD_getElem?,e]
  rw [this];exact r
 |const x=>cases hx;exact .v x
 |global g=>cases hx;exact .v _
 |func f=>cases hx;exact .fn _ _ _ _ _ rfl rfl (fun j h=>absurd h (Nat.not_lt_zero j)) (fun j h=>absurd h (Nat.not_lt_zero j))
theorem zob.guard (hc:SoupC l n) (hi:zob P X nt h CO l n t dsl as ms w0 B listed a w) {i:Nat} {o:Oper} (ho:l[i]? =some o) (hin:i < n) (hp:∀j∈j4 l i,listed.getD j false=true) {b:Bool}
 (hg:gdS l (lkS (zeu l n) (zco l o) (zi9 ((l.take n).take i) (as.take i) []) t) o=some b):Region.wanted o (yielded l.toArray a.tmps)=b:=by
 unfold gdS at hg
 unfold Region.wanted
 split at hg
 ·rename_i h0;rw [h0];simpa using hg
 ·rename_i j want h0
  rw [h0]
  simp only
  split at hg
  ·rename_i d hd
   have hd':((l.toArray)[j]?).bind (·.dst)=some d:=by simpa [zag] using hd
   split at hg
   ·rename_i c hcc
    obtain ⟨v,e,r⟩:=hi.look hc ho hin hp hcc
    rw [r.v_eq] at e
    simp only [Option.some.injEq] at hg
    subst hg
    simp only [yielded,hd',Option.bind_some,e]
    cases c <;> cases want <;> rfl
   ·rename_i c hcc
    obtain ⟨v,e,r⟩:=hi.look hc ho hin hp hcc
    rw [r.v_eq] at e
    simp only [Option.some.injEq] at hg
    subst hg
    simp only [yielded,hd',Option.bind_some,e]
    cases want <;> rfl
   ·cases hg
  ·cases hg
theorem yd9 (hc:SoupC l n) (hi:zob P X nt h CO l n t dsl as ms w0 B listed a w) {i:Nat} (hp:∀j∈j4 l i,listed.getD j false=true):
 ∀k,(listed.setIfInBounds i true).getD k false=true→∀j∈j4 l k,(listed.setIfInBounds i true).getD j false=true:=fun k hk j hj=>by
 by_cases hik:i=k
 ·subst hik;exact getD_set_true (hp j hj)
 ·rw [getD_set_ne false hik] at hk;exact getD_set_true (hi.closed k hk j hj)
theorem zob.stepQ (hc:SoupC l n) (hi:zob P X nt h CO l n t dsl as ms w0 B listed a w) {i:Nat} {o:Oper} {d:Nat} {av:AV} {v:Value} {w':World} (ho:l[i]? =some o) (hin:i < n) (hp:∀j∈j4 l i,listed.getD j false=true)
 (hd:o.dst=some d) (hdn:d < nt) (hav:as[i]? =some (some av)) (hms:ms[i]? =some none) (hr:Rel w' (OO h (XB X B)) av v) (hh:HRel (XB X B) w' h) (hk:Keep (j7 h) w (j7 h) w'):
 zob P X nt h CO l n t dsl as ms w0 B (listed.setIfInBounds i true) (a.put (some d) v) w':=by
 have hne:∀j oj dj,j < n→j≠i→l[j]? =some oj→oj.dst=some dj→d≠dj:=fun j oj dj hj hji hoj hdj=>by
  obtain ⟨_,g3,_⟩:=hc.one hin ho hd
  exact g3 j hj hji dj (by simp [zag,hoj,hdj])
 have hput:∀d',d≠d'→(a.put (some d) v).tmps[d']? =a.tmps[d']? :=fun d' hdd=>by simp [Act.put,hdd]
 have hkk:=fun b (hb:¬OO h (XB X B) b) hl=>hk.oo (X:=XB X B) b hb hl
 have hkB:∀k b,b∈B k→w'.heap[b]? =w.heap[b]? :=fun k b hb=>(hk.same b (hi.heap.xlt b (.inr ⟨k,hb⟩)) (fun hm=>(hi.heap.lt b hm).2 (.inr ⟨k,hb⟩))).1
 refine ⟨by simp [hi.size],yd9 hc hi hp,fun k hk=> ?_,by simp [Act.put,hi.tsz],hi.defs,hh,hi.inj,hi.blk,fun k m hkn hmk hlk=> ?_,fun k ok dk m hkn hok hdk hmk hlk=> ?_,hi.nomk,fun k ok dk avk hkn hok hdk havk hlk=> ?_,fun d' av' hd' hlk=> ?_,hi.keep.trans hk.more⟩
 ·rw [getD_set_ne false (by omega)];exact hi.tail k hk
 ·have hki:i≠k:=fun e=>by subst e;rw [hms] at hmk;cases hmk
  rw [getD_set_ne false hki] at hlk
  obtain ⟨g1,g2,g3⟩:=hi.pend k m hkn hmk hlk
  exact ⟨g1,g2,fun r hr=>Res.holds_keep hk.size hkk (fun b hb=>hkB k b (g1 ▸ zab.2 ⟨r,hr,hb⟩)) (g3 r hr)⟩
 ·have hki:k≠i:=fun e=>by subst e;rw [hms] at hmk;cases hmk
  rw [getD_set_ne false (fun e=>hki e.symm)] at hlk
  obtain ⟨x,v',g1,g2,g3,g5,g4⟩:=hi.mks k ok dk m hkn hok hdk hmk hlk
  exact ⟨x,v',by rw [hput dk (hne k ok dk hkn hki hok hdk)];exact g1,g2,g3,g5.keep hk.size hkk,fun r hr=>Res.holds_keep hk.size hkk (fun b hb=>hkB k b (g2 ▸ zab.2 ⟨r,hr,hb⟩)) (g4 r hr)⟩
 ·by_cases hki:i=k
  ·subst hki
   have:ok=o:=Option.some.inj (hok.symm.trans ho)
   subst this
   have:dk=d:=Option.some.inj (hdk.symm.trans hd)
   subst this
   have:avk=av:=Option.some.inj (Option.some.inj (havk.symm.trans hav))
   subst this
   exact ⟨v,by simp [Act.put,hi.tsz,hdn],hr⟩
  ·rw [getD_set_ne false hki] at hlk
   obtain ⟨u,e,r⟩:=hi.vals k ok dk avk hkn hok hdk havk hlk
   exact ⟨u,by rw [hput dk (hne k ok dk hkn (fun h=>hki h.symm) hok hdk)];exact e,r.keep hk.size hkk⟩
 ·have hdd:d≠d':=fun e=>hd' i hin (by simp [zag,ho,hd,e])
  obtain ⟨u,e,r⟩:=hi.base d' av' hd' hlk
  exact ⟨u,by rw [hput d' hdd];exact e,r.keep hk.size hkk⟩
abbrev XBo (X:Nat→Prop) (B:Nat→List Nat) (i:Nat):Nat→Prop:=fun b=>X b∨∃k:Nat,k≠i∧b∈B k
theorem zob.open (hi:zob P X nt h CO l n t dsl as ms w0 B listed a w) {i:Nat} {m:CM} (hin:i < n) (hms:ms[i]? =some (some m)) (hun:listed.getD i false=false):
 HRel (XBo X B i) w (m.1++h)∧OO (m.1++h) (XBo X B i)=OO h (XB X B):=by
 obtain ⟨g1,g2,g3⟩:=hi.pend i m hin hms hun
 have hX:XB X B=Sub (XBo X B i) (j7 m.1):=by
  funext b;simp only [XB,XBo,Sub,g1,eq_iff_iff]
  constructor
  ·rintro (q|⟨k,q⟩)
   ·exact .inl (.inl q)
   ·by_cases hk:k=i
    ·subst hk;exact .inr q
    ·exact .inl (.inr ⟨k,hk,q⟩)
  ·rintro ((q|⟨k,_,q⟩)|q)
   ·exact .inl q
   ·exact .inr ⟨k,q⟩
   ·exact .inr ⟨i,q⟩
 have hO:OO (m.1++h) (XBo X B i)=OO h (XB X B):=by
  rw [hX];funext b;simp only [OO,Sub,q7,List.mem_append,eq_iff_iff]
  exact ⟨fun q=>by rcases q with (q|q)|q <;> simp [q],fun q=>by rcases q with q|q|q <;> simp [q]⟩
 refine ⟨HRel.addres (by rw [←hX];exact hi.heap) (by rw [g1];exact g2) (fun b hb q=> ?_) (fun r hr=>by rw [←hX];exact g3 r hr),hO⟩
 rw [g1] at hb
 rcases q with q|⟨k,hk,q⟩
 ·exact (hi.blk i b hb).2.1 q
 ·exact hk (hi.inj k i b q hb)
theorem zob.stepM (hc:SoupC l n) (hi:zob P X nt h CO l n t dsl as ms w0 B listed a w) {i:Nat} {o:Oper} {d:Nat} {m:CM} {x:MX} {v:Value} {w':World} (ho:l[i]? =some o) (hin:i < n) (hp:∀j∈j4 l i,listed.getD j false=true)
 (hd:o.dst=some d) (hdn:d < nt) (has:as[i]? =some none) (hms:ms[i]? =some (some m)) (hun:listed.getD i false=false) (hr:Rel w' (OO ((m.2 x).2++h) (XBo X B i)) (m.2 x).1 v) (hh:HRel (XBo X B i) w' ((m.2 x).2++h)) (hk:Keep (j7 (m.1++h)) w (j7 ((m.2 x).2++h)) w'):
 zob P X nt h CO l n t dsl as ms w0 (fun k=>if k=i then j7 (m.2 x).2 else B k) (listed.setIfInBounds i true) (a.put (some d) v) w':=by
 obtain ⟨p1,p2,p3⟩:=hi.pend i m hin hms hun
 obtain ⟨C,hC⟩:∃C:Nat→List Nat,C=fun k=>if k=i then j7 (m.2 x).2 else B k:=⟨_,rfl⟩
 rw [←hC]
 have hCi:C i=j7 (m.2 x).2:=by simp [hC]
 have hCk:∀k,k≠i→C k=B k:=fun k hki=>by simp [hC,hki]
 have hXC:∀b,XB X C b ↔ (XBo X B i b∨b∈j7 (m.2 x).2):=fun b=>by
  constructor
  ·rintro (hx|⟨k,hk⟩)
   ·exact .inl (.inl hx)
   ·by_cases hki:k=i
    ·subst hki;rw [hCi] at hk;exact .inr hk
    ·rw [hCk k hki] at hk;exact .inl (.inr ⟨k,hki,hk⟩)
  ·rintro ((hx|⟨k,hki,hk⟩)|hb)
   ·exact .inl hx
   ·exact .inr ⟨k,by rw [hCk k hki];exact hk⟩
   ·exact .inr ⟨i,by rw [hCi];exact hb⟩
 have hXC':XB X C=Sub (XBo X B i) (j7 (m.2 x).2):=by funext b;exact propext (hXC b)
 have hOO:OO ((m.2 x).2++h) (XBo X B i)=OO h (XB X C):=by
  funext b;simp only [OO,q7,List.mem_append,eq_iff_iff,hXC]
  exact ⟨fun q=>by rcases q with (q|q)|q <;> simp [q],fun q=>by rcases q with q|q|q <;> simp [q]⟩
 have hnd:=hh.nodup
 rw [q7,List.nodup_append] at hnd
 have hheap:HRel (XB X C) w' h:=by
  rw [hXC']
  exact (hh.perm List.perm_append_comm).part
 have hfresh:∀b∈j7 (m.2 x).2,w.heap.size≤b∨b∈B i:=fun b hb=>by
  refine Classical.byContradiction fun hlt=> ?_
  rw [not_or] at hlt
  have hlt1:b < w.heap.size:=by omega
  have hbh:b ∉ j7 h:=fun hm=>hnd.2.2 b hb b hm rfl
  exact (hk.same b hlt1 (by rw [q7,List.mem_append,p1];exact fun q=>q.elim hlt.2 hbh)).2 (by rw [q7];exact List.mem_append_left _ hb)
 have hBh:∀k b,b∈B k→b ∉ j7 h:=fun k b hb hm=>(hi.heap.lt b hm).2 (.inr ⟨k,hb⟩)
 have hsame:∀b,b < w.heap.size→b ∉ j7 h→b ∉ B i→w'.heap[b]? =w.heap[b]? :=fun b h1 h2 h3=>(hk.same b h1 (by rw [q7,List.mem_append,p1];exact fun q=>q.elim h3 h2)).1
 have hkk:∀b,¬OO h (XB X B) b→b < w.heap.size→w'.heap[b]? =w.heap[b]? ∧¬OO h (XB X C) b:=fun b hb hl=>
  ⟨hsame b hl (fun q=>hb (.inl q)) (fun q=>hb (.inr (.inr ⟨i,q⟩))),fun hm=>by
   rcases hm with hm|hm
   ·exact hb (.inl hm)
   ·rcases (hXC b).1 hm with (hm|⟨k,_,hm⟩)|hm
    ·exact hb (.inr (.inl hm))
    ·exact hb (.inr (.inr ⟨k,hm⟩))
    ·rcases hfresh b hm with q|q
     ·omega
     ·exact hb (.inr (.inr ⟨i,q⟩))⟩
 have hlB:∀k b,b∈B k→b < w.heap.size:=fun k b hb=>hi.heap.xlt b (.inr ⟨k,hb⟩)
 have hkB:∀k b,k≠i→b∈B k→w'.heap[b]? =w.heap[b]? :=fun k b hki hb=>hsame b (hlB k b hb) (hBh k b hb) (fun q=>hki (hi.inj k i b hb q))
 have hne:∀j oj dj,j < n→j≠i→l[j]? =some oj→oj.dst=some dj→d≠dj:=fun j oj dj hj hji hoj hdj=>by
  obtain ⟨_,g3,_⟩:=hc.one hin ho hd
  exact g3 j hj hji dj (by simp [zag,hoj,hdj])
 have hput:∀d',d≠d'→(a.put (some d) v).tmps[d']? =a.tmps[d']? :=fun d' hdd=>by simp [Act.put,hdd]
 have hgs:(listed.setIfInBounds i true).getD i false=true:=zbk (by rw [hi.size];exact (List.getElem?_eq_some_iff.1 ho).1)
 have hkeep:Keep (j7 h++CO) w0 (j7 h++CO) w':=⟨Nat.le_trans hi.keep.size hk.size,fun b hb ho=>⟨(hsame b (Nat.lt_of_lt_of_le hb hi.keep.size) (fun q=>ho (List.mem_append_left _ q)) (fun q=>by
  rcases (hi.blk i b q).2.2 with g|g
  ·omega
  ·exact ho (List.mem_append_right _ g))).trans (hi.keep.same b hb ho).1,ho⟩,hi.keep.env.trans hk.env⟩
 refine ⟨by simp [hi.size],yd9 hc hi hp,fun k hk=> ?_,by simp [Act.put,hi.tsz],hi.defs,hheap,fun j k b hj hk=> ?_,fun k b hb=> ?_,fun k mk hkn hmk hlk=> ?_,fun k ok dk mk hkn hok hdk hmk hlk=> ?_,fun k hk=> ?_,fun k ok dk avk hkn hok hdk havk hlk=> ?_,fun d' av' hd' hlk=> ?_,hkeep⟩
 ·rw [getD_set_ne false (by omega)];exact hi.tail k hk
 ·by_cases hji:j=i <;> by_cases hki:k=i
  ·omega
  ·subst hji;rw [hCi] at hj;rw [hCk k hki] at hk
   rcases hfresh b hj with q|q
   ·have:=hlB k b hk;omega
   ·exact hi.inj j k b q hk
  ·subst hki;rw [hCi] at hk;rw [hCk j hji] at hj
   rcases hfresh b hk with q|q
   ·have:=hlB j b hj;omega
   ·exact hi.inj j k b hj q
  ·rw [hCk j hji] at hj;rw [hCk k hki] at hk;exact hi.inj j k b hj hk
 ·by_cases hki:k=i
  ·subst hki
   rw [hCi] at hb
   refine ⟨hin,fun hx=>(hh.lt b (by rw [q7];exact List.mem_append_left _ hb)).2 (.inl hx),?_⟩
   rcases hfresh b hb with q|q
   ·have:=hi.keep.size;exact .inl (by omega)
   ·exact (hi.blk k b q).2.2
  ·rw [hCk k hki] at hb
   exact hi.blk k b hb
 ·by_cases hki:k=i
  ·subst hki;rw [hgs] at hlk;cases hlk
  ·rw [getD_set_ne false (fun e=>hki e.symm)] at hlk
   obtain ⟨g1,g2,g3⟩:=hi.pend k mk hkn hmk hlk
   exact ⟨by rw [hCk k hki];exact g1,by rw [hCk k hki];exact g2,fun r hr'=>Res.holds_keep hk.size hkk (fun b hb=>hkB k b hki (g1 ▸ zab.2 ⟨r,hr',hb⟩)) (g3 r hr')⟩
 ·by_cases hki:k=i
  ·subst hki
   have:ok=o:=Option.some.inj (hok.symm.trans ho)
   subst this
   have:dk=d:=Option.some.inj (hdk.symm.trans hd)
   subst this
   have:mk=m:=Option.some.inj (Option.some.inj (hmk.symm.trans hms))
   subst this
   exact ⟨x,v,by simp [Act.put,hi.tsz,hdn],hCi.symm,by rw [hCi];exact hnd.1,by rw [←hOO];exact hr,fun r hr'=>by rw [←hOO];exact hh.holds r (List.mem_append_left _ hr')⟩
  ·rw [getD_set_ne false (fun e=>hki e.symm)] at hlk
   obtain ⟨x',v',g1,g2,g3,g5,g4⟩:=hi.mks k ok dk mk hkn hok hdk hmk hlk
   exact ⟨x',v',by rw [hput dk (hne k ok dk hkn hki hok hdk)];exact g1,by rw [hCk k hki];exact g2,by rw [hCk k hki];exact g3,g5.keep hk.size hkk,fun r hr'=>Res.holds_keep hk.size hkk (fun b hb=>hkB k b hki (g2 ▸ zab.2 ⟨r,hr',hb⟩)) (g4 r hr')⟩
 ·have hki:k≠i:=fun e=>by subst e;rw [hms] at hk;cases hk
  rw [hCk k hki];exact hi.nomk k hk
 ·have hki:i≠k:=fun e=>by subst e;rw [has] at havk;cases havk
  rw [getD_set_ne false hki] at hlk
  obtain ⟨u,e,r⟩:=hi.vals k ok dk avk hkn hok hdk havk hlk
  exact ⟨u,by rw [hput dk (hne k ok dk hkn (fun h=>hki h.symm) hok hdk)];exact e,r.keep hk.size hkk⟩
 ·have hdd:d≠d':=fun e=>hd' i hin (by simp [zag,ho,hd,e])
  obtain ⟨u,e,r⟩:=hi.base d' av' hd' hlk
  exact ⟨u,by rw [hput d' hdd];exact e,r.keep hk.size hkk⟩
end
theorem zn8 {X:Nat→Prop} {K:Fr→List Res→Prop} {tmps:Array Value} {w:World} {B:Nat→List Nat} {Oq:Nat→Prop}:∀(os:List Oper) (ms:List (Option CM)) (k:Nat) (e:Fr) (hc:List Res),
 HRel (fun b=>X b∨∃i:Nat,k≤i∧b∈B i) w hc→OO hc (fun b=>X b∨∃i:Nat,k≤i∧b∈B i)=Oq→
 (∀(i j:Nat) b,b∈B i→b∈B j→i=j)→
 (∀(i:Nat) o m,os[i]? =some o→ms[i]? =some (some m)→∃x v d,o.dst=some d∧tmps[d]? =some v∧j7 (m.2 x).2=B (k+i)∧(B (k+i)).Nodup∧Rel w Oq (m.2 x).1 v∧(∀r∈(m.2 x).2,r.holds w Oq)∧∀b∈B (k+i),¬X b)→
 (∀(i:Nat),ms[i]? =some none→B (k+i)= [])→(∀i,k+os.length≤i→B i= [])→ms.length=os.length→
 (∀d av,lk e d=some av→∃v,tmps[d]? =some v∧Rel w Oq av v)→za7 os ms e hc K→
 ∃e' h',K e' h'∧HRel X w h'∧OO h' X=Oq∧(∀d av,lk e' d=some av→∃v,tmps[d]? =some v∧Rel w Oq av v)∧(∀d,lk e d≠none→lk e' d≠none)∧(∀(i:Nat) o m d,os[i]? =some o→ms[i]? =some (some m)→o.dst=some d→lk e' d≠none)∧
  (∀b,b∈j7 h'→b∈j7 hc∨∃i,b∈B i)
 | [],ms,k,e,hc,hh,hO,hinj,hmk,hno,hend,hml,he,hd=>by
   have hXX:(fun b=>X b∨∃i:Nat,k≤i∧b∈B i)=X:=by
    funext b;simp only [eq_iff_iff]
    exact ⟨fun hm=>hm.elim id fun ⟨i,hi,hb⟩=>(by rw [hend i (by simpa using hi)] at hb;cases hb),.inl⟩
   rw [hXX] at hh hO
   have hd':K e hc:=by cases ms <;> simpa [za7] using hd
   exact ⟨e,hc,hd',hh,hO,he,fun _ h=>h,fun i o m d h=>by simp at h,fun b hb=> .inl hb⟩
 |o::os,[],k,e,hc,hh,hO,hinj,hmk,hno,hend,hml,he,hd=>by simp at hml
 |o::os,none::ms,k,e,hc,hh,hO,hinj,hmk,hno,hend,hml,he,hd=>by
  have shift:∀(i:Nat),k+1+i=k+(i+1):=fun i=>by omega
  have hB0:=hno 0 rfl
  rw [Nat.add_zero] at hB0
  have hX1:(fun x=>X x∨∃i:Nat,k≤i∧x∈B i)=fun x=>X x∨∃i:Nat,k+1≤i∧x∈B i:=by
   funext x;simp only [eq_iff_iff]
   constructor
   ·rintro (hx|⟨i,hi,hb⟩)
    ·exact .inl hx
    ·by_cases hik:i=k
     ·subst hik;rw [hB0] at hb;cases hb
     ·exact .inr ⟨i,by omega,hb⟩
   ·rintro (hx|⟨i,hi,hb⟩)
    ·exact .inl hx
    ·exact .inr ⟨i,by omega,hb⟩
  rw [hX1] at hh hO
  obtain ⟨e',h',r1,r2,r3,r4,r5,r6,r7⟩:=zn8 os ms (k+1) e hc hh hO hinj (fun i o' m ho' hm'=>by rw [shift];exact hmk (i+1) o' m (by simpa using ho') (by simpa using hm')) (fun i hm'=>by rw [shift];exact hno (i+1) (by simpa using hm'))
   (fun i hi=>hend i (by simp;omega)) (by simpa using hml) he (by simpa [za7] using hd)
  refine ⟨e',h',r1,r2,r3,r4,r5,fun i o' m d2 ho' hm' hd'=> ?_,r7⟩
  cases i with
  |zero=>simp at hm'
  |succ i=>exact r6 i o' m d2 (by simpa using ho') (by simpa using hm') hd'
 |o::os,some m::ms,k,e,hc,hh,hO,hinj,hmk,hno,hend,hml,he,hd=>by
  have shift:∀(i:Nat),k+1+i=k+(i+1):=fun i=>by omega
  obtain ⟨x,v,d,h1,h2,h3,h4,h5,h6,h7⟩:=hmk 0 o m rfl rfl
  rw [Nat.add_zero] at h3 h4 h7
  have hX1:(fun y=>X y∨∃i:Nat,k≤i∧y∈B i)=Sub (fun y=>X y∨∃i:Nat,k+1≤i∧y∈B i) (j7 (m.2 x).2):=by
   funext y;simp only [Sub,eq_iff_iff,h3]
   constructor
   ·rintro (hx|⟨i,hi,hb⟩)
    ·exact .inl (.inl hx)
    ·by_cases hik:i=k
     ·subst hik;exact .inr hb
     ·exact .inl (.inr ⟨i,by omega,hb⟩)
   ·rintro ((hx|⟨i,hi,hb⟩)|hb)
    ·exact .inl hx
    ·exact .inr ⟨i,by omega,hb⟩
    ·exact .inr ⟨k,Nat.le_refl _,hb⟩
  rw [hX1] at hh hO
  have hh2:=HRel.addres hh (by rw [h3];exact h4) (fun b hb=>fun q=>by
   rw [h3] at hb
   rcases q with q|⟨i,hi,hb'⟩
   ·exact h7 b hb q
   ·have:=hinj i k b hb' hb;omega) (fun r hr=>by rw [hO];exact h6 r hr)
  have hO2:OO ((m.2 x).2++hc) (fun y=>X y∨∃i:Nat,k+1≤i∧y∈B i)=Oq:=by
   rw [←hO]
   funext b;simp only [OO,Sub,q7,List.mem_append,eq_iff_iff]
   exact ⟨fun q=>by rcases q with (q|q)|q <;> simp [q],fun q=>by rcases q with q|q|q <;> simp [q]⟩
  have hd2:za7 os ms ((d,(m.2 x).1)::e) ((m.2 x).2++hc) K:=by
   simp only [za7] at hd;exact hd d x h1
  obtain ⟨e',h',r1,r2,r3,r4,r5,r6,r7⟩:=zn8 os ms (k+1) _ _ hh2 hO2 hinj (fun i o' m ho' hm'=>by rw [shift];exact hmk (i+1) o' m (by simpa using ho') (by simpa using hm')) (fun i hm'=>by rw [shift];exact hno (i+1) (by simpa using hm'))
   (fun i hi=>hend i (by simp;omega)) (by simpa using hml) (fun d2 av h=>by
    simp only [lk] at h
    split at h
    ·rename_i hb
     have:=Nat.eq_of_beq_eq_true hb
     subst this
     cases h
     exact ⟨v,h2,h5⟩
    ·exact he d2 av h) hd2
  refine ⟨e',h',r1,r2,r3,r4,fun d2 h=>r5 d2 ?_,fun i o' m' d2 ho' hm' hd'=> ?_,fun y hy=> ?_⟩
  ·simp only [lk];split
   ·simp
   ·exact h
  ·cases i with
   |zero=>
    simp only [List.getElem?_cons_zero,Option.some.injEq] at ho'
    subst ho'
    have:d2=d:=Option.some.inj (hd'.symm.trans h1)
    subst this
    exact r5 d2 (by simp [lk])
   |succ i=>exact r6 i o' m' d2 (by simpa using ho') (by simpa using hm') hd'
  ·rcases r7 y hy with hy|hy
   ·rw [q7,List.mem_append] at hy
    rcases hy with hy|hy
    ·exact .inr ⟨k,h3 ▸ hy⟩
    ·exact .inl hy
   ·exact .inr hy
def zez (ms:List (Option CM)):List Res:=ms.flatMap fun m=>match m with
 |some m=>m.1
 |none=> []
def ym4 (m:Option CM):List Nat:=match m with
 |some m=>j7 m.1
 |none=> []
def zdl (ms:List (Option CM)) (i:Nat):List Nat:=match ms[i]? with
 |some (some m)=>j7 m.1
 |_=> []
theorem zfb:∀{ms:List (Option CM)} {b:Nat},(∃i,b∈zdl ms i) ↔ b∈j7 (zez ms)
 | [],b=>by simp [zdl,zez,j7]
 |m::ms,b=>by
  have ih:=zfb (ms:=ms) (b:=b)
  have e:j7 (zez (m::ms))=ym4 m++j7 (zez ms):=by
   cases m <;> simp [zez,q7,j7,ym4]
  rw [e,List.mem_append,←ih]
  constructor
  ·rintro ⟨i,h⟩
   cases i with
   |zero=>left;cases m <;> simp [zdl,ym4] at h ⊢;exact h
   |succ i=>exact .inr ⟨i,by simpa [zdl] using h⟩
  ·rintro (h|⟨i,h⟩)
   ·exact ⟨0,by cases m <;> simp [zdl,ym4] at h ⊢;exact h⟩
   ·exact ⟨i+1,by simpa [zdl] using h⟩
theorem zpq:∀{ms:List (Option CM)},(j7 (zez ms)).Nodup→(∀(i j:Nat) b,b∈zdl ms i→b∈zdl ms j→i=j)∧∀i,(zdl ms i).Nodup
 | [],_=>⟨fun i j b h=>by simp [zdl] at h,fun i=>by simp [zdl]⟩
 |m::ms,hn=>by
  have e:j7 (zez (m::ms))=ym4 m++j7 (zez ms):=by
   cases m <;> simp [zez,q7,j7,ym4]
  have e0:zdl (m::ms) 0=ym4 m:=by cases m <;> rfl
  have e1:∀i,zdl (m::ms) (i+1)=zdl ms i:=fun i=>by simp [zdl]
  rw [e,List.nodup_append] at hn
  obtain ⟨h1,h2⟩:=zpq hn.2.1
  refine ⟨fun i j b hi hj=> ?_,fun i=> ?_⟩
  ·cases i with
   |zero=>
    cases j with
    |zero=>rfl
    |succ j=>
     rw [e0] at hi;rw [e1] at hj
     exact absurd rfl (hn.2.2 b hi b (zfb.1 ⟨j,hj⟩))
   |succ i=>
    cases j with
    |zero=>
     rw [e0] at hj;rw [e1] at hi
     exact absurd rfl (hn.2.2 b hj b (zfb.1 ⟨i,hi⟩))
    |succ j=>rw [e1] at hi hj;rw [h1 i j b hi hj]
  ·cases i with
   |zero=>rw [e0];exact hn.1
   |succ i=>rw [e1];exact h2 i
theorem yi6 {P:Program} {ro:Option Nat} {nt rid:Nat} {Q:Exit→St→Prop} {l:List Oper} {t:Fr} {hh:List Res} {dsl:List Nat} (n:Nat) (h:List Res) [hm:Mixed P] (hc:zox l n=true)
 (hk:zcj P ro nt h dsl l (zeu l n) t (l.take n) [] (fun e ms=>hh.Perm (zez ms++h)∧za7 (l.take n) ms e h (fun e' h'=>zcp P ro nt l.toArray (l.drop n) Q ⟨e'++t,h',dsl⟩))):aw P ro nt (.region rid l.toArray true) Q ⟨t,hh,dsl⟩:=by
 intro X a0 w0 hs
 have hC:=zwt hc
 obtain ⟨as,ms,hfacts,hp,hK⟩:=znp hk
 have hperm:=hs.heap.perm hp
 have hown0:∀b,b∈j7 hh ↔ b∈j7 h∨b∈j7 (zez ms):=fun b=>by rw [(zcs hp).mem_iff,q7,List.mem_append];exact Or.comm
 have hasl:as.length=n:=by have:=hfacts.length.1;rw [this];have:=hC.le;simp;omega
 have hmsl:ms.length=n:=by have:=hfacts.length.2;rw [this];have:=hC.le;simp;omega
 refine wpIn_region_any hm.h ?_
 have main:∀(fuel:Nat) (U:List Nat) (B:Nat→List Nat) (listed:Array Bool) (a:Act) (w:World),zob P X nt h (j7 (zez ms)) l n t dsl as ms w0 B listed a w→(∀i,i < l.length→listed.getD i false=false→i∈U)→U.length≤fuel→
  wpAnyIn (FW ro) 0 P .any l.toArray (zrj X nt ⟨t,hh,dsl⟩ w0 Q) fuel listed a w:=by
  have done:∀(fuel:Nat) (U:List Nat) (B:Nat→List Nat) (listed:Array Bool) (a:Act) (w:World),zob P X nt h (j7 (zez ms)) l n t dsl as ms w0 B listed a w→(∀i,i < l.length→listed.getD i false=false→i∈U)→U.length≤fuel→
   (∀i,i < n→listed.getD i false=true)→wpAnyIn (FW ro) 0 P .any l.toArray (zrj X nt ⟨t,hh,dsl⟩ w0 Q) fuel listed a w:=by
   intro fuel U B listed a w hi hU hf hall
   refine zp5 hC.toSoupT fuel U n listed a w (Nat.le_refl _) hC.le hi.size (fun j hj=>⟨fun hl=> ?_,fun hl=>hall j hl⟩) (fun i h1 h2=>hU i h2 (hi.tail i h1)) hf ?_
   ·rcases Nat.lt_or_ge j n with h|h
    ·exact h
    ·rw [hi.tail j h] at hl;cases hl
   ·have hlt:∀(i:Nat) o,(l.take n)[i]? =some o→i < n∧l[i]? =some o:=fun i o ho=>by
     have:=(List.getElem?_eq_some_iff.1 ho).1
     have hin:i < n:=by simp at this;omega
     exact ⟨hin,by rw [List.getElem?_take_of_lt hin] at ho;exact ho⟩
    have hX0:(fun b=>X b∨∃i:Nat,0≤i∧b∈B i)=XB X B:=by funext b;simp [XB]
    obtain ⟨e',h',r1,r2,r3,r4,r5,r6,r7⟩:=zn8 (X:=X) (tmps:=a.tmps) (w:=w) (B:=B) (Oq:=OO h (XB X B)) (l.take n) ms 0 _ h (by rw [hX0];exact hi.heap) (by rw [hX0]) hi.inj
     (fun i o m ho hms=>by
      obtain ⟨hin,hlo⟩:=hlt i o ho
      rcases hfacts.at i o ho with ⟨a',_,g,_⟩|⟨m',_,g,d,hd,_⟩
      ·rw [g] at hms;cases hms
      ·obtain ⟨x,v,q1,q2,q3,q4,q5⟩:=hi.mks i o d m hin hlo hd hms (hall i hin)
       rw [Nat.zero_add]
       exact ⟨x,v,d,hd,q1,q2,q3,q4,q5,fun b hb=>(hi.blk i b hb).2.1⟩)
     (fun i hms=>by rw [Nat.zero_add];exact hi.nomk i hms)
     (fun i hin=>by
      cases hb:B i with
      |nil=>rfl
      |cons b r=>have:=(hi.blk i b (by simp [hb])).1;simp at hin;have:=hC.le;omega)
     (by rw [hmsl];have:=hC.le;simp;omega)
     (fun d av hl=>by
      rcases zmb hl with ⟨i,o,g1,g2,g4⟩|g1
      ·obtain ⟨hin,hlo⟩:=hlt i o g1
       exact hi.vals i o d av hin hlo g4 g2 (hall i hin)
      ·simp [lk] at g1) hK
    have hsim:Sim X nt ⟨e'++t,h',dsl⟩ a w:=by
     refine ⟨r2,hi.tsz,fun d av hl=> ?_,hi.defs⟩
     show ∃v,a.tmps[d]? =some v∧Rel w (OO h' X) av v
     rw [r3]
     have hl':lk (e'++t) d=some av:=hl
     rw [j5] at hl'
     cases he:lk e' d with
     |some av'=>simp only [he] at hl';cases hl';exact r4 d _ he
     |none=>
      simp only [he] at hl'
      refine hi.base d av (fun j hj hd=> ?_) hl'
      obtain ⟨o,g1⟩:∃o,l[j]? =some o:=⟨l[j]'(by have:=hC.le;omega),by simp [show j < l.length by have:=hC.le;omega]⟩
      have g2:o.dst=some d:=by simpa [zag,g1] using hd
      have ho:(l.take n)[j]? =some o:=by rw [List.getElem?_take_of_lt hj];exact g1
      rcases hfacts.at j o ho with ⟨a',q1,_⟩|⟨m',_,q1,_⟩
      ·exact r5 d (zqs ho q1 g2) he
      ·exact r6 j o m' d ho q1 g2 he
    have:=r1 X a w hsim
    refine zbg (s:=⟨t,hh,dsl⟩) (s':=⟨e'++t,h',dsl⟩) ⟨hi.keep.size,fun b hb hn=>⟨(hi.keep.same b hb (fun q=>hn ((hown0 b).2 (List.mem_append.1 q)))).1,fun hm=> ?_⟩,hi.keep.env⟩ this
    rcases r7 b hm with hm|⟨i,hB⟩
    ·exact hn ((hown0 b).2 (.inl hm))
    ·rcases (hi.blk i b hB).2.2 with q|q
     ·omega
     ·exact hn ((hown0 b).2 (.inr q))
  intro fuel
  induction fuel with
  |zero=>
   intro U B listed a w hi hU hf
   refine done 0 U B listed a w hi hU hf fun i hin=> ?_
   have hU0:U= []:=List.eq_nil_of_length_eq_zero (by omega)
   cases hl:listed.getD i false with
   |true=>rfl
   |false=>have:=hU i (by have:=hC.le;omega) hl;simp [hU0] at this
  |succ fuel ih=>
   intro U B listed a w hi hU hf
   by_cases hall:∀i,i < n→listed.getD i false=true
   ·exact done _ U B listed a w hi hU hf hall
   ·have hready:∀i,i∈Region.ready .any l.toArray listed→i < n∧listed.getD i false=false∧i < l.length∧∀j∈j4 l i,listed.getD j false=true:=by
     intro i hir
     obtain ⟨h1,h2,h3⟩:=zfi.1 hir
     have hun:listed.getD i false=false:=by rw [zhs (by rw [hi.size];exact h2) false true];exact h1
     refine ⟨?_,hun,h2,h3⟩
     rcases Nat.lt_or_ge i n with h|h
     ·exact h
     ·exfalso
      apply hall
      intro j hj
      exact zb7 hi.closed i _ h3 j (hC.tail i h h2 j (by omega))
    have hsome:∀m,(∃i,i < n∧i < m∧listed.getD i false=false)→Region.ready .any l.toArray listed≠ []:=by
     intro m
     induction m with
     |zero=>rintro ⟨i,_,h,_⟩;omega
     |succ m ihm=>
      rintro ⟨i,hin,him,hun⟩
      by_cases hp:∀j∈j4 l i,listed.getD j false=true
      ·intro h0
       have hin':i < l.length:=by have:=hC.le;omega
       have:i∈Region.ready .any l.toArray listed:=zfi.2 ⟨by rw [zhs (by rw [hi.size];exact hin') true false];exact hun,hin',hp⟩
       rw [h0] at this;exact absurd this (by simp)
      ·have:∃j,j∈j4 l i∧listed.getD j false=false:=by
        refine Classical.byContradiction fun hne=>hp fun j hj=> ?_
        cases hl:listed.getD j false with
        |true=>rfl
        |false=>exact absurd ⟨j,hj,hl⟩ hne
       obtain ⟨j,hj,hjun⟩:=this
       have:=hC.back i (by have:=hC.le;omega) j hj
       exact ihm ⟨j,by omega,by omega,hjun⟩
    refine ⟨fun h0=> ?_,fun i hir=> ?_⟩
    ·exfalso
     have:∃i,i < n∧listed.getD i false=false:=by
      refine Classical.byContradiction fun hne=>hall fun i hin=> ?_
      cases hl:listed.getD i false with
      |true=>rfl
      |false=>exact absurd ⟨i,hin,hl⟩ hne
     obtain ⟨i,hin,hun⟩:=this
     exact hsome (i+1) ⟨i,hin,by omega,hun⟩ h0
    ·obtain ⟨hin,hun,hil,hp⟩:=hready i hir
     have ho:l[i]? =some l[i]:=by simp [hil]
     generalize l[i]=o at ho
     have hU':∀k,k < l.length→(listed.setIfInBounds i true).getD k false=false→k∈U.erase i:=fun k hkl hk=>by
      have hki:i≠k:=fun e=>by subst e;rw [zbk (by rw [hi.size];exact hil)] at hk;cases hk
      rw [getD_set_ne false hki] at hk
      exact (List.mem_erase_of_ne (fun h=>hki h.symm)).2 (hU k hkl hk)
     have hf':(U.erase i).length≤fuel:=by rw [List.length_erase_of_mem (hU i hil hun)];omega
     unfold wpOpIn
     simp only [List.getElem?_toArray,ho]
     rcases hfacts.at i o (by rw [List.getElem?_take_of_lt hin];exact ho) with ⟨av,q1,q2,d,hd,hdn,q3⟩|⟨m,q1,q2,d,hd,hdn,hgn,q3⟩
     ·rcases q3 with ⟨hg,hq⟩|⟨hg,rfl⟩
      ·rw [if_pos (hi.guard hC ho hin hp hg)]
       refine hq _ a w _ _ (hi.env hC ho hin hp) fun v w' hr hh hkp=> ?_
       rw [hd]
       exact ih (U.erase i) B _ _ _ (hi.stepQ hC ho hin hp hd (Nat.le_of_ble_eq_true hdn) q1 q2 hr hh hkp) hU' hf'
      ·rw [if_neg (by rw [hi.guard hC ho hin hp hg];simp)]
       refine ⟨zaj,?_⟩
       rw [hd]
       exact ih (U.erase i) B _ _ _ (hi.stepQ hC ho hin hp hd (Nat.le_of_ble_eq_true hdn) q1 q2 (.v _) hi.heap (.refl _ _)) hU' hf'
     ·rw [if_pos (by simp [Region.wanted,hgn])]
      obtain ⟨o1,o2⟩:=hi.open hin q2 hun
      have henv:=hi.env hC ho hin hp
      refine q3 _ a w _ _ hi.tsz hi.defs ⟨o1,fun z av hz=>by rw [o2];exact henv.rel z av hz⟩ fun x v w' hr hh hkp=> ?_
      rw [hd]
      exact ih (U.erase i) _ _ _ _ (hi.stepM hC ho hin hp hd (Nat.le_of_ble_eq_true hdn) q1 q2 hun hr hh hkp) hU' hf'
 have hX0:XB X (zdl ms)=Sub X (j7 (zez ms)):=by funext b;simp only [XB,Sub,zfb]
 have hpart:HRel (Sub X (j7 (zez ms))) w0 h:=(hperm.perm List.perm_append_comm).part
 have hO0:OO h (XB X (zdl ms))=OO hh X:=by
  rw [hX0];funext b;simp only [OO,Sub,hown0,eq_iff_iff]
  exact ⟨fun q=>by rcases q with q|q|q <;> simp [q],fun q=>by rcases q with (q|q)|q <;> simp [q]⟩
 have hnd:=hperm.nodup
 rw [q7,List.nodup_append] at hnd
 obtain ⟨hinj,hndi⟩:=zpq hnd.1
 have hsz:l.toArray.size=l.length:=by simp
 have hrep:∀i,(Array.replicate l.length false).getD i false=false:=zq0 l.length
 refine main l.toArray.size (List.range l.length) (zdl ms) _ a0 {w0 with drawn:=w0.drawn+1} ⟨by simp,fun i hi=> ?_,fun i _=> ?_,hs.size,hs.defs,?_,hinj,fun i b h=> ?_,fun i m hin hms _=> ?_,fun i o d m _ _ _ _ h=> ?_,fun i h=> ?_,fun i o d av _ _ _ _ h=> ?_,fun d av _ hl=> ?_,⟨Nat.le_refl _,fun b _ h=>⟨rfl,h⟩,ziw.eq rfl rfl rfl (by first|exact Nat.le_refl _|exact Nat.le_succ _)⟩⟩
  (fun i hi _=>List.mem_range.2 hi) (by simp)
 ·rw [hsz,hrep i] at hi;cases hi
 ·rw [hsz];exact hrep i
 ·rw [hX0];exact hpart.grow (Nat.le_refl _) fun _ _=>rfl
 ·refine ⟨?_,fun hx=> ?_,.inr (zfb.1 ⟨i,h⟩)⟩
  ·rw [←hmsl]
   unfold zdl at h
   split at h
   ·rename_i m hm;exact (List.getElem?_eq_some_iff.1 hm).1
   ·cases h
  ·exact (hperm.lt b (by rw [q7];exact List.mem_append_left _ (zfb.1 ⟨i,h⟩))).2 hx
 ·refine ⟨by simp [zdl,hms],hndi i,fun r hr=> ?_⟩
  rw [hO0]
  have hmem:r∈zez ms++h:=List.mem_append_left _ (List.mem_flatMap.2 ⟨some m,List.mem_of_getElem? hms,hr⟩)
  have:=hperm.holds r hmem
  rw [←zdz hp] at this
  exact Res.holds_keep (w:=w0) (Nat.le_refl _) (fun b hb _=>⟨rfl,hb⟩) (fun _ _=>rfl) this
 ·rw [hsz,hrep i] at h;cases h
 ·simp [zdl,h]
 ·rw [hsz,hrep i] at h;cases h
 ·rw [hO0]
  obtain ⟨v,e,r⟩:=hs.fr d av hl
  exact ⟨v,e,Rel.keep (w:=w0) (Nat.le_refl _) (fun b hb _=>⟨rfl,hb⟩) r⟩
theorem zyd {P:Program} {ro:Option Nat} {nt rid:Nat} {Q:Exit→St→Prop} {l:List Oper} {t:Fr} {h:List Res} {dsl:List Nat} (n:Nat) [hm:Mixed P] (hc:zox l n=true)
 (hk:zcj P ro nt h dsl l (zeu l n) t (l.take n) [] (fun e ms=>h.Perm (zez ms++h)∧za7 (l.take n) ms e h (fun e' h'=>zcp P ro nt l.toArray (l.drop n) Q ⟨e'++t,h',dsl⟩))):aw P ro nt (.region rid l.toArray true) Q ⟨t,h,dsl⟩:=
 yi6 n h hc hk
section
variable {P:Program} {ro:Option Nat} {nt:Nat} {h:List Res} {dsl:List Nat} {l:List Oper} {sd:List Tmp} {t0:Fr} {rest:List Oper} {e:Fr} {K:Fr→List (Option CM)→Prop} {o:Oper} {av:AV} {d:Tmp} {op:Op} {ty:TypeId} {pos:String} {after:Array Edge} {g:Option (Nat×Bool)} {x y z:Operand}
theorem mq (hg:gdS l (lkS sd (zco l ⟨some d,op,ty,pos,after,g⟩) e t0) ⟨some d,op,ty,pos,after,g⟩=some true) (hd:Nat.blt d nt=true)
 (hq:QR P h (evS sd (zco l ⟨some d,op,ty,pos,after,g⟩) e t0) ⟨some d,op,ty,pos,after,g⟩ av) (hk:zcj P ro nt h dsl l sd t0 rest ((d,av)::e) (fun e ms=>K e (none::ms)))
 (hn:zbw ⟨some d,op,ty,pos,after,g⟩=true:=by rfl):zcj P ro nt h dsl l sd t0 (⟨some d,op,ty,pos,after,g⟩::rest) e K:=
 .inl ⟨d,av,rfl,⟨d,rfl,hd,.inl ⟨hg,zgr hq hn⟩⟩,hk⟩
theorem ms (hg:gdS l (lkS sd (zco l ⟨some d,op,ty,pos,after,g⟩) e t0) ⟨some d,op,ty,pos,after,g⟩=some false) (hd:Nat.blt d nt=true) (hk:zcj P ro nt h dsl l sd t0 rest ((d,.v (.tuple #[]))::e) (fun e ms=>K e (none::ms))):
 zcj P ro nt h dsl l sd t0 (⟨some d,op,ty,pos,after,g⟩::rest) e K:=
 .inl ⟨d,.v undef,rfl,⟨d,rfl,hd,.inr ⟨hg,rfl⟩⟩,hk⟩
theorem yvu (hk:K e []):zcj P ro nt h dsl l sd t0 [] e K:=hk
theorem yho {args:List Operand} {tys:Array TypeId} {fv:AV} {avs:List AV} (m:MR) (hd:Nat.blt d nt=true) (hx:evS sd (zco l ⟨some d,.call ⟨.value x,args.toArray,tys⟩,ty,pos,after,none⟩) e t0 x=some fv)
 (ha:evs (evS sd (zco l ⟨some d,.call ⟨.value x,args.toArray,tys⟩,ty,pos,after,none⟩) e t0) args=some avs) (hc:y0 P fv avs h (fun r h'=>∃x,r=(m x).1∧h'=(m x).2++h))
 (hk:zcj P ro nt h dsl l sd t0 rest e (fun e ms=>K e (some ([],m)::ms))):zcj P ro nt h dsl l sd t0 (⟨some d,.call ⟨.value x,args.toArray,tys⟩,ty,pos,after,none⟩::rest) e K:=by
 refine .inr ⟨([],m),⟨d,rfl,hd,rfl,fun X a w K Q _ _ he hK=> ?_⟩,hk⟩
 refine zmo (f:=0) (hc X w _ _ he.heap (he.rel x _ hx) (he.evs ha)) ?_
 rintro e w' ⟨v,av',h',e1,⟨x,rfl,rfl⟩,hrel,hh,hkeep⟩
 exact ⟨v,e1,hK x v w' hrel hh hkeep⟩
theorem ynu {o:Oper} {os:List Oper} {ms:List (Option CM)} {e:Fr} {h:List Res} {K:Fr→List Res→Prop} (hk:za7 os ms e h K):za7 (o::os) (none::ms) e h K:=hk
theorem zvg {e:Fr} {h:List Res} {K:Fr→List Res→Prop} (hk:K e h):za7 [] [] e h K:=hk
end
def MX.v0 (x:MX):SV:=x.vs.headD ⟨none,0,0⟩
abbrev ynf (sz:Nat) (T:TypeId) (rows:List (List AV)):MR:=fun x=>(.v x.v0.v,[.row x.v0.v sz T rows])
theorem y0.rowS {P:Program} {fv:AV} {args:List AV} {h:List Res} {sz:Nat} {T:TypeId} {rows:List (List AV)} (hc:y0 P fv args h (fun r h'=>∃s,h'= [.row s sz T rows]∧r= .v s)):
 y0 P fv args h (fun r h'=>∃s:SV,h'= [.row s.v sz T rows]∧r= .v s.v):=by
 intro X w v vs hh hv ha
 refine (hc X w v vs hh hv ha).mono ?_
 rintro e w' ⟨u,av,h',e1,⟨s,rfl,rfl⟩,hrel,hh',hk⟩
 have q:=hh'.holds _ (List.mem_singleton.2 rfl)
 cases s with
 |slice a n c=>exact ⟨u,_,_,e1,⟨⟨a,n,c⟩,rfl,rfl⟩,hrel,hh',hk⟩
 |_=>exact q.elim
theorem zxe {P:Program} {fv:AV} {args:List AV} {h:List Res} {sz:Nat} {T:TypeId} {rows:List (List AV)} (hc:y0 P fv args [] (fun r h'=>∃s,h'= [.row s sz T rows]∧r= .v s)):
 y0 P fv args h (fun r h'=>∃x,r=(ynf sz T rows x).1∧h'=(ynf sz T rows x).2++h):=by
 refine (hc.rowS.frame h).mono ?_
 rintro r _ ⟨h1,rfl,s,rfl,rfl⟩
 exact ⟨⟨[s],[]⟩,rfl,rfl⟩
theorem zqr {op:Op} {ty:TypeId} {pos:String} {after:Array Edge} {g:Option (Nat×Bool)} {d:Tmp} {os:List Oper} {sz:Nat} {T:TypeId} {rows:List (List AV)} {c:List Res} {ms:List (Option CM)} {e:Fr} {h:List Res} {K:Fr→List Res→Prop}
 (hk:∀s:SV,za7 os ms ((d,.v s.v)::e) (.row s.v sz T rows::h) K):za7 (⟨some d,op,ty,pos,after,g⟩::os) (some (c,ynf sz T rows)::ms) e h K:=fun d' x e=>by cases e;exact hk x.v0
theorem zly {P:Program} {h:List Res} {f:Operand→Option AV} {dst:Option Tmp} {ty:TypeId} {pos:String} {after:Array Edge} {guard:Option (Nat×Bool)} {x:Operand} {T FT E:TypeId} {s:Value} {k sz i kk off n ri:Nat} {rows:List (List AV)} (hx:f x=some (.rp s sz i kk)) [hr:HasRow h s ri sz E rows] [hf:Fld P T k off FT] [Siz P FT n] (hn:n≠0):
 QR P h f ⟨dst,.fieldAddr T x k,ty,pos,after,guard⟩ (.rp s sz i (kk+off)):=fun X ρ w he=>by
 have hrr:=he.rel x _ hx
 generalize hv:ρ x=v at hrr
 cases hrr with
 |rp a len cap _ _ _=>
  have hx2:=he.heap.holds _ (List.mem_of_getElem? hr.h)
  obtain ⟨h1,_⟩:=hx2
  obtain ⟨b,o,spot⟩:=a
  simp only at h1;subst h1
  refine ⟨_,run_v _ (by rw [hv,zbe];exact zgp (n:=n) (FT:=FT) hn),?_⟩
  have:=Rel.rp (w:=w) (O:=OO h X) ⟨b,o,none⟩ len cap sz i (kk+off)
  rw [zbe,←Nat.add_assoc (i * sz),←Nat.add_assoc o] at this
  exact this
theorem j8 {P:Program} {ro:Option Nat} {nt:Nat} {ops:Array Oper} {l:List Oper} {Q:Exit→St→Prop} {t:Fr} {h:List Res} {ds:List Nat} (s:Value) {i sz:Nat} {T:TypeId} {rows:List (List AV)} [hr:HasRow h s i sz T rows]
 (k:∀v:SV,s=v.v→zcp P ro nt ops l Q ⟨t,h,ds⟩):zcp P ro nt ops l Q ⟨t,h,ds⟩:=fun X a w hs=>by
 have q:=hs.heap.holds _ (List.mem_of_getElem? hr.h)
 cases s with
 |slice a' n c=>exact k ⟨a',n,c⟩ rfl X a w hs
 |_=>exact q.elim
section
variable {P:Program} {ro:Option Nat} {nt:Nat} {h:List Res} {dsl:List Nat} {l:List Oper} {sd:List Tmp} {t0:Fr} {rest:List Oper} {e:Fr} {K:Fr→List (Option CM)→Prop} {d i j:Tmp} {ty:TypeId} {pos:String} {after:Array Edge}
end
theorem zcr {h:List Res} {s:Value} {sz:Nat} {T:TypeId} {rows:List (List AV)} (A B:List AV):ziv (.row s sz T rows::h) (.agg (A++ .v s::B)) h (.agg (A++ .list false sz rows::B)):=by
 refine ⟨fun x hx=>by rw [u3];exact List.mem_append_right _ hx,fun X w v hh hr=>⟨HRel.drop (h:= [_]) hh,?_⟩⟩
 have hf:=zh5 hh
 cases hr with
 |agg _ cs hl hc=>
  refine .agg _ cs (by simpa using hl) fun j h1 h2=> ?_
  have hj:j < (A++ .v s::B).length:=by simpa using h1
  have hcj:=hc j hj h2
  have hkeep:∀av u,Rel w (OO (.row s sz T rows::h) X) av u→Rel w (OO h X) av u:=fun av u r=>r.keep (Nat.le_refl _) fun b hb _=>⟨rfl,fun q=>hb (by
   rcases q with q|q
   ·exact .inl (by rw [u3];exact List.mem_append_right _ q)
   ·exact .inr q)⟩
  by_cases hA:j < A.length
  ·rw [List.getElem_append_left hA] at hcj ⊢;exact hkeep _ _ hcj
  ·rw [List.getElem_append_right (by omega)] at hcj ⊢
   by_cases h0:j - A.length=0
   ·simp only [h0,List.getElem_cons_zero] at hcj ⊢
    rw [hcj.v_eq];exact hf
   ·obtain ⟨k,hk⟩:∃k,j - A.length=k+1:=⟨j - A.length - 1,by omega⟩
    simp only [hk,List.getElem_cons_succ] at hcj ⊢
    exact hkeep _ _ hcj
theorem zbf {h:List Res} {s:Value} {sz:Nat} {T:TypeId} {rows:List (List AV)} (A B:List AV):ziv (.row s sz T rows::h) (.tup (A++ .v s::B)) h (.tup (A++ .list false sz rows::B)):=by
 refine ⟨fun x hx=>by rw [u3];exact List.mem_append_right _ hx,fun X w v hh hr=>⟨HRel.drop (h:= [_]) hh,?_⟩⟩
 have hf:=zh5 hh
 cases hr with
 |tup _ cs hl hc=>
  refine .tup _ cs (by simpa using hl) fun j h1 h2=> ?_
  have hj:j < (A++ .v s::B).length:=by simpa using h1
  have hcj:=hc j hj h2
  have hkeep:∀av u,Rel w (OO (.row s sz T rows::h) X) av u→Rel w (OO h X) av u:=fun av u r=>r.keep (Nat.le_refl _) fun b hb _=>⟨rfl,fun q=>hb (by
   rcases q with q|q
   ·exact .inl (by rw [u3];exact List.mem_append_right _ q)
   ·exact .inr q)⟩
  by_cases hA:j < A.length
  ·rw [List.getElem_append_left hA] at hcj ⊢;exact hkeep _ _ hcj
  ·rw [List.getElem_append_right (by omega)] at hcj ⊢
   by_cases h0:j - A.length=0
   ·simp only [h0,List.getElem_cons_zero] at hcj ⊢
    rw [hcj.v_eq];exact hf
   ·obtain ⟨k,hk⟩:∃k,j - A.length=k+1:=⟨j - A.length - 1,by omega⟩
    simp only [hk,List.getElem_cons_succ] at hcj ⊢
    exact hkeep _ _ hcj
theorem y8.ventR {P:Program} {f:FuncId} {args:List AV} {h:List Res} {R R2:AV→List Res→Prop} (hc:y8 P f args h R) (hv:∀r h',R r h'→∃r2 h2,ziv h' r h2 r2∧R2 r2 h2):y8 P f args h R2:=by
 intro X w vs hh ha
 refine (hc X w vs hh ha).mono ?_
 rintro e w' ⟨u,av,h',e1,hR,hrel,hh',hk⟩
 obtain ⟨r2,h2,⟨o,q⟩,hR2⟩:=hv _ _ hR
 obtain ⟨q1,q2⟩:=q X w' u hh' hrel
 exact ⟨u,r2,h2,e1,hR2,q2,q1,⟨hk.size,fun b hb ho=>⟨(hk.same b hb ho).1,fun hm=>(hk.same b hb ho).2 (o b hm)⟩,hk.env⟩⟩
theorem y0.ventR {P:Program} {fv:AV} {args:List AV} {h:List Res} {R R2:AV→List Res→Prop} (hc:y0 P fv args h R) (hv:∀r h',R r h'→∃r2 h2,ziv h' r h2 r2∧R2 r2 h2):y0 P fv args h R2:=by
 intro X w v vs hh hvv ha
 refine (hc X w v vs hh hvv ha).mono ?_
 rintro e w' ⟨u,av,h',e1,hR,hrel,hh',hk⟩
 obtain ⟨r2,h2,⟨o,q⟩,hR2⟩:=hv _ _ hR
 obtain ⟨q1,q2⟩:=q X w' u hh' hrel
 exact ⟨u,r2,h2,e1,hR2,q2,q1,⟨hk.size,fun b hb ho=>⟨(hk.same b hb ho).1,fun hm=>(hk.same b hb ho).2 (o b hm)⟩,hk.env⟩⟩
theorem y0.ventE {P:Program} {fv:AV} {args:List AV} {h:List Res} {R:AV→List Res→Prop} (hc:y0 P fv args h (fun r h'=>∃r2 h2,ziv h' r h2 r2∧R r2 h2)):y0 P fv args h R:=hc.ventR fun _ _ q=>q
inductive Scal:AV→Prop where
 |any:Scal .any
 |v (x:Value):Scal (.v x)
 |tup (vs:List AV):(∀j (h:j < vs.length),Scal vs[j])→Scal (.tup vs)
 |fn (f:Fn):Scal (.fn f [] [])
theorem Scal.rel {a:AV} (s:Scal a):∀{w w':World} {O O':Nat→Prop} {v:Value},Rel w O a v→Rel w' O' a v:=by
 induction s with
 |any=>intro w w' O O' v r;exact .any _
 |v x=>intro w w' O O' v r;rw [r.v_eq];exact .v _
 |tup vs _ ih=>
  intro w w' O O' v r
  cases r with
  |tup _ cs h1 h2=>exact .tup _ _ h1 fun j a b=>ih j a (h2 j a b)
 |fn f=>
  intro w w' O O' v r
  cases r with
  |fn _ _ _ fa ca h1 h2 h3 h4=>exact .fn _ _ _ _ _ h1 h2 (fun j h=>absurd h (Nat.not_lt_zero j)) (fun j h=>absurd h (Nat.not_lt_zero j))
def ytj (x:Res):Prop:=∀{w:World} {O O':Nat→Prop},x.holds w O→x.holds w O'
theorem zww {s:Value} {sz:Nat} {T:TypeId} {rows:List (List AV)} (h:∀r∈rows,∀a∈r,Scal a):ytj (.row s sz T rows):=by
 intro w O O' hb
 cases s <;> try exact hb.elim
 rename_i a len cap
 cases a with
 |none=>exact hb
 |some a=>
  obtain ⟨h1,h2,h3,h4,c,h5,h6,h7⟩:=hb
  refine ⟨h1,h2,h3,h4,c,h5,h6,fun i hi j hj=> ?_⟩
  obtain ⟨v,e,r⟩:=h7 i hi j hj
  exact ⟨v,e,(h _ (List.getElem_mem hi) _ (List.getElem_mem hj)).rel r⟩
theorem ypa {r:Res} {h:List Res} {X:Nat→Prop} {b:Nat}:OO (r::h) X b ↔ b∈r.own∨OO h X b:=by
 simp only [OO,u3,List.mem_append];exact or_assoc
theorem zor {nt:Nat} {t:Fr} {h:List Res} {ds:List Nat} {s:Value} {sz:Nat} {T TB:TypeId} {rows:List (List AV)} {b:Nat} (A B:List AV):
 Ent nt ⟨t,.row s sz T rows:: .box b TB (A++ .v s::B)::h,ds⟩ ⟨t,.box b TB (A++ .list false sz rows::B)::h,ds⟩:=by
 refine ⟨fun x hx=> ?_,fun X a w hs=> ?_⟩
 ·simp only [u3,List.mem_append] at hx ⊢
  exact .inr hx
 have hO:∀b',OO (.box b TB (A++ .list false sz rows::B)::h) X b' ↔ OO (.box b TB (A++ .v s::B)::h) X b':=fun b'=>by simp [OO,u3,Res.own]
 have hO':OO (.box b TB (A++ .list false sz rows::B)::h) X=OO (.box b TB (A++ .v s::B)::h) X:=by funext b';exact propext (hO b')
 have hd:=HRel.drop (h:= [_]) hs.heap
 have hf:=zh5 hs.heap
 have hkeep:∀av u,Rel w (OO (.row s sz T rows:: .box b TB (A++ .v s::B)::h) X) av u→Rel w (OO (.box b TB (A++ .v s::B)::h) X) av u:=fun av u r=>r.keep (Nat.le_refl _) fun b hb _=>⟨rfl,fun q=>hb (ypa.2 (.inr q))⟩
 refine ⟨⟨by simpa [u3,Res.own] using hd.nodup,fun b' hb'=>hd.lt b' (by simpa [u3,Res.own] using hb'),hd.xlt,fun r hr=> ?_⟩,hs.size,fun i av e=> ?_,hs.defs⟩
 ·rw [hO']
  rcases List.mem_cons.1 hr with rfl|hr
  ·obtain ⟨c,h1,h2,h3⟩:=hd.holds _ (List.mem_cons_self)
   refine ⟨c,h1,by simpa using h2,fun j j1 j2=> ?_⟩
   have hj:j < (A++ .v s::B).length:=by simpa using j1
   have hcj:=h3 j hj j2
   by_cases hA:j < A.length
   ·rw [List.getElem_append_left hA] at hcj ⊢;exact hcj
   ·rw [List.getElem_append_right (by omega)] at hcj ⊢
    by_cases h0:j - A.length=0
    ·simp only [h0,List.getElem_cons_zero] at hcj ⊢
     rw [hcj.v_eq];exact hf
    ·obtain ⟨k,hk⟩:∃k,j - A.length=k+1:=⟨j - A.length - 1,by omega⟩
     simp only [hk,List.getElem_cons_succ] at hcj ⊢
     exact hcj
  ·exact hd.holds r (List.mem_cons_of_mem _ hr)
 ·obtain ⟨u,e1,r⟩:=hs.fr i av e
  refine ⟨u,e1,?_⟩
  show Rel w (OO (.box b TB (A++ .list false sz rows::B)::h) X) av u
  rw [hO'];exact hkeep _ _ r
theorem zuq {H:List Res} {X:Nat→Prop} {w:World} {s:Value} {sz:Nat} {T:TypeId} {rows rows':List (List AV)} {O':Nat→Prop} (hh:HRel X w H) (hm: .row s sz T rows∈H) (hO:∀b∈(Res.row s sz T rows).own,¬O' b) (hl:rows'.length=rows.length)
 (hl2:∀i (h:i < rows.length) (h':i < rows'.length),rows'[i].length=rows[i].length)
 (hc:∀i (h:i < rows.length) (h':i < rows'.length) j (k:j < rows[i].length) (k':j < rows'[i].length) u,Rel w (OO H X) rows[i][j] u→Rel w O' rows'[i][j] u):Rel w O' (.list false sz rows') s:=by
 have hx:=hh.holds _ hm
 cases s <;> try exact hx.elim
 rename_i a len cap
 cases a with
 |none=>
  obtain ⟨rfl,rfl,rfl⟩:=hx
  obtain rfl:rows'= []:=List.eq_nil_of_length_eq_zero (by simpa using hl)
  exact .lnil _ _ _ _ (by simp)
 |some a=>
  obtain ⟨h1,h2,h3,h4,c,h5,h6,h7⟩:=hx
  obtain ⟨b,off,spot⟩:=a
  simp only at h1;subst h1;subst h2
  have hb:=hh.lt b (zab.2 ⟨_,hm,by simp [Res.own]⟩)
  rw [←hl]
  refine .list _ _ _ b off cap (fun i j=>c[off+i * sz+j]?.getD undef) (by simp) (by omega) (hO b (by simp [Res.own])) hb.1 (fun i hi=>by rw [hl2 i (by omega) hi];exact h4 i (by omega)) (fun i hi j hj=> ?_) fun i hi j hj=> ?_
  ·obtain ⟨v,e,_⟩:=h7 i (by omega) j (by rw [←hl2 i (by omega) hi];exact hj)
   simp only at e h5
   simp [World.cell?,h5,e]
  ·obtain ⟨v,e,r⟩:=h7 i (by omega) j (by rw [←hl2 i (by omega) hi];exact hj)
   simp only at e
   rw [e];exact hc i (by omega) hi j (by rw [←hl2 i (by omega) hi];exact hj) hj v r
section
variable {P:Program} {h:List Res} {f:Operand→Option AV} {dst:Option Tmp} {ty:TypeId} {pos:String} {after:Array Edge} {guard:Option (Nat×Bool)} {x y:Operand}
theorem ymw {tys:Array TypeId} {k k':IntKind} (a b:Nat) (hx:f x=some (.v (.int k a))) (hy:f y=some (.v (.int k' b))):
 QR P h f ⟨dst,.call ⟨.builtin .min,[x,y].toArray,tys⟩,ty,pos,after,guard⟩ (.v (.int k ((min a b:Nat):Int))):=by
 have:=yb1 (P:=P) (h:=h) (tys:=tys) (dst:=dst) (ty:=ty) (pos:=pos) (after:=after) (guard:=guard) hx hy
 rw [show ((min a b:Nat):Int)=min (a:Int) (b:Int) from by omega];exact this
theorem zm6 {T E:TypeId} {full:Bool} {sz k:Nat} {rows rows':List (List AV)} (hx:f x=some (.list full sz rows)) (hy:f y=some (.v (.int .i64 k))) (hk:k≤rows.length) (he:rows.take k=rows')
 [Und P T (.slice E)] [Siz P E sz]:QR P h f ⟨dst,.slice T x none (some y) none,ty,pos,after,guard⟩ (.list false sz rows'):=by
 subst he;exact zcd hx hy hk
end
theorem yb4 {P:Program} {h:List Res} {f:Operand→Option AV} {dst:Option Tmp} {ty:TypeId} {pos:String} {after:Array Edge} {guard:Option (Nat×Bool)} {x:Operand} {r b i:Nat} {es:List (Value×AV)} {seen:List Nat} {k:Value} {a:AV} (hi:i < es.length) (hk:es[i].1=k) (ha:es[i].2=a) (hx:f x=some (pZ b)):
 QR P (.mapr r es b (i::seen)::h) f ⟨dst,.entry x,ty,pos,after,guard⟩ (.tup [.v k,a]):=by
 subst hk ha;exact zw4 hx hi
section
variable {P:Program} {h:List Res} {f:Operand→Option AV} {dst:Option Tmp} {ty T T':TypeId} {pos:String} {after:Array Edge} {g:Option (Nat×Bool)} {x y z:Operand} {av:AV}
theorem ysh (q:QR P h f ⟨dst,.move x,ty,pos,after,g⟩ av):QR P h f ⟨dst,.move x,ty,pos,after,g⟩ av:=q
theorem yif (q:QR P h f ⟨dst,.assign x,ty,pos,after,g⟩ av):QR P h f ⟨dst,.assign x,ty,pos,after,g⟩ av:=q
theorem ysg (q:QR P h f ⟨dst,.pick x y z,ty,pos,after,g⟩ av):QR P h f ⟨dst,.pick x y z,ty,pos,after,g⟩ av:=q
theorem yu1 {op:BinOp} (q:QR P h f ⟨dst,.binOp op T x y T',ty,pos,after,g⟩ av):QR P h f ⟨dst,.binOp op T x y T',ty,pos,after,g⟩ av:=q
theorem ywr {op:UnOp} (q:QR P h f ⟨dst,.unOp op T x,ty,pos,after,g⟩ av):QR P h f ⟨dst,.unOp op T x,ty,pos,after,g⟩ av:=q
theorem zvq {k:Nat} (q:QR P h f ⟨dst,.fieldAddr T x k,ty,pos,after,g⟩ av):QR P h f ⟨dst,.fieldAddr T x k,ty,pos,after,g⟩ av:=q
theorem yod {k:Nat} (q:QR P h f ⟨dst,.field T x k,ty,pos,after,g⟩ av):QR P h f ⟨dst,.field T x k,ty,pos,after,g⟩ av:=q
theorem ysi (q:QR P h f ⟨dst,.load T x,ty,pos,after,g⟩ av):QR P h f ⟨dst,.load T x,ty,pos,after,g⟩ av:=q
theorem zzu (q:QR P h f ⟨dst,.nilCheck x,ty,pos,after,g⟩ av):QR P h f ⟨dst,.nilCheck x,ty,pos,after,g⟩ av:=q
theorem zvp (q:QR P h f ⟨dst,.indexAddr T x y,ty,pos,after,g⟩ av):QR P h f ⟨dst,.indexAddr T x y,ty,pos,after,g⟩ av:=q
theorem yoc (q:QR P h f ⟨dst,.index T x y,ty,pos,after,g⟩ av):QR P h f ⟨dst,.index T x y,ty,pos,after,g⟩ av:=q
theorem yu0 {b:Builtin} {as:Array Operand} {ts:Array TypeId} (q:QR P h f ⟨dst,.call ⟨.builtin b,as,ts⟩,ty,pos,after,g⟩ av):QR P h f ⟨dst,.call ⟨.builtin b,as,ts⟩,ty,pos,after,g⟩ av:=q
theorem yob {a b c:Option Operand} (q:QR P h f ⟨dst,.slice T x a b c,ty,pos,after,g⟩ av):QR P h f ⟨dst,.slice T x a b c,ty,pos,after,g⟩ av:=q
theorem ydc {k:Nat} (q:QR P h f ⟨dst,.extract x k,ty,pos,after,g⟩ av):QR P h f ⟨dst,.extract x k,ty,pos,after,g⟩ av:=q
def ys7 (op:BinOp) (k:IntKind):Bool:=match op,k with
 | .add,.i64=>false
 | .sub,.i64=>false
 | .mul,.i64=>false
 |_,_=>true
theorem yg4 {op:BinOp} {k:IntKind} {a b c:Int} (hx:f x=some (.v (.int k a))) (hy:f y=some (.v (.int k b))) (hk:ys7 op k=true) (hc:yi1 op k a b=some c):
 QR P h f ⟨dst,.binOp op T x y T',ty,pos,after,g⟩ (.v (.int k c)):=ymz hx hy hc
end
theorem qrA {P:Program} {h:List Res} {f:Operand→Option AV} {o:Oper} {av:AV} (hq:QR P h f o av:=by
 first
 |(apply ysh;exact ymv rfl)
 |(apply yu1;first
  |exact zcw rfl rfl rfl
  |exact zci rfl rfl rfl (by omega)
  |exact ygy rfl rfl rfl (by decide)
  |exact yg4 rfl rfl rfl rfl
  |exact yg2 rfl rfl
  |exact ygz rfl rfl
  |exact yb3 rfl rfl rfl
  |exact zm7 rfl rfl
  |exact yg3 rfl rfl rfl rfl
  |exact yg0 rfl rfl rfl rfl)
 |(apply ysi;first
  |exact zak rfl rfl
  |exact zom rfl rfl
  |exact zcu rfl (by assumption) rfl
  |exact zm8 rfl rfl
  |exact zon rfl rfl
  |exact zm9 rfl (Nat.le_of_ble_eq_true rfl)
  |exact zir rfl (Nat.le_of_ble_eq_true rfl)
  |exact zok rfl (by assumption) rfl)
 |(apply zvq;first
  |exact zsp rfl (Nat.succ_ne_zero _)
  |exact znb rfl (Nat.succ_ne_zero _)
  |exact zna rfl (Nat.succ_ne_zero _)
  |exact zly rfl (Nat.succ_ne_zero _))
 |(apply ysg;first
  |exact yby rfl rfl
  |exact ybz rfl rfl
  |exact yb0 rfl rfl rfl)
 |(apply yif;exact zsq rfl)
 |(apply zvp;first
  |exact zc9 rfl rfl (by assumption)
  |exact zc4 rfl rfl (by assumption)
  |exact zas rfl rfl (by omega))
 |(apply yu0;first
  |exact zu1 rfl
  |exact zze rfl
  |exact zqi rfl
  |exact yb1 rfl rfl
  |exact ymy rfl rfl
  |exact ymx rfl rfl rfl)
 |(apply yod;first
  |exact zsn rfl rfl
  |exact zso rfl (Nat.le_of_ble_eq_true rfl))
 |(apply zzu;first
  |exact zuy rfl
  |exact zoj rfl
  |exact zoi rfl)
 |(apply ywr;exact yq3 rfl)
 |(apply ydc;exact zzf rfl rfl)
 |(apply yob;first
  |exact zgc rfl rfl (by omega)
  |exact zen rfl rfl (by omega)
  |exact zux rfl rfl rfl (by omega)
  |exact zuw rfl rfl rfl (by omega) (by omega)
  |exact zcd rfl rfl (by omega)
  |exact zh7 rfl rfl (by omega))
 |(apply yoc;exact zdp rfl rfl (by omega) (by assumption))
 |exact zzh rfl rfl
 |exact zuz rfl rfl
 |exact zae rfl (by rfl)
 |exact zdu rfl (by rfl)
 |exact zw4 rfl (by assumption)):QR P h f o av:=hq
section
variable {P:Program} {ro:Option Nat} {nt:Nat} {Q:Exit→St→Prop} {s:St} {c:Operand} {x y:Code}
theorem zc0 (hc:ev s.t c=some (.v (.bool true))) (h:aw P ro nt x Q s):aw P ro nt (.cond c x y) Q s:=z7 hc (fun _=>h) (fun h=>by cases h)
theorem zfu (hc:ev s.t c=some (.v (.bool false))) (h:aw P ro nt y Q s):aw P ro nt (.cond c x y) Q s:=z7 hc (fun h=>by cases h) (fun _=>h)
variable {ops:Array Oper} {l:List Oper} {dst:Option Tmp} {T ty:TypeId} {a b:Operand} {pos:String} {after:Array Edge} {g:Option (Nat×Bool)}
theorem ye1 (q:zcp P ro nt ops (⟨dst,.store T a b,ty,pos,after,g⟩::l) Q s):zcp P ro nt ops (⟨dst,.store T a b,ty,pos,after,g⟩::l) Q s:=q
theorem yti (q:zcp P ro nt ops l Q s):zcp P ro nt ops l Q s:=q
theorem ywt (q:aw P ro nt x Q s):aw P ro nt x Q s:=q
theorem ytg {e:Exit} {n:St→Prop} (q:thn n Q e s):thn n Q e s:=q
theorem yth {e:Exit} {n:Nat} (q:zft n Q e s):zft n Q e s:=q
theorem yvg {h:List Res} {S:SB} {sd:List Tmp} {t0:Fr} {os:List Oper} {e:Fr} {σ:List SI} {K:Fr→List SI→Prop} (q:zdd P ro nt h S l sd t0 os e σ K):zdd P ro nt h S l sd t0 os e σ K:=q
theorem yvh {h:List Res} {dsl:List Nat} {sd:List Tmp} {t0:Fr} {os:List Oper} {e:Fr} {K:Fr→List (Option CM)→Prop} (q:zcj P ro nt h dsl l sd t0 os e K):zcj P ro nt h dsl l sd t0 os e K:=q
theorem yo7 {ms:List (Option CM)} {e:Fr} {h:List Res} {K:Fr→List Res→Prop} (q:za7 l ms e h K):za7 l ms e h K:=q
theorem yo8 {e:Fr} {h:List Res} {K:Fr→List Res→Prop} (q:zbo P nt l e h K):zbo P nt l e h K:=q
theorem q1 {d:Tmp} {op:Op} {t:Fr} {h:List Res} {ds:List Nat} {av:AV} (hk:zcp P ro nt ops l Q ⟨(d,av)::t,h,ds⟩) (hg:gd ops t ⟨some d,op,ty,pos,after,g⟩=some true:=by rfl) (hd:Nat.blt d nt=true:=by rfl) (hq:QR P h (ev t) ⟨some d,op,ty,pos,after,g⟩ av:=by exact qrA)
 (hn:zbw ⟨some d,op,ty,pos,after,g⟩=true:=by rfl):zcp P ro nt ops (⟨some d,op,ty,pos,after,g⟩::l) Q ⟨t,h,ds⟩:=yeu hg hd (zgr hq hn) hk
end
structure Hide (B:Prop):Prop where
 out:B
theorem rn {A B:Prop} (b:B) (hab:Hide B→A:=by
 intro hB
 repeat (first
  |(refine yti ?_;first
   |refine u9 ?_
   |refine qq rfl rfl qrA ?_
   |refine qs rfl rfl ?_
   |refine qs0 rfl ?_
   |(refine ye1 ?_;first
    |refine z8 rfl (k7 rfl rfl rfl ?_)
    |refine z8 rfl (zan rfl rfl rfl rfl (Nat.le_of_ble_eq_true rfl) ?_)))
  |(refine ytg ?_;first
   |refine zai ?_
   |refine zmr ?_
   |refine ypw ?_)
  |(refine ywt ?_;first
   |refine w8 ?_
   |refine y4 ?_
   |refine za2 ?_
   |refine zcz ?_
   |refine zn7 ?_
   |refine ys9 ?_
   |refine zyb ?_)
  |(refine yth ?_;first
   |refine zi7 ?_
   |refine yc9 ?_
   |refine zgd ?_
   |refine zkw rfl ?_)
  |(refine yvg ?_;first
   |refine yu7 ⟨rfl,?_⟩
   |refine dq rfl rfl qrA ?_
   |refine ds rfl rfl ?_
   |refine da ?_)
  |(refine yo8 ?_;first
   |refine zk2 ?_
   |refine zq8 rfl ?_)
  |(refine yvh ?_;first
   |refine mq rfl rfl qrA ?_
   |refine ms rfl rfl ?_)
  |(refine yo7 ?_;first
   |refine ynu ?_
   |refine zvg ?_))
 exact hB.out):A:=hab ⟨b⟩
theorem rn0 {A B:Prop} (b:B) (hab:Hide B→A:=by
 intro hB
 repeat (first
  |(refine yti ?_;first
   |refine u9 ?_
   |refine qq rfl rfl qrA ?_
   |refine qs rfl rfl ?_
   |refine qs0 rfl ?_
   |(refine ye1 ?_;first
    |refine z8 rfl (k7 rfl rfl rfl ?_)
    |refine z8 rfl (zan rfl rfl rfl rfl (Nat.le_of_ble_eq_true rfl) ?_)))
  |(refine ytg ?_;first
   |refine zai ?_
   |refine zmr ?_
   |refine ypw ?_)
  |(refine yth ?_;first
   |refine zi7 ?_
   |refine yc9 ?_
   |refine zgd ?_
   |refine zkw rfl ?_)
  |(refine yvg ?_;first
   |refine yu7 ⟨rfl,?_⟩
   |refine dq rfl rfl qrA ?_
   |refine ds rfl rfl ?_
   |refine da ?_)
  |(refine yo8 ?_;first
   |refine zk2 ?_
   |refine zq8 rfl ?_)
  |(refine yvh ?_;first
   |refine mq rfl rfl qrA ?_
   |refine ms rfl rfl ?_)
  |(refine yo7 ?_;first
   |refine ynu ?_
   |refine zvg ?_))
 exact hB.out):A:=hab ⟨b⟩
theorem rn2 {A B:Prop} (b:B) (hab:Hide B→A:=by
 intro hB
 repeat (first
  |(refine yvg ?_;first
   |refine yu7 ⟨rfl,?_⟩
   |refine dq rfl rfl qrA ?_
   |refine ds rfl rfl ?_
   |refine da ?_)
  |(refine yo8 ?_;first
   |refine zk2 ?_
   |refine zq8 rfl ?_)
  |(refine yvh ?_;first
   |refine mq rfl rfl qrA ?_
   |refine ms rfl rfl ?_)
  |(refine yo7 ?_;first
   |refine ynu ?_
   |refine zvg ?_))
 exact hB.out):A:=hab ⟨b⟩
section
variable {P:Program} {ro:Option Nat} {nt:Nat} {Q:Exit→St→Prop} {t t':Fr} {h h':List Res} {ds:List Nat} {c:Code}
theorem es (hs:SubF t t':=by repeat (first|exact .nil|refine .cons _ _ _ rfl ?_)):Ent nt ⟨t,h,ds⟩ ⟨t',h,ds⟩:=v6 hs
theorem ed (n:Nat) (hd:h.drop n=h':=by rfl) (hs:SubF t t':=by repeat (first|exact .nil|refine .cons _ _ _ rfl ?_)):Ent nt ⟨t,h,ds⟩ ⟨t',h',ds⟩:=by
 subst hd
 refine v8 ?_ (v6 hs)
 have:=zdr (nt:=nt) (t:=t) (h1:=h.take n) (h2:=h.drop n) (ds:=ds)
 rwa [List.take_append_drop] at this
theorem eD (i:Nat) {x:Res} (hx:h[i]? =some x:=by rfl) (hd:h.eraseIdx i=h':=by rfl) (hs:SubF t t':=by repeat (first|exact .nil|refine .cons _ _ _ rfl ?_)):Ent nt ⟨t,h,ds⟩ ⟨t',h',ds⟩:=by
 subst hd
 exact v8 (v8 (zaz (zmf hx)) ydw) (v6 hs)
theorem zka {ops:Array Oper} {l:List Oper} {s s':St} (he:Ent nt s s') (hk:zcp P ro nt ops l Q s'):zcp P ro nt ops l Q s:=fun X a w hs=>
 zbg (s:=s) (s':=s') ⟨Nat.le_refl _,fun b hb ho=>⟨rfl,fun q=>ho (he.1 b q)⟩,ziw.eq rfl rfl rfl (by first|exact Nat.le_refl _|exact Nat.le_succ _)⟩ (hk X a w (he.2 X a w hs))
inductive SubB (t:Fr):Fr→Prop where
 |nil:SubB t []
 |cons (i:Nat) (a b:AV) (r:Fr):lk t i=some b→Sb b a→SubB t r→SubB t ((i,a)::r)
theorem ytu (n:Nat) (a:AV):ziv h a (h.drop n) a:=by
 have:=ziv.drop (h.take n) (h.drop n) a
 rwa [List.take_append_drop] at this
theorem rq (n:Nat) {rs:List ResultVar} {R:AV→List Res→Prop} {av:List AV} (hR:R (zhn av) (h.drop n)) (hr:RVs P t h rs av:=by first|exact .cons _ _ _ _ (.tmp _ _ rfl) .nil|exact .cons _ _ _ _ (.tmp _ _ rfl) (.cons _ _ _ _ (.tmp _ _ rfl) .nil)|exact .cons _ _ _ _ (.tmp _ _ rfl) (.cons _ _ _ _ (.tmp _ _ rfl) (.cons _ _ _ _ (.tmp _ _ rfl) .nil))|exact .cons _ _ _ _ (.tmp _ _ rfl) (.cons _ _ _ _ (.tmp _ _ rfl) (.cons _ _ _ _ (.tmp _ _ rfl) (.cons _ _ _ _ (.tmp _ _ rfl) .nil)))):yo9 P rs R .ret ⟨t,h,[]⟩:=
 ze0 hr (ytu n _) hR
theorem fin {p:Prop} (hp:p:=by first|(simp only [*,Bool.true_and,Bool.false_and,Bool.and_false,Bool.and_true,Bool.true_or,Bool.or_false,Bool.false_or,Bool.or_true,if_true,if_false,Bool.false_eq_true,Bool.not_true,Bool.not_false];done)|(simp_all;done)|(simp_all <;> omega)):p:=hp
theorem eA (hs:Ent nt ⟨t,h,ds⟩ ⟨t',h',ds⟩:=by first|exact ed 0|exact ed 1|exact ed 2|exact ed 3|exact ed 4|exact ed 5|exact ed 6):Ent nt ⟨t,h,ds⟩ ⟨t',h',ds⟩:=hs
theorem zcy (n:Nat) (p:Nat→Prop) (v:Nat→Fr) (cs:Fr) (hp:p 0)
 (round:∀k,k≤n→p k→aw P ro nt c (thn (fun s'=>k < n∧p (k+1)∧Ent nt s' ⟨v (k+1)++cs,h,ds⟩) Q) ⟨v k++cs,h,ds⟩)
 (hs:SubF t (v 0++cs):=by repeat (first|exact .nil|refine .cons _ _ _ rfl ?_)):aw P ro nt (.loop c) Q ⟨t,h,ds⟩:=
 zaa (fun k=>k≤n∧p k) (fun k=>⟨v k++cs,h,ds⟩) (fun k=>n - k) 0 ⟨Nat.zero_le _,hp⟩ (v6 hs) fun k hk=>zf5 (fun e s' hq=>by
  cases e with
  |normal=>exact ⟨k+1,⟨hq.1,hq.2.1⟩,hq.2.2,by have:=hq.1;omega⟩
  |_=>exact hq) (round k hk.1 hk.2)
theorem zcn (n:Nat) (p:Nat→Prop) (inv:Nat→St) (hp:p 0) (h0:Ent nt ⟨t,h,ds⟩ (inv 0))
 (round:∀k,k≤n→p k→aw P ro nt c (thn (fun s'=>k < n∧p (k+1)∧Ent nt s' (inv (k+1))) Q) (inv k)):aw P ro nt (.loop c) Q ⟨t,h,ds⟩:=
 zaa (fun k=>k≤n∧p k) inv (fun k=>n - k) 0 ⟨Nat.zero_le _,hp⟩ h0 fun k hk=>zf5 (fun e s' hq=>by
  cases e with
  |normal=>exact ⟨k+1,⟨hq.1,hq.2.1⟩,hq.2.2,by have:=hq.1;omega⟩
  |_=>exact hq) (round k hk.1 hk.2)
theorem ze2 (n:Nat) (inv:Nat→SV→St) (a:SV) (h0:Ent nt ⟨t,h,ds⟩ (inv 0 a))
 (round:∀k a,k≤n→aw P ro nt c (thn (fun s'=>k < n∧∃a,Ent nt s' (inv (k+1) a)) Q) (inv k a)):aw P ro nt (.loop c) Q ⟨t,h,ds⟩:=
 zaa (fun x:Nat×SV=>x.1≤n) (fun x=>inv x.1 x.2) (fun x=>n - x.1) (0,a) (Nat.zero_le _) h0 fun x hx=>zf5 (fun e s' hq=>by
  cases e with
  |normal=>
   obtain ⟨h1,a',h2⟩:=hq
   exact ⟨(x.1+1,a'),h1,h2,by simp only;omega⟩
  |_=>exact hq) (round x.1 x.2 hx)
theorem zjb (n:Nat) (inv:Nat→SV→SV→SV→SV→St) (a b e f:SV) (h0:Ent nt ⟨t,h,ds⟩ (inv 0 a b e f))
 (round:∀k a b e f,k≤n→aw P ro nt c (thn (fun s'=>k < n∧∃a b e f,Ent nt s' (inv (k+1) a b e f)) Q) (inv k a b e f)):aw P ro nt (.loop c) Q ⟨t,h,ds⟩:=
 zaa (fun x:Nat×SV×SV×SV×SV=>x.1≤n) (fun x=>inv x.1 x.2.1 x.2.2.1 x.2.2.2.1 x.2.2.2.2) (fun x=>n - x.1) (0,a,b,e,f) (Nat.zero_le _) h0 fun x hx=>zf5 (fun e s' hq=>by
  cases e with
  |normal=>
   obtain ⟨h1,a',b',e',f',h2⟩:=hq
   exact ⟨(x.1+1,a',b',e',f'),h1,h2,by simp only;omega⟩
  |_=>exact hq) (round x.1 x.2.1 x.2.2.1 x.2.2.2.1 x.2.2.2.2 hx)
theorem yoy {x y:Code} {s:St} (m:SV→SV→SV→SV→St) (hh:aw P ro nt x (thn (fun s'=>∃a b e f,Ent nt s' (m a b e f)) Q) s) (k:∀a b e f,aw P ro nt y Q (m a b e f)):aw P ro nt (.seq x y) Q s:=
 yem (fun _:SV×SV×SV×SV=>True) (fun x=>m x.1 x.2.1 x.2.2.1 x.2.2.2) (zf5 (fun e s' hq=>by
  cases e with
  |normal=>obtain ⟨a,b,e,f,h2⟩:=hq;exact ⟨(a,b,e,f),trivial,h2⟩
  |_=>exact hq) hh) fun x _=>k x.1 x.2.1 x.2.2.1 x.2.2.2
theorem zif {σ:Type} (p:σ→Prop) (inv:σ→St) (μ:σ→Nat) (x0:σ) (hp:p x0) (h0:Ent nt ⟨t,h,ds⟩ (inv x0))
 (round:∀x,p x→aw P ro nt c (thn (fun s'=>∃x',p x'∧Ent nt s' (inv x')∧μ x' < μ x) Q) (inv x)):aw P ro nt (.loop c) Q ⟨t,h,ds⟩:=
 zaa p inv μ x0 hp h0 round
end
theorem zax {P:Program} {fv:AV} {args:List AV} {s:Value} {i sz:Nat} {T:TypeId} {rows rows':List (List AV)} {h:List Res} {h':Res→List Res} [hr:HasRow h s i sz T rows] [hset:∀y,SetAt h i y (h' y)]
 (hc:y0 P fv args [.row s sz T rows] (fun r h2=>∃s':SV,h2= [.row s'.v sz T rows']∧r= .v s'.v)):y0 P fv args h (fun r h2=>∃s':SV,h2=h' (.row s'.v sz T rows')∧r= .v s'.v):=by
 have hi:i < h.length:=(List.getElem?_eq_some_iff.1 hr.h).1
 have hp:=zmf hr.h
 refine (y0.perm hp (y0.permR ((y0.frame (h.eraseIdx i) hc).mono ?_)))
 rintro av h2 ⟨h1',rfl,s',rfl,rfl⟩
 refine ⟨h' (.row s'.v sz T rows'),?_,s',rfl,rfl⟩
 rw [←(hset (.row s'.v sz T rows')).h]
 exact (zl2 hi).symm
theorem zgf {P:Program} {fv r0:AV} {args:List AV} {s:Value} {i sz:Nat} {T:TypeId} {rows rows':List (List AV)} {h:List Res} {h':Res→List Res} [hr:HasRow h s i sz T rows] [hset:∀y,SetAt h i y (h' y)]
 (hc:y0 P fv args [.row s sz T rows] (fun r h2=>h2= [.row s sz T rows']∧r=r0)):y0 P fv args h (fun r h2=>h2=h' (.row s sz T rows')∧r=r0):=by
 have hi:i < h.length:=(List.getElem?_eq_some_iff.1 hr.h).1
 have hp:=zmf hr.h
 refine (y0.perm hp (y0.permR ((y0.frame (h.eraseIdx i) hc).mono ?_)))
 rintro av h2 ⟨h1',rfl,rfl,rfl⟩
 refine ⟨h' (.row s sz T rows'),?_,rfl,rfl⟩
 rw [←(hset (.row s sz T rows')).h]
 exact (zl2 hi).symm
section
variable {P:Program} {h:List Res} {f:Operand→Option AV} {dst:Option Tmp} {ty:TypeId} {pos:String} {after:Array Edge} {g:Option (Nat×Bool)} {x y:Operand}
theorem zav {T E:TypeId} {full:Bool} {sz:Nat} {i:Int} {rows:List (List AV)} {row:List AV} (hx:f x=some (.list full sz rows)) (hy:f y=some (.v (.int .i64 i))) [Und P T (.slice E)] [Siz P E sz] (h0:0≤i)
 (hi:rows[i.toNat]? =some row):QR P h f ⟨dst,.indexAddr T x y,ty,pos,after,g⟩ (.pp row):=zc9 (i:=i.toNat) hx (by rw [Int.toNat_of_nonneg h0];exact hy) hi
end
theorem zal {A:Type} {f:A→List AV} {l:List A} {k:Nat} (hk:k < l.length):(l.map f)[k]? =some (f l[k]):=by simp [hk]
theorem za3 {A B:Type} {f:A→B} {l:List A} {k:Nat} (h:decide ((k:Int) < ((l.map f).length:Nat))=true):k < l.length:=by simpa using h
theorem za4 {A B:Type} {f:A→B} {l:List A} {k:Nat} (h:decide ((k:Int) < ((l.map f).length:Nat))=false) (hk:k≤l.length):k=l.length:=by
 have:l.length≤k:=by simpa using h
 omega
theorem zwa {A:Type} {q:A→Bool} {l:List A} {k:Nat} (hk:k < l.length) (hz:l.all q=(l.drop k).all q) (hq:q l[k]=true):l.all q=(l.drop (k+1)).all q:=by
 rw [hz,List.drop_eq_getElem_cons hk,List.all_cons,hq,Bool.true_and]
theorem zt8 {A:Type} {q:A→Bool} {l:List A} {k:Nat} (hk:k < l.length) (hq:q l[k]=false):l.all q=false:=by
 cases h:l.all q with
 |false=>rfl
 |true=>rw [List.all_eq_true] at h;rw [h _ (List.getElem_mem hk)] at hq;cases hq
theorem yad {A:Type} {q:A→Bool} {l:List A} {k:Nat} (hk:k=l.length) (hz:l.all q=(l.drop k).all q):l.all q=true:=by
 rw [hz,hk,List.drop_length];rfl
section
variable {A:Type} {f:A→A} {R:A→List AV} {l:List A} {k:Nat}
end
def yac (s:Value) (sz:Nat):Value:=match s with
 | .slice a n _=>sliced a 0 n n sz
 |v=>v
theorem yd2 (a:Addr) (n sz:Nat):(if n=0 then some a else (some a).map (fun x:Addr=>x.add (0 * sz)))=some a:=by
 split
 ·rfl
 ·simp [Addr.add]
theorem ztn (a:Addr) (n c sz:Nat):yac (.slice (some a) n c) sz= .slice (some a) n n:=by
 unfold yac
 simp only [sliced]
 rw [yd2,Nat.sub_zero]
theorem zto (n c sz:Nat):yac (.slice none n c) sz= .slice none n n:=by
 unfold yac
 simp [sliced]
theorem yd1 (s:Value) (sz:Nat) (T:TypeId) (rows:List (List AV)):(Res.row (yac s sz) sz T rows).own=(Res.row s sz T rows).own:=by
 cases s with
 |slice a n c=>
  cases a with
  |none=>rw [zto];rfl
  |some a=>rw [ztn];rfl
 |_=>rfl
theorem cut_holds {w:World} {O:Nat→Prop} {s:Value} {sz:Nat} {T:TypeId} {rows:List (List AV)} (h:(Res.row s sz T rows).holds w O):(Res.row (yac s sz) sz T rows).holds w O:=by
 cases s with
 |slice a n c=>
  cases a with
  |none=>
   obtain ⟨h1,h2,h3⟩:=h
   rw [zto];exact ⟨h1,h2,h2⟩
  |some a=>
   obtain ⟨h1,h2,h3,h4,cc,h5,h6,h7⟩:=h
   rw [ztn]
   exact ⟨h1,h2,Nat.le_refl _,h4,cc,h5,Nat.le_trans (Nat.add_le_add_left (Nat.mul_le_mul_right _ h3) _) h6,h7⟩
 |_=>exact h
theorem HRel.cut {X:Nat→Prop} {w:World} {h:List Res} {i:Nat} {s:Value} {sz:Nat} {T:TypeId} {rows:List (List AV)} (hh:HRel X w h) (hi:h[i]? =some (.row s sz T rows)):HRel X w (h.set i (.row (yac s sz) sz T rows)):=by
 have ho:j7 (h.set i (.row (yac s sz) sz T rows))=j7 h:=by
  unfold j7
  rw [List.flatMap_def,List.flatMap_def,List.map_set,yd1]
  congr 1
  obtain ⟨hl,e⟩:=List.getElem?_eq_some_iff.1 hi
  refine List.ext_getElem (by simp) fun j h1 h2=> ?_
  rw [List.getElem_set]
  split
  ·rename_i e2;subst e2;rw [List.getElem_map,e]
  ·rfl
 have hO:OO (h.set i (.row (yac s sz) sz T rows)) X=OO h X:=by unfold OO;rw [ho]
 refine ⟨by rw [ho];exact hh.nodup,by rw [ho];exact hh.lt,hh.xlt,fun r hr=> ?_⟩
 rw [hO]
 rcases List.mem_or_eq_of_mem_set hr with h1|h1
 ·exact hh.holds r h1
 ·rw [h1];exact cut_holds (hh.holds _ (List.mem_of_getElem? hi))
section
variable {P:Program} {ro:Option Nat} {nt:Nat} {h:List Res} {f:Operand→Option AV} {dst:Option Tmp} {ty:TypeId} {pos:String} {after:Array Edge} {guard:Option (Nat×Bool)} {x y z:Operand}
theorem zzg {T E:TypeId} {s:Value} {sz i:Nat} {E':TypeId} {rows:List (List AV)} (hx:f x=some (.v s)) [hr:HasRow h s i sz E' rows] (hy:f y=some (.v (.int .i64 rows.length))) (hz:f z=some (.v (.int .i64 rows.length)))
 [Und P T (.slice E)] [Siz P E sz]:QR P h f ⟨dst,.slice T x none (some y) (some z),ty,pos,after,guard⟩ (.v (yac s sz)):=fun X ρ w he=>by
 obtain ⟨a,cap,es,hcap,_⟩:=zjl he.heap hr.h
 obtain ⟨e1,e2⟩:=zh3 (P:=P) (T:=T) (E:=E)
 have hv:=(he.rel x _ hx).v_eq
 refine ⟨yac s sz,run_v _ ?_,.v _⟩
 simp only [Option.map_none,Option.map_some]
 rw [run_sliceAt_slice w T _ _ _ _ e2,hv,(he.rel y _ hy).v_eq,(he.rel z _ hz).v_eq,es,run_slice_hm w T a _ cap e2 .i64 .i64 rows.length rows.length (by omega) (by omega) (by omega),e1]
 simp only [run_sizeOf (n:=sz),Result.andThen_ok,Int.toNat_natCast]
 rfl
theorem yi9 {ops:Array Oper} {l:List Oper} {Q:Exit→St→Prop} {t:Fr} {h h':List Res} {ds:List Nat} (s:Value) {i sz:Nat} {T:TypeId} {rows:List (List AV)} [hr:HasRow h s i sz T rows] [hset:SetAt h i (.row (yac s sz) sz T rows) h']
 (k:zcp P ro nt ops l Q ⟨t,h',ds⟩):zcp P ro nt ops l Q ⟨t,h,ds⟩:=by
 refine zka (s':=⟨t,h',ds⟩) ?_ k
 have ho:j7 h'=j7 h:=by
  rw [←hset.h]
  unfold j7
  rw [List.flatMap_def,List.flatMap_def,List.map_set,yd1]
  congr 1
  obtain ⟨hl,e⟩:=List.getElem?_eq_some_iff.1 hr.h
  refine List.ext_getElem (by simp) fun j h1 h2=> ?_
  rw [List.getElem_set]
  split
  ·rename_i e2;subst e2;rw [List.getElem_map,e]
  ·rfl
 refine ⟨fun b hb=>by rw [←ho];exact hb,fun X a w hs=>⟨by rw [←hset.h];exact hs.heap.cut hr.h,hs.size,?_,hs.defs⟩⟩
 have:OO h' X=OO h X:=by unfold OO;rw [ho]
 show zfv w (OO h' X) t a.tmps
 rw [this];exact hs.fr
end
theorem zyu {P:Program} {w:World} {O:Nat→Prop} {full:Bool} {sz n:Nat} {rows:List (List AV)} {v:Value} (hr:Rel w O (.list full sz rows) v) (hn:n≤rows.length):
 ∃c:Array Value,(∀w':World,w'.heap=w.heap→(Builtin.firstCells sz n v).run P w'= .ok c w')∧c.size=n * sz∧(∀i (hi:i < n) j (hj:j < (rows[i]'(by omega)).length),∃u,c[i * sz+j]? =some u∧Rel w O (rows[i]'(by omega))[j] u)∧∀i (hi:i < n),(rows[i]'(by omega)).length=sz:=by
 cases hr with
 |lnil _ _ a cap h=>
  obtain rfl:n=0:=by simpa using hn
  refine ⟨#[],fun w' _=> ?_,by simp,fun i hi=>absurd hi (Nat.not_lt_zero i),fun i hi=>absurd hi (Nat.not_lt_zero i)⟩
  cases a with
  |none=>rfl
  |some a=>simp only [Builtin.firstCells,Nat.zero_mul];rfl
 |list _ _ _ b off cap g h1 h2 h3 h4 h5 h6 h7=>
  have hcell:∀k,k < n * sz→w.cell? ⟨b,off+k,none⟩=some ((w.cell? ⟨b,off+k,none⟩).getD undef):=fun k hk=>by
   have hsz:0 < sz:=by
    rcases Nat.eq_zero_or_pos sz with h|h
    ·subst h;simp at hk
    ·exact h
   have hi:k / sz < n:=(Nat.div_lt_iff_lt_mul hsz).2 hk
   have hi':k / sz < rows.length:=by omega
   have hj:k % sz < rows[k / sz].length:=by rw [h5 _ hi'];exact Nat.mod_lt _ hsz
   have e:=h6 _ hi' _ hj
   have ek:off+k / sz * sz+k % sz=off+k:=by have:=Nat.div_add_mod k sz;rw [Nat.mul_comm] at this;omega
   rw [ek] at e
   rw [e];rfl
  refine ⟨((List.range (n * sz)).map fun k=>(w.cell? ⟨b,off+k,none⟩).getD undef).toArray,fun w' hw'=> ?_,by simp,fun i hi j hj=>⟨g i j,?_,h7 i (by omega) j hj⟩,fun i hi=>h5 i (by omega)⟩
  ·simp only [Builtin.firstCells]
   exact run_loadCells w' _ _ _ fun k hk=>by rw [zbe,zgi (show w'.heap[b]? =w.heap[b]? by rw [hw'])];exact hcell k hk
  ·have hj':j < sz:=by rw [←h5 i (by omega)];exact hj
   have hlt:i * sz+j < n * sz:=by
    have:(i+1) * sz≤n * sz:=Nat.mul_le_mul_right _ hi
    rw [Nat.add_mul] at this;omega
   have e:=h6 i (by omega) j hj
   rw [Nat.add_assoc] at e
   simp [hlt,e]
section
variable {P:Program} {ro:Option Nat} {nt:Nat} {dst:Option Tmp} {ty:TypeId} {pos:String} {after:Array Edge} {guard:Option (Nat×Bool)} {x y:Operand}
end
def znd (s:Value) (lo hi sz:Nat):Value:=match s with
 | .slice a _ c=>sliced a lo hi c sz
 |v=>v
section
variable {P:Program} {ro:Option Nat} {nt:Nat} {h:List Res} {f:Operand→Option AV} {dst:Option Tmp} {ty:TypeId} {pos:String} {after:Array Edge} {guard:Option (Nat×Bool)} {x y z:Operand}
end
section
variable {P:Program} {ro:Option Nat} {nt:Nat} {dst:Option Tmp} {ty:TypeId} {pos:String} {after:Array Edge} {guard:Option (Nat×Bool)} {x y:Operand}
theorem zsu {T T2 E sz i d hi:Nat} {s:Value} {rows ys:List (List AV)} {t:Fr} {h h':List Res} {ds:List Nat} {dt:Tmp} {next:St→Prop} (hx:ev t x=some (.v (znd s d hi sz))) [hrow:HasRow h s i sz E rows]
 [Und P T (.slice E)] [Siz P E sz] (hdh:d≤hi) (hhi:hi≤rows.length)
 (hsrc:∀X a w,Sim X nt ⟨t,h,ds⟩ a w→∃c2 m,(∀w':World,w'.heap=w.heap→(Builtin.lenOf (a.eval y)).run P w'= .ok m w')∧Nat.min m (hi - d)=ys.length∧(∀w':World,w'.heap=w.heap→(Builtin.firstCells sz ys.length (a.eval y)).run P w'= .ok c2 w')∧c2.size=ys.length * sz∧
  (∀i (hi:i < ys.length) j (hj:j < ys[i].length),∃u,c2[i * sz+j]? =some u∧Rel w (OO h X) ys[i][j] u)∧∀i (hi:i < ys.length),ys[i].length=sz)
 (hd:dok nt (some dt)=true) [hset:SetAt h i (.row s sz E (rows.take d++(ys++rows.drop (d+ys.length)))) h'] (hk:next ⟨(dt,.v (.int .i64 ys.length))::t,h',ds⟩) (hone:∀r∈ys,r.all AV.one=true):
 OE P ro nt ⟨some dt,.call ⟨.builtin .copy,[x,y].toArray,[T,T2].toArray⟩,ty,pos,after,guard⟩ ⟨t,h,ds⟩ next:=by
 intro X a w K Q hs hK
 have ex:=(hs.env.rel x _ hx).v_eq
 have hx0:=hs.heap.holds _ (List.mem_of_getElem? hrow.h)
 obtain ⟨ax,cap,es,hcap,hsz,_⟩:=zjl hs.heap hrow.h
 obtain ⟨c2,m,l2,hmin,e2,s2,g2,hlx2⟩:=hsrc X a w hs
 have hcnt:d+ys.length≤hi:=by have:ys.length≤hi - d:=hmin ▸ Nat.min_le_right m (hi - d);omega
 have hrun:(execOp a.eval ⟨some dt,.call ⟨.builtin .copy,[x,y].toArray,[T,T2].toArray⟩,ty,pos,after,guard⟩).run P w=((Builtin.copy_ [T,T2].toArray ty [znd s d hi sz,a.eval y].toArray).run P w).andThen fun v w=> .ok (.value v) w:=by
  simp only [execOp,resolve,List.map_toArray,List.map_cons,List.map_nil,Sem.run_bind,Sem.run_pure,Result.andThen_ok,invoke,builtin,ex]
 refine ⟨zaj,?_⟩
 rw [zbj rfl,hrun]
 have hsub:∀q c,(Builtin.copy_ [T,T2].toArray ty [.slice q (hi - d) c,a.eval y].toArray).run P w=(((match q with|some a=>storeCells a c2.toList|none=>pure ()):Sem Unit).run P w).andThen fun _ w=> .ok (goInt ys.length) w:=by
  intro q c
  simp only [Builtin.copy_,List.getElem?_toArray,List.getElem?_cons_zero,List.getElem?_cons_succ,Sem.run_bind,run_underlying (d:=TypeDesc.slice E),run_sizeOf (n:=sz),Result.andThen_ok,Sem.run_pure,l2 w rfl,hmin,e2 w rfl]
  cases q with
  |none=>rfl
  |some a2=>simp only [Sem.run_bind,Sem.run_pure]
 by_cases h0:ys.length=0
 ·obtain rfl:ys= []:=List.eq_nil_of_length_eq_zero h0
  have hc0:c2= #[]:=by simpa using s2
  have he:h'=h:=by
   rw [←hset.h]
   obtain ⟨hlt,e⟩:=List.getElem?_eq_some_iff.1 hrow.h
   rw [List.nil_append,List.length_nil,Nat.add_zero,List.take_append_drop,←e,List.set_getElem_self]
  rw [es]
  simp only [znd,sliced]
  rw [hsub,hc0]
  have:∀q:Option Addr,(((match q with|some a=>storeCells a (#[]:Array Value).toList|none=>pure ()):Sem Unit).run P w)= .ok () w:=fun q=>by cases q <;> rfl
  rw [this]
  simp only [Result.andThen_ok,Oper.uponIn]
  refine hK _ _ _ hk ?_ (by rw [he];exact .refl _ _)
  have hsim:Sim X nt ⟨t,h',ds⟩ a w:=by rw [he];exact hs
  exact hsim.put (av:= .v _) hd (.v _)
 ·cases ax with
  |none=>
   rw [es] at hx0
   obtain ⟨q0,_⟩:=hx0
   rw [q0] at hhi
   simp only [List.length_nil] at hhi
   omega
  |some addr=>
  rw [es] at hx0
  obtain ⟨m1,_,m3,m4,c0,m5,m6,m7⟩:=hx0
  obtain ⟨b,off,spot⟩:=addr
  simp only at m1 m5 m6 m7
  subst m1
  have ep:znd s d hi sz= .slice (some ⟨b,off+d * sz,none⟩) (hi - d) (cap - d):=by
   rw [es];simp only [znd,sliced];rw [if_neg (by omega)];simp only [Option.map_some,zbe]
  have hcs:∀v∈c2.toList,v.oneCell'=true:=by
   intro v hv
   obtain ⟨k,hk1,hk2⟩:=List.mem_iff_getElem.1 hv
   have hk3:k < ys.length * sz:=by rw [←s2];simpa using hk1
   have hsz0:0 < sz:=by
    rcases Nat.eq_zero_or_pos sz with h|h
    ·subst h;simp at hk3
    ·exact h
   have hi:k / sz < ys.length:=(Nat.div_lt_iff_lt_mul hsz0).2 hk3
   have hj:k % sz < ys[k / sz].length:=by rw [hlx2 _ hi];exact Nat.mod_lt _ hsz0
   obtain ⟨u,e,r⟩:=g2 _ hi _ hj
   have ek:k / sz * sz+k % sz=k:=by have:=Nat.div_add_mod k sz;rw [Nat.mul_comm] at this;exact this
   rw [ek] at e
   have:u=v:=by
    have h2:c2[k]? =some v:=by rw [←hk2];simp [show k < c2.size by rw [s2];exact hk3]
    exact Option.some.inj (e.symm.trans h2)
   subst this
   exact r.one (List.all_eq_true.1 (hone _ (List.getElem_mem hi)) _ (List.getElem_mem hj))
  have hmul:(d+ys.length) * sz≤cap * sz:=Nat.mul_le_mul_right _ (by omega)
  rw [Nat.add_mul] at hmul
  obtain ⟨w',f1,f2,f3,c',f4,f5,f6,ev⟩:=zct (P:=P) c2.toList (off+d * sz) 0 w c0 hcs m5 (by simp [s2];omega)
  rw [ep,hsub]
  simp only
  rw [f1]
  simp only [Result.andThen_ok,Oper.uponIn]
  have hbown:b∈(Res.row s sz E rows).own:=by rw [es];simp [Res.own]
  have hkk:∀b',¬OO h X b'→b' < w.heap.size→w'.heap[b']? =w.heap[b']? ∧¬OO h X b':=fun b' hb' _=>⟨f3 b' (fun he=>hb' (.inl (zab.2 ⟨_,List.mem_of_getElem? hrow.h,he ▸ hbown⟩))),hb'⟩
  have hoth:∀b',b' < w.heap.size→b' ∉ (Res.row s sz E rows).own→w'.heap[b']? =w.heap[b']? :=fun b' _ hne=>f3 b' fun he=>hne (he ▸ hbown)
  have hown:(Res.row s sz E (rows.take d++(ys++rows.drop (d+ys.length)))).own=(Res.row s sz E rows).own:=by rw [es];rfl
  have hlen:(rows.take d++(ys++rows.drop (d+ys.length))).length=rows.length:=by simp;omega
  have hlow:∀k (hk:k < (rows.take d++(ys++rows.drop (d+ys.length))).length) (h:k < d∨d+ys.length≤k),(rows.take d++(ys++rows.drop (d+ys.length)))[k]=rows[k]'(by omega):=fun k hk h=>by
   rcases h with h|h
   ·rw [List.getElem_append_left (by simp;omega)];simp
   ·rw [List.getElem_append_right (by simp;omega),List.getElem_append_right (by simp;omega),List.getElem_drop];congr 1;simp;omega
  have hmid:∀k (hk:k < (rows.take d++(ys++rows.drop (d+ys.length))).length) (h1:d≤k) (h2:k < d+ys.length),(rows.take d++(ys++rows.drop (d+ys.length)))[k]=ys[k - d]'(by omega):=fun k hk h1 h2=>by
   rw [List.getElem_append_right (by simp;omega),List.getElem_append_left (by simp;omega)];congr 1;simp;omega
  have hholds:(Res.row s sz E (rows.take d++(ys++rows.drop (d+ys.length)))).holds w' (OO h X):=by
   rw [es]
   refine ⟨rfl,hlen.symm,hcap,fun k hk=> ?_,c',f4,by rw [f5];exact m6,fun k hk j hj=> ?_⟩
   ·by_cases h:d≤k∧k < d+ys.length
    ·rw [hmid k hk h.1 h.2];exact hlx2 _ (by omega)
    ·rw [hlow k hk (by omega)];exact hsz _ (by omega)
   ·have hk':k < rows.length:=by rw [←hlen];exact hk
    by_cases h:d≤k∧k < d+ys.length
    ·simp only [hmid k hk h.1 h.2] at hj ⊢
     obtain ⟨u,e,r⟩:=g2 (k - d) (by omega) j hj
     have hj':j < sz:=by rw [←hlx2 (k - d) (by omega)];exact hj
     have q1:(k - d+1) * sz≤ys.length * sz:=Nat.mul_le_mul_right _ (by omega)
     rw [Nat.add_mul] at q1
     have q2:k * sz=d * sz+(k - d) * sz:=by rw [←Nat.add_mul];congr 1;omega
     refine ⟨u,?_,r.keep (by omega) hkk⟩
     show c'[off+k * sz+j]? =some u
     rw [f6,if_pos (by simp;omega),show off+k * sz+j - (off+d * sz+0)=(k - d) * sz+j by omega]
     simpa using e
    ·simp only [hlow k hk (by omega)] at hj ⊢
     obtain ⟨u,e,r⟩:=m7 k hk' j hj
     have hj':j < sz:=by rw [←hsz k hk'];exact hj
     refine ⟨u,?_,r.keep (by omega) hkk⟩
     show c'[off+k * sz+j]? =some u
     rw [f6,if_neg ?_]
     ·exact e
     ·simp only [Array.length_toList,s2]
      rcases Nat.lt_or_ge k d with q|q
      ·have:(k+1) * sz≤d * sz:=Nat.mul_le_mul_right _ q
       rw [Nat.add_mul] at this;omega
      ·have:(d+ys.length) * sz≤k * sz:=Nat.mul_le_mul_right _ (by omega)
       rw [Nat.add_mul] at this;omega
  refine hK _ _ _ hk ?_ (by rw [←hset.h];exact Keep.set hrow.h hown (by omega) hoth ev)
  have hO:OO h' X=OO h X:=by funext b';rw [←hset.h];simp only [OO,zdq hrow.h hown]
  have hsim:Sim X nt ⟨t,h',ds⟩ a w':=⟨by rw [←hset.h];exact hs.heap.set hrow.h hown (by omega) hoth hholds,hs.size,by rw [hO];exact hs.fr.keep (by omega) hkk,hs.defs⟩
  exact hsim.put (av:= .v _) hd (.v _)
theorem zzn {T T2 E sz i d hi n:Nat} {full:Bool} {s:Value} {rows zs:List (List AV)} {t:Fr} {h h':List Res} {ds:List Nat} {dt:Tmp} {next:St→Prop} (hx:ev t x=some (.v (znd s d hi sz))) (hy:ev t y=some (.list full sz zs)) [hrow:HasRow h s i sz E rows]
 [Und P T (.slice E)] [Siz P E sz] (hdh:d≤hi) (hhi:hi≤rows.length) (hn:min zs.length (hi - d)=n)
 (hd:dok nt (some dt)=true) [hset:SetAt h i (.row s sz E (rows.take d++(zs.take n++rows.drop (d+(zs.take n).length)))) h'] (hk:next ⟨(dt,.v (.int .i64 (zs.take n).length))::t,h',ds⟩) (hone:∀r∈zs,r.all AV.one=true):
 OE P ro nt ⟨some dt,.call ⟨.builtin .copy,[x,y].toArray,[T,T2].toArray⟩,ty,pos,after,guard⟩ ⟨t,h,ds⟩ next:=by
 have hnl:n≤zs.length:=by omega
 have hl:(zs.take n).length=n:=by simp;omega
 refine zsu hx hdh hhi (fun X a w hs=> ?_) hd hk (fun r hr=>hone r (List.mem_of_mem_take hr))
 have ry:=hs.env.rel y _ hy
 obtain ⟨c2,e2,s2,g2,l2⟩:=zyu (P:=P) ry hnl
 obtain ⟨q,cap,e,_⟩:=zd1 ry
 refine ⟨c2,zs.length,fun w' _=>by rw [e];rfl,by rw [hl];exact hn,by rw [hl];exact e2,by rw [hl];exact s2,fun k hk j hj=> ?_,fun k hk=> ?_⟩
 ·have hk':k < n:=by rw [hl] at hk;exact hk
  simp only [List.getElem_take] at hj ⊢
  exact g2 k hk' j hj
 ·rw [List.getElem_take];exact l2 k (by rw [hl] at hk;exact hk)
end
def ypn (b n:Nat):Value:= .slice (some ⟨b,0,none⟩) n n
theorem box_holds {w:World} {O:Nat→Prop} {b:Nat} {T:TypeId} {cells:List AV} (h:(Res.box b T cells).holds w O):(Res.row (ypn b cells.length) 1 T (cells.map fun a=> [a])).holds w O:=by
 obtain ⟨c,h1,h2,h3⟩:=h
 refine ⟨rfl,by simp,Nat.le_refl _,fun i hi=>by simp,c,h1,by simp only;omega,fun i hi j hj=> ?_⟩
 simp only [List.getElem_map,List.length_singleton] at hj ⊢
 obtain rfl:j=0:=by omega
 have hi':i < cells.length:=by simpa using hi
 refine ⟨c[i]'(by omega),?_,?_⟩
 ·simp only [Nat.zero_add,Nat.mul_one,Nat.add_zero]
  exact Array.getElem?_eq_getElem (by omega)
 ·exact h3 i hi' (by omega)
theorem HRel.setOwn {X:Nat→Prop} {w:World} {h:List Res} {i:Nat} {r r':Res} (hh:HRel X w h) (hi:h[i]? =some r) (ho:r'.own=r.own) (hc:∀O,r.holds w O→r'.holds w O):HRel X w (h.set i r')∧j7 (h.set i r')=j7 h:=by
 have ho':j7 (h.set i r')=j7 h:=by
  unfold j7
  rw [List.flatMap_def,List.flatMap_def,List.map_set,ho]
  congr 1
  obtain ⟨hl,e⟩:=List.getElem?_eq_some_iff.1 hi
  refine List.ext_getElem (by simp) fun j h1 h2=> ?_
  rw [List.getElem_set]
  split
  ·rename_i e2;subst e2;rw [List.getElem_map,e]
  ·rfl
 have hO:OO (h.set i r') X=OO h X:=by unfold OO;rw [ho']
 refine ⟨⟨by rw [ho'];exact hh.nodup,by rw [ho'];exact hh.lt,hh.xlt,fun r2 hr=> ?_⟩,ho'⟩
 rw [hO]
 rcases List.mem_or_eq_of_mem_set hr with h1|h1
 ·exact hh.holds r2 h1
 ·rw [h1];exact hc _ (hh.holds _ (List.mem_of_getElem? hi))
section
variable {P:Program} {ro:Option Nat} {nt:Nat} {h:List Res} {f:Operand→Option AV} {dst:Option Tmp} {ty:TypeId} {pos:String} {after:Array Edge} {guard:Option (Nat×Bool)} {x y z:Operand}
theorem yet {ops:Array Oper} {l:List Oper} {Q:Exit→St→Prop} {t:Fr} {h h':List Res} {ds:List Nat} {i:Nat} {r r':Res} (hi:h[i]? =some r) (ho:r'.own=r.own) (hc:∀w O,r.holds w O→r'.holds w O) (hset:h.set i r'=h')
 (k:zcp P ro nt ops l Q ⟨t,h',ds⟩):zcp P ro nt ops l Q ⟨t,h,ds⟩:=by
 refine zka (s':=⟨t,h',ds⟩) ?_ k
 refine ⟨fun b hb=> ?_,fun X a w hs=> ?_⟩
 ·have:j7 h'=j7 h:=by
   rw [←hset]
   unfold j7
   rw [List.flatMap_def,List.flatMap_def,List.map_set,ho]
   congr 1
   obtain ⟨hl,e⟩:=List.getElem?_eq_some_iff.1 hi
   refine List.ext_getElem (by simp) fun j h1 h2=> ?_
   rw [List.getElem_set]
   split
   ·rename_i e2;subst e2;rw [List.getElem_map,e]
   ·rfl
  rw [←this];exact hb
 ·obtain ⟨q1,q2⟩:=hs.heap.setOwn hi ho (hc w)
  rw [hset] at q1 q2
  refine ⟨q1,hs.size,?_,hs.defs⟩
  have:OO h' X=OO h X:=by unfold OO;rw [q2]
  show zfv w (OO h' X) t a.tmps
  rw [this];exact hs.fr
theorem zyf {ops:Array Oper} {l:List Oper} {Q:Exit→St→Prop} {t:Fr} {h h':List Res} {ds:List Nat} (b:Nat) {i:Nat} {T:TypeId} {cells:List AV} [hb:HasBox h b i T cells] [hset:SetAt h i (.row (ypn b cells.length) 1 T (cells.map fun a=> [a])) h']
 (k:zcp P ro nt ops l Q ⟨t,h',ds⟩):zcp P ro nt ops l Q ⟨t,h,ds⟩:=yet hb.h (by rfl) (fun _ _ q=>box_holds q) hset.h k
theorem zle {T E:TypeId} {b n sz:Nat} (hx:f x=some (pZ b)) [hu:Und P T (.array n E)] [Siz P E sz]:
 QR P h f ⟨dst,.slice T x none none none,ty,pos,after,guard⟩ (.v (ypn b n)):=fun X ρ w he=>by
 refine ⟨ypn b n,run_v _ ?_,.v _⟩
 rw [(he.rel x _ hx).v_eq]
 simp only [Option.map_none,Instr.sliceAt,Sem.run_bind,run_underlying (d:=TypeDesc.array n E),Result.andThen_ok,Instr.sureAddr,Sem.run_pure,Instr.sliceBounds,run_sizeOf (n:=sz),Nat.sub_zero,Nat.zero_mul,zbe,Nat.add_zero,ite_self]
 rfl
theorem yq5 (a:Addr) (n c k sz:Nat):znd (.slice (some a) n c) 0 k sz= .slice (some a) k c:=by
 unfold znd
 simp only [sliced]
 rw [yd2];simp
end
theorem yg7 (a:Option Addr) (n c sz:Nat):znd (.slice a n c) 0 n sz= .slice a n c:=by
 cases a with
 |none=>simp [znd,sliced]
 |some a=>exact yq5 a n c n sz
section
variable {P:Program} {ro:Option Nat} {nt:Nat} {ty:TypeId} {pos:String} {after:Array Edge} {guard:Option (Nat×Bool)} {x y:Operand}
theorem zzo {T T2 E sz i:Nat} (n:Nat) {full:Bool} {s:Value} {rows zs:List (List AV)} {t:Fr} {h h':List Res} {ds:List Nat} {dt:Tmp} {next:St→Prop} (hx:ev t x=some (.v s)) (hy:ev t y=some (.list full sz zs)) [hrow:HasRow h s i sz E rows]
 [Und P T (.slice E)] [Siz P E sz] (hn:min zs.length rows.length=n)
 (hd:dok nt (some dt)=true) [hset:SetAt h i (.row s sz E (zs.take n++rows.drop n)) h'] (hk:next ⟨(dt,.v (.int .i64 n))::t,h',ds⟩) (hone:∀r∈zs,r.all AV.one=true):
 OE P ro nt ⟨some dt,.call ⟨.builtin .copy,[x,y].toArray,[T,T2].toArray⟩,ty,pos,after,guard⟩ ⟨t,h,ds⟩ next:=by
 intro X a w K Q hs hK
 obtain ⟨ax,cap,es,_⟩:=zjl hs.heap hrow.h
 have hp:znd s 0 rows.length sz=s:=by rw [es];exact yg7 _ _ _ _
 have hl:(zs.take n).length=n:=by simp;omega
 have hset':SetAt h i (.row s sz E (rows.take 0++(zs.take n++rows.drop (0+(zs.take n).length)))) h':=by
  rw [hl,List.take_zero,List.nil_append,Nat.zero_add];exact hset
 exact zzn (P:=P) (ro:=ro) (nt:=nt) (T:=T) (T2:=T2) (E:=E) (sz:=sz) (i:=i) (d:=0) (hi:=rows.length) (n:=n) (full:=full) (s:=s) (rows:=rows) (zs:=zs) (h':=h') (next:=next) (by rw [hp];exact hx) hy (Nat.zero_le _) (Nat.le_refl _) (by rw [Nat.sub_zero];exact hn) hd (hset:=hset') (by rw [hl];exact hk) hone X a w K Q hs hK
end
theorem yku {zv:Array Value} {n i j sz:Nat} (hs:zv.size=sz) (hi:i < n) (hj:j < zv.size):(Builtin.zeroCells zv n)[i * sz+j]? =some zv[j]:=by
 subst hs
 have h1:(i+1) * zv.size≤n * zv.size:=Nat.mul_le_mul_right _ hi
 rw [Nat.add_mul] at h1
 have hlt:i * zv.size+j < n * zv.size:=by omega
 have hm:(i * zv.size+j) % zv.size=j:=by rw [Nat.mul_comm,Nat.mul_add_mod,Nat.mod_eq_of_lt hj]
 simp [Builtin.zeroCells,hlt,hm,hj]
section
variable {P:Program} {ro:Option Nat} {nt:Nat} {h:List Res} {f:Operand→Option AV} {dst:Option Tmp} {ty:TypeId} {pos:String} {after:Array Edge} {guard:Option (Nat×Bool)} {x y z u:Operand} {t:Fr} {ds:List Nat} {next:St→Prop}
theorem zxa {d:Tmp} {T E bytes sz:Nat} {n c:Nat} {zv:Value} [hu:Und P T (.slice E)] [hz:ZerV P E zv] [Siz P E sz] [hby:Byt P E bytes] (hx:ev t x=some (.v (.int .i64 n))) (hy:ev t y=some (.v (.int .i64 c))) (hlt:dok nt (some d)=true)
 (hnc:n≤c) (hn:c≤1099511627776) (hb:bytes≤128:=by decide) (hzs:zv.cells.size=sz:=by rfl) (hk:∀b,next ⟨(d,.v (.slice (some ⟨b,0,none⟩) n c))::t,.row (.slice (some ⟨b,0,none⟩) n c) sz E (List.replicate n (zv.cells.toList.map AV.v))::h,ds⟩):
 OE P ro nt ⟨some d,.makeSlice T x y,ty,pos,after,guard⟩ ⟨t,h,ds⟩ next:=by
 intro X a w K Q hs hK
 refine ⟨zaj,?_⟩
 have hbi:=hby.h
 cases hi:P.info? E with
 |none=>simp [hi] at hbi
 |some inf=>
  simp [hi] at hbi
  have hwn:IntKind.i64.wrap (n:Int)=n:=IntWalk.i64_in _ ⟨by omega,by omega⟩
  have hwc:IntKind.i64.wrap (c:Int)=c:=IntWalk.i64_in _ ⟨by omega,by omega⟩
  let cells:Array Value:=if c * sz=0 then (#[]:Array Value) else Builtin.zeroCells zv.cells c
  have hmul:inf.bytes * c≤128 * 1099511627776:=Nat.mul_le_mul (by omega) hn
  have hl2:¬((inf.bytes:Int) * (c:Int) > 2 ^ 48):=by
   rw [←Int.natCast_mul]
   generalize inf.bytes * c=m at hmul ⊢
   omega
  have hsize:cells.size=c * sz:=by
   simp only [cells];split
   ·rename_i h0;rw [h0];rfl
   ·simp [Builtin.zeroCells,hzs]
  have e:(execOp a.eval (⟨some d,.makeSlice T x y,ty,pos,after,guard⟩:Oper)).run P w= .ok (.value (.slice (some ⟨w.heap.size,0,none⟩) n c)) {w with heap:=w.heap.push (.cells cells E (0,0))}:=by
   refine run_v _ ?_
   rw [(hs.env.rel x _ hx).v_eq,(hs.env.rel y _ hy).v_eq]
   have hai:∀(m:Nat) (w:World),(asInt (.int .i64 (m:Int))).run P w= .ok (m:Int) w:=fun m w=>rfl
   simp only [Instr.makeSlice,Sem.run_bind,run_underlying (h:=hu),hai,Result.andThen_ok,zc3 hi,hwn,hwc]
   rw [if_neg (by simp only [Bool.or_eq_true,decide_eq_true_eq,not_or];exact ⟨⟨⟨by omega,hl2⟩,by omega⟩,by omega⟩)]
   simp only [Sem.run_bind,run_askRoom,Result.andThen_ok,run_sizeOf (n:=sz),Int.toNat_natCast]
   by_cases h0:c * sz=0
   ·have hr0:Array.range 0= #[]:=by simp
    simp [h0,newRow,hr0,cells]
   ·simp [h0,newRow,run_zeroValue hz.h,cells,Builtin.zeroCells,hzs]
  rw [zbj rfl,e]
  have hx2:Res.holds {w with heap:=w.heap.push (.cells cells E (0,0))} (OO (.row (.slice (some ⟨w.heap.size,0,none⟩) n c) sz E (List.replicate n (zv.cells.toList.map AV.v))::h) X) (.row (.slice (some ⟨w.heap.size,0,none⟩) n c) sz E (List.replicate n (zv.cells.toList.map AV.v))):=by
   refine ⟨rfl,by simp,hnc,fun i hi=>by simp [hzs],cells,by simp,by simp [hsize],fun i hi j hj=> ?_⟩
   have hi':i < n:=by simpa using hi
   have hj':j < sz:=by simpa [hzs] using hj
   have h0:¬c * sz=0:=fun h0=>by rcases Nat.mul_eq_zero.1 h0 with h|h <;> omega
   have hz2:=yku (zv:=zv.cells) (n:=c) (i:=i) (j:=j) hzs (by omega) (by omega)
   refine ⟨zv.cells[j]'(by omega),?_,?_⟩
   ·simp only [cells,h0,if_false,Nat.zero_add];exact hz2
   ·simp only [List.getElem_replicate,List.getElem_map,Array.getElem_toList];exact .v _
  have hk2:Keep (j7 h) w (j7 (.row (.slice (some ⟨w.heap.size,0,none⟩) n c) sz E (List.replicate n (zv.cells.toList.map AV.v))::h)) {w with heap:=w.heap.push (.cells cells E (0,0))}:=Keep.alloc (h:=h) (.cells cells E (0,0)) (.row (.slice (some ⟨w.heap.size,0,none⟩) n c) sz E (List.replicate n (zv.cells.toList.map AV.v))) rfl
  have hh2:=hs.heap.alloc (.cells cells E (0,0)) (.row (.slice (some ⟨w.heap.size,0,none⟩) n c) sz E (List.replicate n (zv.cells.toList.map AV.v))) rfl hx2
  exact hK _ _ _ (hk w.heap.size) (Sim.put (s:=⟨t,.row (.slice (some ⟨w.heap.size,0,none⟩) n c) sz E (List.replicate n (zv.cells.toList.map AV.v))::h,ds⟩) ⟨hh2,hs.size,hs.fr.keep hk2.size (fun b hb hl=>hk2.oo b hb hl),hs.defs⟩ hlt (.v _)) hk2
theorem zsk {T E:TypeId} {full:Bool} {sz l k:Nat} {rows:List (List AV)} (hx:f x=some (.list full sz rows)) (hy:f y=some (.v (.int .i64 l))) (hz:f z=some (.v (.int .i64 k))) (hu:f u=some (.v (.int .i64 k)))
 (hl:l≤k) (hk:k≤rows.length) [Und P T (.slice E)] [Siz P E sz]:QR P h f ⟨dst,.slice T x (some y) (some z) (some u),ty,pos,after,guard⟩ (.list true sz ((rows.take k).drop l)):=fun X ρ w he=>by
 have hr:=he.rel x _ hx
 obtain ⟨a,cap,e,hc⟩:=zd1 hr
 obtain ⟨e1,e2⟩:=zh3 (P:=P) (T:=T) (E:=E)
 refine ⟨sliced a l k k sz,run_v _ ?_,?_⟩
 ·simp only [Option.map_some]
  rw [run_sliceAt_slice w T _ _ _ _ e2,e,(he.rel y _ hy).v_eq,(he.rel z _ hz).v_eq,(he.rel u _ hu).v_eq,run_slice_lhm w T a _ cap e2 .i64 .i64 .i64 l k k (by omega) (by omega) (by omega) (by omega),e1]
  simp only [run_sizeOf (n:=sz),Result.andThen_ok,Int.toNat_natCast]
 ·rw [e] at hr
  exact zga hr hl hk (Nat.le_refl _) (by omega) (fun _=>rfl)
theorem yq2 {T T':TypeId} {a b c:Int} (hx:f x=some (.v (.int .i64 a))) (hy:f y=some (.v (.int .i64 b))) (hb:b≠0) (hc:a.tdiv b=c) (hr: -9223372036854775808≤c∧c≤9223372036854775807):
 QR P h f ⟨dst,.binOp .quo T x y T',ty,pos,after,guard⟩ (.v (.int .i64 c)):=fun X ρ w he=>by
 refine ⟨_,run_v _ ?_,.v _⟩
 rw [(he.rel x _ hx).v_eq,(he.rel y _ hy).v_eq,ze7]
 simp [binOp,Op.intDiv,hb,hc,IntWalk.i64_in _ hr]
end
theorem y0.lendG {P:Program} {fv fv':AV} {args args':List AV} {h:List Res} {R:AV→List Res→Prop} (hc:y0 P fv' args' [] R) (hR:∀r h',R r h'→Scal r∧∀x∈h',ytj x)
 (hf:BLe h fv fv') (hle:ypp h args args'):y0 P fv args h (fun r h'=>∃h'',h'=h''++h∧R r h''):=by
 intro X w v vs hh hv ha
 refine (hc noX w v vs (zs8 w) (by rw [zrh];exact hf X w v hh hv) (by rw [zrh];exact hle.rels hh ha)).mono ?_
 rintro e w' ⟨u,av,h',e1,hRr,hrel,hh',hk⟩
 obtain ⟨hs1,hs2⟩:=hR _ _ hRr
 have hold:∀b,b < w.heap.size→w'.heap[b]? =w.heap[b]? ∧b ∉ j7 h':=fun b hb=>hk.same b hb (by simp [j7])
 have happ:j7 (h'++h)=j7 h'++j7 h:=by simp [j7,List.flatMap_append]
 have hkk:∀b,¬OO h X b→b < w.heap.size→w'.heap[b]? =w.heap[b]? ∧¬OO (h'++h) X b:=fun b hb hl=>by
  refine ⟨(hold b hl).1,fun q=> ?_⟩
  rcases q with q|q
  ·rw [happ,List.mem_append] at q
   rcases q with q|q
   ·exact (hold b hl).2 q
   ·exact hb (.inl q)
  ·exact hb (.inr q)
 have hh2:HRel X w' (h'++h):=by
  refine ⟨?_,fun b hb=> ?_,fun b hb=>Nat.lt_of_lt_of_le (hh.xlt b hb) hk.size,fun r hr=> ?_⟩
  ·rw [happ,List.nodup_append]
   exact ⟨hh'.nodup,hh.nodup,fun x hx y hy q=>(hold y (hh.lt y hy).1).2 (q ▸ hx)⟩
  ·rw [happ,List.mem_append] at hb
   rcases hb with hb|hb
   ·exact ⟨(hh'.lt b hb).1,fun hx=>(hold b (hh.xlt b hx)).2 hb⟩
   ·exact ⟨Nat.lt_of_lt_of_le (hh.lt b hb).1 hk.size,(hh.lt b hb).2⟩
  ·rcases List.mem_append.1 hr with hr|hr
   ·exact hs2 r hr (hh'.holds r hr)
   ·exact Res.holds_keep hk.size hkk (fun b hb=>(hold b (hh.lt b (zab.2 ⟨r,hr,hb⟩)).1).1) (hh.holds r hr)
 refine ⟨u,av,_,e1,⟨_,rfl,hRr⟩,hs1.rel hrel,hh2,⟨hk.size,fun b hb ho=>⟨(hold b hb).1,fun q=> ?_⟩,hk.env⟩⟩
 rw [happ,List.mem_append] at q
 exact q.elim (hold b hb).2 ho
end Go.Ab
namespace Go.H
open Go Go.Ab
abbrev iv (n:Int):AV:= .v (.int .i64 n)
abbrev bv (b:Bool):AV:= .v (.bool b)
abbrev sv (s:ByteArray):AV:= .v (.string s)
structure Ver where
 t:Int
 k:Int
 deriving DecidableEq
structure Seen where
 o:Int
 v:Ver
 deriving DecidableEq
structure Ev where
 kind:Int
 t:Int
 s:Int
 l:Int
 o:Int
 v:Ver
 p:Int
 scan:List Seen
 deriving DecidableEq
structure Ord where
 o:Int
 ts:List Int
 deriving DecidableEq
structure Mat where
 p:Int
 o:Int
 first:Bool
 ts:List Int
 deriving DecidableEq
structure Wan where
 s:Int
 bits:Int
 deriving DecidableEq
structure Hist where
 ts:List ByteArray
 ss:List ByteArray
 os:List ByteArray
 ps:List ByteArray
 evs:List Ev
 ords:List Ord
 mats:List Mat
 wants:List Wan
def zac (n:Int):List AV:= [iv n]
def zfe (s:ByteArray):List AV:= [sv s]
def yfm (v:Ver):List AV:= [iv v.t,iv v.k]
def zam (s:Seen):List AV:= [iv s.o,iv s.v.t,iv s.v.k]
def za1 (l:List Int):AV:= .list false 1 (l.map zac)
def zdg (l:List ByteArray):AV:= .list false 1 (l.map zfe)
def zfg (l:List Seen):AV:= .list false 3 (l.map zam)
def evR (e:Ev):List AV:= [iv e.kind,iv e.t,iv e.s,iv e.l,iv e.o,iv e.v.t,iv e.v.k,iv e.p,zfg e.scan]
def zeg (o:Ord):List AV:= [iv o.o,za1 o.ts]
def zd3 (m:Mat):List AV:= [iv m.p,iv m.o,bv m.first,za1 m.ts]
def zfq (w:Wan):List AV:= [iv w.s,iv w.bits]
def zq5 (l:List Ev):AV:= .list false 9 (l.map evR)
def zzl (l:List Ord):AV:= .list false 2 (l.map zeg)
def zve (l:List Mat):AV:= .list false 4 (l.map zd3)
def zuc (l:List Wan):AV:= .list false 2 (l.map zfq)
def w7 (h:Hist):List AV:= [zdg h.ts,zdg h.ss,zdg h.os,zdg h.ps,zq5 h.evs,zzl h.ords,zve h.mats,zuc h.wants]
def zli (h:Hist):List AV:= [zdg h.ts,zdg h.ss,zdg h.os,zdg h.ps]
def zbr {α:Type} (p:α→Bool) (i:Nat):List α→Int
 | []=> -1
 |x::r=>if p x then i else zbr p (i+1) r
theorem zer {α:Type} (p:α→Bool):∀(l:List α) (i:Nat),decide (zbr p i l ≥ 0)=l.any p
 | [],i=>by simp [zbr]
 |x::r,i=>by
  simp only [zbr,List.any_cons]
  split
  ·rename_i h;simp [h]
  ·rename_i h;simp [h,zer p r (i+1)]
theorem zjc {α:Type} (p:α→Bool):∀(l:List α),(!l.any fun a=> !p a)=l.all p
 | []=>rfl
 |x::r=>by
  have:=zjc p r
  simp only [List.any_cons,List.all_cons,Bool.not_or,Bool.not_not,this]
def zje {α β:Type} (p:α→β→Bool):List α→List β→Bool
 |x::xs,y::ys=>p x y && zje p xs ys
 |_,_=>true
theorem zh0 {α β:Type} (p:α→β→Bool) (m:List β):zje p [] m=true:=by cases m <;> rfl
def eqF {α β:Type} (p:α→β→Bool) (l:List α) (m:List β):Bool:=l.length==m.length && zje p l m
def zkv (a b:Int):Bool:=a==b
def zrr (a b:ByteArray):Bool:=a.toList==b.toList
def zf7 (a b:Seen):Bool:= [a.o,a.v.t,a.v.k]== [b.o,b.v.t,b.v.k]
def yk3 (a b:Wan):Bool:= [a.s,a.bits]== [b.s,b.bits]
theorem zsv {b:Bool} (h:(!b)=true):b=false:=by simpa using h
theorem zsw {b:Bool} (h:(!b)=false):b=true:=by simpa using h
theorem zgg {α:Type} [DecidableEq α] {p:α→α→Bool} (hp:∀a b,p a b=decide (a=b)):∀(l m:List α),eqF p l m=decide (l=m)
 | [],[]=>by simp [eqF,zje]
 |x::xs,[]=>by simp [eqF]
 | [],y::ys=>by simp [eqF]
 |x::xs,y::ys=>by
  have:=zgg hp xs ys
  simp only [eqF] at this
  simp only [eqF,zje,List.length_cons,hp]
  by_cases h:x=y
  ·subst h
   simp only [decide_true,Bool.true_and,List.cons.injEq,true_and]
   rw [←this]
   congr 1
   simp
  ·simp [h]
def zkb (c:Int):Bool:=decide (c ≥ 48) && decide (c≤57)
def zt7 (c:Int):Bool:=c==95||(decide (c ≥ 97) && decide (c≤122))||(decide (c ≥ 65) && decide (c≤90))||decide (c ≥ 128)
def zcb (l:List ByteArray) (n:Int):Bool:=decide (n ≥ 0) && decide (n < l.length)
def zov (ts:List ByteArray) (v:Ver):Bool:=if v.k==0 then v.t==0 else zcb ts v.t && decide (v.k > 0) && decide (v.k≤999)
def yh3 (l:Int):Int:=if decide (l < 1)||decide (l > 4) then 190 else 0
def zj3 (a b:Ev):Bool:=a.kind==b.kind && a.t==b.t && a.s==b.s && a.l==b.l && a.o==b.o && [a.v.t,a.v.k]== [b.v.t,b.v.k] && a.p==b.p && eqF zf7 a.scan b.scan
def ym8 (a b:Ord):Bool:=a.o==b.o && eqF zkv a.ts b.ts
def ynr (a b:Mat):Bool:=a.p==b.p && a.o==b.o && (a.first==b.first) && eqF zkv a.ts b.ts
structure Lim (N:Nat) (h:Hist):Prop where
 ts:h.ts.length≤N
 ss:h.ss.length≤N
 os:h.os.length≤N
 ps:h.ps.length≤N
 evs:h.evs.length≤N
 ords:h.ords.length≤N
 mats:h.mats.length≤N
 wants:h.wants.length≤N
 scans:∀e∈h.evs,e.scan.length≤N
 ordts:∀o∈h.ords,o.ts.length≤N
 matts:∀m∈h.mats,m.ts.length≤N
structure Big (h:Hist):Prop where
 lim:Lim 4611686018427387904 h
 ts:h.ts.length≤8796093022208
 ss:h.ss.length≤8796093022208
 os:h.os.length≤8796093022208
 ps:h.ps.length≤8796093022208
 ords:h.ords.length≤4398046511104
 mats:h.mats.length≤2932031007402
 wants:h.wants.length≤8796093022208
 scans:∀e∈h.evs,e.scan.length≤5864062014805
 ordts:∀o∈h.ords,o.ts.length≤17592186044416
 matts:∀m∈h.mats,m.ts.length≤17592186044416
def nmK (h:Hist):Nat→List ByteArray
 |0=>h.ts
 |1=>h.ss
 |2=>h.os
 |_=>h.ps
theorem yck (h:Hist) {k:Nat} (hk:k < 4):(zli h)[k]? =some (zdg (nmK h k)):=by
 match k,hk with
 |0,_=>rfl
 |1,_=>rfl
 |2,_=>rfl
 |3,_=>rfl
theorem Lim.nm {N:Nat} {h:Hist} (l:Lim N h) (k:Nat):(nmK h k).length≤N:=by
 match k with
 |0=>exact l.ts
 |1=>exact l.ss
 |2=>exact l.os
 |k+3=>exact l.ps
def zvc (a b:Hist) (k:Nat):Bool:=eqF zrr (nmK a k) (nmK b k)
def zun (a b:Hist):Bool:=(List.range 4).all (zvc a b) && eqF ym8 a.ords b.ords && eqF ynr a.mats b.mats && eqF yk3 a.wants b.wants && eqF zj3 a.evs b.evs
def zew (h:Hist) (e:Ev):Bool:=zcb h.ss e.s && yh3 e.l==0
def zbx (h:Hist) (e:Ev):Bool:=zcb h.os e.o && zov h.ts e.v && e.v.t==e.t && decide (e.v.k > 0)
def zep (h:Hist) (e:Ev):Bool:=zcb h.os e.o && zov h.ts e.v
def zf8 (h:Hist) (s:Seen):Bool:=zcb h.os s.o && zov h.ts s.v
def zc6 (h:Hist) (e:Ev):Bool:=zcb h.ps e.p && decide ((e.scan.length:Int)≤40) && e.scan.all (zf8 h)
def zf6 (h:Hist) (e:Ev):Ev×Bool:=
 if e.kind=1 then (⟨0,0,e.s,e.l,0,⟨0,0⟩,0,[]⟩,zew h e) else
 if e.kind=2 then (⟨0,0,0,0,e.o,e.v,0,[]⟩,zbx h e) else
 if e.kind=3 then (⟨0,0,0,0,e.o,e.v,0,[]⟩,zep h e) else
 if e.kind=4 then (⟨0,0,0,0,0,⟨0,0⟩,e.p,e.scan⟩,zc6 h e) else
 (⟨0,0,0,0,0,⟨0,0⟩,0,[]⟩,true)
def zb3 (h:Hist) (e:Ev):Bool:=
 !(decide (e.kind < 1)||decide (e.kind ≥ 7)|| !zcb h.ts e.t) && ((zf6 h e).2 && zj3 {(zf6 h e).1 with kind:=e.kind,t:=e.t} e)
theorem yed (h:Hist) (e:Ev) {N:Nat} (he:e.scan.length≤N):(zf6 h e).1.scan.length≤N:=by
 unfold zf6;repeat' split
 all_goals simp [he]
def tsB (h:Hist) (ts:List Int):Bool:=decide ((ts.length:Int)≤300) && ts.all (zcb h.ts)
def zrk (h:Hist) (r:Ord):Bool:=zcb h.os r.o && tsB h r.ts
def zvf (h:Hist) (r:Mat):Bool:=zcb h.ps r.p && zcb h.os r.o && tsB h r.ts
def zwg (h:Hist) (r:Wan):Bool:=zcb h.ss r.s && decide (r.bits ≥ 0) && decide (r.bits≤15)
def bt (s:ByteArray) (i:Nat):Int:=if h:i < s.size then ((s[i]'h).toNat:Int) else 0
def zau (i:Nat):Int:=
 if i < 128 then 240 else if i < 194 then 241 else if i < 224 then 2 else if i=224 then 19 else if i < 237 then 3 else if i=237 then 35 else
 if i < 240 then 3 else if i=240 then 52 else if i < 244 then 4 else if i=244 then 68 else 241
def y7:List AV:=(List.range 256).map fun i=> .v (.int .u8 (zau i))
def zbu:Nat→Int
 |1=>160
 |3=>144
 |_=>128
def zbv:Nat→Int
 |2=>159
 |4=>143
 |_=>191
def y2:List AV:= [.v (.int .u8 128),.v (.int .u8 191),.v (.int .u8 160),.v (.int .u8 191),.v (.int .u8 128),.v (.int .u8 159),.v (.int .u8 144),.v (.int .u8 191),.v (.int .u8 128),.v (.int .u8 143)]++List.replicate 22 (.v (.int .u8 0))
def y5:List AV:= [iv 300,iv 60,iv 300,iv 60]
def bI (op:BinOp) (k:IntKind) (x y:Int):Int:=(yi1 op k x y).getD 0
def sI (op:BinOp) (k:IntKind) (x y:Int):Int:=(yaw op k x y).getD 0
def zdi (b m sh:Int):Int:=if sh=0 then IntKind.i32.wrap (bI .and .u8 b m) else sI .shl .i32 (IntKind.i32.wrap (bI .and .u8 b m)) sh
def zk1 (x:Int):Int:=sI .shr .i32 (sI .shl .i32 (IntKind.i32.wrap x) 31) 31
def y9 (s:ByteArray):Int×Int:=
 if s.size < 1 then (65533,0) else
 let x:=zau (bt s 0).toNat
 if x ≥ 240 then (bI .or .i32 (bI .andNot .i32 (IntKind.i32.wrap (bt s 0)) (zk1 x)) (bI .and .i32 65533 (zk1 x)),1) else
 let sz:=x % 8
 let acc:=(x / 16).toNat
 if (s.size:Int) < sz then (65533,1) else
 if bt s 1 < zbu acc∨zbv acc < bt s 1 then (65533,1) else
 if sz≤2 then (bI .or .i32 (zdi (bt s 0) 31 6) (zdi (bt s 1) 63 0),2) else
 if bt s 2 < 128∨191 < bt s 2 then (65533,1) else
 if sz≤3 then (bI .or .i32 (bI .or .i32 (zdi (bt s 0) 15 12) (zdi (bt s 1) 63 6)) (zdi (bt s 2) 63 0),3) else
 if bt s 3 < 128∨191 < bt s 3 then (65533,1) else
 (bI .or .i32 (bI .or .i32 (bI .or .i32 (zdi (bt s 0) 7 18) (zdi (bt s 1) 63 12)) (zdi (bt s 2) 63 6)) (zdi (bt s 3) 63 0),4)
def zfk (s:ByteArray):Int×Int:=if 0 < s.size∧bt s 0 < 128 then (bt s 0,1) else y9 s
theorem zg4 (s:ByteArray) (i:Nat):0≤bt s i:=by unfold bt;split <;> omega
theorem zg3 (s:ByteArray) (i:Nat):bt s i < 256:=by
 unfold bt;split
 ·rename_i h;have:=(s[i]'h).toNat_lt;omega
 ·omega
section
variable {P:Program} {dst:Option Tmp} {ty:TypeId} {pos:String} {after:Array Edge} {guard:Option (Nat×Bool)} {x y:Operand} {h:List Res} {f:Operand→Option AV}
theorem j6 {T:TypeId} (i:Nat) {s:ByteArray} (hx:f x=some (.v (.string s))) (hy:f y=some (.v (.int .i64 i))) [Und P T .string] (hi:i < s.size):
 QR P h f ⟨dst,.index T x y,ty,pos,after,guard⟩ (.v (.int .u8 (bt s i))):=by
 have:=zsm (P:=P) (h:=h) (T:=T) (dst:=dst) (ty:=ty) (pos:=pos) (after:=after) (guard:=guard) hx hy hi
 have e:bt s i=((s[i]'hi).toNat:Int):=by simp [bt,hi]
 rw [e];exact this
theorem y6 {T E:TypeId} {n b o sz:Nat} {i:Int} {kk:IntKind} (hx:f x=some (.v (.pointer (some ⟨b,o,none⟩)))) (hy:f y=some (.v (.int kk i))) [Und P T (.array n E)] [Siz P E sz] (h0:0≤i) (hi:i < n):
 QR P h f ⟨dst,.indexAddr T x y,ty,pos,after,guard⟩ (.v (.pointer (some ⟨b,o+i.toNat * sz,none⟩))):=
 zas (i:=i.toNat) hx (by rw [Int.toNat_of_nonneg h0];exact hy) (by omega)
end
theorem zda {i:Int} (h0:0≤i) (h1:i < 256):y7[0+i.toNat * 1]? =some (.v (.int .u8 (zau i.toNat))):=by
 simp [y7,show i.toNat < 256 by omega]
def yrw:Nat→Nat
 |0=>300
 |1=>60
 |2=>300
 |_=>60
theorem zvj {k:Nat} (hk:k < 4):y5[0+k * 1]? =some (iv (yrw k)):=by
 match k,hk with
 |0,_=>rfl
 |1,_=>rfl
 |2,_=>rfl
 |3,_=>rfl
theorem zex (i:Nat):zau i=240∨zau i=241∨zau i=2∨zau i=19∨zau i=3∨zau i=35∨zau i=52∨zau i=4∨zau i=68:=by
 unfold zau;repeat' split
 all_goals simp
theorem yee (s:ByteArray) (i:Nat):IntKind.i32.wrap (bt s i)=bt s i:=by
 have h0:=zg4 s i;have h1:=zg3 s i
 have e:bt s i % (2 ^ IntKind.i32.bits:Int)=bt s i:=Int.emod_eq_of_lt h0 (show bt s i < 4294967296 by omega)
 unfold IntKind.wrap
 simp only [e]
 rw [if_neg]
 intro q
 have q2:bt s i ≥ (2 ^ (IntKind.i32.bits - 1):Int):=by simpa using (Bool.and_eq_true_iff.1 q).2
 have:(2 ^ (IntKind.i32.bits - 1):Int)=2147483648:=by decide
 omega
theorem yar {s:ByteArray} (h:(s.toList !=(ByteArray.mk #[]).toList)=true):0 < s.size:=by
 refine Nat.pos_of_ne_zero fun q=> ?_
 have e:s=⟨#[]⟩:=by cases s;congr 1;exact Array.eq_empty_of_size_eq_zero q
 rw [e] at h;simp at h
theorem yjk {s:ByteArray} (h:(s.toList !=(ByteArray.mk #[]).toList)=false):¬0 < s.size:=by
 intro q
 have e:s.toList=(ByteArray.mk #[]).toList:=by simpa using h
 rw [ByteArray.toList_eq,ByteArray.toList_eq] at e
 have:s.size=0:=by
  have h2:=congrArg List.length e
  simpa using h2
 omega
def zrq (s:ByteArray) (i:Nat) (c:Int):Bool:=c !=65533||decide ((zfk (s.extract i s.size)).2 > 1)
theorem zjf (s:ByteArray) (i:Nat):0 < (Utf8.decode s i).2:=by
 simp only [Utf8.decode]
 repeat' split
 all_goals simp
def zek (s:ByteArray) (p:Nat→Int→Bool) (pos:Nat):Nat:=
 if h:pos < s.size then
  if p pos (Utf8.decode s pos).1 then zek s p (pos+(Utf8.decode s pos).2) else pos
 else s.size
 termination_by s.size - pos
 decreasing_by have:=zjf s pos;omega
theorem zjg {s:ByteArray} {p:Nat→Int→Bool} {k:Nat} (h:k < s.size) (hp:p k (Utf8.decode s k).1=true):zek s p k=zek s p (k+(Utf8.decode s k).2):=by
 rw [zek,dif_pos h,if_pos hp]
theorem ziy {s:ByteArray} {p:Nat→Int→Bool} {k:Nat} (h:k < s.size) (hp:p k (Utf8.decode s k).1=false):zek s p k=k:=by
 rw [zek,dif_pos h,if_neg (by simp [hp])]
theorem zh2 {s:ByteArray} {p:Nat→Int→Bool} {k:Nat} (h:¬k < s.size):zek s p k=s.size:=by
 rw [zek,dif_neg h]
def zd9 (s:ByteArray) (goes:Int→Bool) (i:Nat) (c:Int):Bool:=zrq s i c && goes c
def zdx (c:Int):Bool:=zt7 c||zkb c
def zg9 (s:ByteArray):Bool:=(!(s.toList== [])) && decide ((s.size:Int)≤24) && (!zkb (bt s 0)) && ((zek s (zd9 s zdx) 0:Int)==s.size)
def zbn:List ByteArray→List ByteArray→Bool
 |_,[]=>true
 |met,s::r=>zg9 s && (!yab s met) && zbn (met++ [s]) r
def zcx (most:Nat) (l:List ByteArray):Bool:=decide ((l.length:Int)≤most) && zbn [] l
def zry (h:Hist):Bool:=decide ((h.evs.length:Int)≤3000) && decide (max (max (h.ords.length:Int) h.mats.length) h.wants.length≤3000)
def okK (h:Hist):Nat→Bool
 |0=>zry h
 |k+1=>okK h k && zcx (yrw k) (nmK h k)
def zad (h:Hist):Bool:=
 okK h 4 && h.evs.all (zb3 h) && h.ords.all (zrk h) && h.mats.all (zvf h) && h.wants.all (zwg h)
theorem zwv (h:Hist):okK h 0=(decide (((h.evs.map evR).length:Int)≤3000) && decide (max (max ((h.ords.map zeg).length:Int) (h.mats.map zd3).length) (h.wants.map zfq).length≤3000)):=by
 simp [okK,zry]
theorem zju {h:Hist} {k:Nat} (hk:okK h k=false):∀n,okK h (k+n)=false
 |0=>hk
 |n+1=>by
  have ih:=zju hk n
  show (okK h (k+n) && _)=false
  rw [ih,Bool.false_and]
def okj (h:Hist) (k j:Nat):Bool:=okK h k && decide (((nmK h k).length:Int)≤yrw k)
theorem yj0 (h:Hist) (k:Nat):okj h k 0=(okK h k && decide ((((nmK h k).map zfe).length:Int)≤yrw k)):=by simp [okj]
theorem yul {o:Bool} {l m r:List ByteArray} {x:ByteArray} (hf:zbn [] l=zbn m (x::r)) (h:(o && zg9 x && !yab x m)=false):o=false∨zbn [] l=false:=by
 cases o with
 |false=>exact .inl rfl
 |true=>rw [Bool.true_and] at h;rw [hf,zbn,h,Bool.false_and];exact .inr rfl
theorem yrg {o a b:Bool} (h:(o && a && !b)=true):o=true∧a=true∧b=false:=by
 cases o <;> cases a <;> cases b <;> simp_all
theorem yre {h:Hist} {k:Nat} (h0:zbn [] (nmK h k)=true):okj h k 0=okK h (k+1):=by
 simp [okj,okK,zcx,h0]
theorem yrf {h:Hist} {k:Nat} (hk:k < 4) (h0:okj h k 0=false∨zbn [] (nmK h k)=false):okK h 4=false:=by
 have h1:okK h (k+1)=false:=by
  rcases h0 with h0|h0
  ·simp only [okK,zcx];simp only [okj] at h0;rw [←Bool.and_assoc,h0,Bool.false_and]
  ·simp [okK,zcx,h0]
 have:=zju h1 (3 - k)
 rwa [show k+1+(3 - k)=4 by omega] at this
def zgw (v:Ver):List (Nat×Int):=if decide (v.k > 0) then [(0,v.t)] else []
def zul (s:Seen):List (Nat×Int):=(2,s.o)::zgw s.v
def zgy (e:Ev):List (Nat×Int):=if e.kind=1 then [(1,e.s)] else if e.kind=2∨e.kind=3 then (2,e.o)::zgw e.v else if e.kind=4 then [(3,e.p)] else []
theorem yc4 {e:Ev} (h:e.kind=1):zgy e= [(1,e.s)]:=by rw [zgy,if_pos h]
theorem znk {e:Ev} (h:e.kind=2∨e.kind=3):zgy e=(2,e.o)::zgw e.v:=by rw [zgy,if_neg (by omega),if_pos h]
theorem yc3 {e:Ev} (h:e.kind=4):zgy e= [(3,e.p)]:=by rw [zgy,if_neg (by omega),if_neg (by omega),if_pos h]
theorem yc5 {e:Ev} (h1:e.kind≠1) (h2:e.kind≠2) (h3:e.kind≠3) (h4:e.kind≠4):zgy e= []:=by rw [zgy,if_neg h1,if_neg (by omega),if_neg h4]
def evL (e:Ev):List (Nat×Int):=(0,e.t)::(zgy e++e.scan.flatMap zul)
def tsL (l:List Int):List (Nat×Int):=l.map fun t=>(0,t)
def yjy (r:Ord):List (Nat×Int):=(2,r.o)::tsL r.ts
def ye9 (r:Mat):List (Nat×Int):=(3,r.p)::(2,r.o)::tsL r.ts
def yak (r:Wan):List (Nat×Int):= [(1,r.s)]
def zc2 (h:Hist):List (Nat×Int):=h.evs.flatMap evL++(h.ords.flatMap yjy++(h.mats.flatMap ye9++h.wants.flatMap yak))
def goes {σ α:Type} (step:σ→α→Option σ):Option σ→List α→Option σ
 |st,[]=>st
 |st,x::r=>goes step (st.bind fun s=>step s x) r
theorem znm {σ α:Type} (step:σ→α→Option σ):∀(l m:List α) (st:Option σ),goes step st (l++m)=goes step (goes step st l) m
 | [],m,st=>rfl
 |x::l,m,st=>znm step l m _
theorem zta {σ α:Type} (step:σ→α→Option σ):∀(l:List α),goes step none l=none
 | []=>rfl
 |x::l=>zta step l
def Rem {σ α:Type} (step:σ→α→Option σ) (ok:α→Prop) (st:Option σ) (l:List α) (F:Option σ):Prop:=goes step st l=F∧∀x∈l,ok x
section
variable {σ α:Type} {step:σ→α→Option σ} {ok:α→Prop} {st F:Option σ} {l m:List α} {x:α}
theorem Rem.cons (h:Rem step ok st (x::l) F):ok x∧Rem step ok (goes step st [x]) l F:=⟨h.2 x (by simp),h.1,fun y hy=>h.2 y (by simp [hy])⟩
theorem Rem.app (h:Rem step ok st (l++m) F):(∀x∈l,ok x)∧Rem step ok (goes step st l) m F:=⟨fun y hy=>h.2 y (by simp [hy]),by rw [←znm];exact h.1,fun y hy=>h.2 y (by simp [hy])⟩
theorem Rem.fin (h:Rem step ok st [] F):st=F:=h.1
end
def zba (m:List Int) (x:Nat×Int):Option (List Int):=
 let a:=m.getD x.1 0
 if x.2 > a then none else some (m.set x.1 (max a (x.2+1)))
def zoq (h:Hist):Option (List Int):=goes zba (some [0,0,0,0]) (zc2 h)
def znj (h:Hist):List Int:= [h.ts.length,h.ss.length,h.os.length,h.ps.length]
def zfz (h:Hist):Bool:=zad h && (zoq h==some (znj h))
def zee (h:Hist):Int:=if zfz h then 0 else 210
def yr8:Hist:=⟨[],[],[],[],[],[],[],[]⟩
def ofL (t:Int):Nat→List Ev→List Int
 |_,[]=> []
 |i,e::r=>if e.t=t then (i:Int)::ofL t (i+1) r else ofL t (i+1) r
def zx9 (l:List Ev) (t:Int):Bool:=l.any fun e=>e.t==t && e.kind==1
def yug (l:List Ev) (t:Int):Bool:=l.any fun e=>e.t==t && (e.kind==5||e.kind==6)
def ytf (t:Nat):Ev:=⟨6,t,0,0,0,⟨0,0⟩,0,[]⟩
def yrc (h:Hist):List Nat:=(List.range h.ts.length).filter fun t=>zx9 h.evs t && !yug h.evs t
def ykk (h:Hist):Hist:={h with evs:=h.evs++(yrc h).map ytf}
def yd4 (h:Hist):Int:=if zfz h then (if h.evs.length+(yrc h).length≤3000 then 0 else 6) else 210
def ykj (h:Hist):Hist:=if yd4 h=0 then ykk h else yr8
def ofR (h:Hist) (t:Int):List Int:=if zfz h then ofL t 0 h.evs else []
def zrp {σ α:Type} (f:σ→α→α×σ):σ→List α→List α×σ
 |s,[]=>([],s)
 |s,x::r=>((f s x).1::(zrp f (f s x).2 r).1,(zrp f (f s x).2 r).2)
section
variable {σ:Type} (f:σ→Nat→Int→Int×σ)
def yaq (s:σ) (v:Ver):Ver×σ:=if decide (v.k > 0) then (⟨(f s 0 v.t).1,v.k⟩,(f s 0 v.t).2) else (v,s)
def yfo (s:σ) (x:Seen):Seen×σ:=
 let a:=f s 2 x.o
 let b:=yaq f a.2 x.v
 (⟨a.1,b.1⟩,b.2)
def yfp (s:σ) (e:Ev):Ev×σ:=
 if e.kind=1 then let a:=f s 1 e.s;({e with s:=a.1},a.2) else
 if e.kind=2∨e.kind=3 then let a:=f s 2 e.o;let b:=yaq f a.2 e.v;({e with o:=a.1,v:=b.1},b.2) else
 if e.kind=4 then let a:=f s 3 e.p;({e with p:=a.1},a.2) else (e,s)
def ypv (s:σ) (e:Ev):Ev×σ:=
 let a:=f s 0 e.t
 let b:=yfp f a.2 {e with t:=a.1}
 let c:=zrp (yfo f) b.2 e.scan
 ({b.1 with scan:=c.1},c.2)
def yji (s:σ) (l:List Int):List Int×σ:=zrp (fun s n=>f s 0 n) s l
def yk7 (s:σ) (r:Ord):Ord×σ:=
 let a:=f s 2 r.o
 let b:=yji f a.2 r.ts
 (⟨a.1,b.1⟩,b.2)
def yk8 (s:σ) (r:Mat):Mat×σ:=
 let a:=f s 3 r.p
 let b:=f a.2 2 r.o
 let c:=yji f b.2 r.ts
 (⟨a.1,b.1,r.first,c.1⟩,c.2)
def yk6 (s:σ) (r:Wan):Wan×σ:=let a:=f s 1 r.s;(⟨a.1,r.bits⟩,a.2)
def ytw (s:σ) (h:Hist):Hist×σ:=
 let a:=zrp (ypv f) s h.evs
 let b:=zrp (yk7 f) a.2 h.ords
 let c:=zrp (yk8 f) b.2 h.mats
 let d:=zrp (yk6 f) c.2 h.wants
 ({h with evs:=a.1,ords:=b.1,mats:=c.1,wants:=d.1},d.2)
end
def zkq (n:Int):Nat→List Int→Option Nat
 |_,[]=>none
 |i,x::r=>if x=n then some i else zkq n (i+1) r
abbrev ypo:=List (List Int)
def ynd (k:ypo) (sort:Nat) (n:Int):Int×ypo:=
 match zkq n 0 (k.getD sort []) with
 |some i=>((i:Int),k)
 |none=>(((k.getD sort []).length:Int),k.set sort (k.getD sort []++ [n]))
def yuk:ypo:= [[],[],[],[]]
def zxc (l:List ByteArray) (n:Int):ByteArray:=l.getD n.toNat ⟨#[]⟩
def ync (h:Hist):Hist:=
 let r:=ytw ynd yuk h
 {r.1 with ts:=(r.2.getD 0 []).map (zxc h.ts),ss:=(r.2.getD 1 []).map (zxc h.ss),os:=(r.2.getD 2 []).map (zxc h.os),ps:=(r.2.getD 3 []).map (zxc h.ps)}
def numR (h:Hist):Hist:=if zad h then ync h else yr8
def yvp (h:Hist):Int:=if zad h then 0 else 210
theorem ya1 (a b:Seen):zf7 a b=decide (a=b):=by
 obtain ⟨ao,at_,ak⟩:=a;obtain ⟨bo,bt_,bk⟩:=b
 simp only [zf7,Seen.mk.injEq,Ver.mk.injEq]
 by_cases h1:ao=bo <;> by_cases h2:at_=bt_ <;> by_cases h3:ak=bk <;> simp [h1,h2,h3]
theorem zvv (a b:Ev):zj3 a b=decide (a=b):=by
 obtain ⟨a1,a2,a3,a4,a5,⟨a6,a7⟩,a8,a9⟩:=a;obtain ⟨b1,b2,b3,b4,b5,⟨b6,b7⟩,b8,b9⟩:=b
 simp only [zj3,zgg ya1,Ev.mk.injEq,Ver.mk.injEq]
 rw [Bool.eq_iff_iff]
 simp [and_assoc]
def OkN (h:Hist) (x:Nat×Int):Prop:=x.1 < 4∧0≤x.2∧x.2 < (nmK h x.1).length
theorem zbh (l:List ByteArray) (n:Int):zcb l n=true ↔ 0≤n∧n < l.length:=by simp [zcb]
theorem zvh {h:Hist} {v:Ver} (hv:zov h.ts v=true):∀x∈zgw v,OkN h x:=by
 intro x hx
 unfold zgw at hx
 split at hx
 ·rename_i hk
  have hk':v.k > 0:=oT hk
  simp only [List.mem_singleton] at hx
  subst hx
  unfold zov at hv
  rw [if_neg (by simp;omega)] at hv
  simp only [Bool.and_eq_true,zbh] at hv
  exact ⟨by simp,hv.1.1.1,hv.1.1.2⟩
 ·simp at hx
theorem seen_ok {h:Hist} {s:Seen} (hs:zf8 h s=true):∀x∈zul s,OkN h x:=by
 simp only [zf8,Bool.and_eq_true,zbh] at hs
 intro x hx
 simp only [zul,List.mem_cons] at hx
 rcases hx with rfl|hx
 ·exact ⟨by simp,hs.1.1,hs.1.2⟩
 ·exact zvh hs.2 x hx
theorem zb6 {h:Hist} {e:Ev} (he:zb3 h e=true):1≤e.kind∧e.kind < 7∧zcb h.ts e.t=true∧(zf6 h e).2=true∧{(zf6 h e).1 with kind:=e.kind,t:=e.t}=e:=by
 simp only [zb3,zvv,Bool.and_eq_true,Bool.not_eq_true',Bool.or_eq_false_iff,decide_eq_true_eq,decide_eq_false_iff_not,Bool.not_eq_false'] at he
 exact ⟨by omega,by omega,he.1.2,he.2.1,he.2.2⟩
theorem yu4 {h:Hist} {e:Ev} (he:zb3 h e=true):∀x∈evL e,OkN h x:=by
 obtain ⟨h1,h7,ht,hc,hq⟩:=zb6 he
 have ht':=(zbh _ _).1 ht
 intro x hx
 simp only [evL,List.mem_cons,List.mem_append] at hx
 rcases hx with rfl|hx
 ·exact ⟨by simp,ht'.1,ht'.2⟩
 unfold zf6 at hc hq
 by_cases k1:e.kind=1
 ·rw [if_pos k1] at hc hq
  simp only [zew,Bool.and_eq_true,zbh] at hc
  have hs:e.scan= []:=by rw [←hq]
  rw [hs,yc4 k1] at hx
  simp only [List.mem_singleton,List.flatMap_nil,List.not_mem_nil,or_false] at hx
  subst hx;exact ⟨by simp,hc.1.1,hc.1.2⟩
 rw [if_neg k1] at hc hq
 by_cases k2:e.kind=2
 ·rw [if_pos k2] at hc hq
  simp only [zbx,Bool.and_eq_true,zbh] at hc
  have hs:e.scan= []:=by rw [←hq]
  rw [hs,znk (.inl k2)] at hx
  simp only [List.mem_cons,List.flatMap_nil,List.not_mem_nil,or_false] at hx
  rcases hx with rfl|hx
  ·exact ⟨by simp,hc.1.1.1.1,hc.1.1.1.2⟩
  ·exact zvh hc.1.1.2 x hx
 rw [if_neg k2] at hc hq
 by_cases k3:e.kind=3
 ·rw [if_pos k3] at hc hq
  simp only [zep,Bool.and_eq_true,zbh] at hc
  have hs:e.scan= []:=by rw [←hq]
  rw [hs,znk (.inr k3)] at hx
  simp only [List.mem_cons,List.flatMap_nil,List.not_mem_nil,or_false] at hx
  rcases hx with rfl|hx
  ·exact ⟨by simp,hc.1.1,hc.1.2⟩
  ·exact zvh hc.2 x hx
 rw [if_neg k3] at hc hq
 by_cases k4:e.kind=4
 ·rw [if_pos k4] at hc hq
  simp only [zc6,Bool.and_eq_true,zbh,List.all_eq_true] at hc
  rw [yc3 k4] at hx
  simp only [List.mem_singleton,List.mem_flatMap] at hx
  rcases hx with rfl|⟨s,hs,hx⟩
  ·exact ⟨by simp,hc.1.1.1,hc.1.1.2⟩
  ·exact seen_ok (hc.2 s hs) x hx
 rw [if_neg k4] at hc hq
 have hs:e.scan= []:=by rw [←hq]
 rw [hs,yc5 k1 k2 k3 k4] at hx
 simp at hx
theorem ypt {h:Hist} {ts:List Int} (ht:tsB h ts=true):∀x∈tsL ts,OkN h x:=by
 simp only [tsB,Bool.and_eq_true,List.all_eq_true,zbh] at ht
 intro x hx
 simp only [tsL,List.mem_map] at hx
 obtain ⟨t,h1,rfl⟩:=hx
 exact ⟨by simp,(ht.2 t h1).1,(ht.2 t h1).2⟩
theorem zd0 {h:Hist} (hs:zad h=true):okK h 4=true∧(∀e∈h.evs,zb3 h e=true)∧(∀r∈h.ords,zrk h r=true)∧(∀r∈h.mats,zvf h r=true)∧∀r∈h.wants,zwg h r=true:=by
 simp only [zad,Bool.and_eq_true,List.all_eq_true] at hs
 exact ⟨hs.1.1.1.1,hs.1.1.1.2,hs.1.1.2,hs.1.2,hs.2⟩
theorem zr0 {h:Hist} (hs:zad h=true):∀x∈zc2 h,OkN h x:=by
 obtain ⟨_,h1,h2,h3,h4⟩:=zd0 hs
 intro x hx
 simp only [zc2,List.mem_append,List.mem_flatMap] at hx
 rcases hx with ⟨e,he,hx⟩|⟨r,hr,hx⟩|⟨r,hr,hx⟩|⟨r,hr,hx⟩
 ·exact yu4 (h1 e he) x hx
 ·have:=h2 r hr
  simp only [zrk,Bool.and_eq_true,zbh] at this
  simp only [yjy,List.mem_cons] at hx
  rcases hx with rfl|hx
  ·exact ⟨by simp,this.1.1,this.1.2⟩
  ·exact ypt this.2 x hx
 ·have:=h3 r hr
  simp only [zvf,Bool.and_eq_true,zbh] at this
  simp only [ye9,List.mem_cons] at hx
  rcases hx with rfl|rfl|hx
  ·exact ⟨by simp,this.1.1.1,this.1.1.2⟩
  ·exact ⟨by simp,this.1.2.1,this.1.2.2⟩
  ·exact ypt this.2 x hx
 ·have:=h4 r hr
  simp only [zwg,Bool.and_eq_true,zbh] at this
  simp only [yak,List.mem_singleton] at hx
  subst hx
  exact ⟨by simp,this.1.1.1,this.1.1.2⟩
theorem yuz {m:List Int} (hl:m.length=4) {k:Nat} (hk:k < 4):(m.map iv)[0+k * 1]? =some (iv (m.getD k 0)):=by
 have h:k < m.length:=by omega
 simp [h]
theorem yv7 {m:List Int} (hl:m.length=4) {k:Nat} (hk:k < 4) (v:Int):(m.map iv).take (0+k * 1)++ [iv v]++(m.map iv).drop (0+k * 1+1)=(m.set k v).map iv:=by
 match m,hl with
 | [a,b,c,d],_=>
   match k,hk with
   |0,_=>rfl
   |1,_=>rfl
   |2,_=>rfl
   |3,_=>rfl
theorem yiy {h:Hist} (hs:zad h=false):zee h=210:=by simp [zee,zfz,hs]
theorem zz3 {h:Hist} (hm:zoq h=none):zee h=210:=by
 have e:(zoq h==some (znj h))=false:=by rw [hm];rfl
 rw [zee,zfz,e,Bool.and_false];rfl
theorem yh4 (h:Hist) {k:Nat} (hk:k < 4):(znj h).getD k 0=(nmK h k).length:=by
 match k,hk with
 |0,_=>rfl
 |1,_=>rfl
 |2,_=>rfl
 |3,_=>rfl
theorem yiz {h:Hist} {m:List Int} (hm:zoq h=some m) {k:Nat} (hk:k < 4) (hne:m.getD k 0≠(nmK h k).length):zee h=210:=by
 have e:(zoq h==some (znj h))=false:=by
  rw [hm]
  simp only [Option.some_beq_some,beq_eq_false_iff_ne]
  rintro rfl
  exact hne (yh4 h hk)
 rw [zee,zfz,e,Bool.and_false];rfl
theorem yi0 {h:Hist} (hs:zad h=true) {m:List Int} (hm:zoq h=some m) (hl:m.length=4) (he:∀k,k < 4→m.getD k 0=(nmK h k).length):zee h=0:=by
 have e:m=znj h:=by
  match m,hl with
  | [a,b,c,d],_=>
    have h0:=he 0 (by omega);have h1:=he 1 (by omega);have h2:=he 2 (by omega);have h3:=he 3 (by omega)
    simp [nmK] at h0 h1 h2 h3
    simp [znj,h0,h1,h2,h3]
 rw [zee,zfz,hs,hm,e];simp
theorem yeb {h:Hist}:zee h=0 ↔ zfz h=true:=by unfold zee;split <;> simp_all
def ypj (p:SV×Ev):List AV:= [iv p.2.kind,iv p.2.t,iv p.2.s,iv p.2.l,iv p.2.o,iv p.2.v.t,iv p.2.v.k,iv p.2.p,.v p.1.v]
structure NV where
 vT:SV
 vS:SV
 vO:SV
 vP:SV
structure OH where
 vE:SV
 vR:SV
 vM:SV
 vW:SV
 ts:List ByteArray
 ss:List ByteArray
 os:List ByteArray
 ps:List ByteArray
 evs:List (SV×Ev)
 ords:List (SV×Ord)
 mats:List (SV×Mat)
 wants:List Wan
def scR (T:TypeId) (l:List (SV×Ev)):List Res:=l.map fun p=> .row p.1.v 3 T (p.2.scan.map zam)
def yj2:AV:= .v (.slice none 0 0)
def zs9:List AV:= [yj2,yj2,yj2,yj2,yj2,yj2,yj2,yj2]
theorem zne {α:Type} {R:α→List AV} (h:∀a,(R a).all AV.one=true) (l:List α):∀r∈l.map R,r.all AV.one=true:=by
 intro r hr;obtain ⟨a,_,rfl⟩:=List.mem_map.1 hr;exact h a
theorem zgt (l:List Int):∀r∈l.map zac,r.all AV.one=true:=zne (fun a=>rfl) l
theorem zh8 (l:List Seen):∀r∈l.map zam,r.all AV.one=true:=zne (fun a=>rfl) l
theorem yjz (l:List Ev):∀r∈l.map evR,r.all AV.one=true:=zne (fun a=>rfl) l
theorem ym9 (l:List Ord):∀r∈l.map zeg,r.all AV.one=true:=zne (fun a=>rfl) l
theorem yna (l:List Mat):∀r∈l.map zd3,r.all AV.one=true:=zne (fun a=>rfl) l
section
variable {α β:Type} {f:α→List AV} {g:β→List AV} {xs:List α} {l:List β} {k:Nat} {b:β} {a:α} {r:List AV}
theorem ynl (hl:xs.length=k) (hk:k≤l.length):(xs.map f++(l.drop k).map g).length=l.length:=by
 simp [hl];omega
theorem ynm (hl:xs.length=k) (hd:l.drop k=b::l.drop (k+1)):(xs.map f++(l.drop k).map g)[k]? =some (g b):=by
 rw [hd,List.getElem?_append_right (by simp [hl])];simp [hl]
theorem ynk (hl:xs.length=k) (hd:l.drop k=b::l.drop (k+1)) (hr:r=f a):(xs.map f++(l.drop k).map g).set k r=(xs++ [a]).map f++(l.drop (k+1)).map g:=by
 subst hl hr
 rw [hd,List.set_append_right _ _ (by simp)]
 simp
theorem yhm {snd:α→β} (h:xs.map snd=l.take k) (hk:k≤l.length):xs.length=k:=by
 have:=congrArg List.length h;simp at this;omega
theorem yhl {snd:α→β} (h:xs.map snd=l.take k) (hk:k < l.length) (ha:snd a=l[k]):(xs++ [a]).map snd=l.take (k+1):=by
 rw [List.map_append,h,List.take_succ_eq_append_getElem hk];simp [ha]
end
theorem zo1 {h:Hist} (hs:zad h=true):Lim 3000 h:=by
 obtain ⟨h0,h1,h2,h3,h4⟩:=zd0 hs
 have hk:∀k,k < 4→okK h (k+1)=true:=fun k hk=>by
  cases hq:okK h (k+1) with
  |true=>rfl
  |false=>
   have:=zju hq (3 - k)
   rw [show k+1+(3 - k)=4 by omega,h0] at this;cases this
 have hn:∀k,k < 4→(nmK h k).length≤300:=fun k hk4=>by
  have:=hk k hk4
  simp only [okK,zcx,Bool.and_eq_true,decide_eq_true_eq] at this
  have h5:yrw k≤300:=by
   match k,hk4 with
   |0,_=>decide
   |1,_=>decide
   |2,_=>decide
   |3,_=>decide
  omega
 have hz:okK h 0=true:=by
  cases hq:okK h 0 with
  |true=>rfl
  |false=>have:=zju hq 4;rw [h0] at this;cases this
 simp only [okK,zry,Bool.and_eq_true,decide_eq_true_eq] at hz
 refine ⟨by have:=hn 0 (by omega);simp [nmK] at this;omega,by have:=hn 1 (by omega);simp [nmK] at this;omega,by have:=hn 2 (by omega);simp [nmK] at this;omega,by have:=hn 3 (by omega);simp [nmK] at this;omega,by omega,by omega,by omega,by omega,fun e he=> ?_,fun o ho=> ?_,fun m hm=> ?_⟩
 ·obtain ⟨_,_,_,hc,hq⟩:=zb6 (h1 e he)
  rw [←hq]
  show (zf6 h e).1.scan.length≤3000
  unfold zf6 at hc ⊢
  repeat' split
  all_goals first|(simp only [List.length_nil];omega)|skip
  rename_i g1 g2 g3 g4
  rw [if_neg g1,if_neg g2,if_neg g3,if_pos g4] at hc
  simp only [zc6,Bool.and_eq_true,decide_eq_true_eq] at hc
  show e.scan.length≤3000
  omega
 ·have:=h2 o ho
  simp only [zrk,tsB,Bool.and_eq_true,decide_eq_true_eq] at this
  omega
 ·have:=h3 m hm
  simp only [zvf,tsB,Bool.and_eq_true,decide_eq_true_eq] at this
  omega
theorem Lim.mono {N M:Nat} {h:Hist} (l:Lim N h) (hm:N≤M):Lim M h:=
 ⟨Nat.le_trans l.ts hm,Nat.le_trans l.ss hm,Nat.le_trans l.os hm,Nat.le_trans l.ps hm,Nat.le_trans l.evs hm,Nat.le_trans l.ords hm,Nat.le_trans l.mats hm,Nat.le_trans l.wants hm,fun e he=>Nat.le_trans (l.scans e he) hm,fun e he=>Nat.le_trans (l.ordts e he) hm,fun e he=>Nat.le_trans (l.matts e he) hm⟩
section
variable {σ α:Type} (f:σ→Nat→Int→Int×σ)
end
section
variable {α:Type} {f:α→List AV} {A B:List α} {k:Nat} {b a:α} {r:List AV}
end
def zn5 (b:Bool):List AV:= [bv b]
structure KOk (h:Hist) (k:ypo):Prop where
 four:k.length=4
 nd:∀s,(k.getD s []).Nodup
 lt:∀s,∀n∈k.getD s [],0≤n∧n < (nmK h s).length
theorem zl5:∀{N:Nat} {l:List Nat},l.Nodup→(∀n∈l,n < N)→l.length≤N
 |0,[],_,_=>Nat.le_refl _
 |0,x::l,_,h=>absurd (h x (by simp)) (Nat.not_lt_zero _)
 |N+1,l,hn,h=>by
  by_cases hm:N∈l
  ·have e:(l.erase N).length=l.length - 1:=List.length_erase_of_mem hm
   have:=zl5 (N:=N) (l:=l.erase N) (hn.erase N) (fun n hn'=>by
    have h1:=h n (List.mem_of_mem_erase hn')
    have h2:n≠N:=fun q=>by subst q;exact (List.Nodup.not_mem_erase hn) hn'
    omega)
   omega
  ·have:=zl5 (N:=N) (l:=l) hn (fun n hn'=>by
    have h1:=h n hn'
    have h2:n≠N:=fun q=>by subst q;exact hm hn'
    omega)
   omega
section
variable {w:World} {O O':Nat→Prop}
def CT (w:World) (O O':Nat→Prop):List AV→List AV→Prop
 | [],[]=>True
 |a::as,b::bs=>(∀u,Rel w O a u→Rel w O' b u)∧CT w O O' as bs
 |_,_=>False
theorem CT.len:∀{as bs:List AV},CT w O O' as bs→bs.length=as.length
 | [],[],_=>rfl
 |_::_,_::_,h=>by simp [CT.len h.2]
 | [],_::_,h=>h.elim
 |_::_,[],h=>h.elim
theorem CT.get:∀{as bs:List AV},CT w O O' as bs→∀j (k:j < as.length) (k':j < bs.length) u,Rel w O as[j] u→Rel w O' bs[j] u
 |_::_,_::_,h,0,_,_,u,r=>h.1 u r
 |_::_,_::_,h,j+1,k,k',u,r=>CT.get h.2 j (by simpa using k) (by simpa using k') u r
theorem sc (x:Value):∀u,Rel w O (.v x) u→Rel w O' (.v x) u:=fun u r=>(Scal.v x).rel r
theorem sn {x:Value} {b:AV} (h:Rel w O' b x):∀u,Rel w O (.v x) u→Rel w O' b u:=fun u r=>by rw [r.v_eq];exact h
theorem yk9 {X:Nat→Prop} {H:List Res} (hh:HRel X w H) {s:Value} {sz:Nat} {T:TypeId} {α:Type} {f g:α→List AV} {l:List α} (hm: .row s sz T (l.map f)∈H) (hO:∀b∈(Res.row s sz T (l.map f)).own,¬O' b)
 (hc:∀a∈l,CT w (OO H X) O' (f a) (g a)):Rel w O' (.list false sz (l.map g)) s:=by
 refine zuq hh hm hO (by simp) (fun i h h'=> ?_) (fun i h h' j k k' u r=> ?_)
 ·simp only [List.getElem_map];exact (hc _ (List.getElem_mem _)).len
 ·simp only [List.getElem_map] at k k' r ⊢
  exact (hc _ (List.getElem_mem _)).get j k k' u r
end
def bT:ByteArray:=⟨#[116]⟩
def bS:ByteArray:=⟨#[115]⟩
def bX:ByteArray:=⟨#[120]⟩
def bY:ByteArray:=⟨#[121]⟩
def zio:Hist:=⟨[bT],[bS],[bX],[],[⟨1,0,0,1,0,⟨0,0⟩,0,[]⟩,⟨2,0,0,0,0,⟨0,1⟩,0,[]⟩,⟨5,0,0,0,0,⟨0,0⟩,0,[]⟩],[],[],[]⟩
theorem toList_inj {a b:ByteArray} (h:a.toList=b.toList):a=b:=by
 rw [ByteArray.toList_eq,ByteArray.toList_eq] at h
 cases a;cases b;congr 1;exact Array.ext' h
theorem zwn (a b:ByteArray):zrr a b=decide (a=b):=by
 unfold zrr
 by_cases h:a=b
 ·subst h;simp
 ·rw [decide_eq_false h,beq_eq_false_iff_ne];exact fun q=>h (toList_inj q)
theorem zme (a b:Int):zkv a b=decide (a=b):=rfl
theorem yfl (a b:Wan):yk3 a b=decide (a=b):=by
 obtain ⟨a1,a2⟩:=a;obtain ⟨b1,b2⟩:=b
 rw [Bool.eq_iff_iff];simp [yk3]
theorem yhg (a b:Ord):ym8 a b=decide (a=b):=by
 obtain ⟨a1,a2⟩:=a;obtain ⟨b1,b2⟩:=b
 rw [Bool.eq_iff_iff];simp [ym8,zgg zme]
theorem yhu (a b:Mat):ynr a b=decide (a=b):=by
 obtain ⟨a1,a2,a3,a4⟩:=a;obtain ⟨b1,b2,b3,b4⟩:=b
 rw [Bool.eq_iff_iff];simp [ynr,zgg zme,and_assoc]
theorem zmy (a b:Hist):zun a b=true ↔ a=b:=by
 obtain ⟨a1,a2,a3,a4,a5,a6,a7,a8⟩:=a;obtain ⟨b1,b2,b3,b4,b5,b6,b7,b8⟩:=b
 have e:(List.range 4).all (zvc ⟨a1,a2,a3,a4,a5,a6,a7,a8⟩ ⟨b1,b2,b3,b4,b5,b6,b7,b8⟩)=(decide (a1=b1) && decide (a2=b2) && decide (a3=b3) && decide (a4=b4)):=by
  simp [List.range_succ,zvc,nmK,zgg zwn,Bool.and_assoc]
 simp only [zun,e,zgg yhg,zgg yhu,zgg yfl,zgg zvv,Bool.and_eq_true,decide_eq_true_eq,Hist.mk.injEq]
 constructor
 ·rintro ⟨⟨⟨⟨⟨⟨⟨h1,h2⟩,h3⟩,h4⟩,h6⟩,h7⟩,h8⟩,h5⟩;exact ⟨h1,h2,h3,h4,h5,h6,h7,h8⟩
 ·rintro ⟨h1,h2,h3,h4,h5,h6,h7,h8⟩;exact ⟨⟨⟨⟨⟨⟨⟨h1,h2⟩,h3⟩,h4⟩,h6⟩,h7⟩,h8⟩,h5⟩
theorem zyr (a:Hist):zun a a=true:=(zmy a a).2 rfl
theorem zl0 {s:ByteArray} {c:Nat} (h1:s.size=1) (hc:c < 128) (hl:zt7 c=true) (hd:Utf8.decode s 0=(c,1)) (hne:(s.toList== [])=false) (hb:bt s 0=c) (hn:zkb c=false):zg9 s=true:=by
 have hp:zd9 s zdx 0 ((Utf8.decode s 0).1:Nat)=true:=by
  rw [hd]
  have h2:(((c:Nat):Int) !=65533)=true:=by simp;omega
  simp only [zd9,zrq,zdx,hl,h2,Bool.true_or,Bool.and_true]
 have hw:zek s (zd9 s zdx) 0=s.size:=by
  rw [zjg (by omega) hp,hd]
  exact zh2 (by simp;omega)
 simp only [zg9,hne,hb,hn,hw,h1];decide
theorem yaf:zg9 bT=true:=zl0 (c:=116) rfl (by decide) (by decide) (by decide) (by rw [ByteArray.toList_eq];rfl) (by decide) (by decide)
theorem yag:zg9 bS=true:=zl0 (c:=115) rfl (by decide) (by decide) (by decide) (by rw [ByteArray.toList_eq];rfl) (by decide) (by decide)
theorem yae:zg9 bX=true:=zl0 (c:=120) rfl (by decide) (by decide) (by decide) (by rw [ByteArray.toList_eq];rfl) (by decide) (by decide)
theorem ypq:zg9 bY=true:=zl0 (c:=121) rfl (by decide) (by decide) (by decide) (by rw [ByteArray.toList_eq];rfl) (by decide) (by decide)
def zu6:Hist:={zio with evs:=zio.evs.take 2}
def zpa:Hist:={zio with os:= [bY,bX],evs:= [⟨1,0,0,1,0,⟨0,0⟩,0,[]⟩,⟨2,0,0,0,1,⟨0,1⟩,0,[]⟩,⟨5,0,0,0,0,⟨0,0⟩,0,[]⟩]}
theorem xy:yab bX [bY]=false:=by decide
theorem zrz:zad zio=true:=by
 have h:okK zio 4=true:=by
  simp only [okK,nmK,zcx,zio,zbn,yaf,yag,yae,List.length_singleton,List.length_nil];decide
 rw [zad,h];decide
theorem zuk:zad zu6=true:=by
 have h:okK zu6 4=true:=by
  simp only [okK,nmK,zcx,zu6,zio,zbn,yaf,yag,yae,List.length_singleton,List.length_nil];decide
 rw [zad,h];decide
theorem zlb:zad zpa=true:=by
 have h:okK zpa 4=true:=by
  simp only [okK,nmK,zcx,zpa,zio,zbn,yaf,yag,yae,ypq,List.length_cons,List.length_nil,List.nil_append,xy];decide
 rw [zad,h];decide
theorem ycr:zfz zio=true:=by rw [zfz,zrz];decide
theorem yhp:zfz zu6=true:=by rw [zfz,zuk];decide
theorem w1:yd4 zu6=0:=by rw [yd4,yhp];decide
theorem w2:ofR zio 0= [0,1,2]:=by rw [ofR,ycr];decide
theorem w3:yvp zpa=0:=by rw [yvp,zlb];rfl
theorem w4:zee zpa=210:=by
 have:zfz zpa=false:=by rw [zfz,zlb];decide
 rw [zee,this];rfl
theorem w5:ykj zu6=ykk zu6:=by rw [ykj,if_pos w1]
theorem zqc {N:Nat} {l:List Nat} (h:l.Nodup) (hl:∀i∈l,i < N):l.length≤N:=zl5 h hl
theorem zu2 (G:List Res) (sE sO sM:Value) (h:Hist) (E:List (SV×Ev)) (T40 T54 T57 T52:TypeId) (H:List Res) (hE:E.map (·.2)=h.evs)
 (h5: .row sE 9 T40 (E.map ypj)∈H) (h6: .row sO 2 T54 (h.ords.map zeg)∈H) (h7: .row sM 4 T57 (h.mats.map zd3)∈H) (h9:∀r∈scR T52 E,r∈H):
 ziv (G++H) (.agg [zdg h.ts,zdg h.ss,zdg h.os,zdg h.ps,.v sE,.v sO,.v sM,zuc h.wants]) G (.agg (w7 h)):=by
 refine ⟨fun x hx=>by rw [q7];exact List.mem_append_left _ hx,fun X w v hh hr=> ?_⟩
 have hG:HRel X w G:=HRel.drop (h:=H) (hh.perm List.perm_append_comm)
 refine ⟨hG,?_⟩
 have hmem:∀r∈H,r∈G++H:=fun r hr=>List.mem_append_right _ hr
 have hout:∀r∈H,∀x∈r.own,¬OO G X x:=fun r hr x hx q=>by
  have hxH:x∈j7 H:=zab.2 ⟨r,hr,hx⟩
  have hn:=hh.nodup
  rw [q7,List.nodup_append] at hn
  rcases q with q|q
  ·exact hn.2.2 x q x hxH rfl
  ·exact (hh.lt x (by rw [q7];exact List.mem_append_right _ hxH)).2 q
 have lo:∀av u,Rel w (OO (G++H) X) av u→Rel w (OO G X) av u:=fun av u r=>r.loose fun x hx=>hx.imp (fun q=>by rw [q7];exact List.mem_append_left _ q) id
 have S:∀{α:Type} {s:Value} {sz:Nat} {T:TypeId} {f g:α→List AV} {l:List α},.row s sz T (l.map f)∈H→(∀a∈l,CT w (OO (G++H) X) (OO G X) (f a) (g a))→Rel w (OO G X) (.list false sz (l.map g)) s:=
  fun hm hc=>yk9 hh (hmem _ hm) (hout _ hm) hc
 have evs:Rel w (OO G X) (zq5 h.evs) sE:=by
  have:=S (g:=fun p=>evR p.2) h5 fun p hp=>⟨sc _,sc _,sc _,sc _,sc _,sc _,sc _,sc _,sn (S (f:=zam) (g:=zam) (h9 _ (List.mem_map.2 ⟨p,hp,rfl⟩)) fun a _=>⟨sc _,sc _,sc _,trivial⟩),trivial⟩
  rw [←hE]
  show Rel w (OO G X) (.list false 9 ((E.map (·.2)).map evR)) sE
  rw [List.map_map];exact this
 have ords:Rel w (OO G X) (zzl h.ords) sO:=S (f:=zeg) (g:=zeg) h6 fun a _=>⟨sc _,lo _,trivial⟩
 have mats:Rel w (OO G X) (zve h.mats) sM:=S (f:=zd3) (g:=zd3) h7 fun a _=>⟨sc _,sc _,sc _,lo _,trivial⟩
 have hcells:CT w (OO (G++H) X) (OO G X) [zdg h.ts,zdg h.ss,zdg h.os,zdg h.ps,.v sE,.v sO,.v sM,zuc h.wants] (w7 h):=⟨lo _,lo _,lo _,lo _,sn evs,sn ords,sn mats,lo _,trivial⟩
 cases hr with
 |agg _ ds hl2 hc2=>exact .agg _ ds (by rw [hcells.len];exact hl2) fun j a b=>hcells.get j (by rw [←hcells.len];exact a) a _ (hc2 j (by rw [←hcells.len];exact a) b)
def isB (n m:Int):Bool:=decide (n ≥ 0) && decide (n < m)
def zfw (v:Ver) (m:Int):Bool:=v.t==0 && v.k==0||isB v.t m && decide (v.k ≥ 1) && decide (v.k≤999)
def atI (n:Int):Nat→List Int→Int
 |_,[]=> -1
 |i,x::r=>if x=n then (i:Int) else atI n (i+1) r
def zs3 (c:Int):Bool:=(decide (c ≥ 97) && decide (c≤122))||(decide (c ≥ 65) && decide (c≤90))||c==95||decide (c ≥ 128)
def zv6 (e:Ev):Ev:=⟨e.kind,e.t,0,0,0,⟨0,0⟩,0,[]⟩
def ziq (l:Int):Bool:=decide (l ≥ 1) && decide (l≤4)
def zb1 (h:Hist) (s:Seen):Bool:=isB s.o h.os.length && zfw s.v h.ts.length
def zkm (h:Hist) (e:Ev):Bool:=
 if isB e.t h.ts.length=false then false else
 if e.kind=1 then zj3 {zv6 e with s:=e.s,l:=e.l} e && isB e.s h.ss.length && ziq e.l else
 if e.kind=2∨e.kind=3 then (if (e.kind==2 && (decide (e.v.k < 1)||e.v.t !=e.t))=true then false else zj3 {zv6 e with o:=e.o,v:=e.v} e && isB e.o h.os.length && zfw e.v h.ts.length) else
 if e.kind=4 then (if e.scan.all (zb1 h)=false then false else zj3 {zv6 e with p:=e.p,scan:=e.scan} e && isB e.p h.ps.length && decide ((e.scan.length:Int)≤40)) else
 zj3 (zv6 e) e && (e.kind==5||e.kind==6)
def zgq (h:Hist) (l:List Int):Bool:=if l.all (fun t=>isB t h.ts.length)=false then false else decide ((l.length:Int)≤300)
theorem zec (l:List ByteArray) (n:Int):isB n l.length=zcb l n:=rfl
theorem yjg (ts:List ByteArray) (v:Ver):zfw v ts.length=zov ts v:=by
 unfold zfw zov
 rw [zec]
 by_cases hk:v.k=0
 ·simp [hk]
 ·have h1:decide (v.k ≥ 1)=decide (v.k > 0):=by simp;omega
  simp [hk,h1]
theorem ylq (h:Hist) (s:Seen):zb1 h s=zf8 h s:=by
 unfold zb1 zf8;rw [zec,yjg]
theorem yrx (l:Int):ziq l=(yh3 l==0):=by
 unfold ziq yh3
 by_cases h1:l < 1 <;> by_cases h2:l > 4 <;> simp [h1,h2] <;> omega
theorem ypu (h:Hist) (l:List Int):zgq h l=tsB h l:=by
 unfold zgq tsB
 have e:(fun t=>isB t h.ts.length)=zcb h.ts:=by funext t;exact zec _ _
 rw [e]
 cases l.all (zcb h.ts) <;> simp
theorem evB {h:Hist} {e:Ev} (h1:1≤e.kind) (h7:e.kind < 7) (ht:zcb h.ts e.t=true):zb3 h e=((zf6 h e).2 && zj3 {(zf6 h e).1 with kind:=e.kind,t:=e.t} e):=by
 unfold zb3
 have hk:(decide (e.kind < 1)||decide (e.kind ≥ 7)|| !zcb h.ts e.t)=false:=by
  rw [ht];simp;omega
 rw [hk];simp
theorem zyv (h:Hist) (e:Ev):zkm h e=zb3 h e:=by
 have es:zb1 h=zf8 h:=by funext s;exact ylq h s
 unfold zkm
 rw [zec,zec,zec,zec,yjg,es,yrx]
 by_cases ht:zcb h.ts e.t=true
 ·rw [if_neg (by simp [ht])]
  by_cases k1:e.kind=1
  ·rw [if_pos k1,evB (by omega) (by omega) ht]
   unfold zf6;rw [if_pos k1]
   show (zj3 ⟨e.kind,e.t,e.s,e.l,0,⟨0,0⟩,0,[]⟩ e && zcb h.ss e.s && (yh3 e.l==0))=((zcb h.ss e.s && yh3 e.l==0) && zj3 ⟨e.kind,e.t,e.s,e.l,0,⟨0,0⟩,0,[]⟩ e)
   rw [Bool.and_assoc,Bool.and_comm]
  by_cases k2:e.kind=2
  ·rw [if_neg k1,if_pos (.inl k2),evB (by omega) (by omega) ht]
   unfold zf6;rw [if_neg k1,if_pos k2]
   have e2:(e.kind==2)=true:=by simp [k2]
   rw [e2,Bool.true_and]
   show (if (decide (e.v.k < 1)||e.v.t !=e.t)=true then false else zj3 ⟨e.kind,e.t,0,0,e.o,e.v,0,[]⟩ e && zcb h.os e.o && zov h.ts e.v)=((zcb h.os e.o && zov h.ts e.v && e.v.t==e.t && decide (e.v.k > 0)) && zj3 ⟨e.kind,e.t,0,0,e.o,e.v,0,[]⟩ e)
   have e3:decide (e.v.k > 0)= !decide (e.v.k < 1):=by
    by_cases q:e.v.k < 1
    ·rw [decide_eq_true q,decide_eq_false (by omega)];rfl
    ·rw [decide_eq_false q,decide_eq_true (by omega)];rfl
   have e4:(e.v.t==e.t)= !(e.v.t !=e.t):=by unfold bne;cases (e.v.t==e.t) <;> rfl
   rw [e3,e4]
   generalize zj3 _ e=a
   generalize zcb h.os e.o=b
   generalize zov h.ts e.v=c
   generalize decide (e.v.k < 1)=d
   generalize (e.v.t !=e.t)=f
   revert a b c d f;decide
  by_cases k3:e.kind=3
  ·rw [if_neg k1,if_pos (.inr k3),evB (by omega) (by omega) ht]
   unfold zf6;rw [if_neg k1,if_neg k2,if_pos k3]
   have e2:(e.kind==2)=false:=by simp [k3]
   rw [e2,Bool.false_and,if_neg (by decide)]
   show (zj3 ⟨e.kind,e.t,0,0,e.o,e.v,0,[]⟩ e && zcb h.os e.o && zov h.ts e.v)=((zcb h.os e.o && zov h.ts e.v) && zj3 ⟨e.kind,e.t,0,0,e.o,e.v,0,[]⟩ e)
   rw [Bool.and_assoc,Bool.and_comm]
  have k23:¬(e.kind=2∨e.kind=3):=fun q=>q.elim k2 k3
  by_cases k4:e.kind=4
  ·rw [if_neg k1,if_neg k23,if_pos k4,evB (by omega) (by omega) ht]
   unfold zf6;rw [if_neg k1,if_neg k2,if_neg k3,if_pos k4]
   show (if e.scan.all (zf8 h)=false then false else zj3 ⟨e.kind,e.t,0,0,0,⟨0,0⟩,e.p,e.scan⟩ e && zcb h.ps e.p && decide ((e.scan.length:Int)≤40))=((zcb h.ps e.p && decide ((e.scan.length:Int)≤40) && e.scan.all (zf8 h)) && zj3 ⟨e.kind,e.t,0,0,0,⟨0,0⟩,e.p,e.scan⟩ e)
   generalize zj3 _ e=a
   generalize zcb h.ps e.p=b
   generalize decide ((e.scan.length:Int)≤40)=c
   generalize e.scan.all (zf8 h)=d
   revert a b c d;decide
  ·rw [if_neg k1,if_neg k23,if_neg k4]
   by_cases hr:1≤e.kind∧e.kind < 7
   ·rw [evB hr.1 hr.2 ht]
    unfold zf6;rw [if_neg k1,if_neg k2,if_neg k3,if_neg k4]
    show (zj3 ⟨e.kind,e.t,0,0,0,⟨0,0⟩,0,[]⟩ e && (e.kind==5||e.kind==6))=(true && zj3 ⟨e.kind,e.t,0,0,0,⟨0,0⟩,0,[]⟩ e)
    have e5:(e.kind==5||e.kind==6)=true:=by simp;omega
    rw [e5,Bool.and_true,Bool.true_and]
   ·have e5:(e.kind==5||e.kind==6)=false:=by simp;omega
    have e6:zb3 h e=false:=by
     unfold zb3
     have hk:(decide (e.kind < 1)||decide (e.kind ≥ 7)|| !zcb h.ts e.t)=true:=by rw [ht];simp;omega
     rw [hk];rfl
    rw [e5,e6,Bool.and_false]
 ·rw [if_pos (by simpa using ht)]
  unfold zb3
  simp [ht]
set_option maxRecDepth 20000
theorem zwh {c:Nat} (h:c < 55296):Utf8.valid (c:Int)=true:=by
 unfold Utf8.valid
 have a:decide ((0:Int)≤(c:Int))=true:=decide_eq_true (by omega)
 have b:decide ((c:Int) < 0xD800)=true:=decide_eq_true (by omega)
 rw [a,b];rfl
theorem zg2 {c:Nat} (hv:Utf8.valid (c:Int)=true):(Utf8.encode (c:Int)).size=if c < 128 then 1 else if c < 2048 then 2 else if c < 65536 then 3 else 4:=by
 unfold Utf8.encode
 rw [if_pos hv]
 simp only [Int.toNat_natCast]
 repeat' split
 all_goals first|rfl|omega
theorem yiu (s:ByteArray) (i:Nat) (h:¬((Utf8.decode s i).1=65533∧(Utf8.decode s i).2=1)):(Utf8.encode ((Utf8.decode s i).1:Nat)).size=(Utf8.decode s i).2:=by
 unfold Utf8.decode at h ⊢
 dsimp only at h ⊢
 split at h
 ·rename_i h0
  rw [if_pos h0,zg2 (zwh (by omega)),if_pos (by omega)]
 rename_i h0
 rw [if_neg h0]
 split at h
 ·rename_i h1
  rw [if_pos h1]
  split at h
  ·rename_i h2
   rw [if_pos h2,zg2 (zwh (by omega)),if_neg (by omega),if_pos (by omega)]
  ·exact absurd ⟨rfl,rfl⟩ h
 rename_i h1
 rw [if_neg h1]
 split at h
 ·rename_i h2
  rw [if_pos h2]
  split at h
  ·rename_i h3
   rw [if_pos h3]
   have h4:=(Bool.and_eq_true_iff.1 h3).2
   have h5:=(Bool.and_eq_true_iff.1 h3).1
   simp only [ge_iff_le,decide_eq_true_eq] at h5
   rw [zg2 h4,if_neg (by omega),if_neg (by omega),if_pos (by omega)]
  ·exact absurd ⟨rfl,rfl⟩ h
 rename_i h2
 rw [if_neg h2]
 split at h
 ·rename_i h3
  rw [if_pos h3]
  split at h
  ·rename_i h4
   rw [if_pos h4]
   have h5:=(Bool.and_eq_true_iff.1 h4).2
   have h6:=(Bool.and_eq_true_iff.1 h4).1
   simp only [ge_iff_le,decide_eq_true_eq] at h6
   rw [zg2 h5,if_neg (by omega),if_neg (by omega),if_neg (by omega)]
  ·exact absurd ⟨rfl,rfl⟩ h
 ·exact absurd ⟨rfl,rfl⟩ h
def zcf (s:ByteArray):Int×Int:=
 if ¬0 < s.size then (-1,0) else
 if (Utf8.decode s 0).1=65533∧(s.size < 3∨(s.extract 0 3).toList≠ [239,191,189]) then (-1,1) else
 ((Utf8.decode s 0).1,(Utf8.encode ((Utf8.decode s 0).1:Nat)).size)
theorem yoa (s:ByteArray) (i k:Nat):(s.extract i s.size).get! (0+k)=s.get! (i+k):=by
 rw [Nat.zero_add]
 have hs:(s.extract i s.size).size=s.size - i:=by simp
 by_cases h:i+k < s.size
 ·have h2:k < (s.extract i s.size).size:=by omega
  show (s.extract i s.size).data[k]! =s.data[i+k]!
  have e1:(s.extract i s.size).data[k]? =s.data[i+k]? :=by
   simp [ByteArray.extract,ByteArray.copySlice,Array.getElem?_extract]
   omega
  simp only [getElem!_def,e1]
 ·show (s.extract i s.size).data[k]! =s.data[i+k]!
  have a:(s.extract i s.size).data[k]? =none:=by
   rw [Array.getElem?_eq_none]
   show (s.extract i s.size).size≤k
   omega
  have b:s.data[i+k]? =none:=by
   rw [Array.getElem?_eq_none]
   show s.size≤i+k
   omega
  simp only [getElem!_def,a,b]
theorem yoq (s:ByteArray) (i:Nat):Utf8.decode (s.extract i s.size) 0=Utf8.decode s i:=by
 have hc:∀k,decide (0+k < (s.extract i s.size).size)=decide (i+k < s.size):=fun k=>by
  have hs:(s.extract i s.size).size=s.size - i:=by simp
  rw [hs];simp;omega
 unfold Utf8.decode
 simp only [yoa,hc]
theorem zxx {s:ByteArray} (h:(Utf8.decode s 0).1=65533):(Utf8.decode s 0).2=1∨((Utf8.decode s 0).2=3∧2 < s.size∧(s.get! 0).toNat=239∧(s.get! 1).toNat=191∧(s.get! 2).toNat=189):=by
 unfold Utf8.decode at h ⊢
 dsimp only at h ⊢
 simp only [Nat.zero_add] at h ⊢
 split at h
 ·rename_i h0;simp only at h;omega
 rename_i h0
 rw [if_neg h0]
 split at h
 ·rename_i h1
  rw [if_pos h1]
  split at h
  ·rename_i h2;simp only at h;omega
  ·rename_i h2;rw [if_neg h2];exact .inl rfl
 rename_i h1
 rw [if_neg h1]
 split at h
 ·rename_i h2
  rw [if_pos h2]
  split at h
  ·rename_i h3
   rw [if_pos h3]
   simp only [Bool.and_eq_true,decide_eq_true_eq,beq_iff_eq] at h2
   simp only at h
   exact .inr ⟨rfl,by omega,by omega,by omega,by omega⟩
  ·rename_i h3;rw [if_neg h3];exact .inl rfl
 rename_i h2
 rw [if_neg h2]
 split at h
 ·rename_i h3
  rw [if_pos h3]
  split at h
  ·rename_i h4
   have h6:=(Bool.and_eq_true_iff.1 h4).1
   simp only [ge_iff_le,decide_eq_true_eq] at h6
   simp only at h;omega
  ·rename_i h4;rw [if_neg h4];exact .inl rfl
 ·rename_i h3;rw [if_neg h3];exact .inl rfl
end Go.H
