/- The reference's question on an event. Conditions: as each lemma states. -/
import Derived.Test.YtfmcbdjnmlcacaaGreatDoorWJsC
set_option linter.unusedSimpArgs false
set_option linter.unusedVariables false
namespace Go.H
open Go Go.Ab
def ybd (r:Nat) (e:Ev) (l:List Ev) (i:Nat) (s:Seen):Bool:=
 match r with
 |4=> !(s.v.k==0||zfb l s.o s.v)
 |5=>match (zcs l e.t s.o).getLast? with|some y=>y.v !=s.v|none=>false
 |6=>((u6 e).take i).any fun p=>p.o==s.o
 |_=>false
def OkS (r:Nat) (e:Ev) (l:List Ev) (k:Nat):Prop:=∀i,(h:i < (u6 e).length)→i < k→ybd r e l i (u6 e)[i]=false
theorem yck {r:Nat} {e:Ev} {l:List Ev} {k:Nat} (h:k < (u6 e).length) (z:OkS r e l k) (a:ybd r e l k (u6 e)[k]=false):OkS r e l (k+1):=by
 intro i hi hk
 by_cases c:i < k
 ·exact z i hi c
 ·obtain rfl:i=k:=by omega
  exact a
theorem yk2 {α:Type} {q:α→Bool} {l:List α} {k:Nat} (h:k < l.length) (a:q l[k]=true):l.any q=true:=List.any_eq_true.2 ⟨_,List.getElem_mem h,a⟩
theorem zqg {r:Nat} {e:Ev} {l:List Ev} {k:Nat} (hr:4≤r∧r≤6) (h:k < (u6 e).length) (a:ybd r e l k (u6 e)[k]=true):zdj r e l=true:=by
 obtain ⟨h4,h6⟩:=hr
 match r,h4,h6 with
 |4,_,_=>exact yk2 h a
 |5,_,_=>exact yk2 h a
 |6,_,_=>
  simp only [ybd] at a
  simp only [zdj]
  refine List.any_eq_true.2 ⟨k,List.mem_range.2 h,?_⟩
  simpa [List.getElem?_eq_getElem h] using a
theorem yfy {r:Nat} {e:Ev} {l:List Ev} (hr:4≤r∧r≤6) (z:OkS r e l (u6 e).length):zdj r e l=false:=by
 obtain ⟨h4,h6⟩:=hr
 match r,h4,h6 with
 |4,_,_=>
  simp only [zdj];rw [List.any_eq_false];intro s hs
  obtain ⟨i,hi,rfl⟩:=List.mem_iff_getElem.1 hs
  have:=z i hi hi;simp only [ybd] at this;rw [this];decide
 |5,_,_=>
  simp only [zdj];rw [List.any_eq_false];intro s hs
  obtain ⟨i,hi,rfl⟩:=List.mem_iff_getElem.1 hs
  have:=z i hi hi;simp only [ybd] at this
  intro q;exact absurd (q.symm.trans this) (by decide)
 |6,_,_=>
  simp only [zdj];rw [List.any_eq_false];intro i hi
  rw [List.mem_range] at hi
  have:=z i hi hi;simp only [ybd] at this
  rw [List.getElem?_eq_getElem hi]
  rw [Bool.not_eq_true]
  simpa using this
theorem zck (a b:Ver):([a.t,a.k]== [b.t,b.k])=(a==b):=by
 cases a;cases b
 rw [Bool.eq_iff_iff];simp
theorem zxf {L:List Ev} (h:decide (((L.map evR).length:Int) > 0)=true):∃w,L.getLast? =some w∧(L.map evR)[(((L.map evR).length:Int) - 1).toNat]? =some (evR w)∧0≤((L.map evR).length:Int) - 1:=by
 have h0:0 < L.length:=by have:=h;simp at this;exact this
 refine ⟨L[L.length - 1],?_,?_,?_⟩
 ·rw [List.getLast?_eq_getElem?,List.getElem?_eq_getElem (by omega)]
 ·rw [oM,show ((L.length:Int) - 1).toNat=L.length - 1 by omega,List.getElem?_map,List.getElem?_eq_getElem (by omega)];rfl
 ·rw [oM];omega
theorem zkx {e:Ev} {l:List Ev} {i:Nat} {s:Seen} {w:Ev} (h:(zcs l e.t s.o).getLast? =some w):ybd 5 e l i s=(w.v !=s.v):=by simp only [ybd];rw [h]
theorem znd {e:Ev} {l:List Ev} {i:Nat} {s:Seen} (h:decide ((((zcs l e.t s.o).map evR).length:Int) > 0)=false):ybd 5 e l i s=false:=by
 have:zcs l e.t s.o= []:=by simpa using h
 simp only [ybd];rw [this];rfl
def zgz (h:Hist) (rl:Nat):Nat:=
 match rl with
 |7=>h.ords.length
 |8=>h.os.length
 |9=>h.mats.length
 |10=>h.wants.length
 |_=>h.evs.length
def atQ {α:Type} (w:Nat→α→Bool) (i:Nat) (l:List α):Bool:=match l[i]? with|some x=>w i x|none=>false
def zg9 (h:Hist) (rl i:Nat):Bool:=
 match rl with
 |7=>atQ (zj6 h) i h.ords
 |8=>atQ (fun x _=>zov h (x:Int)) i h.os
 |9=>atQ (zkb h) i h.mats
 |10=>atQ (zkt h) i h.wants
 |r=>atQ (fun i e=>zdj r e (h.evs.take i)) i h.evs
theorem zl1 {α:Type} {w:Nat→α→Bool} {i:Nat} {l:List α} (h:i < l.length):atQ w i l=w i l[i]:=by
 rw [atQ,List.getElem?_eq_getElem h]
theorem zwz {α:Type} {w:Nat→α→Bool}:∀(l:List α) (k i:Nat) (hi:i < l.length),w (k+i) l[i]=true→(∀j,(hj:j < i)→w (k+j) (l[j]'(by omega))=false)→zdi w k l=some (k+i)
 | [],_,_,hi,_,_=>absurd hi (by simp)
 |x::r,k,0,hi,hb,_=>by rw [zdi,if_pos (by simpa using hb)];rfl
 |x::r,k,i+1,hi,hb,hz=>by
  have h0:w k x=false:=hz 0 (by omega)
  rw [zdi,if_neg (by rw [h0];decide),zwz r (k+1) i (by simpa using hi) (by rw [show k+1+i=k+(i+1) by omega];exact hb) (fun j hj=>by
   have:=hz (j+1) (by omega)
   rw [show k+1+j=k+(j+1) by omega];exact this)]
  congr 1;omega
theorem zj2 {α:Type} {w:Nat→α→Bool} {l:List α} {i:Nat} (hi:i < l.length) (hb:atQ w i l=true) (hz:∀j,j < i→atQ w j l=false):zdi w 0 l=some i:=by
 rw [zl1 hi] at hb
 have:=zwz l 0 i hi (by rw [Nat.zero_add];exact hb) (fun j hj=>by have:=hz j hj;rw [zl1 (by omega)] at this;rw [Nat.zero_add];exact this)
 rwa [Nat.zero_add] at this
theorem zhs {α:Type} {w:Nat→α→Bool} {l:List α} (hz:∀j,j < l.length→atQ w j l=false):zdi w 0 l=none:=by
 rw [zf9]
 intro j hj
 have:=hz j hj
 rw [zl1 hj] at this
 rw [Nat.zero_add];exact this
theorem yb7 {h:Hist} {rl i:Nat} (hi:i < zgz h rl) (hb:zg9 h rl i=true) (hz:∀j,j < i→zg9 h rl j=false):ze2 h rl=some i:=by
 unfold zg9 at hb hz
 unfold zgz at hi
 unfold ze2
 split
 ·exact zj2 hi hb hz
 ·exact zj2 hi hb hz
 ·exact zj2 hi hb hz
 ·exact zj2 hi hb hz
 ·rename_i h7 h8 h9 h10
  split at hi <;> first|exact absurd rfl h7|exact absurd rfl h8|exact absurd rfl h9|exact absurd rfl h10|skip
  split at hb <;> first|exact absurd rfl h7|exact absurd rfl h8|exact absurd rfl h9|exact absurd rfl h10|skip
  exact zj2 hi hb (fun j hj=>by have:=hz j hj;split at this <;> first|exact absurd rfl h7|exact absurd rfl h8|exact absurd rfl h9|exact absurd rfl h10|exact this)
theorem zzc {h:Hist} {rl:Nat} (hz:∀j,j < zgz h rl→zg9 h rl j=false):ze2 h rl=none:=by
 unfold zgz zg9 at hz
 unfold ze2
 split
 ·exact zhs hz
 ·exact zhs hz
 ·exact zhs hz
 ·exact zhs hz
 ·rename_i h7 h8 h9 h10
  refine zhs fun j hj=> ?_
  have:=hz j (by split <;> first|exact absurd rfl h7|exact absurd rfl h8|exact absurd rfl h9|exact absurd rfl h10|exact hj)
  split at this <;> first|exact absurd rfl h7|exact absurd rfl h8|exact absurd rfl h9|exact absurd rfl h10|exact this
theorem ycv {h:Hist} {rl:Nat} (h7:rl≠7) (h8:rl≠8) (h9:rl≠9) (h10:rl≠10):zgz h rl=h.evs.length:=by
 unfold zgz;split <;> first|exact absurd rfl h7|exact absurd rfl h8|exact absurd rfl h9|exact absurd rfl h10|rfl
theorem yes {h:Hist} {rl i:Nat} (h7:rl≠7) (h8:rl≠8) (h9:rl≠9) (h10:rl≠10):zg9 h rl i=atQ (fun i e=>zdj rl e (h.evs.take i)) i h.evs:=by
 unfold zg9;split <;> first|exact absurd rfl h7|exact absurd rfl h8|exact absurd rfl h9|exact absurd rfl h10|rfl
theorem ycz (h:Hist):zgz h 7=(h.ords.map zez).length:=by rw [oM];rfl
theorem ycy (h:Hist):zgz h 8=(h.os.map zeh).length:=by rw [oM];rfl
theorem ycx (h:Hist):zgz h 9=(h.mats.map zeq).length:=by rw [oM];rfl
theorem zsv (h:Hist):zgz h 10=(h.wants.map zf4).length:=by rw [oM];rfl
theorem ycw {h:Hist} {rl:Nat} (h7:rl≠7) (h8:rl≠8) (h9:rl≠9) (h10:rl≠10):zgz h rl=(h.evs.map evR).length:=by rw [oM];exact ycv h7 h8 h9 h10
theorem yhw {h:Hist} {rl N:Nat} (la:Lim N h):zgz h rl≤N:=by
 unfold zgz;split
 ·exact la.ords
 ·exact la.os
 ·exact la.mats
 ·exact la.wants
 ·exact la.evs
def zw4:Option Nat→Int
 |some n=>n
 |none=> -1
theorem yln {p:Nat→Prop} {k:Nat} (z:∀o,o < k→p o) (h:p k):∀o,o < k+1→p o:=fun o ho=>by
 by_cases e:o < k
 ·exact z o e
 ·obtain rfl:o=k:=by omega
  exact h
end Go.H
