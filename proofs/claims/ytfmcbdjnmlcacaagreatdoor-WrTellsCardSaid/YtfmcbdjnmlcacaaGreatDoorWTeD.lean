/- The reference's question on an event. Conditions: as each lemma states. -/
import Derived.Test.YtfmcbdjnmlcacaaGreatDoorWTeC
set_option linter.unusedSimpArgs false
set_option linter.unusedVariables false
namespace Go.H
open Go Go.Ab
def yb6 (r:Nat) (e:Ev) (l:List Ev) (i:Nat) (s:Seen):Bool:=
 match r with
 |4=> !(s.v.k==0||zfi l s.o s.v)
 |5=>match (zco l e.t s.o).getLast? with|some y=>y.v !=s.v|none=>false
 |6=>((u6 e).take i).any fun p=>p.o==s.o
 |_=>false
def OkS (r:Nat) (e:Ev) (l:List Ev) (k:Nat):Prop:=∀i,(h:i < (u6 e).length)→i < k→yb6 r e l i (u6 e)[i]=false
theorem ydc {r:Nat} {e:Ev} {l:List Ev} {k:Nat} (h:k < (u6 e).length) (z:OkS r e l k) (a:yb6 r e l k (u6 e)[k]=false):OkS r e l (k+1):=by
 intro i hi hk
 by_cases c:i < k
 ·exact z i hi c
 ·obtain rfl:i=k:=by omega
  exact a
theorem ylv {α:Type} {q:α→Bool} {l:List α} {k:Nat} (h:k < l.length) (a:q l[k]=true):l.any q=true:=List.any_eq_true.2 ⟨_,List.getElem_mem h,a⟩
theorem zqo {r:Nat} {e:Ev} {l:List Ev} {k:Nat} (hr:4≤r∧r≤6) (h:k < (u6 e).length) (a:yb6 r e l k (u6 e)[k]=true):zdk r e l=true:=by
 obtain ⟨h4,h6⟩:=hr
 match r,h4,h6 with
 |4,_,_=>exact ylv h a
 |5,_,_=>exact ylv h a
 |6,_,_=>
  simp only [yb6] at a
  simp only [zdk]
  refine List.any_eq_true.2 ⟨k,List.mem_range.2 h,?_⟩
  simpa [List.getElem?_eq_getElem h] using a
theorem ygk {r:Nat} {e:Ev} {l:List Ev} (hr:4≤r∧r≤6) (z:OkS r e l (u6 e).length):zdk r e l=false:=by
 obtain ⟨h4,h6⟩:=hr
 match r,h4,h6 with
 |4,_,_=>
  simp only [zdk];rw [List.any_eq_false];intro s hs
  obtain ⟨i,hi,rfl⟩:=List.mem_iff_getElem.1 hs
  have:=z i hi hi;simp only [yb6] at this;rw [this];decide
 |5,_,_=>
  simp only [zdk];rw [List.any_eq_false];intro s hs
  obtain ⟨i,hi,rfl⟩:=List.mem_iff_getElem.1 hs
  have:=z i hi hi;simp only [yb6] at this
  intro q;exact absurd (q.symm.trans this) (by decide)
 |6,_,_=>
  simp only [zdk];rw [List.any_eq_false];intro i hi
  rw [List.mem_range] at hi
  have:=z i hi hi;simp only [yb6] at this
  rw [List.getElem?_eq_getElem hi]
  rw [Bool.not_eq_true]
  simpa using this
theorem zci (a b:Ver):([a.t,a.k]== [b.t,b.k])=(a==b):=by
 cases a;cases b
 rw [Bool.eq_iff_iff];simp
theorem zx4 {L:List Ev} (h:decide (((L.map evR).length:Int) > 0)=true):∃w,L.getLast? =some w∧(L.map evR)[(((L.map evR).length:Int) - 1).toNat]? =some (evR w)∧0≤((L.map evR).length:Int) - 1:=by
 have h0:0 < L.length:=by have:=h;simp at this;exact this
 refine ⟨L[L.length - 1],?_,?_,?_⟩
 ·rw [List.getLast?_eq_getElem?,List.getElem?_eq_getElem (by omega)]
 ·rw [oM,show ((L.length:Int) - 1).toNat=L.length - 1 by omega,List.getElem?_map,List.getElem?_eq_getElem (by omega)];rfl
 ·rw [oM];omega
theorem zk8 {e:Ev} {l:List Ev} {i:Nat} {s:Seen} {w:Ev} (h:(zco l e.t s.o).getLast? =some w):yb6 5 e l i s=(w.v !=s.v):=by simp only [yb6];rw [h]
theorem znn {e:Ev} {l:List Ev} {i:Nat} {s:Seen} (h:decide ((((zco l e.t s.o).map evR).length:Int) > 0)=false):yb6 5 e l i s=false:=by
 have:zco l e.t s.o= []:=by simpa using h
 simp only [yb6];rw [this];rfl
def zg6 (h:Hist) (rl:Nat):Nat:=
 match rl with
 |7=>h.ords.length
 |8=>h.os.length
 |9=>h.mats.length
 |10=>h.wants.length
 |_=>h.evs.length
def atQ {α:Type} (w:Nat→α→Bool) (i:Nat) (l:List α):Bool:=match l[i]? with|some x=>w i x|none=>false
def zhg (h:Hist) (rl i:Nat):Bool:=
 match rl with
 |7=>atQ (zke h) i h.ords
 |8=>atQ (fun x _=>zo5 h (x:Int)) i h.os
 |9=>atQ (zkj h) i h.mats
 |10=>atQ (zk3 h) i h.wants
 |r=>atQ (fun i e=>zdk r e (h.evs.take i)) i h.evs
theorem zma {α:Type} {w:Nat→α→Bool} {i:Nat} {l:List α} (h:i < l.length):atQ w i l=w i l[i]:=by
 rw [atQ,List.getElem?_eq_getElem h]
theorem zxn {α:Type} {w:Nat→α→Bool}:∀(l:List α) (k i:Nat) (hi:i < l.length),w (k+i) l[i]=true→(∀j,(hj:j < i)→w (k+j) (l[j]'(by omega))=false)→zdj w k l=some (k+i)
 | [],_,_,hi,_,_=>absurd hi (by simp)
 |x::r,k,0,hi,hb,_=>by rw [zdj,if_pos (by simpa using hb)];rfl
 |x::r,k,i+1,hi,hb,hz=>by
  have h0:w k x=false:=hz 0 (by omega)
  rw [zdj,if_neg (by rw [h0];decide),zxn r (k+1) i (by simpa using hi) (by rw [show k+1+i=k+(i+1) by omega];exact hb) (fun j hj=>by
   have:=hz (j+1) (by omega)
   rw [show k+1+j=k+(j+1) by omega];exact this)]
  congr 1;omega
theorem zka {α:Type} {w:Nat→α→Bool} {l:List α} {i:Nat} (hi:i < l.length) (hb:atQ w i l=true) (hz:∀j,j < i→atQ w j l=false):zdj w 0 l=some i:=by
 rw [zma hi] at hb
 have:=zxn l 0 i hi (by rw [Nat.zero_add];exact hb) (fun j hj=>by have:=hz j hj;rw [zma (by omega)] at this;rw [Nat.zero_add];exact this)
 rwa [Nat.zero_add] at this
theorem zh1 {α:Type} {w:Nat→α→Bool} {l:List α} (hz:∀j,j < l.length→atQ w j l=false):zdj w 0 l=none:=by
 rw [zgg]
 intro j hj
 have:=hz j hj
 rw [zma hj] at this
 rw [Nat.zero_add];exact this
theorem yc0 {h:Hist} {rl i:Nat} (hi:i < zg6 h rl) (hb:zhg h rl i=true) (hz:∀j,j < i→zhg h rl j=false):ze3 h rl=some i:=by
 unfold zhg at hb hz
 unfold zg6 at hi
 unfold ze3
 split
 ·exact zka hi hb hz
 ·exact zka hi hb hz
 ·exact zka hi hb hz
 ·exact zka hi hb hz
 ·rename_i h7 h8 h9 h10
  split at hi <;> first|exact absurd rfl h7|exact absurd rfl h8|exact absurd rfl h9|exact absurd rfl h10|skip
  split at hb <;> first|exact absurd rfl h7|exact absurd rfl h8|exact absurd rfl h9|exact absurd rfl h10|skip
  exact zka hi hb (fun j hj=>by have:=hz j hj;split at this <;> first|exact absurd rfl h7|exact absurd rfl h8|exact absurd rfl h9|exact absurd rfl h10|exact this)
theorem zz2 {h:Hist} {rl:Nat} (hz:∀j,j < zg6 h rl→zhg h rl j=false):ze3 h rl=none:=by
 unfold zg6 zhg at hz
 unfold ze3
 split
 ·exact zh1 hz
 ·exact zh1 hz
 ·exact zh1 hz
 ·exact zh1 hz
 ·rename_i h7 h8 h9 h10
  refine zh1 fun j hj=> ?_
  have:=hz j (by split <;> first|exact absurd rfl h7|exact absurd rfl h8|exact absurd rfl h9|exact absurd rfl h10|exact hj)
  split at this <;> first|exact absurd rfl h7|exact absurd rfl h8|exact absurd rfl h9|exact absurd rfl h10|exact this
theorem ydl {h:Hist} {rl:Nat} (h7:rl≠7) (h8:rl≠8) (h9:rl≠9) (h10:rl≠10):zg6 h rl=h.evs.length:=by
 unfold zg6;split <;> first|exact absurd rfl h7|exact absurd rfl h8|exact absurd rfl h9|exact absurd rfl h10|rfl
theorem yff {h:Hist} {rl i:Nat} (h7:rl≠7) (h8:rl≠8) (h9:rl≠9) (h10:rl≠10):zhg h rl i=atQ (fun i e=>zdk rl e (h.evs.take i)) i h.evs:=by
 unfold zhg;split <;> first|exact absurd rfl h7|exact absurd rfl h8|exact absurd rfl h9|exact absurd rfl h10|rfl
theorem ydp (h:Hist):zg6 h 7=(h.ords.map zef).length:=by rw [oM];rfl
theorem ydo (h:Hist):zg6 h 8=(h.os.map zdi).length:=by rw [oM];rfl
theorem ydn (h:Hist):zg6 h 9=(h.mats.map zd8).length:=by rw [oM];rfl
theorem zs3 (h:Hist):zg6 h 10=(h.wants.map zfh).length:=by rw [oM];rfl
theorem ydm {h:Hist} {rl:Nat} (h7:rl≠7) (h8:rl≠8) (h9:rl≠9) (h10:rl≠10):zg6 h rl=(h.evs.map evR).length:=by rw [oM];exact ydl h7 h8 h9 h10
theorem yim {h:Hist} {rl N:Nat} (la:Lim N h):zg6 h rl≤N:=by
 unfold zg6;split
 ·exact la.ords
 ·exact la.os
 ·exact la.mats
 ·exact la.wants
 ·exact la.evs
def zxt:Option Nat→Int
 |some n=>n
 |none=> -1
theorem ymf {p:Nat→Prop} {k:Nat} (z:∀o,o < k→p o) (h:p k):∀o,o < k+1→p o:=fun o ho=>by
 by_cases e:o < k
 ·exact z o e
 ·obtain rfl:o=k:=by omega
  exact h
end Go.H
