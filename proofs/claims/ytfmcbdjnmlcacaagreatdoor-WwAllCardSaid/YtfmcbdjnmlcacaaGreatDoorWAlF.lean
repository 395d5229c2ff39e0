/- The abstract logic, part 28: slices.Sort and slices.Compact at []int, as contracts over a row of one's own (the kit's shelf has walked them). .. -/
import Derived.Test.YtfmcbdjnmlcacaaGreatDoorWAlE
import Derived.Shelf.Sort.Plain
import Derived.Shelf.Slices.In.SortNone
import Derived.Shelf.Slices.CompactI
set_option linter.unusedSectionVars false
set_option linter.unusedSimpArgs false
set_option linter.unusedVariables false
namespace Go.Ab
open Go Go.Shelf Go.Sort Go.Proofs
def numR (n:Int):List AV:= [.v (.int .i64 n)]
theorem row_over {X:Nat→Prop} {w:World} {a:Addr} {cap:Nat} {T:TypeId} {xs ys zs:List Int} (hh:HRel X w [.row (.slice (some a) xs.length cap) 1 T (xs.map numR)]) (hl:ys.length=xs.length) (hz:zs=ys.take zs.length) (n:Nat) (os:Array Obj):
 HRel X (grow (putRow (Value.int .i64) (Sort.ahead w n) a.block a.off ys.toArray) os) [.row (.slice (some a) zs.length cap) 1 T (zs.map numR)]∧
 Keep [a.block] w [a.block] (grow (putRow (Value.int .i64) (Sort.ahead w n) a.block a.off ys.toArray) os):=by
 obtain ⟨h1,h2,h3,h4,c,h5,h6,h7⟩:=hh.holds _ (List.mem_singleton.2 rfl)
 have hb:a.block < w.heap.size:=(hh.lt a.block (by simp [owns,Res.own])).1
 have hX:¬X a.block:=(hh.lt a.block (by simp [owns,Res.own])).2
 obtain ⟨w',hw'⟩:∃w',w'=grow (putRow (Value.int .i64) (Sort.ahead w n) a.block a.off ys.toArray) os:=⟨_,rfl⟩
 rw [←hw']
 have hheap:w'.heap=(w.heap.modify a.block (onCells (putCells (Value.int .i64) a.off ys.toArray)))++os:=by rw [hw'];rfl
 have hos:EnvS w w':=by rw [hw'];exact ⟨⟨rfl,rfl⟩,rfl,Nat.le_add_right _ _⟩
 have hsize:w.heap.size≤w'.heap.size:=by rw [hheap];simp
 have hold:∀b,b < w.heap.size→b≠a.block→w'.heap[b]? =w.heap[b]? :=fun b hb hne=>by
  rw [hheap,Array.getElem?_append_left (by simpa using hb),Array.getElem?_modify,if_neg (Ne.symm hne)]
 have hnew:w'.heap[a.block]? =some (.cells (putCells (Value.int .i64) a.off ys.toArray c) T (0,0)):=by
  rw [hheap,Array.getElem?_append_left (by simpa using hb),Array.getElem?_modify,if_pos rfl,h5];rfl
 have hlen:zs.length≤ys.length:=by
  have:=congrArg List.length hz
  rw [List.length_take] at this;omega
 refine ⟨⟨by simp [owns,Res.own],fun b hb2=> ?_,fun b hb2=>Nat.lt_of_lt_of_le (hh.xlt b hb2) hsize,fun r hr=> ?_⟩,⟨hsize,fun b hb2 hne=> ?_,hos⟩⟩
 ·have:b=a.block:=by simpa [owns,Res.own] using hb2
  subst this;exact ⟨Nat.lt_of_lt_of_le hb hsize,hX⟩
 ·rw [List.mem_singleton] at hr
  subst hr
  refine ⟨h1,by simp,by simp at h2 h3;omega,fun i hi=>by simp [numR],_,hnew,by simpa [putCells] using h6,fun i hi j hj=> ?_⟩
  have hi2:i < zs.length:=by simpa using hi
  have hj0:j=0:=by simp [numR] at hj;omega
  subst hj0
  have hc:a.off+i < c.size:=by simp at h2 h3;omega
  refine ⟨.int .i64 (zs[i]),?_,?_⟩
  ·have hz2:zs[i]=ys[i]'(by omega):=by
    have:zs[i]? =(ys.take zs.length)[i]? :=by rw [←hz]
    rw [List.getElem?_take_of_lt hi2,List.getElem?_eq_getElem hi2,List.getElem?_eq_getElem (by omega)] at this
    exact Option.some.inj this
   have e:a.off+i * 1+0=a.off+i:=by omega
   rw [e]
   simp only [putCells,Array.getElem?_mapIdx]
   rw [Array.getElem?_eq_getElem hc]
   simp only [Option.map_some]
   rw [if_pos ⟨by omega,by simp;omega⟩,hz2]
   have e2:a.off+i - a.off=i:=by omega
   rw [e2]
   congr 2
   exact getElem!_pos _ _ (by simp;omega)
  ·simp only [List.getElem_map,numR]
   exact .v _
 ·have hne2:b≠a.block:=by simpa using hne
  exact ⟨hold b hb2 hne2,hne⟩
theorem row_nums {X:Nat→Prop} {w:World} {a:Addr} {cap:Nat} {T:TypeId} {xs:List Int} (hh:HRel X w [.row (.slice (some a) xs.length cap) 1 T (xs.map numR)]):Holds (Value.int .i64) w a.block a.off xs.toArray∧a.block < w.heap.size∧xs.length≤cap∧a.spot=none:=by
 obtain ⟨h1,h2,h3,h4,c,h5,h6,h7⟩:=hh.holds _ (List.mem_singleton.2 rfl)
 refine ⟨fun j hj=> ?_,(hh.lt a.block (by simp [owns,Res.own])).1,h3,h1⟩
 have hj2:j < xs.length:=by simpa using hj
 obtain ⟨v,e,r⟩:=h7 j (by simpa using hj2) 0 (by simp [numR])
 simp only [List.getElem_map,numR] at r
 have hv:v= .int .i64 xs[j]:=r.v_eq
 subst hv
 have e0:a.off+j * 1+0=a.off+j:=by omega
 rw [e0] at e
 refine ⟨?_,?_⟩
 ·have e2:w.cell? ⟨a.block,a.off+j,none⟩=some (.int .i64 xs[j]):=by simp [World.cell?,h5,e]
  have e3:xs.toArray[j]! =xs[j]:=getElem!_pos xs.toArray j hj
  rw [e2,e3]
 ·simp [World.frozen?,h5]
theorem row_nil {X:Nat→Prop} {w:World} {n cap:Nat} {T:TypeId} {xs:List Int} (hh:HRel X w [.row (.slice none n cap) 1 T (xs.map numR)]):xs= []∧n=0∧cap=0:=by
 obtain ⟨h1,h2,h3⟩:=hh.holds _ (List.mem_singleton.2 rfl)
 exact ⟨by simpa using h1,h2,h3⟩
section
variable {P:Program} {ρ:Ren}
theorem acall_sort (Ly:Lays.n189 P ρ) (s:SV) (T:TypeId) (xs:List Int) (hs:xs.length < 4611686018427387904):
 za6 P (ρ.f 189) [.v s.v] [.row s.v 1 T (xs.map numR)] (fun r h'=>h'= [.row s.v 1 T ((xs.mergeSort fun x y=>decide (x≤y)).map numR)]∧r= .v (.tuple #[])):=by
 intro X w vs hh ha
 match vs,ha with
 | [v],⟨hv,_⟩=>
   obtain rfl:=hv.v_eq
   obtain ⟨a,n,cap⟩:=s
   cases a with
   | none=>
     obtain ⟨rfl,rfl,rfl⟩:=row_nil hh
     refine callsIn_wide.2 ((Any.slices_Sort_int_none Ly none 0 w).mono ?_)
     rintro e w' ⟨rfl,rfl⟩
     exact ⟨_,_,_,rfl,⟨rfl,rfl⟩,.v _,by simpa using hh,.refl _ _⟩
   | some a=>
     have hn:n=xs.length:=by
      have:=(hh.holds _ (List.mem_singleton.2 rfl)).2.1
      simpa using this
     subst hn
     obtain ⟨g1,g2,g3,g4⟩:=row_nums hh
     obtain ⟨b,off,sp⟩:=a
     simp only at g1 g2 g4
     subst g4
     refine callsIn_wide.2 ((Any.slices_Sort_int Ly b off cap xs w g1 g2 hs).mono ?_)
     rintro e w' ⟨rfl,n,os,rfl⟩
     have hlen:(xs.mergeSort fun x y=>decide (x≤y)).length=xs.length:=List.length_mergeSort _
     obtain ⟨k1,k2⟩:=row_over (zs:=xs.mergeSort fun x y=>decide (x≤y)) hh hlen (List.take_length).symm n os
     rw [hlen] at k1
     exact ⟨_,_,_,rfl,⟨rfl,rfl⟩,.v _,k1,k2⟩
theorem acall_compact (Ly:Lays2.n20 P ρ) (s:SV) (T:TypeId) (xs:List Int) (hs:xs.length≤4611686018427387904):
 za6 P (ρ.f 20) [.v s.v] [.row s.v 1 T (xs.map numR)] (fun r h'=>∃s':SV,h'= [.row s'.v 1 T ((Lib.compact xs).map numR)]∧r= .v s'.v):=by
 intro X w vs hh ha
 match vs,ha with
 | [v],⟨hv,_⟩=>
   obtain rfl:=hv.v_eq
   obtain ⟨a,n,cap⟩:=s
   cases a with
   | none=>
     obtain ⟨rfl,rfl,rfl⟩:=row_nil hh
     refine callsIn_wide.2 ((Any.slices_Compact_int_empty Ly none 0 w).mono ?_)
     rintro e w' ⟨rfl,rfl⟩
     exact ⟨_,_,_,rfl,⟨⟨none,0,0⟩,rfl,rfl⟩,.v _,hh,.refl _ _⟩
   | some a=>
     have hn:n=xs.length:=by
      have:=(hh.holds _ (List.mem_singleton.2 rfl)).2.1
      simpa using this
     subst hn
     obtain ⟨g1,g2,g3,g4⟩:=row_nums hh
     obtain ⟨b,off,sp⟩:=a
     simp only at g1 g2 g4
     subst g4
     refine callsIn_wide.2 ((Any.slices_Compact_int Ly b off cap xs w g1 (by omega) g3).mono ?_)
     rintro e w' ⟨rfl,q,rfl⟩
     have hle:(Lib.compact xs).length≤xs.length:=by
      unfold Lib.compact Lib.compactUpTo
      rw [List.length_map]
      exact Nat.le_trans (List.length_filter_le _ _) (by simp)
     obtain ⟨k1,k2⟩:=row_over (ys:=Lib.compact xs++List.replicate (xs.length - (Lib.compact xs).length) 0) (zs:=Lib.compact xs) hh (by simp;omega) (by rw [List.take_left'];rfl) q #[]
     rw [grow_empty] at k1 k2
     exact ⟨_,_,_,rfl,⟨⟨some ⟨b,off,none⟩,(Lib.compact xs).length,cap⟩,rfl,rfl⟩,.v _,k1,k2⟩
end
end Go.Ab
namespace Go.H
open Go Go.Ab
theorem cmpct_snoc (y:Int):∀l:List Int,cmpct (l++ [y])=cmpct l++(if l.getLast? =some y then [] else [y])
 | []=>by simp [cmpct]
 | [x]=>by
   by_cases h:x=y
   ·subst h;simp [cmpct]
   ·simp [cmpct,h]
 | x::z::r=>by
   have ih:=cmpct_snoc y (z::r)
   simp only [List.cons_append] at ih ⊢
   have hl:(x::z::r).getLast? =(z::r).getLast? :=by simp [List.getLast?_cons]
   rw [hl,cmpct,cmpct]
   by_cases h:x=z
   ·rw [if_pos h,if_pos h];exact ih
   ·rw [if_neg h,if_neg h,ih];rfl
theorem compact_eq (xs:List Int):Lib.compact xs=cmpct xs:=by
 have key:∀m,m≤xs.length→Lib.compactUpTo xs.toArray m=cmpct (xs.take m):=by
  intro m
  induction m with
  |zero=>intro _;rfl
  | succ m ih=>
    intro hm
    have hlt:m < xs.length:=hm
    rw [Lib.compactUpTo_succ,ih (by omega),List.take_succ_eq_append_getElem hlt,cmpct_snoc]
    congr 1
    have e1:xs.toArray[m]! =xs[m]:=by simp [hlt]
    by_cases h0:m=0
    ·subst h0
     simp [Lib.keeps,hlt]
    ·have hlt':m - 1 < xs.length:=by omega
     have e2:xs.toArray[m - 1]! =xs[m - 1]:=by simp [hlt']
     have e3:(xs.take m).getLast? =some xs[m - 1]:=by
      rw [List.getLast?_eq_getElem?,List.length_take,Nat.min_eq_left (by omega),List.getElem?_take_of_lt (by omega)]
      simp [hlt']
     rw [e3]
     unfold Lib.keeps
     rw [e1,e2]
     by_cases he:xs[m]=xs[m - 1]
     ·rw [if_neg (by simp [h0,he]),if_pos (by rw [he])]
     ·rw [if_pos (by simp [he]),if_neg (fun q=>he (Option.some.inj q).symm)]
 have:=key xs.length (Nat.le_refl _)
 rw [List.take_length] at this
 exact this
def donT (l:List Ev):List (Int×Bool):=l.foldl (fun m e=>putT e.t ((getT e.t m).getD false||e.kind==5) m) []
theorem donT_go (t:Int):∀(l:List Ev) (m:List (Int×Bool)),(getT t (l.foldl (fun m e=>putT e.t ((getT e.t m).getD false||e.kind==5) m) m)).getD false=((getT t m).getD false||l.any fun y=>y.t==t && y.kind==5)
 | [],m=>by simp
 | e::l,m=>by
   rw [List.foldl_cons,donT_go t l,List.any_cons,get_put]
   by_cases h:e.t=t
   ·subst h;simp [Bool.or_assoc]
   ·have:(e.t==t)=false:=by simpa using h
    rw [if_neg h,this,Bool.false_and,Bool.false_or]
theorem donT_get (l:List Ev) (t:Int):(getT t (donT l)).getD false=l.any fun y=>y.t==t && y.kind==5:=by
 rw [donT,donT_go];simp [getT]
theorem donT_next {l:List Ev} {k:Nat} (hk:k < l.length):donT (l.take (k+1))=putT l[k].t ((getT l[k].t (donT (l.take k))).getD false||l[k].kind==5) (donT (l.take k)):=by
 rw [List.take_succ_eq_append_getElem hk,donT,List.foldl_append];rfl
section
variable {α:Type} {l:List α} {k:Nat} {p:α→Bool}
theorem flt_t (hk:k < l.length) (h:p l[k]=true):(l.take (k+1)).filter p=(l.take k).filter p++ [l[k]]:=by
 rw [List.take_succ_eq_append_getElem hk,List.filter_append];simp [h]
theorem flt_f (hk:k < l.length) (h:p l[k]=false):(l.take (k+1)).filter p=(l.take k).filter p:=by
 rw [List.take_succ_eq_append_getElem hk,List.filter_append];simp [h]
theorem flt_le:((l.take k).filter p).length≤l.length:=Nat.le_trans (List.length_filter_le _ _) (by simp;omega)
end
def wrB (l:List Ev) (x:Int) (e:Ev):Bool:=e.kind==2 && e.o==x && l.any fun y=>y.t==e.t && y.kind==5
theorem writersP_eq (l:List Ev) (x:Int):writersP l x=cmpct (srt ((l.filter (wrB l x)).map Ev.t)):=rfl
theorem contains_any (l:List Int) (n:Int):(l.any fun a=>a==n)=l.contains n:=by
 rw [Bool.eq_iff_iff];simp
theorem writers_le (l:List Ev) (x:Int):(writersP l x).length≤l.length:=by
 rw [writersP_eq]
 refine Nat.le_trans (cmpct_len _) ?_
 rw [(srt_perm _).length_eq,List.length_map]
 exact List.length_filter_le _ _
theorem len_bne (a b:Nat):((a:Int) !=(b:Int))= !decide (a=b):=by
 rw [Bool.eq_iff_iff];simp;omega
theorem za3.new {P:Program} {fv:AV} {args:List AV} {h:List Res} {R:AV→List Res→Prop} (hc:za3 P fv args [] R):za3 P fv args h (fun r h'=>∃h1,R r h1∧h'=h1++h):=
 (hc.frame h).mono fun _ _ ⟨h1,e,q⟩=>⟨h1,q,e⟩
def askE (h:Hist) (n many:Int):Int:=if zd0 h=0 then (if 0≤n∧n < many then 0 else 2) else zd0 h
def onE (e:Int) (l:List Int):List Int:=if e=0 then l else []
theorem ask_0 {h:Hist} {n many:Int} (he:askE h n many=0):soundB h=true∧0≤n∧n < many:=by
 unfold askE at he
 split at he
 ·rename_i hc
  split at he
  ·rename_i hn;exact ⟨checkI_0.1 hc,hn⟩
  ·cases he
 ·rename_i hc;exact absurd he hc
theorem ask_c {h:Hist} {n many:Int} (hc:zd0 h≠0):askE h n many=zd0 h:=by rw [askE,if_neg hc]
theorem ask_a {h:Hist} {n many:Int} (hc:zd0 h=0) (hn:¬(0≤n∧n < many)):askE h n many=2:=by rw [askE,if_pos hc,if_neg hn]
theorem ask_y {h:Hist} {n many:Int} (hc:zd0 h=0) (hn:0≤n∧n < many):askE h n many=0:=by rw [askE,if_pos hc,if_pos hn]
def endM (l:List Ev):List (Int×Bool):=setT (fun e:Ev=>e.kind==5) Ev.t [] l
theorem endM_get (l:List Ev) (t:Int):(getT t (endM l)).getD false=hasB l t 5:=by
 rw [endM,setT_get,hasB_any]
 have:(l.any fun e=>e.kind==5 && decide (e.t=t))=l.any fun y=>y.t==t && y.kind==5:=by
  congr 1;funext e;rw [Bool.and_comm];rfl
 rw [this]
 cases l.any fun y=>y.t==t && y.kind==5 <;> rfl
theorem endM_y {l:List Ev} {k:Nat} (hk:k < l.length) (h5:(l[k].kind==5)=true):endM (l.take (k+1))=putT l[k].t true (endM (l.take k)):=by
 rw [List.take_succ_eq_append_getElem hk,endM,setT,List.foldl_append,List.foldl_cons,List.foldl_nil,if_pos h5];rfl
theorem endM_n {l:List Ev} {k:Nat} (hk:k < l.length) (h5:(l[k].kind==5)=false):endM (l.take (k+1))=endM (l.take k):=by
 rw [List.take_succ_eq_append_getElem hk,endM,setT,List.foldl_append,List.foldl_cons,List.foldl_nil,if_neg (by rw [h5];decide)];rfl
def ownX (h:Hist):Hist:={h with evs:=h.evs.take 80}
theorem ownX_lim {h:Hist} {N:Nat} (la:Lim N h):Lim N (ownX h):=
 ⟨la.ts,la.ss,la.os,la.ps,by have:=la.evs;simp only [ownX,List.length_take];omega,la.ords,la.mats,la.wants,fun e he=>la.scans e (List.mem_of_mem_take he),la.ordts,la.matts⟩
def parR (x:Int×Int):List AV:= [iv x.1,iv x.2]
def parsA (l:List (Int×Int)):AV:= .list false 2 (l.map parR)
section
variable {α:Type} (cmp:α→α→Int)
def mrg:List α→List α→List α
 | [],b=>b
 |x::a,[]=>x::a
 |x::a,y::b=>if cmp y x < 0 then y::mrg (x::a) b else x::mrg a (y::b)
termination_by a b=>a.length+b.length
theorem mrg_nil (a:List α):mrg cmp a []=a:=by cases a <;> simp [mrg]
theorem mrg_perm:∀(a b:List α),(mrg cmp a b).Perm (a++b)
 | [],b=>by simp [mrg]
 |x::a,[]=>by simp [mrg]
 | x::a,y::b=>by
   rw [mrg]
   split
   ·exact ((mrg_perm (x::a) b).cons y).trans (List.perm_middle (l₁:=x::a)).symm
   ·exact (mrg_perm a (y::b)).cons x
termination_by a b=>a.length+b.length
def LeC (a b:α):Prop:=cmp a b≤0
structure CmpOk:Prop where
 trans:∀a b c,cmp a b≤0→cmp b c≤0→cmp a c≤0
 anti:∀a b,cmp b a= - cmp a b
variable {cmp}
theorem mrg_sorted (ok:CmpOk cmp):∀(a b:List α),a.Pairwise (LeC cmp)→b.Pairwise (LeC cmp)→(mrg cmp a b).Pairwise (LeC cmp)
 | [],b,_,hb=>by simpa [mrg] using hb
 |x::a,[],ha,_=>by simpa [mrg] using ha
 | x ::a,y::b,ha,hb=>by
   rw [mrg]
   have ha':=List.pairwise_cons.1 ha
   have hb':=List.pairwise_cons.1 hb
   split
   ·rename_i h
    refine List.pairwise_cons.2 ⟨fun z hz=> ?_,mrg_sorted ok (x::a) b ha hb'.2⟩
    have hz':=(mrg_perm cmp (x::a) b).mem_iff.1 hz
    rcases List.mem_append.1 hz' with hz'|hz'
    ·have hyx:LeC cmp y x:=Int.le_of_lt h
     rcases List.mem_cons.1 hz' with rfl|hz'
     ·exact hyx
     ·exact ok.trans _ _ _ hyx (ha'.1 z hz')
    ·exact hb'.1 z hz'
   ·rename_i h
    have hxy:LeC cmp x y:=by have:=ok.anti x y;show cmp x y≤0;omega
    refine List.pairwise_cons.2 ⟨fun z hz=> ?_,mrg_sorted ok a (y::b) ha'.2 hb⟩
    have hz':=(mrg_perm cmp a (y::b)).mem_iff.1 hz
    rcases List.mem_append.1 hz' with hz'|hz'
    ·exact ha'.1 z hz'
    ·rcases List.mem_cons.1 hz' with rfl|hz'
     ·exact hxy
     ·exact ok.trans _ _ _ hxy (hb'.1 z hz')
termination_by a b=>a.length+b.length
variable (cmp)
def pairUp:List (List α)→List (List α)
 |a::b::r=>mrg cmp a b::pairUp r
 |l=>l
theorem pairUp_len:∀l:List (List α),(pairUp cmp l).length=(l.length+1) / 2
 | []=>by simp [pairUp]
 | [a]=>by simp [pairUp]
 |a::b::r=>by rw [pairUp,List.length_cons,pairUp_len r,List.length_cons,List.length_cons];omega
theorem pairUp_perm:∀l:List (List α),(pairUp cmp l).flatten.Perm l.flatten
 | []=> .refl _
 | [a]=> .refl _
 | a::b::r=>by
   rw [pairUp,List.flatten_cons,List.flatten_cons,List.flatten_cons,←List.append_assoc]
   exact (mrg_perm cmp a b).append (pairUp_perm r)
def bothR (l:List (List α)) (k:Nat):List α:=if k+1=l.length then (l[k]?).getD [] else mrg cmp ((l[k]?).getD []) ((l[k+1]?).getD [])
theorem pairUp_get:∀(l:List (List α)) (i:Nat),i < (pairUp cmp l).length→(pairUp cmp l)[i]? =some (bothR cmp l (2 * i))
 | [],i,h=>by simp [pairUp] at h
 | [a],i,h=>by
   have:i=0:=by simpa [pairUp] using h
   subst this;rfl
 | a::b::r,0,h=>by
   rw [pairUp,bothR,if_neg (by simp)];rfl
 | a::b::r,i+1,h=>by
   have h':i < (pairUp cmp r).length:=by simpa [pairUp] using h
   rw [pairUp,List.getElem?_cons_succ,pairUp_get r i h',bothR,bothR,show 2 * (i+1)=2 * i+1+1 by omega]
   simp only [List.length_cons,List.getElem?_cons_succ]
   by_cases e:2 * i+1=r.length
   ·rw [if_pos e,if_pos (by omega)]
   ·rw [if_neg e,if_neg (by omega)]
def srtR (l:List (List α)):List (List α):=if h:1 < l.length then srtR (pairUp cmp l) else l
termination_by l.length
decreasing_by rw [pairUp_len];omega
theorem srtR_go {l:List (List α)} (h:1 < l.length):srtR cmp l=srtR cmp (pairUp cmp l):=by rw [srtR,dif_pos h]
theorem srtR_end {l:List (List α)} (h:¬1 < l.length):srtR cmp l=l:=by rw [srtR,dif_neg h]
theorem srtR_perm (l:List (List α)):(srtR cmp l).flatten.Perm l.flatten:=by
 by_cases h:1 < l.length
 ·rw [srtR_go cmp h]
  have:(pairUp cmp l).length < l.length:=by rw [pairUp_len];omega
  exact (srtR_perm (pairUp cmp l)).trans (pairUp_perm cmp l)
 ·rw [srtR_end cmp h]
termination_by l.length
theorem srtR_len (l:List (List α)):(srtR cmp l).length≤1:=by
 by_cases h:1 < l.length
 ·rw [srtR_go cmp h]
  have:(pairUp cmp l).length < l.length:=by rw [pairUp_len];omega
  exact srtR_len (pairUp cmp l)
 ·rw [srtR_end cmp h];omega
termination_by l.length
def sortL (l:List α):List α:=((srtR cmp (l.map fun x=> [x]))[0]?).getD []
theorem head_flatS (l:List (List α)) (h:l.length≤1):(l[0]?).getD []=l.flatten:=by
 match l,h with
 | [],_=>rfl
 | [a],_=>simp
theorem flat_sing (l:List α):(l.map fun x=> [x]).flatten=l:=by
 induction l with
 |nil=>rfl
 |cons a r ih=>rw [List.map_cons,List.flatten_cons,ih];rfl
theorem sortL_perm (l:List α):(sortL cmp l).Perm l:=by
 rw [sortL,head_flatS _ (srtR_len cmp _)]
 have:=srtR_perm cmp (l.map fun x=> [x])
 rwa [flat_sing] at this
variable {cmp}
theorem pairUp_sorted (ok:CmpOk cmp):∀l:List (List α),(∀r∈l,r.Pairwise (LeC cmp))→∀r∈pairUp cmp l,r.Pairwise (LeC cmp)
 | [],_,r,h=>by cases h
 | [a],hl,r,h=>hl r h
 | a::b::q,hl,r,h=>by
   rw [pairUp] at h
   rcases List.mem_cons.1 h with rfl|h
   ·exact mrg_sorted ok a b (hl a (by simp)) (hl b (by simp))
   ·exact pairUp_sorted ok q (fun r hr=>hl r (by simp [hr])) r h
theorem srtR_sorted (ok:CmpOk cmp) (l:List (List α)) (hl:∀r∈l,r.Pairwise (LeC cmp)):∀r∈srtR cmp l,r.Pairwise (LeC cmp):=by
 by_cases h:1 < l.length
 ·rw [srtR_go cmp h]
  have:(pairUp cmp l).length < l.length:=by rw [pairUp_len];omega
  exact srtR_sorted ok (pairUp cmp l) (pairUp_sorted ok l hl)
 ·rw [srtR_end cmp h];exact hl
termination_by l.length
theorem sortL_sorted (ok:CmpOk cmp) (l:List α):(sortL cmp l).Pairwise (LeC cmp):=by
 have h:=srtR_sorted ok (l.map fun x=> [x]) (fun r hr=>by obtain ⟨x,_,rfl⟩:=List.mem_map.1 hr;exact List.pairwise_singleton _ _)
 have hl:=srtR_len cmp (l.map fun x=> [x])
 rw [sortL]
 match hs:srtR cmp (l.map fun x=> [x]),hl with
 | [],_=>exact .nil
 | [a],_=>exact h a (by rw [hs];simp)
def LtC (cmp:α→α→Int) (a b:α):Prop:=cmp a b < 0
theorem lt_of_le (hz:∀a b,cmp a b=0→a=b):∀{l:List α},l.Pairwise (LeC cmp)→l.Nodup→l.Pairwise (LtC cmp):=by
 intro l h hn
 induction l with
 |nil=>exact .nil
 | cons a r ih=>
   rw [List.nodup_cons] at hn
   rw [List.pairwise_cons] at h ⊢
   refine ⟨fun b hb=> ?_,ih h.2 hn.2⟩
   have h1:=h.1 b hb
   have h2:cmp a b≠0:=fun e=>hn.1 (by rw [hz a b e];exact hb)
   show cmp a b < 0
   have:cmp a b≤0:=h1
   omega
theorem ltC_ext (ok:CmpOk cmp):∀(l m:List α),l.Pairwise (LtC cmp)→m.Pairwise (LtC cmp)→(∀z,z∈l ↔ z∈m)→l=m
 | [],[],_,_,_=>rfl
 | [],b::m,_,_,h=>by have:=(h b).2 (by simp);cases this
 |a::l,[],_,_,h=>by have:=(h a).1 (by simp);cases this
 | a ::l,b::m,hl,hm,h=>by
   have hl':=List.pairwise_cons.1 hl
   have hm':=List.pairwise_cons.1 hm
   have irr:∀z,¬LtC cmp z z:=fun z hz=>by have:=ok.anti z z;have:cmp z z < 0:=hz;omega
   have e:a=b:=by
    rcases List.mem_cons.1 ((h a).1 (by simp)) with e|h1
    ·exact e
    ·rcases List.mem_cons.1 ((h b).2 (by simp)) with e|h2
     ·exact e.symm
     ·have h3:cmp b a < 0:=hm'.1 a h1
      have h4:cmp a b < 0:=hl'.1 b h2
      have:=ok.anti a b;omega
   subst e
   congr 1
   refine ltC_ext ok l m hl'.2 hm'.2 fun z=> ?_
   have hz:=h z
   simp only [List.mem_cons] at hz
   constructor
   ·intro q
    rcases hz.1 (.inr q) with rfl|q'
    ·exact absurd (hl'.1 _ q) (irr _)
    ·exact q'
   ·intro q
    rcases hz.2 (.inr q) with rfl|q'
    ·exact absurd (hm'.1 _ q) (irr _)
    ·exact q'
end
section
variable {α:Type} [DecidableEq α] (cmp:α→α→Int)
def putC:List α→α→List α
 | [],c=> [c]
 |x::r,c=>if cmp x c < 0 then x::putC r c else if x=c then x::r else c::x::r
variable {cmp}
theorem putC_mem {c z:α}:∀{l:List α},z∈putC cmp l c ↔ z=c∨z∈l
 | []=>by simp [putC]
 | x::r=>by
   rw [putC]
   split
   ·rw [List.mem_cons,putC_mem,List.mem_cons];constructor <;> (rintro (h|h|h) <;> simp [h])
   ·split
    ·rename_i e;subst e;simp
    ·simp
theorem putC_sorted (ok:CmpOk cmp) (hz:∀a b,cmp a b=0→a=b) {c:α}:∀{l:List α},l.Pairwise (LtC cmp)→(putC cmp l c).Pairwise (LtC cmp)
 | [],_=>List.pairwise_singleton _ _
 | x ::r,h=>by
   have h':=List.pairwise_cons.1 h
   rw [putC]
   split
   ·rename_i hx
    refine List.pairwise_cons.2 ⟨fun z q=> ?_,putC_sorted ok hz h'.2⟩
    rcases putC_mem.1 q with rfl|q
    ·exact hx
    ·exact h'.1 z q
   ·split
    ·exact h
    ·rename_i hx he
     have hne:cmp x c≠0:=fun e=>he (hz x c e)
     have hcx:cmp c x < 0:=by have:=ok.anti x c;omega
     refine List.pairwise_cons.2 ⟨fun z q=> ?_,h⟩
     rcases List.mem_cons.1 q with rfl|q
     ·exact hcx
     ·have h1:cmp x z < 0:=h'.1 z q
      show cmp c z < 0
      have h2:cmp c z≤0:=ok.trans _ _ _ (Int.le_of_lt hcx) (Int.le_of_lt h1)
      by_cases e:cmp c z=0
      ·have:=hz _ _ e;subst this
       have:=ok.anti x c;omega
      ·omega
end
section
variable {α:Type}
def compG (q:α→α→Bool):α→List α→List α
 |_,[]=> []
 |p,y::r=>if q y p=true then compG q y r else y::compG q y r
def compF (q:α→α→Bool):List α→List α
 | []=> []
 |x::r=>x::compG q x r
def keepG (q:α→α→Bool):α→List α→List α
 |_,[]=> []
 |k,y::r=>if q y k=true then keepG q k r else y::keepG q y r
def keepF (q:α→α→Bool):List α→List α
 | []=> []
 |x::r=>x::keepG q x r
theorem comp_keep {κ:Type} [DecidableEq κ] {key:α→κ} {q:α→α→Bool} (hq:∀a b,q a b=decide (key a=key b)):∀(l:List α) (p k:α),key p=key k→compG q p l=keepG q k l
 | [],_,_,_=>rfl
 | y::r,p,k,h=>by
   rw [compG,keepG,hq,hq,h]
   by_cases e:key y=key k
   ·rw [if_pos (by simpa using e),if_pos (by simpa using e)];exact comp_keep hq r y k e
   ·rw [if_neg (by simpa using e),if_neg (by simpa using e),comp_keep hq r y y rfl]
theorem compF_keepF {κ:Type} [DecidableEq κ] {key:α→κ} {q:α→α→Bool} (hq:∀a b,q a b=decide (key a=key b)):∀l:List α,compF q l=keepF q l
 | []=>rfl
 |x::r=>by rw [compF,keepF,comp_keep hq r x x rfl]
theorem compG_sub (q:α→α→Bool):∀(l:List α) (p:α),(compG q p l).Sublist l
 | [],_=> .slnil
 | y::r,p=>by
   rw [compG];split
   ·exact (compG_sub q r y).cons y
   ·exact (compG_sub q r y).cons_cons y
theorem compF_sub (q:α→α→Bool):∀l:List α,(compF q l).Sublist l
 | []=> .slnil
 |x::r=>(compG_sub q r x).cons_cons x
end
variable {α:Type} (cmp:α→α→Int)
theorem mrg_y {a b:List α} {i j:Nat} (hi:i < a.length) (hj:j < b.length) (h:cmp b[j] a[i] < 0):mrg cmp (a.drop i) (b.drop j)=b[j]::mrg cmp (a.drop i) (b.drop (j+1)):=by
 rw [List.drop_eq_getElem_cons hi,List.drop_eq_getElem_cons hj,mrg,if_pos h]
theorem mrg_n {a b:List α} {i j:Nat} (hi:i < a.length) (hj:j < b.length) (h:¬cmp b[j] a[i] < 0):mrg cmp (a.drop i) (b.drop j)=a[i]::mrg cmp (a.drop (i+1)) (b.drop j):=by
 rw [List.drop_eq_getElem_cons hi,List.drop_eq_getElem_cons hj,mrg,if_neg h]
theorem mrg_over {a b:List α} (h:a= []∨b= []):mrg cmp a b=a++b:=by
 rcases h with rfl|rfl
 ·simp [mrg]
 ·rw [mrg_nil,List.append_nil]
theorem flat_mem {L:List (List α)} {r:List α} (h:r∈L):r.length≤L.flatten.length:=by
 induction L with
 |nil=>cases h
 | cons a L ih=>
   rw [List.flatten_cons,List.length_append]
   rcases List.mem_cons.1 h with rfl|h
   ·omega
   ·have:=ih h;omega
theorem pair_odd {L:List (List α)} {i:Nat} (h:2 * i+1=L.length):bothR cmp L (2 * i)=L[2 * i]'(by omega):=by
 rw [bothR,if_pos h,List.getElem?_eq_getElem (by omega)];rfl
theorem pair_two {L:List (List α)} {i:Nat} (h:2 * i+1 < L.length):bothR cmp L (2 * i)=mrg cmp (L[2 * i]'(by omega)) L[2 * i+1]:=by
 rw [bothR,if_neg (by omega),List.getElem?_eq_getElem (by omega),List.getElem?_eq_getElem h];rfl
theorem pair_take {L:List (List α)} {i:Nat} (h:i < (L.length+1) / 2):(pairUp cmp L).take (i+1)=(pairUp cmp L).take i++ [bothR cmp L (2 * i)]:=by
 have hl:i < (pairUp cmp L).length:=by rw [pairUp_len];exact h
 rw [List.take_succ_eq_append_getElem hl]
 congr 2
 have:=pairUp_get cmp L i hl
 rw [List.getElem?_eq_getElem hl] at this
 exact Option.some.inj this
theorem pair_all {L:List (List α)} {i:Nat} (h:i=(L.length+1) / 2):(pairUp cmp L).take i=pairUp cmp L:=by
 rw [List.take_of_length_le];rw [pairUp_len];omega
theorem sort_nil {L:List (List α)} {l:List α} (h:srtR cmp L=srtR cmp (l.map fun a=> [a])) (h0:L.length=0):sortL cmp l= []:=by
 rw [sortL,←h,srtR_end cmp (by omega),List.length_eq_zero_iff.1 h0];rfl
theorem sort_one {r l:List α} (h:srtR cmp [r]=srtR cmp (l.map fun a=> [a])):sortL cmp l=r:=by
 rw [sortL,←h,srtR_end cmp (by simp)];rfl
theorem one_flat (l:List α):(l.map fun a=> [a]).flatten=l:=by induction l <;> simp_all
structure Conf where
 f:Int
 t:Int
 k:Int
 a:Int
 b:Int
 o:Int
 p:Int
 deriving DecidableEq
def zb3 (c:Conf):List AV:= [iv c.f,iv c.t,iv c.k,iv c.a,iv c.b,iv c.o,iv c.p]
def confsA (l:List Conf):AV:= .list false 7 (l.map zb3)
theorem ze7 (l:List Conf):∀r∈l.map zb3,r.all AV.one=true:=by
 intro r hr;obtain ⟨a,_,rfl⟩:=List.mem_map.1 hr;rfl
def fldC (c:Conf):List Int:= [c.f,c.t,c.k,c.a,c.b,c.o,c.p]
def cmpL:List Int→List Int→Int
 | [],[]=>0
 | [],_::_=> -1
 |_::_,[]=>1
 |x::a,y::b=>if x < y then -1 else if y < x then 1 else cmpL a b
def cmpC (a b:Conf):Int:=cmpL (fldC a) (fldC b)
theorem cmpL_anti:∀a b:List Int,cmpL b a= - cmpL a b
 | [],[]=>rfl
 | [],_::_=>rfl
 |_::_,[]=>rfl
 | x::a,y::b=>by
   rw [cmpL,cmpL]
   by_cases h:x < y
   ·rw [if_neg (show ¬y < x by omega),if_pos h,if_pos h];rfl
   ·by_cases h':y < x
    ·rw [if_pos h',if_neg h,if_pos h']
    ·rw [if_neg h',if_neg h,if_neg h,if_neg h',cmpL_anti a b]
theorem cmpL_self:∀a:List Int,cmpL a a=0
 | []=>rfl
 |x::a=>by rw [cmpL,if_neg (by omega),if_neg (by omega),cmpL_self a]
theorem cmpL_zero:∀a b:List Int,cmpL a b=0→a=b
 | [],[],_=>rfl
 | [],_::_,h=>by simp [cmpL] at h
 |_::_,[],h=>by simp [cmpL] at h
 | x::a,y::b,h=>by
   rw [cmpL] at h
   split at h
   ·omega
   ·split at h
    ·omega
    ·rw [cmpL_zero a b h,show x=y by omega]
theorem cmpL_trans:∀a b c:List Int,cmpL a b≤0→cmpL b c≤0→cmpL a c≤0
 | [],[],c,_,h=>h
 | [],_::_,[],_,_=>by simp [cmpL]
 | [],_::_,_::_,_,_=>by simp [cmpL]
 |_::_,[],c,h,_=>by simp [cmpL] at h
 |_::_,_::_,[],_,h=>by simp [cmpL] at h
 | x ::a,y::b,z::c,h1,h2=>by
   rw [cmpL] at h1 h2 ⊢
   split at h1
   ·split at h2
    ·rw [if_pos (by omega)];omega
    ·split at h2
     ·omega
     ·rw [if_pos (by omega)];omega
   ·split at h1
    ·omega
    ·split at h2
     ·rw [if_pos (by omega)];omega
     ·split at h2
      ·omega
      ·rw [if_neg (by omega),if_neg (by omega)];exact cmpL_trans a b c h1 h2
theorem fldC_inj {a b:Conf} (h:fldC a=fldC b):a=b:=by
 cases a;cases b;simp only [fldC,List.cons.injEq,and_true] at h;simp only [Conf.mk.injEq];exact h
theorem cmpC_ok:CmpOk cmpC:=⟨fun a b c h k=>cmpL_trans _ _ _ h k,fun a b=>cmpL_anti _ _⟩
theorem cmpC_zero (a b:Conf) (h:cmpC a b=0):a=b:=fldC_inj (cmpL_zero _ _ h)
theorem cmpC_self (a:Conf):cmpC a a=0:=cmpL_self _
def lastAt (h:Hist) (t x:Int):Int:=atO (finW h.evs t x)
def wwC (h:Hist) (x a b:Int):Conf:=⟨a,b,0,lastAt h a x,lastAt h b x,x,0⟩
def wwN (h:Hist) (x:Int) (l:List Int) (k:Nat):Conf:=wwC h x ((l[k]?).getD 0) ((l[k+1]?).getD 0)
def wwL (h:Hist) (x:Int) (l:List Int):List Conf:=(List.range (l.length - 1)).map (wwN h x l)
def wwP (h:Hist) (x:Int):List Conf:=wwL h x (insP h x)
def wwRows (h:Hist):List (List Conf):=(upR h.os.length).map (wwP h)
def sameFT (a b:Conf):Bool:=a.f==b.f && a.t==b.t
def wwAll (h:Hist):List Conf:=compF sameFT (sortL cmpC (wwRows h).flatten)
theorem wwL_mem {h:Hist} {x:Int} {l:List Int} {c:Conf}:c∈wwL h x l ↔ ∃k,∃hk:k+1 < l.length,c=wwC h x l[k] l[k+1]:=by
 rw [wwL,List.mem_map]
 constructor
 ·rintro ⟨k,hk,rfl⟩
  have hk:=List.mem_range.1 hk
  refine ⟨k,by omega,?_⟩
  rw [wwN,List.getElem?_eq_getElem (by omega),List.getElem?_eq_getElem (by omega)];rfl
 ·rintro ⟨k,hk,rfl⟩
  refine ⟨k,List.mem_range.2 (by omega),?_⟩
  rw [wwN,List.getElem?_eq_getElem (by omega),List.getElem?_eq_getElem (by omega)];rfl
theorem wwL_o {h:Hist} {x:Int} {l:List Int} {c:Conf} (hc:c∈wwL h x l):c.o=x∧c.k=0∧c.p=0:=by
 obtain ⟨k,hk,rfl⟩:=wwL_mem.1 hc;exact ⟨rfl,rfl,rfl⟩
theorem wwL_nodup {h:Hist} {x:Int} {l:List Int} (hl:l.Nodup):(wwL h x l).Nodup:=by
 rw [wwL,List.Nodup,List.pairwise_map,List.pairwise_iff_getElem]
 intro i j hi hj hij e
 simp only [List.length_range] at hi hj
 simp only [List.getElem_range] at e
 have:(wwN h x l i).f=(wwN h x l j).f:=by rw [e]
 simp only [wwN,wwC] at this
 rw [List.getElem?_eq_getElem (by omega),List.getElem?_eq_getElem (by omega)] at this
 exact (List.pairwise_iff_getElem.1 hl) i j (by omega) (by omega) hij this
theorem wwRows_nodup {h:Hist} (hs:soundB h=true):(wwRows h).flatten.Nodup:=by
 rw [List.Nodup,List.pairwise_flatten]
 constructor
 ·intro l hl
  rw [wwRows,List.mem_map] at hl
  obtain ⟨x,hx,rfl⟩:=hl
  obtain ⟨a,b⟩:=(upR_mem _ _).1 hx
  exact wwL_nodup (ins_writers hs a b).1
 ·rw [wwRows,List.pairwise_map]
  refine (upR_lt _).imp fun {x y} hxy c hx d hy e=> ?_
  have h1:=(wwL_o hx).1
  have h2:=(wwL_o hy).1
  rw [e] at h1;omega
def wwR (h:Hist) (x:Int):List Conf:=wwL h x (insR h x)
def putAll (out l:List Conf):List Conf:=l.foldl (putC cmpC) out
def eachN (h:Hist) (n:Nat):List Conf:=(upR n).foldl (fun out x=>putAll out (wwR h x)) []
def eachR (h:Hist):List Conf:=eachN h h.os.length
theorem eachN_s (h:Hist) (n:Nat):eachN h (n+1)=putAll (eachN h n) (wwR h n):=by rw [eachN,upR_s,List.foldl_append];rfl
theorem putAll_s (out l:List Conf) {k:Nat} (hk:k < l.length):putAll out (l.take (k+1))=putC cmpC (putAll out (l.take k)) l[k]:=by
 rw [List.take_succ_eq_append_getElem hk,putAll,List.foldl_append];rfl
theorem putAll_sorted:∀(l out:List Conf),out.Pairwise (LtC cmpC)→(putAll out l).Pairwise (LtC cmpC)
 | [],_,h=>h
 |c::r,out,h=>putAll_sorted r (putC cmpC out c) (putC_sorted cmpC_ok cmpC_zero h)
theorem putAll_mem {z:Conf}:∀(l out:List Conf),z∈putAll out l ↔ z∈out∨z∈l
 | [],out=>by simp [putAll]
 | c::r,out=>by
   rw [show putAll out (c::r)=putAll (putC cmpC out c) r from rfl,putAll_mem r,putC_mem,List.mem_cons]
   constructor
   ·rintro ((h|h)|h) <;> simp [h]
   ·rintro (h|h|h) <;> simp [h]
theorem eachN_sorted (h:Hist):∀n,(eachN h n).Pairwise (LtC cmpC)
 |0=> .nil
 |n+1=>by rw [eachN_s];exact putAll_sorted _ _ (eachN_sorted h n)
theorem eachN_mem (h:Hist) {z:Conf}:∀n,z∈eachN h n ↔ ∃x∈upR n,z∈wwR h x
 |0=>by simp [eachN,upR]
 | n+1=>by
   rw [eachN_s,putAll_mem,eachN_mem h n,upR_s]
   constructor
   ·rintro (⟨x,hx,hz⟩|hz)
    ·exact ⟨x,List.mem_append_left _ hx,hz⟩
    ·exact ⟨n,List.mem_append_right _ (by simp),hz⟩
   ·rintro ⟨x,hx,hz⟩
    rcases List.mem_append.1 hx with hx|hx
    ·exact .inl ⟨x,hx,hz⟩
    ·rw [List.mem_singleton] at hx;subst hx;exact .inr hz
theorem ww_eq {h:Hist} (hs:soundB h=true) {x:Int} (h0:0≤x) (h1:x < h.os.length):wwP h x=wwR h x:=by rw [wwP,wwR,ins_eq hs h0 h1]
theorem each_sort {h:Hist} (hs:soundB h=true):sortL cmpC (wwRows h).flatten=eachR h:=by
 refine ltC_ext cmpC_ok _ _ (lt_of_le cmpC_zero (sortL_sorted cmpC_ok _) ((sortL_perm _ _).nodup_iff.2 (wwRows_nodup hs))) (eachN_sorted h _) fun z=> ?_
 rw [(sortL_perm cmpC _).mem_iff,eachR,eachN_mem,List.mem_flatten]
 constructor
 ·rintro ⟨l,hl,hz⟩
  rw [wwRows,List.mem_map] at hl
  obtain ⟨x,hx,rfl⟩:=hl
  obtain ⟨a,b⟩:=(upR_mem _ _).1 hx
  exact ⟨x,hx,by rw [←ww_eq hs a b];exact hz⟩
 ·rintro ⟨x,hx,hz⟩
  obtain ⟨a,b⟩:=(upR_mem _ _).1 hx
  exact ⟨wwP h x,List.mem_map_of_mem hx,by rw [ww_eq hs a b];exact hz⟩
def ze8 (a b:Conf):Bool:=a.f==b.f && a.t==b.t && a.k==b.k
def firC (l:List Conf):List Conf:=keepF ze8 l
theorem keepG_congr {α:Type} {q r:α→α→Bool}:∀(l:List α) (k:α),(∀a∈l,∀b∈k::l,q a b=r a b)→keepG q k l=keepG r k l
 | [],_,_=>rfl
 | y::l,k,h=>by
   rw [keepG,keepG,h y (by simp) k (by simp),keepG_congr l k (fun a ha b hb=>h a (by simp [ha]) b (by rcases List.mem_cons.1 hb with rfl|hb <;> simp [*])),keepG_congr l y (fun a ha b hb=>h a (by simp [ha]) b (by rcases List.mem_cons.1 hb with rfl|hb <;> simp [*]))]
theorem all_eq {h:Hist} (hs:soundB h=true):wwAll h=firC (eachR h):=by
 have hk:∀c∈eachR h,c.k=0:=fun c hc=>by
  obtain ⟨x,_,hz⟩:=(eachN_mem h _).1 hc
  exact (wwL_o hz).2.1
 rw [wwAll,each_sort hs,compF_keepF (key:=fun c:Conf=>(c.f,c.t)) (q:=sameFT) (fun a b=>by rw [sameFT,Bool.eq_iff_iff];simp),firC]
 generalize eachR h=L at hk
 cases L with
 |nil=>rfl
 | cons x r=>
   rw [keepF,keepF,keepG_congr r x fun a ha b hb=> ?_]
   rw [ze8,hk a (by simp [ha]),hk b hb];simp [sameFT]
def aheadP (l:List Int) (f t:Int):Bool:=(l.takeWhile fun z=> !(z==t)).contains f && !(f==t) && l.contains t
theorem atI_ge (n:Int):∀(l:List Int) (i:Nat),atI n i l= -1∨(i:Int)≤atI n i l
 | [],i=> .inl rfl
 | x::r,i=>by
   rw [atI];split
   ·exact .inr (Int.le_refl _)
   ·rcases atI_ge n r (i+1) with h|h
    ·exact .inl h
    ·exact .inr (by omega)
theorem atI_in (n:Int):∀(l:List Int) (i:Nat),l.contains n=decide (0≤atI n i l)
 | [],i=>by simp [atI]
 | x::r,i=>by
   rw [atI,List.contains_cons]
   by_cases h:x=n
   ·subst h;rw [if_pos rfl];simp
   ·rw [if_neg h,←atI_in n r (i+1)]
    have:(n==x)=false:=by rw [beq_eq_false_iff_ne];exact fun e=>h e.symm
    rw [this,Bool.false_or]
theorem ahead_at (f t:Int):∀(l:List Int) (i:Nat),aheadP l f t=(decide (atI f i l ≥ 0) && decide (atI t i l > atI f i l))
 | [],i=>by simp [aheadP,atI]
 | x ::r,i=>by
   have ih:=ahead_at f t r (i+1)
   by_cases ht:x=t
   ·subst ht
    have e1:aheadP (x::r) f x=false:=by rw [aheadP,List.takeWhile_cons];simp
    rw [e1,atI,atI,if_pos rfl]
    by_cases hf:x=f
    ·rw [if_pos hf];simp
    ·rw [if_neg hf]
     rcases atI_ge f r (i+1) with h|h
     ·rw [h];rfl
     ·rw [decide_eq_false (show ¬(i:Int) > atI f (i+1) r by omega),Bool.and_false]
   ·have e0:((x::r).takeWhile fun z=> !(z==t))=x::r.takeWhile fun z=> !(z==t):=by
     rw [List.takeWhile_cons,if_pos (by simpa using ht)]
    have e2:(x::r).contains t=r.contains t:=by
     rw [List.contains_cons]
     have:(t==x)=false:=by rw [beq_eq_false_iff_ne];exact fun e=>ht e.symm
     rw [this,Bool.false_or]
    by_cases hf:x=f
    ·subst hf
     have e1:aheadP (x::r) x t=r.contains t:=by
      rw [aheadP,e0,e2,List.contains_cons]
      have:(x==t)=false:=by simpa using ht
      rw [this];simp
     rw [e1,atI,atI,if_pos rfl,if_neg ht,decide_eq_true (show (i:Int) ≥ 0 by omega),Bool.true_and,atI_in t r (i+1)]
     rcases atI_ge t r (i+1) with h|h
     ·rw [h];rw [decide_eq_false (by omega),decide_eq_false (by omega)]
     ·rw [decide_eq_true (by omega),decide_eq_true (by omega)]
    ·have e1:aheadP (x::r) f t=aheadP r f t:=by
      rw [aheadP,e0,e2,List.contains_cons,aheadP]
      have:(f==x)=false:=by rw [beq_eq_false_iff_ne];exact fun e=>hf e.symm
      rw [this,Bool.false_or]
     rw [e1,ih,atI,atI,if_neg hf,if_neg ht]
def chainP (h:Hist) (f t:Int):List Int:=(upR h.os.length).filter fun x=>aheadP (insP h x) f t
def chainR (h:Hist) (f t:Int):List Int:=(upR h.os.length).filter fun x=>decide (atI f 0 (insR h x) ≥ 0) && decide (atI t 0 (insR h x) > atI f 0 (insR h x))
theorem chain_eq {h:Hist} (hs:soundB h=true) (f t:Int):chainP h f t=chainR h f t:=by
 rw [chainP,chainR]
 refine List.filter_congr fun x hx=> ?_
 obtain ⟨a,b⟩:=(upR_mem _ _).1 hx
 rw [ahead_at f t _ 0,ins_eq hs a b]
def evBg (t:Int):Ev:=⟨1,t,0,1,0,⟨0,0⟩,0,[]⟩
def evWr (t o:Int):Ev:=⟨2,t,0,0,o,⟨t,1⟩,0,[]⟩
def evCm (t:Int):Ev:=⟨5,t,0,0,0,⟨0,0⟩,0,[]⟩
def smE:Nat→List Ev
 |0=> []
 |k+1=>smE k++ [evBg k,evWr k 0]++(if k=1 then [] else [evWr k 1])++ [evCm k]
theorem smE_1 {k:Nat} (h:k=1):smE (k+1)=smE k++ [evBg k,evWr k 0]++ [evCm k]:=by rw [smE,if_pos h,List.append_nil]
theorem smE_n {k:Nat} (h:k≠1):smE (k+1)=smE k++ [evBg k,evWr k 0]++ [evWr k 1]++ [evCm k]:=by rw [smE,if_neg h]
theorem smE_len (k:Nat):(smE k).length≤4 * k:=by
 induction k with
 |zero=>exact Nat.le_refl _
 | succ k ih=>
   by_cases h:k=1
   ·rw [smE_1 h];simp only [List.length_append,List.length_cons,List.length_nil];omega
   ·rw [smE_n h];simp only [List.length_append,List.length_cons,List.length_nil];omega
def wT (n:UInt8):ByteArray:=⟨#[84,n]⟩
def bsmall:ByteArray:=⟨#[115]⟩
def bxx:ByteArray:=⟨#[120]⟩
def byy:ByteArray:=⟨#[121]⟩
def wwH:Hist:=⟨[wT 48,wT 49,wT 50],[bsmall],[bxx,byy],[],smE 3,[⟨0,[1,0,2]⟩,⟨1,[2,0]⟩],[],[]⟩
theorem ww_may:mayB wwH=true:=by decide+kernel
theorem ww_sound:soundB wwH=true:=by
 have:firstH wwH=none:=(first_eq ww_may).trans (by decide+kernel)
 rw [soundB,ww_may,this];rfl
theorem ww_check:zd0 wwH=0:=checkI_0.2 ww_sound
theorem ww_allS:wwAll wwH= [⟨0,2,0,1,8,0,0⟩,⟨1,0,0,5,1,0,0⟩,⟨2,0,0,9,2,1,0⟩]:=by decide+kernel
theorem ww_ch20:chainP wwH 2 0= [1]:=by decide+kernel
theorem ww_ch21:chainP wwH 2 1= []:=by decide+kernel
end Go.H
