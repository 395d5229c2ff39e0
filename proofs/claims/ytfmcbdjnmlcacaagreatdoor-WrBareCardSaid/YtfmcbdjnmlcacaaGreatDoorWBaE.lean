/- The abstract logic, part 28: slices.Sort and slices.Compact at []int, as contracts over a row of one's own (the kit's shelf has walked them). .. -/
import Derived.Test.YtfmcbdjnmlcacaaGreatDoorWBaD
import Derived.Shelf.Sort.Plain
import Derived.Shelf.Slices.In.SortNone
import Derived.Shelf.Slices.CompactI
set_option linter.unusedSectionVars false
set_option linter.unusedSimpArgs false
set_option linter.unusedVariables false
namespace Go.Ab
open Go Go.Shelf Go.Sort Go.Proofs
def numR (n:Int):List AV:= [.v (.int .i64 n)]
theorem zsx {X:Nat→Prop} {w:World} {a:Addr} {cap:Nat} {T:TypeId} {xs ys zs:List Int} (hh:HRel X w [.row (.slice (some a) xs.length cap) 1 T (xs.map numR)]) (hl:ys.length=xs.length) (hz:zs=ys.take zs.length) (n:Nat) (os:Array Obj):
 HRel X (grow (putRow (Value.int .i64) (Sort.ahead w n) a.block a.off ys.toArray) os) [.row (.slice (some a) zs.length cap) 1 T (zs.map numR)]∧
 Keep [a.block] w [a.block] (grow (putRow (Value.int .i64) (Sort.ahead w n) a.block a.off ys.toArray) os):=by
 obtain ⟨h1,h2,h3,h4,c,h5,h6,h7⟩:=hh.holds _ (List.mem_singleton.2 rfl)
 have hb:a.block < w.heap.size:=(hh.lt a.block (by simp [j5,Res.own])).1
 have hX:¬X a.block:=(hh.lt a.block (by simp [j5,Res.own])).2
 obtain ⟨w',hw'⟩:∃w',w'=grow (putRow (Value.int .i64) (Sort.ahead w n) a.block a.off ys.toArray) os:=⟨_,rfl⟩
 rw [←hw']
 have hheap:w'.heap=(w.heap.modify a.block (onCells (putCells (Value.int .i64) a.off ys.toArray)))++os:=by rw [hw'];rfl
 have hos:zg5 w w':=by rw [hw'];exact ⟨⟨rfl,rfl⟩,rfl,Nat.le_add_right _ _⟩
 have hsize:w.heap.size≤w'.heap.size:=by rw [hheap];simp
 have hold:∀b,b < w.heap.size→b≠a.block→w'.heap[b]? =w.heap[b]? :=fun b hb hne=>by
  rw [hheap,Array.getElem?_append_left (by simpa using hb),Array.getElem?_modify,if_neg (Ne.symm hne)]
 have hnew:w'.heap[a.block]? =some (.cells (putCells (Value.int .i64) a.off ys.toArray c) T (0,0)):=by
  rw [hheap,Array.getElem?_append_left (by simpa using hb),Array.getElem?_modify,if_pos rfl,h5];rfl
 have hlen:zs.length≤ys.length:=by
  have:=congrArg List.length hz
  rw [List.length_take] at this;omega
 refine ⟨⟨by simp [j5,Res.own],fun b hb2=> ?_,fun b hb2=>Nat.lt_of_lt_of_le (hh.xlt b hb2) hsize,fun r hr=> ?_⟩,⟨hsize,fun b hb2 hne=> ?_,hos⟩⟩
 ·have:b=a.block:=by simpa [j5,Res.own] using hb2
  subst this;exact ⟨Nat.lt_of_lt_of_le hb hsize,hX⟩
 ·rw [List.mem_singleton] at hr
  subst hr
  refine ⟨h1,by simp,by simp at h2 h3;omega,fun i hi=>by simp [numR],_,hnew,by simpa [putCells] using h6,fun i hi j hj=> ?_⟩
  have hi2:i < zs.length:=by simpa using hi
  have hj0:j=0:=by simp [numR] at hj;omega
  subst hj0
  have hc:a.off+i < c.size:=by simp at h2 h3;omega
  refine ⟨.int .i64 (zs[i]),?_,?_⟩
  ·have hz2:zs[i]=ys[i]'(by omega):=by
    have:zs[i]? =(ys.take zs.length)[i]? :=by rw [←hz]
    rw [List.getElem?_take_of_lt hi2,List.getElem?_eq_getElem hi2,List.getElem?_eq_getElem (by omega)] at this
    exact Option.some.inj this
   have e:a.off+i * 1+0=a.off+i:=by omega
   rw [e]
   simp only [putCells,Array.getElem?_mapIdx]
   rw [Array.getElem?_eq_getElem hc]
   simp only [Option.map_some]
   rw [if_pos ⟨by omega,by simp;omega⟩,hz2]
   have e2:a.off+i - a.off=i:=by omega
   rw [e2]
   congr 2
   exact getElem!_pos _ _ (by simp;omega)
  ·simp only [List.getElem_map,numR]
   exact .v _
 ·have hne2:b≠a.block:=by simpa using hne
  exact ⟨hold b hb2 hne2,hne⟩
theorem zsy {X:Nat→Prop} {w:World} {a:Addr} {cap:Nat} {T:TypeId} {xs:List Int} (hh:HRel X w [.row (.slice (some a) xs.length cap) 1 T (xs.map numR)]):Holds (Value.int .i64) w a.block a.off xs.toArray∧a.block < w.heap.size∧xs.length≤cap∧a.spot=none:=by
 obtain ⟨h1,h2,h3,h4,c,h5,h6,h7⟩:=hh.holds _ (List.mem_singleton.2 rfl)
 refine ⟨fun j hj=> ?_,(hh.lt a.block (by simp [j5,Res.own])).1,h3,h1⟩
 have hj2:j < xs.length:=by simpa using hj
 obtain ⟨v,e,r⟩:=h7 j (by simpa using hj2) 0 (by simp [numR])
 simp only [List.getElem_map,numR] at r
 have hv:v= .int .i64 xs[j]:=r.v_eq
 subst hv
 have e0:a.off+j * 1+0=a.off+j:=by omega
 rw [e0] at e
 refine ⟨?_,?_⟩
 ·have e2:w.cell? ⟨a.block,a.off+j,none⟩=some (.int .i64 xs[j]):=by simp [World.cell?,h5,e]
  have e3:xs.toArray[j]! =xs[j]:=getElem!_pos xs.toArray j hj
  rw [e2,e3]
 ·simp [World.frozen?,h5]
theorem zwo {X:Nat→Prop} {w:World} {n cap:Nat} {T:TypeId} {xs:List Int} (hh:HRel X w [.row (.slice none n cap) 1 T (xs.map numR)]):xs= []∧n=0∧cap=0:=by
 obtain ⟨h1,h2,h3⟩:=hh.holds _ (List.mem_singleton.2 rfl)
 exact ⟨by simpa using h1,h2,h3⟩
section
variable {P:Program} {ρ:Ren}
theorem zvc (Ly:Lays.n189 P ρ) (s:SV) (T:TypeId) (xs:List Int) (hs:xs.length < 4611686018427387904):
 y8 P (ρ.f 189) [.v s.v] [.row s.v 1 T (xs.map numR)] (fun r h'=>h'= [.row s.v 1 T ((xs.mergeSort fun x y=>decide (x≤y)).map numR)]∧r= .v (.tuple #[])):=by
 intro X w vs hh ha
 match vs,ha with
 | [v],⟨hv,_⟩=>
   obtain rfl:=hv.v_eq
   obtain ⟨a,n,cap⟩:=s
   cases a with
   |none=>
    obtain ⟨rfl,rfl,rfl⟩:=zwo hh
    refine callsIn_wide.2 ((Any.slices_Sort_int_none Ly none 0 w).mono ?_)
    rintro e w' ⟨rfl,rfl⟩
    exact ⟨_,_,_,rfl,⟨rfl,rfl⟩,.v _,by simpa using hh,.refl _ _⟩
   |some a=>
    have hn:n=xs.length:=by
     have:=(hh.holds _ (List.mem_singleton.2 rfl)).2.1
     simpa using this
    subst hn
    obtain ⟨g1,g2,g3,g4⟩:=zsy hh
    obtain ⟨b,off,sp⟩:=a
    simp only at g1 g2 g4
    subst g4
    refine callsIn_wide.2 ((Any.slices_Sort_int Ly b off cap xs w g1 g2 hs).mono ?_)
    rintro e w' ⟨rfl,n,os,rfl⟩
    have hlen:(xs.mergeSort fun x y=>decide (x≤y)).length=xs.length:=List.length_mergeSort _
    obtain ⟨k1,k2⟩:=zsx (zs:=xs.mergeSort fun x y=>decide (x≤y)) hh hlen (List.take_length).symm n os
    rw [hlen] at k1
    exact ⟨_,_,_,rfl,⟨rfl,rfl⟩,.v _,k1,k2⟩
theorem zog (Ly:Lays2.n20 P ρ) (s:SV) (T:TypeId) (xs:List Int) (hs:xs.length≤4611686018427387904):
 y8 P (ρ.f 20) [.v s.v] [.row s.v 1 T (xs.map numR)] (fun r h'=>∃s':SV,h'= [.row s'.v 1 T ((Lib.compact xs).map numR)]∧r= .v s'.v):=by
 intro X w vs hh ha
 match vs,ha with
 | [v],⟨hv,_⟩=>
   obtain rfl:=hv.v_eq
   obtain ⟨a,n,cap⟩:=s
   cases a with
   |none=>
    obtain ⟨rfl,rfl,rfl⟩:=zwo hh
    refine callsIn_wide.2 ((Any.slices_Compact_int_empty Ly none 0 w).mono ?_)
    rintro e w' ⟨rfl,rfl⟩
    exact ⟨_,_,_,rfl,⟨⟨none,0,0⟩,rfl,rfl⟩,.v _,hh,.refl _ _⟩
   |some a=>
    have hn:n=xs.length:=by
     have:=(hh.holds _ (List.mem_singleton.2 rfl)).2.1
     simpa using this
    subst hn
    obtain ⟨g1,g2,g3,g4⟩:=zsy hh
    obtain ⟨b,off,sp⟩:=a
    simp only at g1 g2 g4
    subst g4
    refine callsIn_wide.2 ((Any.slices_Compact_int Ly b off cap xs w g1 (by omega) g3).mono ?_)
    rintro e w' ⟨rfl,q,rfl⟩
    have hle:(Lib.compact xs).length≤xs.length:=by
     unfold Lib.compact Lib.compactUpTo
     rw [oM]
     exact Nat.le_trans (List.length_filter_le _ _) (by simp)
    obtain ⟨k1,k2⟩:=zsx (ys:=Lib.compact xs++List.replicate (xs.length - (Lib.compact xs).length) 0) (zs:=Lib.compact xs) hh (by simp;omega) (by rw [List.take_left'];rfl) q #[]
    rw [grow_empty] at k1 k2
    exact ⟨_,_,_,rfl,⟨⟨some ⟨b,off,none⟩,(Lib.compact xs).length,cap⟩,rfl,rfl⟩,.v _,k1,k2⟩
end
end Go.Ab
namespace Go.H
open Go Go.Ab
theorem zm7 (y:Int):∀l:List Int,zbj (l++ [y])=zbj l++(if l.getLast? =some y then [] else [y])
 | []=>by simp [zbj]
 | [x]=>by
   by_cases h:x=y
   ·subst h;simp [zbj]
   ·simp [zbj,h]
 |x::z::r=>by
  have ih:=zm7 y (z::r)
  simp only [List.cons_append] at ih ⊢
  have hl:(x::z::r).getLast? =(z::r).getLast? :=by simp [List.getLast?_cons]
  rw [hl,zbj,zbj]
  by_cases h:x=z
  ·rw [if_pos h,if_pos h];exact ih
  ·rw [if_neg h,if_neg h,ih];rfl
theorem zu8 (xs:List Int):Lib.compact xs=zbj xs:=by
 have key:∀m,m≤xs.length→Lib.compactUpTo xs.toArray m=zbj (xs.take m):=by
  intro m
  induction m with
  |zero=>intro _;rfl
  |succ m ih=>
   intro hm
   have hlt:m < xs.length:=hm
   rw [Lib.compactUpTo_succ,ih (by omega),List.take_succ_eq_append_getElem hlt,zm7]
   congr 1
   have e1:xs.toArray[m]! =xs[m]:=by simp [hlt]
   by_cases h0:m=0
   ·subst h0
    simp [Lib.keeps,hlt]
   ·have hlt':m - 1 < xs.length:=by omega
    have e2:xs.toArray[m - 1]! =xs[m - 1]:=by simp [hlt']
    have e3:(xs.take m).getLast? =some xs[m - 1]:=by
     rw [List.getLast?_eq_getElem?,List.length_take,Nat.min_eq_left (by omega),List.getElem?_take_of_lt (by omega)]
     simp [hlt']
    rw [e3]
    unfold Lib.keeps
    rw [e1,e2]
    by_cases he:xs[m]=xs[m - 1]
    ·rw [if_neg (by simp [h0,he]),if_pos (by rw [he])]
    ·rw [if_pos (by simp [he]),if_neg (fun q=>he (Option.some.inj q).symm)]
 have:=key xs.length (Nat.le_refl _)
 rw [List.take_length] at this
 exact this
def ydx (l:List Ev):List (Int×Bool):=l.foldl (fun m e=>zcq e.t ((zap e.t m).getD false||e.kind==5) m) []
theorem zym (t:Int):∀(l:List Ev) (m:List (Int×Bool)),(zap t (l.foldl (fun m e=>zcq e.t ((zap e.t m).getD false||e.kind==5) m) m)).getD false=((zap t m).getD false||l.any fun y=>y.t==t && y.kind==5)
 | [],m=>by simp
 |e::l,m=>by
  rw [List.foldl_cons,zym t l,List.any_cons,zbl]
  by_cases h:e.t=t
  ·subst h;simp [Bool.or_assoc]
  ·have:(e.t==t)=false:=by simpa using h
   rw [if_neg h,this,Bool.false_and,Bool.false_or]
theorem zkd (l:List Ev) (t:Int):(zap t (ydx l)).getD false=l.any fun y=>y.t==t && y.kind==5:=by
 rw [ydx,zym];simp [zap]
theorem zh8 {l:List Ev} {k:Nat} (hk:k < l.length):ydx (l.take (k+1))=zcq l[k].t ((zap l[k].t (ydx (l.take k))).getD false||l[k].kind==5) (ydx (l.take k)):=by
 rw [List.take_succ_eq_append_getElem hk,ydx,List.foldl_append];rfl
section
variable {α:Type} {l:List α} {k:Nat} {p:α→Bool}
theorem ym4 (hk:k < l.length) (h:p l[k]=true):(l.take (k+1)).filter p=(l.take k).filter p++ [l[k]]:=by
 rw [List.take_succ_eq_append_getElem hk,List.filter_append];simp [h]
theorem yg0 (hk:k < l.length) (h:p l[k]=false):(l.take (k+1)).filter p=(l.take k).filter p:=by
 rw [List.take_succ_eq_append_getElem hk,List.filter_append];simp [h]
theorem zya:((l.take k).filter p).length≤l.length:=Nat.le_trans (List.length_filter_le _ _) (by simp;omega)
end
def wrB (l:List Ev) (x:Int) (e:Ev):Bool:=e.kind==2 && e.o==x && l.any fun y=>y.t==e.t && y.kind==5
theorem zqi (l:List Ev) (x:Int):zam l x=zbj (srt ((l.filter (wrB l x)).map Ev.t)):=rfl
theorem zp0 (l:List Int) (n:Int):(l.any fun a=>a==n)=l.contains n:=by
 rw [Bool.eq_iff_iff];simp
theorem zih (l:List Ev) (x:Int):(zam l x).length≤l.length:=by
 rw [zqi]
 refine Nat.le_trans (zlh _) ?_
 rw [(zb9 _).length_eq,oM]
 exact List.length_filter_le _ _
theorem ziu (a b:Nat):((a:Int) !=(b:Int))= !decide (a=b):=by
 rw [Bool.eq_iff_iff];simp;omega
theorem y1.new {P:Program} {fv:AV} {args:List AV} {h:List Res} {R:AV→List Res→Prop} (hc:y1 P fv args [] R):y1 P fv args h (fun r h'=>∃h1,R r h1∧h'=h1++h):=
 (hc.frame h).mono fun _ _ ⟨h1,e,q⟩=>⟨h1,q,e⟩
def zfm (h:Hist) (n many:Int):Int:=if q6 h=0 then (if 0≤n∧n < many then 0 else 2) else q6 h
def onE (e:Int) (l:List Int):List Int:=if e=0 then l else []
theorem yhk {h:Hist} {n many:Int} (he:zfm h n many=0):zaq h=true∧0≤n∧n < many:=by
 unfold zfm at he
 split at he
 ·rename_i hc
  split at he
  ·rename_i hn;exact ⟨za0.1 hc,hn⟩
  ·cases he
 ·rename_i hc;exact absurd he hc
theorem ask_c {h:Hist} {n many:Int} (hc:q6 h≠0):zfm h n many=q6 h:=by rw [zfm,if_neg hc]
theorem zva {h:Hist} {n many:Int} (hc:q6 h=0) (hn:¬(0≤n∧n < many)):zfm h n many=2:=by rw [zfm,if_pos hc,if_neg hn]
theorem zsa {h:Hist} {n many:Int} (hc:q6 h=0) (hn:0≤n∧n < many):zfm h n many=0:=by rw [zfm,if_pos hc,if_pos hn]
theorem yd4 (h:Hist):zfm h 0 1=q6 h:=by
 unfold zfm;split
 ·rename_i h0;rw [h0];rfl
 ·rfl
def zm3 (l:List Ev):List (Int×Bool):=zox (fun e:Ev=>e.kind==5) Ev.t [] l
theorem yb9 (l:List Ev) (t:Int):(zap t (zm3 l)).getD false=zf7 l t 5:=by
 rw [zm3,ze5,zfc]
 have:(l.any fun e=>e.kind==5 && decide (e.t=t))=l.any fun y=>y.t==t && y.kind==5:=by
  congr 1;funext e;rw [Bool.and_comm];rfl
 rw [this]
 cases l.any fun y=>y.t==t && y.kind==5 <;> rfl
theorem ykr {l:List Ev} {k:Nat} (hk:k < l.length) (h5:(l[k].kind==5)=true):zm3 (l.take (k+1))=zcq l[k].t true (zm3 (l.take k)):=by
 rw [List.take_succ_eq_append_getElem hk,zm3,zox,List.foldl_append,List.foldl_cons,List.foldl_nil,if_pos h5];rfl
theorem yks {l:List Ev} {k:Nat} (hk:k < l.length) (h5:(l[k].kind==5)=false):zm3 (l.take (k+1))=zm3 (l.take k):=by
 rw [List.take_succ_eq_append_getElem hk,zm3,zox,List.foldl_append,List.foldl_cons,List.foldl_nil,if_neg (by rw [h5];decide)];rfl
section
variable {α:Type} (cmp:α→α→Int)
def mrg:List α→List α→List α
 | [],b=>b
 |x::a,[]=>x::a
 |x::a,y::b=>if cmp y x < 0 then y::mrg (x::a) b else x::mrg a (y::b)
termination_by a b=>a.length+b.length
theorem zh1:∀(a b:List α),(mrg cmp a b).Perm (a++b)
 | [],b=>by simp [mrg]
 |x::a,[]=>by simp [mrg]
 |x::a,y::b=>by
  rw [mrg]
  split
  ·exact ((zh1 (x::a) b).cons y).trans (List.perm_middle (l₁:=x::a)).symm
  ·exact (zh1 a (y::b)).cons x
termination_by a b=>a.length+b.length
def LeC (a b:α):Prop:=cmp a b≤0
structure CmpOk:Prop where
 trans:∀a b c,cmp a b≤0→cmp b c≤0→cmp a c≤0
 anti:∀a b,cmp b a= - cmp a b
variable {cmp}
theorem zis (ok:CmpOk cmp):∀(a b:List α),a.Pairwise (LeC cmp)→b.Pairwise (LeC cmp)→(mrg cmp a b).Pairwise (LeC cmp)
 | [],b,_,hb=>by simpa [mrg] using hb
 |x::a,[],ha,_=>by simpa [mrg] using ha
 |x::a,y::b,ha,hb=>by
  rw [mrg]
  have ha':=List.pairwise_cons.1 ha
  have hb':=List.pairwise_cons.1 hb
  split
  ·rename_i h
   refine List.pairwise_cons.2 ⟨fun z hz=> ?_,zis ok (x::a) b ha hb'.2⟩
   have hz':=(zh1 cmp (x::a) b).mem_iff.1 hz
   rcases List.mem_append.1 hz' with hz'|hz'
   ·have hyx:LeC cmp y x:=Int.le_of_lt h
    rcases List.mem_cons.1 hz' with rfl|hz'
    ·exact hyx
    ·exact ok.trans _ _ _ hyx (ha'.1 z hz')
   ·exact hb'.1 z hz'
  ·rename_i h
   have hxy:LeC cmp x y:=by have:=ok.anti x y;show cmp x y≤0;omega
   refine List.pairwise_cons.2 ⟨fun z hz=> ?_,zis ok a (y::b) ha'.2 hb⟩
   have hz':=(zh1 cmp a (y::b)).mem_iff.1 hz
   rcases List.mem_append.1 hz' with hz'|hz'
   ·exact ha'.1 z hz'
   ·rcases List.mem_cons.1 hz' with rfl|hz'
    ·exact hxy
    ·exact ok.trans _ _ _ hxy (hb'.1 z hz')
termination_by a b=>a.length+b.length
variable (cmp)
def zds:List (List α)→List (List α)
 |a::b::r=>mrg cmp a b::zds r
 |l=>l
theorem zez:∀l:List (List α),(zds cmp l).length=(l.length+1) / 2
 | []=>by simp [zds]
 | [a]=>by simp [zds]
 |a::b::r=>by rw [zds,List.length_cons,zez r,List.length_cons,List.length_cons];omega
theorem zk4:∀l:List (List α),(zds cmp l).flatten.Perm l.flatten
 | []=> .refl _
 | [a]=> .refl _
 |a::b::r=>by
  rw [zds,List.flatten_cons,List.flatten_cons,List.flatten_cons,←List.append_assoc]
  exact (zh1 cmp a b).append (zk4 r)
def zv5 (l:List (List α)):List (List α):=if h:1 < l.length then zv5 (zds cmp l) else l
termination_by l.length
decreasing_by rw [zez];omega
theorem zqu {l:List (List α)} (h:1 < l.length):zv5 cmp l=zv5 cmp (zds cmp l):=by rw [zv5,dif_pos h]
theorem zj0 {l:List (List α)} (h:¬1 < l.length):zv5 cmp l=l:=by rw [zv5,dif_neg h]
theorem zot (l:List (List α)):(zv5 cmp l).flatten.Perm l.flatten:=by
 by_cases h:1 < l.length
 ·rw [zqu cmp h]
  have:(zds cmp l).length < l.length:=by rw [zez];omega
  exact (zot (zds cmp l)).trans (zk4 cmp l)
 ·rw [zj0 cmp h]
termination_by l.length
theorem znl (l:List (List α)):(zv5 cmp l).length≤1:=by
 by_cases h:1 < l.length
 ·rw [zqu cmp h]
  have:(zds cmp l).length < l.length:=by rw [zez];omega
  exact znl (zds cmp l)
 ·rw [zj0 cmp h];omega
termination_by l.length
def zuc (l:List α):List α:=((zv5 cmp (l.map fun x=> [x]))[0]?).getD []
theorem zu1 (l:List (List α)) (h:l.length≤1):(l[0]?).getD []=l.flatten:=by
 match l,h with
 | [],_=>rfl
 | [a],_=>simp
theorem zyb (l:List α):(l.map fun x=> [x]).flatten=l:=by
 induction l with
 |nil=>rfl
 |cons a r ih=>rw [List.map_cons,List.flatten_cons,ih];rfl
theorem zil (l:List α):(zuc cmp l).Perm l:=by
 rw [zuc,zu1 _ (znl cmp _)]
 have:=zot cmp (l.map fun x=> [x])
 rwa [zyb] at this
variable {cmp}
theorem zhy (ok:CmpOk cmp):∀l:List (List α),(∀r∈l,r.Pairwise (LeC cmp))→∀r∈zds cmp l,r.Pairwise (LeC cmp)
 | [],_,r,h=>by cases h
 | [a],hl,r,h=>hl r h
 |a::b::q,hl,r,h=>by
  rw [zds] at h
  rcases List.mem_cons.1 h with rfl|h
  ·exact zis ok a b (hl a (by simp)) (hl b (by simp))
  ·exact zhy ok q (fun r hr=>hl r (by simp [hr])) r h
theorem zks (ok:CmpOk cmp) (l:List (List α)) (hl:∀r∈l,r.Pairwise (LeC cmp)):∀r∈zv5 cmp l,r.Pairwise (LeC cmp):=by
 by_cases h:1 < l.length
 ·rw [zqu cmp h]
  have:(zds cmp l).length < l.length:=by rw [zez];omega
  exact zks ok (zds cmp l) (zhy ok l hl)
 ·rw [zj0 cmp h];exact hl
termination_by l.length
theorem zov (ok:CmpOk cmp) (l:List α):(zuc cmp l).Pairwise (LeC cmp):=by
 have h:=zks ok (l.map fun x=> [x]) (fun r hr=>by obtain ⟨x,_,rfl⟩:=List.mem_map.1 hr;exact List.pairwise_singleton _ _)
 have hl:=znl cmp (l.map fun x=> [x])
 rw [zuc]
 match hs:zv5 cmp (l.map fun x=> [x]),hl with
 | [],_=>exact .nil
 | [a],_=>exact h a (by rw [hs];simp)
def LtC (cmp:α→α→Int) (a b:α):Prop:=cmp a b < 0
theorem zs9 (hz:∀a b,cmp a b=0→a=b):∀{l:List α},l.Pairwise (LeC cmp)→l.Nodup→l.Pairwise (LtC cmp):=by
 intro l h hn
 induction l with
 |nil=>exact .nil
 |cons a r ih=>
  rw [List.nodup_cons] at hn
  rw [List.pairwise_cons] at h ⊢
  refine ⟨fun b hb=> ?_,ih h.2 hn.2⟩
  have h1:=h.1 b hb
  have h2:cmp a b≠0:=fun e=>hn.1 (by rw [hz a b e];exact hb)
  show cmp a b < 0
  have:cmp a b≤0:=h1
  omega
theorem zri (ok:CmpOk cmp):∀(l m:List α),l.Pairwise (LtC cmp)→m.Pairwise (LtC cmp)→(∀z,z∈l ↔ z∈m)→l=m
 | [],[],_,_,_=>rfl
 | [],b::m,_,_,h=>by have:=(h b).2 (by simp);cases this
 |a::l,[],_,_,h=>by have:=(h a).1 (by simp);cases this
 |a::l,b::m,hl,hm,h=>by
  have hl':=List.pairwise_cons.1 hl
  have hm':=List.pairwise_cons.1 hm
  have irr:∀z,¬LtC cmp z z:=fun z hz=>by have:=ok.anti z z;have:cmp z z < 0:=hz;omega
  have e:a=b:=by
   rcases List.mem_cons.1 ((h a).1 (by simp)) with e|h1
   ·exact e
   ·rcases List.mem_cons.1 ((h b).2 (by simp)) with e|h2
    ·exact e.symm
    ·have h3:cmp b a < 0:=hm'.1 a h1
     have h4:cmp a b < 0:=hl'.1 b h2
     have:=ok.anti a b;omega
  subst e
  congr 1
  refine zri ok l m hl'.2 hm'.2 fun z=> ?_
  have hz:=h z
  simp only [List.mem_cons] at hz
  constructor
  ·intro q
   rcases hz.1 (.inr q) with rfl|q'
   ·exact absurd (hl'.1 _ q) (irr _)
   ·exact q'
  ·intro q
   rcases hz.2 (.inr q) with rfl|q'
   ·exact absurd (hm'.1 _ q) (irr _)
   ·exact q'
end
section
variable {α:Type} [DecidableEq α] (cmp:α→α→Int)
variable {cmp}
end
section
variable {α:Type}
end
variable {α:Type} (cmp:α→α→Int)
structure Conf where
 f:Int
 t:Int
 k:Int
 a:Int
 b:Int
 o:Int
 p:Int
 deriving DecidableEq
def zan (c:Conf):List AV:= [iv c.f,iv c.t,iv c.k,iv c.a,iv c.b,iv c.o,iv c.p]
def zia (l:List Conf):AV:= .list false 7 (l.map zan)
theorem ya8 (l:List Conf):∀r∈l.map zan,r.all AV.one=true:=by
 intro r hr;obtain ⟨a,_,rfl⟩:=List.mem_map.1 hr;rfl
def yg1 (c:Conf):List Int:= [c.f,c.t,c.k,c.a,c.b,c.o,c.p]
def zjs:List Int→List Int→Int
 | [],[]=>0
 | [],_::_=> -1
 |_::_,[]=>1
 |x::a,y::b=>if x < y then -1 else if y < x then 1 else zjs a b
def zgt (a b:Conf):Int:=zjs (yg1 a) (yg1 b)
theorem zll:∀a b:List Int,zjs b a= - zjs a b
 | [],[]=>rfl
 | [],_::_=>rfl
 |_::_,[]=>rfl
 |x::a,y::b=>by
  rw [zjs,zjs]
  by_cases h:x < y
  ·rw [if_neg (show ¬y < x by omega),if_pos h,if_pos h];rfl
  ·by_cases h':y < x
   ·rw [if_pos h',if_neg h,if_pos h']
   ·rw [if_neg h',if_neg h,if_neg h,if_neg h',zll a b]
theorem zlk:∀a:List Int,zjs a a=0
 | []=>rfl
 |x::a=>by rw [zjs,if_neg (by omega),if_neg (by omega),zlk a]
theorem zp2:∀a b:List Int,zjs a b=0→a=b
 | [],[],_=>rfl
 | [],_::_,h=>by simp [zjs] at h
 |_::_,[],h=>by simp [zjs] at h
 |x::a,y::b,h=>by
  rw [zjs] at h
  split at h
  ·omega
  ·split at h
   ·omega
   ·rw [zp2 a b h,show x=y by omega]
theorem zgo:∀a b c:List Int,zjs a b≤0→zjs b c≤0→zjs a c≤0
 | [],[],c,_,h=>h
 | [],_::_,[],_,_=>by simp [zjs]
 | [],_::_,_::_,_,_=>by simp [zjs]
 |_::_,[],c,h,_=>by simp [zjs] at h
 |_::_,_::_,[],_,h=>by simp [zjs] at h
 |x::a,y::b,z::c,h1,h2=>by
  rw [zjs] at h1 h2 ⊢
  split at h1
  ·split at h2
   ·rw [if_pos (by omega)];omega
   ·split at h2
    ·omega
    ·rw [if_pos (by omega)];omega
  ·split at h1
   ·omega
   ·split at h2
    ·rw [if_pos (by omega)];omega
    ·split at h2
     ·omega
     ·rw [if_neg (by omega),if_neg (by omega)];exact zgo a b c h1 h2
theorem yb3 {a b:Conf} (h:yg1 a=yg1 b):a=b:=by
 cases a;cases b;simp only [yg1,List.cons.injEq,and_true] at h;simp only [Conf.mk.injEq];exact h
theorem zer:CmpOk zgt:=⟨fun a b c h k=>zgo _ _ _ h k,fun a b=>zll _ _⟩
theorem zge (a b:Conf) (h:zgt a b=0):a=b:=yb3 (zp2 _ _ h)
theorem zyu (a:Conf):zgt a a=0:=zlk _
def zcd (h:Hist) (t x:Int):Int:=atO (zlz h.evs t x)
def zjr (c:Conf):Int×Int:=(c.f,c.t)
theorem zio {K V:Type} [DecidableEq K] (k:K) (v:V):∀m:List (K×V),(m.map Prod.fst).Nodup→((zcq k v m).map Prod.fst).Nodup∧∀z,z∈(zcq k v m).map Prod.fst ↔ z=k∨z∈m.map Prod.fst
 | [],_=>⟨by simp [zcq],by simp [zcq]⟩
 |p::r,h=>by
  rw [List.map_cons,List.nodup_cons] at h
  obtain ⟨i1,i2⟩:=zio k v r h.2
  rw [zcq]
  by_cases e:p.1=k
  ·rw [if_pos e]
   exact ⟨by rw [List.map_cons,List.nodup_cons];exact h,fun z=>by simp [e]⟩
  ·rw [if_neg e]
   have hnm:p.1 ∉ (zcq k v r).map Prod.fst:=fun q=>by
    rcases (i2 _).1 q with q|q
    ·exact e q
    ·exact h.1 q
   refine ⟨by rw [List.map_cons,List.nodup_cons];exact ⟨hnm,i1⟩,fun z=> ?_⟩
   ·rw [List.map_cons,List.mem_cons,i2,List.map_cons,List.mem_cons]
    constructor
    ·rintro (q|q|q) <;> simp [q]
    ·rintro (q|q|q) <;> simp [q]
def yht (p o:Int) (r:Mat):Bool:=r.p==p && r.o==o
def ygd (h:Hist) (p o:Int):Option Mat:=h.mats.find? (yht p o)
def yhu:Mat:=⟨0,0,false,[]⟩
def zxn (h:Hist) (p o:Int):Mat:=(ygd h p o).getD yhu
def yac (m:Mat) (ts:List Int):List Bool:=m.first::ts.map (fun t=>m.ts.contains t)
def zos (h:Hist) (p o:Int):List Bool:=yac (zxn h p o) (zaj h o)
def zlq (l:List Bool):AV:= .list false 1 (l.map zlr)
theorem ya9 (l:List Bool):∀r∈l.map zlr,r.all AV.one=true:=by
 intro r hr;obtain ⟨a,_,rfl⟩:=List.mem_map.1 hr;rfl
theorem zsr (m:Mat) (ts:List Int):(yac m ts).length=ts.length+1:=by simp [yac]
def zzs (h:Hist) (o:Int):Int:=zfm h o h.os.length
def zht (h:Hist) (p o:Int):Int:=if zzs h o=0 then (if 0≤p∧p < h.ps.length then 0 else 2) else zzs h o
def mtE (h:Hist) (p o r:Int):Int:=if zht h p o=0 then (if 0≤r∧r < (zos h p o).length then 0 else 2) else zht h p o
def mtB (h:Hist) (p o r:Int):Bool:=if mtE h p o r=0 then ((zos h p o)[r.toNat]?).getD false else false
def zp6 (l:List Bool):Nat→List Int
 |0=> []
 |k+1=>zp6 l k++(if 0 < k∧l[k]? ≠l[k - 1]? then [(k:Int)] else [])
def yha (l:List Bool):List Int:=zp6 l l.length
def chL (h:Hist) (p o:Int):List Int:=if zht h p o=0 then yha (zos h p o) else []
theorem zid (l:List Bool):∀(n:Nat) (z:Int),z∈zp6 l n ↔ ∃k:Nat,z=k∧0 < k∧k < n∧l[k]? ≠l[k - 1]?
 |0,z=>by simp [zp6]
 |n+1,z=>by
  rw [zp6,List.mem_append,zid l n z]
  constructor
  ·rintro (⟨k,h1,h2,h3,h4⟩|h)
   ·exact ⟨k,h1,h2,by omega,h4⟩
   ·split at h
    ·rename_i hc
     rw [List.mem_singleton] at h
     exact ⟨n,h,hc.1,by omega,hc.2⟩
    ·cases h
  ·rintro ⟨k,h1,h2,h3,h4⟩
   by_cases e:k=n
   ·subst e;right;rw [if_pos ⟨h2,h4⟩,h1];simp
   ·left;exact ⟨k,h1,h2,by omega,h4⟩
theorem zyw (l:List Bool):∀n:Nat,(zp6 l n).Pairwise (· < ·)
 |0=> .nil
 |n+1=>by
  rw [zp6,List.pairwise_append]
  refine ⟨zyw l n,by split <;> simp,fun a ha b hb=> ?_⟩
  obtain ⟨k,rfl,_,h3,_⟩:=(zid l n a).1 ha
  split at hb
  ·rw [List.mem_singleton] at hb;subst hb;omega
  ·cases hb
theorem ztq (l:List Bool):∀n:Nat,(zp6 l n).length≤n
 |0=>by simp [zp6]
 |n+1=>by
  have:=ztq l n
  rw [zp6,List.length_append]
  split <;> simp <;> omega
theorem ykv {l:List Bool} {k:Nat} (h:k=0):zp6 l (k+1)=zp6 l k:=by rw [zp6,if_neg (by omega)];simp
def mtM (m:Option Mat) (ts:List Int) (r:Int):Bool:=match m with
 |none=>false
 |some m=>if r=0 then m.first else m.ts.contains ((ts[(r - 1).toNat]?).getD 0)
def yjo (h:Hist) (p x r:Int):Bool:=mtM (ygd h p x) (zoj h x) r
def chR (f:Nat→Bool):Nat→List Int
 |0=> []
 |k+1=>chR f k++(if f (k+1)≠f k then [((k+1:Nat):Int)] else [])
theorem ztr {l:List Bool} {f:Nat→Bool} (hf:∀k,(h:k < l.length)→l[k]=f k):∀k,k < l.length→zp6 l (k+1)=chR f k
 |0,h=>ykv rfl
 |k+1,h=>by
  rw [zp6,ztr hf k (by omega),chR]
  congr 1
  rw [List.getElem?_eq_getElem h,show k+1 - 1=k by omega,List.getElem?_eq_getElem (show k < l.length by omega),hf _ h,hf k (by omega)]
  by_cases e:f (k+1)=f k
  ·rw [if_neg (by rw [e];simp),if_neg (by simpa using e)]
  ·rw [if_pos ⟨by omega,by simpa using e⟩,if_pos e]
theorem zkq (h:Hist) (p o:Int):(zos h p o).length=(zaj h o).length+1:=zsr _ _
theorem yab (m:Option Mat) (ts:List Int) {k:Nat} (hk:k < (yac (m.getD yhu) ts).length):(yac (m.getD yhu) ts)[k]=mtM m ts k:=by
 unfold mtM
 have hl:=zsr (m.getD yhu) ts
 cases m with
 |none=>cases k with
  |zero=>rfl
  |succ k=>simp only [yac,List.getElem_cons_succ,List.getElem_map];rfl
 |some m=>cases k with
  |zero=>rfl
  |succ k=>
   have hk':k < ts.length:=by omega
   simp only [yac,List.getElem_cons_succ,List.getElem_map]
   rw [if_neg (by omega),show (((k+1:Nat):Int) - 1).toNat=k by omega,List.getElem?_eq_getElem hk'];rfl
theorem yet {h:Hist} {p x:Int} (hi:zaj h x=zoj h x) {k:Nat} (hk:k < (zos h p x).length):(zos h p x)[k]=yjo h p x k:=by
 rw [yjo,←hi];exact yab (ygd h p x) (zaj h x) hk
theorem zx4 {h:Hist} {x:Int}:zzs h x=0 ↔ q6 h=0∧0≤x∧x < h.os.length:=by
 constructor
 ·intro e
  obtain ⟨a,b⟩:=yhk e
  exact ⟨za0.2 a,b⟩
 ·rintro ⟨a,b⟩;exact zsa a b
theorem zv1 {h:Hist} {p x:Int}:zht h p x=0 ↔ q6 h=0∧(0≤x∧x < h.os.length)∧0≤p∧p < h.ps.length:=by
 unfold zht
 by_cases e:zzs h x=0
 ·rw [if_pos e]
  obtain ⟨a,b⟩:=zx4.1 e
  by_cases hp:0≤p∧p < h.ps.length
  ·rw [if_pos hp];exact ⟨fun _=>⟨a,b,hp⟩,fun _=>rfl⟩
  ·rw [if_neg hp];exact ⟨fun q=>(by cases q),fun q=>absurd q.2.2 hp⟩
 ·rw [if_neg e];exact ⟨fun q=>absurd q e,fun q=>absurd (zx4.2 ⟨q.1,q.2.1⟩) e⟩
theorem yor {h:Hist} {p x r:Int} (he:zht h p x≠0):mtE h p x r=zht h p x∧mtB h p x r=false∧chL h p x= []:=by
 have e:mtE h p x r=zht h p x:=by rw [mtE,if_neg he]
 exact ⟨e,by rw [mtB,e,if_neg he],by rw [chL,if_neg he]⟩
theorem zqt {h:Hist} {p x:Int} (he:zht h p x=0):zaj h x=zoj h x:=by
 obtain ⟨a,⟨b,c⟩,_⟩:=zv1.1 he
 exact zmx (za0.1 a) b c
theorem yot {h:Hist} {p x:Int} (he:zht h p x=0):chL h p x=chR (fun k=>yjo h p x k) (zoj h x).length:=by
 have hi:=zqt he
 have hl:=zkq h p x
 rw [chL,if_pos he,yha,hl,←hi]
 exact ztr (f:=fun k=>yjo h p x k) (fun k hk=>yet hi hk) _ (by omega)
theorem zsq {h:Hist} {p x:Int} (hn:ygd h p x=none) {k:Nat} (hk:k < (zos h p x).length):(zos h p x)[k]=false:=by
 simp only [zos,zxn,hn,yac]
 cases k with
 |zero=>rfl
 |succ k=>rw [List.getElem_cons_succ,List.getElem_map];rfl
def yih (scan:List Seen) (x:Int):Option Ver:=(scan.filter fun s=>s.o==x).getLast?.map Seen.v
def yjc (l:List Ev) (t:Int) (n:Nat) (scan:List Seen) (x:Int):Ver:=match yih scan x with
 |some v=>v
 |none=>zzn (zd4 l t x n)
def zve (l:List Ev) (t:Int):List (Int×Ver):=zzr (fun e:Ev=>e.t==t && e.kind==2) Ev.o Ev.v [] l
def ye4 (m:List (Int×Ver)) (scan:List Seen):List (Int×Ver):=zzr (fun _:Seen=>true) Seen.o Seen.v m scan
theorem zw7 {l:List Ev} {t:Int} {k:Nat} (hk:k < l.length) (h:(l[k].t==t && l[k].kind==2)=true):zve (l.take (k+1)) t=zcq l[k].o l[k].v (zve (l.take k) t):=by
 rw [List.take_succ_eq_append_getElem hk,zve,zzr,List.foldl_append,List.foldl_cons,List.foldl_nil,if_pos h];rfl
theorem zw8 {l:List Ev} {t:Int} {k:Nat} (hk:k < l.length) (h:(l[k].t==t && l[k].kind==2)=false):zve (l.take (k+1)) t=zve (l.take k) t:=by
 rw [List.take_succ_eq_append_getElem hk,zve,zzr,List.foldl_append,List.foldl_cons,List.foldl_nil,if_neg (by rw [h];decide)];rfl
theorem yif {m:List (Int×Ver)} {l:List Seen} {k:Nat} (hk:k < l.length):ye4 m (l.take (k+1))=zcq l[k].o l[k].v (ye4 m (l.take k)):=by
 rw [List.take_succ_eq_append_getElem hk,ye4,zzr,List.foldl_append,List.foldl_cons,List.foldl_nil,if_pos rfl];rfl
theorem zjg (l:List Ev) (t x:Int):∀n,n≤l.length→(zd4 l t x n).map Prod.fst=(((l.take n).filter (zbo t x)).getLast?).map Ev.v
 |0,_=>by simp [zd4]
 |n+1,hn=>by
  have hk:n < l.length:=hn
  rw [zd4,List.getElem?_eq_getElem hk,List.take_succ_eq_append_getElem hk,List.filter_append]
  simp only
  by_cases hw:zbo t x l[n]=true
  ·rw [if_pos hw,List.filter_cons_of_pos hw];simp
  ·rw [if_neg hw,List.filter_cons_of_neg hw,zjg l t x n (by omega)];simp
theorem yfu {l:List Ev} {t x:Int} {n:Nat} (scan:List Seen) (hn:n≤l.length):(zap x (ye4 (zve (l.take n) t) scan)).getD ⟨0,0⟩=yjc l t n scan x:=by
 have h1:zap x (zve (l.take n) t)=(zd4 l t x n).map Prod.fst:=by
  rw [zjg l t x n hn,zve,zj8]
  have:((l.take n).filter fun e=>(e.t==t && e.kind==2) && decide (e.o=x))=(l.take n).filter (zbo t x):=by
   refine List.filter_congr fun e _=> ?_
   rw [zbo,Bool.eq_iff_iff];simp only [Bool.and_eq_true,beq_iff_eq,decide_eq_true_eq]
   exact ⟨fun ⟨⟨a,b⟩,c⟩=>⟨⟨b,a⟩,c⟩,fun ⟨⟨a,b⟩,c⟩=>⟨⟨b,a⟩,c⟩⟩
  rw [this]
  cases (((l.take n).filter (zbo t x)).getLast?).map Ev.v <;> rfl
 have h2:(scan.filter fun e=>true && decide (e.o=x))=scan.filter fun s=>s.o==x:=by
  refine List.filter_congr fun e _=> ?_
  rw [Bool.true_and];rfl
 rw [ye4,zj8,h1,h2,yjc,yih]
 cases ((scan.filter fun s=>s.o==x).getLast?).map Seen.v with
 |some v=>rfl
 |none=>cases zd4 l t x n <;> rfl
def k7 (h:Hist) (e:Ev) (n:Nat):List Seen:=(upR h.os.length).map fun x=>⟨x,yjc h.evs e.t n e.scan x⟩
theorem yl1 {h:Hist} {e:Ev} {n m:Nat} (hm:m < (k7 h e n).length):(k7 h e n)[m].o=m:=by
 simp only [k7,List.getElem_map];simp [upR]
theorem zkv (h:Hist) (e:Ev) (n:Nat):(k7 h e n).length=h.os.length:=by rw [k7,oM,upR,oM,List.length_range]
def bt1:ByteArray:=⟨#[116,49]⟩
def bt2:ByteArray:=⟨#[116,50]⟩
def bP:ByteArray:=⟨#[112]⟩
def zig (l:List Conf) (z:Conf):Prop:=z∈l∧∀c∈l,zjr c=zjr z→zgt z c≤0
theorem zp3 {a b:Conf} (h:zgt a b≤0) (k:zgt b a≤0):a=b:=by
 have:=zer.anti a b
 exact zge a b (by omega)
def zeh (m:List ((Int×Int)×Conf)) (c:Conf):List ((Int×Int)×Conf):=match zap (zjr c) m with
 |none=>zcq (zjr c) c m
 |some b=>if zgt c b < 0 then zcq (zjr c) c m else m
def za1 (l:List Conf):List ((Int×Int)×Conf):=l.foldl zeh []
theorem zr7 {l:List Conf} {c:Conf}:za1 (l++ [c])=zeh (za1 l) c:=by rw [za1,List.foldl_append];rfl
def zlx (l:List Conf) (m:List ((Int×Int)×Conf)):Prop:=∀k,match zap k m with
 |none=>∀c∈l,zjr c≠k
 |some z=>zjr z=k∧zig l z
theorem zne {l:List Conf} {m:List ((Int×Int)×Conf)} {c:Conf} (h:zlx l m) (hc:∀d∈l,zjr d=zjr c→zgt c d≤0):zlx (l++ [c]) (zcq (zjr c) c m):=by
 intro k
 rw [zbl]
 by_cases e:zjr c=k
 ·rw [if_pos e]
  refine ⟨e,by simp,fun d hd ed=> ?_⟩
  rcases List.mem_append.1 hd with hd|hd
  ·exact hc d hd ed
  ·rw [List.mem_singleton] at hd;rw [hd,zyu];exact Int.le_refl _
 ·rw [if_neg e]
  have:=h k
  cases hg:zap k m with
  |none=>
   rw [hg] at this
   intro d hd
   rcases List.mem_append.1 hd with hd|hd
   ·exact this d hd
   ·rw [List.mem_singleton] at hd;rw [hd];exact e
  |some z=>
   rw [hg] at this
   obtain ⟨h1,h2,h3⟩:=this
   refine ⟨h1,List.mem_append_left _ h2,fun d hd ed=> ?_⟩
   rcases List.mem_append.1 hd with hd|hd
   ·exact h3 d hd ed
   ·rw [List.mem_singleton] at hd;rw [hd,h1] at ed;exact absurd ed e
theorem ycm {l:List Conf} {m:List ((Int×Int)×Conf)} (h:zlx l m) (c:Conf):zlx (l++ [c]) (zeh m c):=by
 unfold zeh
 have hk:=h (zjr c)
 cases hg:zap (zjr c) m with
 |none=>
  rw [hg] at hk
  simp only
  exact zne h fun d hd e=>absurd e (hk d hd)
 |some b=>
  rw [hg] at hk
  obtain ⟨h1,h2,h3⟩:=hk
  simp only
  by_cases hlt:zgt c b < 0
  ·rw [if_pos hlt]
   exact zne h fun d hd e=>zer.trans _ _ _ (Int.le_of_lt hlt) (h3 d hd (e.trans h1.symm))
  ·rw [if_neg hlt]
   intro k
   have hq:=h k
   cases hg2:zap k m with
   |none=>
    rw [hg2] at hq
    intro d hd
    rcases List.mem_append.1 hd with hd|hd
    ·exact hq d hd
    ·rw [List.mem_singleton] at hd;rw [hd]
     intro e;rw [e,hg2] at hg;cases hg
   |some z=>
    rw [hg2] at hq
    obtain ⟨q1,q2,q3⟩:=hq
    refine ⟨q1,List.mem_append_left _ q2,fun d hd ed=> ?_⟩
    rcases List.mem_append.1 hd with hd|hd
    ·exact q3 d hd ed
    ·rw [List.mem_singleton] at hd
     rw [hd] at ed ⊢
     have e2:k=zjr c:=q1.symm.trans ed.symm
     rw [e2,hg] at hg2
     injection hg2 with hg2
     rw [←hg2]
     have:=zer.anti c b;omega
theorem ztu (l:List Conf):zlx l (za1 l):=by
 suffices h:∀(l p:List Conf) (m:List ((Int×Int)×Conf)),zlx p m→zlx (p++l) (l.foldl zeh m) by
  have:=h l [] [] (fun k=>by simp [zap])
  simpa [za1] using this
 intro l
 induction l with
 |nil=>intro p m h;simpa using h
 |cons c r ih=>
  intro p m h
  have:=ih (p++ [c]) (zeh m c) (ycm h c)
  simpa using this
theorem zr6 {m:List ((Int×Int)×Conf)} (h:(m.map Prod.fst).Nodup) (c:Conf):((zeh m c).map Prod.fst).Nodup:=by
 unfold zeh
 split
 ·exact (zio _ _ _ h).1
 ·split
  ·exact (zio _ _ _ h).1
  ·exact h
theorem zhg (l:List Conf):((za1 l).map Prod.fst).Nodup:=by
 suffices h:∀(l:List Conf) (m:List ((Int×Int)×Conf)),(m.map Prod.fst).Nodup→((l.foldl zeh m).map Prod.fst).Nodup by exact h l [] .nil
 intro l
 induction l with
 |nil=>intro m h;exact h
 |cons c r ih=>intro m h;exact ih _ (zr6 h c)
theorem zkb {K V:Type} [DecidableEq K] {k:K} {v:V}:∀{m:List (K×V)},(m.map Prod.fst).Nodup→(zap k m=some v ↔ (k,v)∈m)
 | [],_=>by simp [zap]
 |p::r,h=>by
  rw [List.map_cons,List.nodup_cons] at h
  rw [zap,List.mem_cons]
  by_cases e:p.1=k
  ·rw [if_pos e]
   constructor
   ·intro q;injection q with q;left;rw [←e,←q]
   ·rintro (q|q)
    ·rw [←q]
    ·exact absurd (List.mem_map.2 ⟨_,q,e.symm⟩) h.1
  ·rw [if_neg e,zkb h.2]
   constructor
   ·exact .inr
   ·rintro (q|q)
    ·exact absurd (by rw [←q]) e
    ·exact q
theorem zlt {l:List Conf} {z:Conf}:z∈(za1 l).map Prod.snd ↔ zig l z:=by
 have hn:=zhg l
 constructor
 ·intro h
  obtain ⟨p,hp,rfl⟩:=List.mem_map.1 h
  have hg:=(zkb (k:=p.1) (v:=p.2) hn).2 hp
  have:=ztu l p.1
  rw [hg] at this
  exact this.2
 ·intro h
  have:=ztu l (zjr z)
  cases hg:zap (zjr z) (za1 l) with
  |none=>rw [hg] at this;exact absurd rfl (this z h.1)
  |some y=>
   rw [hg] at this
   obtain ⟨h1,h2,h3⟩:=this
   have:y=z:=zp3 (h3 z h.1 h1.symm) (h.2 y h2 h1)
   subst this
   exact List.mem_map.2 ⟨_,(zkb hn).1 hg,rfl⟩
abbrev RkM:=List ((Int×Int×Int)×Int)
def zop (x:Int) (v:Ver):Int×Int×Int:=(x,v.t,v.k)
theorem zhq {x y:Int} {v w:Ver}:zop x v=zop y w ↔ x=y∧v=w:=by
 cases v;cases w;simp [zop]
def zgn (h:Hist) (x t:Int):Ver:=zzn (zlz h.evs t x)
def zem (h:Hist) (x:Int):Nat→List Int→RkM→RkM
 |_,[],m=>m
 |i,t::r,m=>zem h x (i+1) r (zcq (zop x (zgn h x t)) ((i:Int)+1) m)
def zuf (h:Hist) (x:Int) (m:RkM):RkM:=zem h x 0 (zaj h x) (zcq (zop x ⟨0,0⟩) 0 m)
def rkM (h:Hist):Nat→RkM
 |0=> []
 |n+1=>zuf h n (rkM h n)
theorem zmn (h:Hist) (x:Int):∀(l:List Int) (i:Nat) (t:Int) (m:RkM),zem h x i (l++ [t]) m=zcq (zop x (zgn h x t)) (((i+l.length:Nat):Int)+1) (zem h x i l m)
 | [],i,t,m=>by simp [zem]
 |a::r,i,t,m=>by
  rw [List.cons_append,zem,zmn h x r (i+1) t,zem,List.length_cons,show i+1+r.length=i+(r.length+1) by omega]
theorem zws {h:Hist} {x:Int} {l:List Int} {k:Nat} (hk:k < l.length) (m:RkM):zem h x 0 (l.take (k+1)) m=zcq (zop x (zgn h x l[k])) ((k:Int)+1) (zem h x 0 (l.take k) m):=by
 rw [List.take_succ_eq_append_getElem hk,zmn,List.length_take,Nat.min_eq_left (by omega),Nat.zero_add]
theorem zhb (h:Hist) {x y:Int} (hxy:y≠x) (v:Ver):∀(l:List Int) (i:Nat) (m:RkM),zap (zop y v) (zem h x i l m)=zap (zop y v) m
 | [],_,_=>rfl
 |t::r,i,m=>by
  rw [zem,zhb h hxy v r (i+1),zbl,if_neg]
  intro e;exact hxy ((zhq.1 e).1).symm
theorem zo0 (h:Hist) (x:Int) (v:Ver):∀(l:List Int) (i:Nat) (m:RkM),(l.map (zgn h x)).Nodup→zap (zop x v) (zem h x i l m)=if zbi (fun t=>zgn h x t==v) i l ≥ 0 then some (zbi (fun t=>zgn h x t==v) i l+1) else zap (zop x v) m
 | [],i,m,_=>by rw [zem,zbi,if_neg (by decide)]
 |t::r,i,m,hn=>by
  rw [List.map_cons,List.nodup_cons] at hn
  rw [zem,zo0 h x v r (i+1) _ hn.2]
  by_cases e:zgn h x t=v
  ·have hno:decide (zbi (fun t=>zgn h x t==v) (i+1) r ≥ 0)=false:=by
    rw [zdz,List.any_eq_false]
    intro z hz q
    exact hn.1 (by rw [e,←eq_of_beq q];exact List.mem_map_of_mem hz)
   have e1:zbi (fun t=>zgn h x t==v) i (t::r)=(i:Int):=by rw [zbi,if_pos (by simpa using e)]
   rw [e1,if_neg (oF hno),if_pos (by omega),zbl,if_pos (by rw [e])]
  ·have e1:zbi (fun t=>zgn h x t==v) i (t::r)=zbi (fun t=>zgn h x t==v) (i+1) r:=by rw [zbi,if_neg (by simpa using e)]
   rw [e1]
   by_cases q:zbi (fun t=>zgn h x t==v) (i+1) r ≥ 0
   ·rw [if_pos q,if_pos q]
   ·rw [if_neg q,if_neg q,zbl,if_neg]
    intro e2;exact e ((zhq.1 e2).2)
theorem zyd {h:Hist} (hs:zaq h=true) {x:Int} (h0:0≤x) (h1:x < h.os.length):((zaj h x).map (zgn h x)).Nodup∧∀t∈zaj h x,zgn h x t≠⟨0,0⟩:=by
 obtain ⟨hn,_,hm⟩:=zhe hs h0 h1
 have hv:∀t∈zaj h x,(zgn h x t).t=t∧0 < (zgn h x t).k:=fun t ht=>by
  obtain ⟨w1,_⟩:=zg6.1 ((hm t).1 ht)
  obtain ⟨v,i,hf⟩:=zye w1
  obtain ⟨_,_,_,vt,vk,_⟩:=zh5 hs hf
  rw [zgn,hf];exact ⟨vt,vk⟩
 constructor
 ·rw [List.Nodup,List.pairwise_map]
  refine (List.pairwise_iff_getElem).2 fun i j hi hj hij e=> ?_
  have a:=(hv _ (List.getElem_mem hi)).1
  have b:=(hv _ (List.getElem_mem hj)).1
  rw [e] at a
  exact (List.pairwise_iff_getElem.1 hn) i j hi hj hij (a.symm.trans b)
 ·intro t ht e
  have:=(hv t ht).2
  rw [e] at this;exact absurd this (by decide)
theorem zwu (h:Hist) (x:Int) (v:Ver):∀n:Nat,(n:Int)≤x∨x < 0→zap (zop x v) (rkM h n)=none
 |0,_=>rfl
 |n+1,hx=>by
  have hne:x≠(n:Int):=by omega
  rw [rkM,zuf,zhb h hne,zbl,if_neg,zwu h x v n (by omega)]
  intro e;exact hne ((zhq.1 e).1).symm
theorem zkx {h:Hist} (hs:zaq h=true) {x:Int} (v:Ver) (h0:0≤x) (h1:x < h.os.length):∀n:Nat,n≤h.os.length→x < n→zap (zop x v) (rkM h n)=if v=⟨0,0⟩ then some 0 else if zjp h x v ≥ 0 then some (zjp h x v+1) else none
 |0,_,hx=>absurd hx (by omega)
 |n+1,hn,hx=>by
  by_cases e:x=(n:Int)
  ·subst e
   obtain ⟨a,b⟩:=zyd hs h0 h1
   rw [rkM,zuf,zo0 h _ v _ _ _ a,zbl]
   have hr:zbi (fun t=>zgn h (n:Int) t==v) 0 (zaj h n)=zjp h n v:=rfl
   rw [hr]
   by_cases hv:v=⟨0,0⟩
   ·subst hv
    have:decide (zjp h n ⟨0,0⟩ ≥ 0)=false:=by
     rw [zjp,zdz,List.any_eq_false]
     intro t ht q
     exact b t ht (eq_of_beq q)
    rw [if_neg (oF this),if_pos rfl,if_pos rfl]
   ·rw [if_neg hv,if_neg (fun e=>hv ((zhq.1 e).2).symm),zwu h _ v n (.inl (Int.le_refl _))]
  ·rw [rkM,zuf,zhb h e,zbl,if_neg (fun q=>e ((zhq.1 q).1).symm)]
   exact zkx hs v h0 h1 n (by omega) (by omega)
def ze0 (h:Hist) (e:Ev) (c:Int) (a:Nat) (x r:Int):Option Conf:=
 if r > ((zaj h x).length:Int) then none else if (((zaj h x)[(r - 1).toNat]?).getD 0==e.t)=true then none
 else some ⟨e.t,((zaj h x)[(r - 1).toNat]?).getD 0,c,a,zcd h (((zaj h x)[(r - 1).toNat]?).getD 0) x,x,e.p⟩
def zfi (h:Hist) (x:Int) (v:Ver):Option Int:=zap (zop x v) (rkM h h.os.length)
def ze8 (h:Hist) (e:Ev):List (Int×List Int):=match zfi h e.o e.v with
 |none=> []
 |some r=> [(e.o,[r+1])]
def rwOver (h:Hist) (p x r:Int):List Int:=(chL h p x).dropWhile fun k=> !decide (k > r)
def zd6 (h:Hist) (e:Ev) (s:Seen):Option (Int×List Int):=match zfi h s.o s.v with
 |none=>none
 |some r=>if (chL h e.p s.o).any (fun k=>decide (k > r))=true then some (s.o,rwOver h e.p s.o r) else none
def zno (h:Hist) (e:Ev) (a:Nat):List (Int×List Int):=(k7 h e a).filterMap (zd6 h e)
def v7 (h:Hist) (e:Ev) (a:Nat):List (Int×List Int):=if e.kind=3 then ze8 h e else if e.kind=4 then zno h e a else []
def zfp (e:Ev):Int:=if e.kind=3 then 3 else if e.kind=4 then 4 else 0
def zf8 (h:Hist) (e:Ev) (a:Nat):List Conf:=if zf7 h.evs e.t 5=true then (v7 h e a).flatMap fun p=>p.2.filterMap (ze0 h e (zfp e) a p.1) else []
def rkR (h:Hist) (x:Int) (v:Ver):Option Int:=if v=⟨0,0⟩ then some 0 else if zbi (fun t=>zgn h x t==v) 0 (zoj h x) ≥ 0 then some (zbi (fun t=>zgn h x t==v) 0 (zoj h x)+1) else none
def ynf (h:Hist) (p x:Int):List Int:=chR (fun k=>yjo h p x (k:Nat)) (zoj h x).length
theorem yl6 {h:Hist} (hs:zaq h=true) {x:Int} (h0:0≤x) (h1:x < h.os.length) (v:Ver):zfi h x v=rkR h x v:=by
 rw [zfi,zkx hs v h0 h1 _ (Nat.le_refl _) h1,rkR,zjp,←zmx hs h0 h1];rfl
theorem zkz {h:Hist} {e:Ev} (he:zdu h e=true) (h3:e.kind=3):(0≤e.o∧e.o < h.os.length)∧e.p=0:=by
 obtain ⟨_,_,_,hc,hq⟩:=zb7 he
 constructor
 ·rw [zg3,if_neg (by omega),if_neg (by omega),if_pos h3] at hc
  simp only [zdy,Bool.and_eq_true,za6] at hc
  exact hc.1
 ·rw [←hq];simp only [zg3];rw [if_neg (by omega),if_neg (by omega),if_pos h3]
theorem yig {h:Hist} {e:Ev} (he:zdu h e=true) (h4:e.kind=4):0≤e.p∧e.p < h.ps.length:=by
 obtain ⟨_,_,_,hc,_⟩:=zb7 he
 rw [zg3,if_neg (by omega),if_neg (by omega),if_neg (by omega),if_pos h4] at hc
 simp only [zcf,Bool.and_eq_true,za6] at hc
 exact hc.1.1
theorem zti {α β:Type} {f g:α→Option β}:∀{l:List α},(∀a∈l,f a=g a)→l.filterMap f=l.filterMap g
 | [],_=>rfl
 |a::r,h=>by rw [List.filterMap_cons,List.filterMap_cons,h a (by simp),zti fun b hb=>h b (by simp [hb])]
def zm9 (a b:Conf):Int:=zjs [a.f,a.t,a.a,a.b,a.o,a.p] [b.f,b.t,b.a,b.b,b.o,b.p]
theorem zlj {a b:Conf} (h:a.k=b.k):zm9 a b=zgt a b:=by
 rw [zm9,zgt,yg1,yg1]
 simp only [zjs,h,Int.lt_irrefl,if_false]
def zly (h:Hist) (x r:Int):Int:=((zaj h x)[(r - 1).toNat]?).getD 0
def wrC (h:Hist) (e:Ev) (a:Nat) (k f x p:Int):Conf:=⟨f,e.t,k,zcd h f x,a,x,p⟩
def zbe (h:Hist) (e:Ev) (a:Nat):List Conf:=if (e.kind==3)=true then
    (if ((zfi h e.o e.v).getD 0==0)=true then [] else if (zly h e.o ((zfi h e.o e.v).getD 0)==e.t)=true then [] else [wrC h e a 1 (zly h e.o ((zfi h e.o e.v).getD 0)) e.o 0]) else []
def wrQ (h:Hist) (e:Ev) (a:Nat) (x k:Int):Option Conf:=if (zly h x k==e.t)=true then none else some (wrC h e a 2 (zly h x k) x e.p)
def zao (h:Hist) (e:Ev) (a:Nat) (s:Seen):List Conf:=match zfi h s.o s.v with
 |none=> []
 |some r=>((chL h e.p s.o).takeWhile fun k=>decide (k≤r)).filterMap (wrQ h e a s.o)
def zcz (h:Hist) (e:Ev) (a:Nat):List Conf:=if (e.kind==4)=true then (k7 h e a).flatMap (zao h e a) else []
def j9 (h:Hist) (F:Ev→Nat→List Conf):Nat→List Conf
 |0=> []
 |n+1=>j9 h F n++(match h.evs[n]? with|some e=>if zf7 h.evs e.t 5=true then F e n else []|none=> [])
def zco (h:Hist):List Conf:=j9 h (zbe h) h.evs.length
def zdh (h:Hist):List Conf:=j9 h (zcz h) h.evs.length
def zbv (l:List Conf):List Conf:=zuc zgt ((za1 l).map Prod.snd)
def zz1 (h:Hist) (x f:Int) (j:Nat) (e:Ev):Option Conf:=if (e.kind==3 && (e.o==x && (e.v==zgn h x f && (!(e.t==f) && zf7 h.evs e.t 5))))=true then some (wrC h e j 1 f x 0) else none
def zij (h:Hist):List Conf:=(upR h.os.length).flatMap fun x=>(zoj h x).flatMap fun f=>zec (zz1 h x f) h.evs h.evs.length
def zvl (h:Hist) (e:Ev) (a:Nat) (s:Seen) (k:Int):Option Conf:=match rkR h s.o s.v with
 |none=>none
 |some r=>if k≤r then (if (((zoj h s.o)[(k - 1).toNat]?).getD 0==e.t)=true then none else some (wrC h e a 2 (((zoj h s.o)[(k - 1).toNat]?).getD 0) s.o e.p)) else none
def zvk (h:Hist) (e:Ev) (a:Nat):List Conf:=if (e.kind==4)=true then (k7 h e a).flatMap fun s=>(ynf h e.p s.o).filterMap (zvl h e a s) else []
def zkk (h:Hist):List Conf:=j9 h (zvk h) h.evs.length
def zeb (a b:Conf):Bool:=decide (zm9 a b < 0)
def yj4 (out:List Conf) (c:Conf):List Conf:=out.takeWhile (zeb · c)++c::out.dropWhile (zeb · c)
def zmt (l out:List Conf) (c:Conf):List Conf:=if (l.any fun d=>d.f==c.f && (d.t==c.t && zeb d c))=true then out else if out.contains c=true then out else yj4 out c
def zmu (l:List Conf):List Conf:=l.foldl (zmt l) []
theorem zqs {l:List Int} (hl:l.Pairwise (· < ·)) (r:Int):(l.takeWhile fun k=>decide (k≤r))=l.filter fun k=>decide (k≤r):=by
 induction l with
 |nil=>rfl
 |cons a l ih=>
  have h':=List.pairwise_cons.1 hl
  rw [List.takeWhile_cons,List.filter_cons]
  by_cases h:a≤r
  ·rw [decide_eq_true h,if_pos rfl,if_pos rfl,ih h'.2]
  ·rw [decide_eq_false h]
   simp only [Bool.false_eq_true,if_false]
   symm
   rw [List.filter_eq_nil_iff]
   intro b hb q
   have:=h'.1 b hb
   have:=oT q
   omega
theorem zvj {h:Hist} (hs:zaq h=true) {e:Ev} (he:e∈h.evs) (a:Nat):zcz h e a=zvk h e a:=by
 rw [zcz,zvk]
 by_cases h4:e.kind=4
 ·rw [if_pos (by simpa using h4),if_pos (by simpa using h4)]
  have hp:=yig (zdl hs _ he) h4
  have key:∀s∈k7 h e a,zao h e a s=(ynf h e.p s.o).filterMap (zvl h e a s):=fun s hsm=>by
   have ho:0≤s.o∧s.o < h.os.length:=by
    rw [k7,List.mem_map] at hsm
    obtain ⟨x,hx,rfl⟩:=hsm
    exact (znk _ _).1 hx
   have ht:zht h e.p s.o=0:=zv1.2 ⟨za0.2 hs,ho,hp⟩
   have hch:chL h e.p s.o=ynf h e.p s.o:=yot ht
   have hlt:(chL h e.p s.o).Pairwise (· < ·):=by rw [chL,if_pos ht];exact zyw _ _
   rw [zao,yl6 hs ho.1 ho.2]
   cases hr:rkR h s.o s.v with
   |none=>
    symm
    simp only
    rw [List.filterMap_eq_nil_iff]
    intro k _;rw [zvl,hr]
   |some r=>
    simp only
    rw [zqs hlt,←hch,List.filterMap_filter]
    refine zti fun k hk=> ?_
    rw [zvl,hr]
    simp only
    by_cases q:k≤r
    ·rw [if_pos (decide_eq_true q),if_pos q,wrQ,zly,zmx hs ho.1 ho.2]
    ·rw [if_neg (by simpa using q),if_neg q]
  generalize k7 h e a=L at key
  induction L with
  |nil=>rfl
  |cons s r ih=>rw [List.flatMap_cons,List.flatMap_cons,key s (by simp),ih fun s hs=>key s (by simp [hs])]
 ·rw [if_neg (by simpa using h4),if_neg (by simpa using h4)]
theorem zkn {h:Hist} {F G:Ev→Nat→List Conf} (hf:∀e∈h.evs,∀a,F e a=G e a):∀n,j9 h F n=j9 h G n
 |0=>rfl
 |n+1=>by
  rw [j9,j9,zkn hf n]
  cases hn:h.evs[n]? with
  |none=>rfl
  |some e=>simp only;rw [hf e (List.mem_of_getElem? hn)]
theorem zjv {h:Hist} (hs:zaq h=true):zdh h=zkk h:=zkn (fun e he a=>zvj hs he a) _
theorem zho {h:Hist} {F:Ev→Nat→List Conf} {z:Conf}:∀{n:Nat},n≤h.evs.length→(z∈j9 h F n ↔ ∃j,∃hj:j < h.evs.length,j < n∧zf7 h.evs h.evs[j].t 5=true∧z∈F h.evs[j] j)
 |0,_=>by simp [j9]
 |n+1,hn=>by
  rw [j9,List.mem_append,zho (n:=n) (by omega),List.getElem?_eq_getElem (by omega)]
  simp only
  constructor
  ·rintro (⟨j,hj,q,r⟩|q)
   ·exact ⟨j,hj,by omega,r⟩
   ·split at q
    ·exact ⟨n,by omega,by omega, ‹_›,q⟩
    ·cases q
  ·rintro ⟨j,hj,q,r,w⟩
   by_cases e:j=n
   ·subst e;right;rw [if_pos r];exact w
   ·left;exact ⟨j,hj,by omega,r,w⟩
theorem zkc {α:Type} {f:Nat→Ev→Option α} {l:List Ev} {z:α}:∀{n:Nat},n≤l.length→(z∈zec f l n ↔ ∃j,∃hj:j < l.length,j < n∧f j l[j]=some z)
 |0,_=>by simp [zec]
 |n+1,hn=>by
  rw [zpk (by omega),List.mem_append,zkc (n:=n) (by omega),Option.mem_toList]
  constructor
  ·rintro (⟨j,hj,q,r⟩|q)
   ·exact ⟨j,hj,by omega,r⟩
   ·exact ⟨n,by omega,by omega,q⟩
  ·rintro ⟨j,hj,q,r⟩
   by_cases e:j=n
   ·subst e;exact .inr r
   ·exact .inl ⟨j,hj,by omega,r⟩
theorem yin {h:Hist} (hs:zaq h=true) {x:Int} (h0:0≤x) (h1:x < h.os.length) {v:Ver} {r:Int} (hr:zfi h x v=some r) (hn:r≠0):∃k,∃hk:k < (zaj h x).length,r=(k:Int)+1∧zgn h x (zaj h x)[k]=v:=by
 rw [zfi,zkx hs v h0 h1 _ (Nat.le_refl _) h1] at hr
 split at hr
 ·injection hr with hr;omega
 ·split at hr
  ·rename_i q
   injection hr with hr
   have:=zd9 (fun t=>zzn (zlz h.evs t x)==v) (zaj h x) 0
   split at this
   ·obtain ⟨k,hk,e,e1,e2⟩:=this
    refine ⟨k,hk,?_,?_⟩
    ·rw [zjp,e] at hr;omega
    ·rw [e1];exact eq_of_beq e2
   ·rw [zjp,this] at q;omega
  ·cases hr
theorem yip {h:Hist} (hs:zaq h=true) {x:Int} (h0:0≤x) (h1:x < h.os.length) {k:Nat} (hk:k < (zaj h x).length):zfi h x (zgn h x (zaj h x)[k])=some ((k:Int)+1):=by
 obtain ⟨v,i,hf,⟨hi,_⟩,hv,hr,_⟩:=zsl hs h0 h1 hk
 have e:zgn h x (zaj h x)[k]=v:=by rw [zgn,hf];rfl
 rw [e,zfi,zkx hs v h0 h1 _ (Nat.le_refl _) h1,if_neg (by rintro rfl;exact absurd hv (by decide)),hr,if_pos (by omega)]
theorem zii {h:Hist} (hs:zaq h=true) {j:Nat} (hj:j < h.evs.length) {z:Conf}:z∈zbe h h.evs[j] j ↔ h.evs[j].kind=3∧∃k,∃hk:k < (zaj h h.evs[j].o).length,zgn h h.evs[j].o (zaj h h.evs[j].o)[k]=h.evs[j].v∧(zaj h h.evs[j].o)[k]≠h.evs[j].t∧z=wrC h h.evs[j] j 1 (zaj h h.evs[j].o)[k] h.evs[j].o 0:=by
 rw [zbe]
 by_cases h3:h.evs[j].kind=3
 ·rw [if_pos (by simpa using h3)]
  obtain ⟨⟨o0,o1⟩,_⟩:=zkz (zdl hs _ (List.getElem_mem hj)) h3
  constructor
  ·intro q
   split at q
   ·cases q
   ·rename_i q0
    split at q
    ·cases q
    ·rename_i q2
     rw [List.mem_singleton] at q
     cases hr:zfi h h.evs[j].o h.evs[j].v with
     |none=>rw [hr] at q0;simp at q0
     |some r=>
      rw [hr] at q q0 q2
      simp only [Option.getD_some] at q q0 q2
      obtain ⟨k,hk,e1,e2⟩:=yin hs o0 o1 hr (by simpa using q0)
      have ea:zly h h.evs[j].o r=(zaj h h.evs[j].o)[k]:=by
       rw [zly,show (r - 1).toNat=k by omega,List.getElem?_eq_getElem hk];rfl
      rw [ea] at q q2
      exact ⟨h3,k,hk,e2,by simpa using q2,q⟩
  ·rintro ⟨_,k,hk,e1,e2,rfl⟩
   have hr:=yip hs o0 o1 hk
   rw [e1] at hr
   rw [hr]
   simp only [Option.getD_some]
   have ea:zly h h.evs[j].o ((k:Int)+1)=(zaj h h.evs[j].o)[k]:=by
    rw [zly,show ((k:Int)+1 - 1).toNat=k by omega,List.getElem?_eq_getElem hk];rfl
   rw [if_neg (by simp;omega),ea,if_neg (by simpa using e2)]
   simp
 ·rw [if_neg (by simpa using h3)]
  simp [h3]
theorem zjw {h:Hist} (hs:zaq h=true) (z:Conf):z∈zco h ↔ z∈zij h:=by
 rw [zco,zho (Nat.le_refl _),zij,List.mem_flatMap]
 constructor
 ·rintro ⟨j,hj,_,hc,hz⟩
  obtain ⟨h3,k,hk,e1,e2,rfl⟩:=(zii hs hj).1 hz
  obtain ⟨⟨o0,o1⟩,_⟩:=zkz (zdl hs _ (List.getElem_mem hj)) h3
  refine ⟨h.evs[j].o,(znk _ _).2 ⟨o0,o1⟩,?_⟩
  rw [List.mem_flatMap]
  refine ⟨(zaj h h.evs[j].o)[k],by rw [←zmx hs o0 o1];exact List.getElem_mem hk,?_⟩
  rw [zkc (Nat.le_refl _)]
  refine ⟨j,hj,hj,?_⟩
  rw [zz1,if_pos (by simp only [h3,hc,e1,Bool.and_eq_true,beq_self_eq_true,true_and,and_true,Bool.not_eq_true',beq_eq_false_iff_ne];exact fun q=>e2 q.symm)]
 ·rintro ⟨x,hx,hz⟩
  obtain ⟨x0,x1⟩:=(znk _ _).1 hx
  rw [List.mem_flatMap] at hz
  obtain ⟨f,hf,hz⟩:=hz
  rw [zkc (Nat.le_refl _)] at hz
  obtain ⟨j,hj,_,hz⟩:=hz
  unfold zz1 at hz
  split at hz
  ·rename_i q
   injection hz with hz
   simp only [Bool.and_eq_true,beq_iff_eq,Bool.not_eq_true',beq_eq_false_iff_ne] at q
   obtain ⟨q3,qo,qv,qt,qc⟩:=q
   rw [←zmx hs x0 x1] at hf
   obtain ⟨k,hk,ek⟩:=List.mem_iff_getElem.1 hf
   refine ⟨j,hj,hj,qc,(zii hs hj).2 ⟨q3,k,by rw [qo];exact hk,?_⟩⟩
   simp only [qo]
   rw [ek]
   exact ⟨qv.symm,fun q=>qt q.symm,hz.symm⟩
  ·cases hz
def zvi (l:List Conf):Prop:=∀a∈l,∀b∈l,a.k=b.k
theorem zm4 {α:Type} {p:α→Bool}:∀{l:List α} {a:α} {r:List α},l.dropWhile p=a::r→p a=false
 | [],_,_,h=>by simp at h
 |x::l,a,r,h=>by
  rw [List.dropWhile_cons] at h
  split at h
  ·exact zm4 h
  ·injection h with h _;subst h;simpa using ‹¬p x=true›
theorem zor {α:Type} {p:α→Bool}:∀{l:List α} {a:α},a∈l.takeWhile p→p a=true
 |x::l,a,h=>by
  rw [List.takeWhile_cons] at h
  split at h
  ·rcases List.mem_cons.1 h with h|h
   ·subst h;assumption
   ·exact zor h
  ·cases h
theorem ybx {out:List Conf} {c z:Conf}:z∈yj4 out c ↔ z=c∨z∈out:=by
 rw [yj4,List.mem_append,List.mem_cons]
 have:z∈out ↔ z∈out.takeWhile (zeb · c)∨z∈out.dropWhile (zeb · c):=by
  rw [←List.mem_append,List.takeWhile_append_dropWhile]
 rw [this]
 constructor
 ·rintro (h|h|h)
  ·exact .inr (.inl h)
  ·exact .inl h
  ·exact .inr (.inr h)
 ·rintro (h|h|h)
  ·exact .inr (.inl h)
  ·exact .inl h
  ·exact .inr (.inr h)
theorem zk7 {a b c:Conf} (h:zgt a b < 0) (k:zgt b c≤0):zgt a c < 0:=by
 have h1:=zgo _ _ _ (Int.le_of_lt h) k
 rcases Int.lt_or_eq_of_le (show zgt a c≤0 from h1) with q|q
 ·exact q
 ·have e:=zge a c q
  subst e
  have:=zer.anti a b
  omega
theorem zrp {out:List Conf} {c:Conf} (hk:∀z∈out,z.k=c.k) (hs:out.Pairwise (LtC zgt)) (hc:c ∉ out):(yj4 out c).Pairwise (LtC zgt):=by
 have hd:=(List.takeWhile_append_dropWhile (p:=(zeb · c)) (l:=out)).symm
 have ha:∀z∈out,zeb z c=decide (zgt z c < 0):=fun z hz=>by rw [zeb,zlj (hk z hz)]
 have hs1:=hs
 rw [hd,List.pairwise_append] at hs1
 obtain ⟨p1,p2,p3⟩:=hs1
 have hsub:∀z∈out.dropWhile (zeb · c),z∈out:=fun z hz=>(List.dropWhile_sublist _).subset hz
 have hD:∀z∈out.dropWhile (zeb · c),zgt c z < 0:=fun z hz=>by
  cases hq:out.dropWhile (zeb · c) with
  |nil=>rw [hq] at hz;cases hz
  |cons a r=>
   have h1:=zm4 hq
   rw [ha a (hsub a (by rw [hq];simp))] at h1
   have h1:=oF h1
   have h2:zgt c a < 0:=by
    have:=zer.anti c a
    rcases Int.lt_or_eq_of_le (show zgt c a≤0 by omega) with q|q
    ·exact q
    ·exact absurd (zge _ _ q) fun e=>hc (by rw [e];exact hsub a (by rw [hq];simp))
   rw [hq] at hz p2
   rcases List.mem_cons.1 hz with rfl|hz
   ·exact h2
   ·exact zk7 h2 (Int.le_of_lt ((List.pairwise_cons.1 p2).1 z hz))
 rw [yj4,List.pairwise_append]
 refine ⟨p1,List.pairwise_cons.2 ⟨hD,p2⟩,fun a h1 b hb=> ?_⟩
 have hac:zgt a c < 0:=by
  have:=zor h1
  rw [ha a ((List.takeWhile_sublist _).subset h1)] at this
  exact oT this
 rcases List.mem_cons.1 hb with rfl|hb
 ·exact hac
 ·exact zk7 hac (Int.le_of_lt (hD b hb))
theorem zxi {l:List Conf} (hk:zvi l) {c:Conf} (hc:c∈l):(l.any fun d=>d.f==c.f && (d.t==c.t && zeb d c))=true ↔ ¬zig l c:=by
 rw [List.any_eq_true]
 constructor
 ·rintro ⟨d,hd,q⟩ hm
  simp only [Bool.and_eq_true,beq_iff_eq] at q
  obtain ⟨q1,q2,q3⟩:=q
  rw [zeb,zlj (hk d hd c hc)] at q3
  have q3:=oT q3
  have:=hm.2 d hd (by rw [zjr,zjr,q1,q2])
  have:=zer.anti c d
  omega
 ·intro hm
  apply Classical.byContradiction
  intro hn
  refine hm ⟨hc,fun d hd e=> ?_⟩
  have e':d.f=c.f∧d.t=c.t:=by simpa [zjr] using e
  apply Classical.byContradiction
  intro q
  have:=zer.anti c d
  exact hn ⟨d,hd,by rw [zeb,zlj (hk d hd c hc),e'.1,e'.2];simp;omega⟩
theorem zpg {l:List Conf} (hk:zvi l):∀(r p out:List Conf),p++r=l→out.Pairwise (LtC zgt)→(∀z,z∈out ↔ z∈p∧zig l z)→(r.foldl (zmt l) out).Pairwise (LtC zgt)∧∀z,z∈r.foldl (zmt l) out ↔ z∈l∧zig l z
 | [],p,out,e,h1,h2=>by
   rw [List.append_nil] at e;subst e;exact ⟨h1,h2⟩
 |c::r,p,out,e,h1,h2=>by
  have hc:c∈l:=by rw [←e];simp
  rw [List.foldl_cons]
  refine zpg hk r (p++ [c]) _ (by rw [←e];simp) ?_ ?_
  ·rw [zmt]
   split
   ·exact h1
   ·split
    ·exact h1
    ·rename_i q
     exact zrp (fun z hz=>hk z ((h2 z).1 hz).2.1 c hc) h1 (by simpa using q)
  ·intro z
   rw [List.mem_append,List.mem_singleton]
   by_cases q:(l.any fun d=>d.f==c.f && (d.t==c.t && zeb d c))=true
   ·rw [zmt,if_pos q,h2]
    have:=(zxi hk hc).1 q
    constructor
    ·rintro ⟨a,b⟩;exact ⟨.inl a,b⟩
    ·rintro ⟨a|a,b⟩
     ·exact ⟨a,b⟩
     ·subst a;exact absurd b this
   ·rw [zmt,if_neg q]
    have hm:zig l c:=Classical.byContradiction fun h=>q ((zxi hk hc).2 h)
    split
    ·rename_i q2
     rw [h2]
     constructor
     ·rintro ⟨a,b⟩;exact ⟨.inl a,b⟩
     ·rintro ⟨a|a,b⟩
      ·exact ⟨a,b⟩
      ·subst a;exact (h2 z).1 (by simpa using q2)
    ·rw [ybx,h2]
     constructor
     ·rintro (a|⟨a,b⟩)
      ·subst a;exact ⟨.inr rfl,hm⟩
      ·exact ⟨.inl a,b⟩
     ·rintro ⟨a|a,b⟩
      ·exact .inr ⟨a,b⟩
      ·exact .inl a
theorem zuw {l:List Conf} (hk:zvi l):(zmu l).Pairwise (LtC zgt)∧∀z,z∈zmu l ↔ zig l z:=by
 obtain ⟨h1,h2⟩:=zpg hk l [] [] rfl .nil (fun z=>by simp)
 exact ⟨h1,fun z=>by rw [zmu,h2];exact ⟨fun h=>h.2,fun h=>⟨h.1,h⟩⟩⟩
theorem zy2 (l:List Conf):((za1 l).map Prod.snd).Pairwise fun a b=>zjr a≠zjr b:=by
 rw [List.pairwise_map]
 have hn:=zhg l
 rw [List.Nodup,List.pairwise_map] at hn
 rw [List.pairwise_iff_getElem] at hn ⊢
 intro i j hi hj hij e
 have k1:∀p∈za1 l,zjr p.2=p.1:=fun p hp=>by
  have hg:=(zkb (k:=p.1) (v:=p.2) (zhg l)).2 hp
  have:=ztu l p.1
  rw [hg] at this
  exact this.1
 have:=hn i j hi hj hij
 rw [←k1 _ (List.getElem_mem hi),←k1 _ (List.getElem_mem hj)] at this
 exact this e
theorem znd (l:List Conf):((za1 l).map Prod.snd).Nodup:=(zy2 l).imp fun h e=>h (by rw [e])
theorem zg7 (l:List Conf) (z:Conf):z∈zbv l ↔ zig l z:=by
 rw [zbv,(zil zgt _).mem_iff,zlt]
theorem zkl (l:List Conf):(zbv l).Pairwise (LtC zgt):=zs9 zge (zov zer _) ((zil _ _).nodup_iff.2 (znd l))
theorem zta {l m:List Conf} (hk:zvi m) (h:∀z,z∈l ↔ z∈m):zbv l=zmu m:=by
 obtain ⟨h1,h2⟩:=zuw hk
 refine zri zer _ _ (zkl l) h1 fun z=> ?_
 rw [zg7,h2]
 unfold zig
 rw [h]
 exact ⟨fun q=>⟨q.1,fun c hc=>q.2 c ((h c).2 hc)⟩,fun q=>⟨q.1,fun c hc=>q.2 c ((h c).1 hc)⟩⟩
theorem zuv {l out:List Conf} (hk:zvi l) (hp:out.Perm ((za1 l).map Prod.snd)) (hs:out.Pairwise fun a b=>zm9 a b≤0):out=zbv l:=by
 have hm:∀z∈out,z∈l:=fun z hz=>(zlt.1 (hp.mem_iff.1 hz)).1
 have hs':out.Pairwise (LeC zgt):=by
  rw [List.pairwise_iff_getElem] at hs ⊢
  intro i j hi hj hij
  have:=hs i j hi hj hij
  rw [zlj (hk _ (hm _ (List.getElem_mem hi)) _ (hm _ (List.getElem_mem hj)))] at this
  exact this
 refine zri zer _ _ (zs9 zge hs' (hp.nodup_iff.2 (znd l))) (zkl l) fun z=> ?_
 rw [hp.mem_iff,zg7,zlt]
theorem zhn {h:Hist} {z:Conf} (hz:z∈zij h):z.k=1:=by
 rw [zij,List.mem_flatMap] at hz
 obtain ⟨x,_,hz⟩:=hz
 rw [List.mem_flatMap] at hz
 obtain ⟨f,_,hz⟩:=hz
 rw [zkc (Nat.le_refl _)] at hz
 obtain ⟨j,hj,_,hz⟩:=hz
 unfold zz1 at hz
 split at hz
 ·injection hz with hz;rw [←hz];rfl
 ·cases hz
theorem yee {h:Hist} {e:Ev} {a:Nat} {z:Conf} (hz:z∈zvk h e a):z.k=2:=by
 rw [zvk] at hz
 split at hz
 ·rw [List.mem_flatMap] at hz
  obtain ⟨s,_,hz⟩:=hz
  rw [List.mem_filterMap] at hz
  obtain ⟨k,_,hz⟩:=hz
  unfold zvl at hz
  split at hz
  ·cases hz
  ·split at hz
   ·split at hz
    ·cases hz
    ·injection hz with hz;rw [←hz];rfl
   ·cases hz
 ·cases hz
theorem zhm {h:Hist} {z:Conf} (hz:z∈zkk h):z.k=2:=by
 rw [zkk,zho (Nat.le_refl _)] at hz
 obtain ⟨j,hj,_,_,hz⟩:=hz
 exact yee hz
theorem zt6 {h:Hist} (hs:zaq h=true):zbv (zco h)=zmu (zij h):=zta (fun a ha b hb=>by rw [zhn ha,zhn hb]) (zjw hs)
theorem zt5 {h:Hist} (hs:zaq h=true):zbv (zdh h)=zmu (zkk h):=zta (fun a ha b hb=>by rw [zhm ha,zhm hb]) (fun z=>by rw [zjv hs])
theorem zx2 {h:Hist} (hs:zaq h=true):zvi (zco h):=fun a ha b hb=>by rw [zhn ((zjw hs a).1 ha),zhn ((zjw hs b).1 hb)]
theorem zwh {h:Hist} (hs:zaq h=true):zvi (zdh h):=fun a ha b hb=>by rw [zjv hs] at ha hb;rw [zhm ha,zhm hb]
theorem ztc {h:Hist} (hs:zaq h=true) {x:Int} (h0:0≤x) (h1:x < h.os.length) {k:Nat} (hk:k < (zaj h x).length):∃i,∃hi:i < h.evs.length,zlz h.evs (zaj h x)[k] x=some (h.evs[i].v,i)∧zcd h (zaj h x)[k] x=(i:Int)∧h.evs[i].kind=2∧h.evs[i].t=(zaj h x)[k]∧h.evs[i].o=x∧0 < h.evs[i].v.k∧h.evs[i].v.t=(zaj h x)[k]:=by
 obtain ⟨v,i,hf,_,hv,_⟩:=zsl hs h0 h1 hk
 obtain ⟨hi,e1,e2,e3,_⟩:=zh5 hs hf
 obtain ⟨w1,w2,w3⟩:=zgg.1 e2
 exact ⟨i,hi,by rw [hf,e1],by rw [zcd,hf];rfl,w1,w2,w3,by rw [e1];exact hv,by rw [e1];exact e3⟩
theorem zx3 {h:Hist} (hs:zaq h=true) {z:Conf} (hz:z∈zco h):z.k=1∧z.f≠z.t∧z.p=0∧∃i j,∃hi:i < h.evs.length,∃hj:j < h.evs.length,z.a=(i:Int)∧z.b=(j:Int)∧zlz h.evs z.f z.o=some (h.evs[i].v,i)∧h.evs[i].kind=2∧h.evs[i].t=z.f∧h.evs[i].o=z.o∧0 < h.evs[i].v.k∧h.evs[i].v.t=z.f∧
 h.evs[j].t=z.t∧h.evs[j].kind=3∧h.evs[j].v=h.evs[i].v∧h.evs[j].o=z.o:=by
 rw [zco,zho (Nat.le_refl _)] at hz
 obtain ⟨j,hj,_,hc,hz⟩:=hz
 obtain ⟨h3,k,hk,e1,e2,rfl⟩:=(zii hs hj).1 hz
 obtain ⟨⟨o0,o1⟩,_⟩:=zkz (zdl hs _ (List.getElem_mem hj)) h3
 obtain ⟨i,hi,a1,a2,a3,a4,a5,a6,a7⟩:=ztc hs o0 o1 hk
 have ev:h.evs[j].v=h.evs[i].v:=by rw [←e1,zgn,a1];rfl
 exact ⟨rfl,e2,rfl,i,j,hi,hj,a2,rfl,a1,a3,a4,a5,a6,a7,rfl,h3,ev,rfl⟩
theorem yhb {h:Hist} (hm:h.mats= []) (p x:Int):chL h p x= []:=by
 rw [chL]
 split
 ·rw [List.eq_nil_iff_forall_not_mem]
  intro z hz
  rw [yha,zid] at hz
  obtain ⟨k,_,k0,k1,k2⟩:=hz
  have hn:ygd h p x=none:=by rw [ygd,hm];rfl
  rw [List.getElem?_eq_getElem k1,List.getElem?_eq_getElem (show k - 1 < _ by omega),zsq hn,zsq hn] at k2
  exact k2 rfl
 ·rfl
theorem zmi {h:Hist} (hm:h.mats= []):∀n,j9 h (zcz h) n= []
 |0=>rfl
 |n+1=>by
  rw [j9,zmi hm n]
  cases h.evs[n]? with
  |none=>rfl
  |some e=>
   simp only [List.nil_append]
   split
   ·rw [zcz]
    split
    ·rw [List.flatMap_eq_nil_iff]
     intro s _
     rw [zao,yhb hm]
     split <;> rfl
    ·rfl
   ·rfl
theorem zwi {h:Hist} (hm:h.mats= []):zbv (zdh h)= []:=by rw [zdh,zmi hm];simp [zbv,za1,zuc,zj0]
theorem zmo (h:Hist) (m:List Mat) (x:Int):∀(l:List Int) (i:Nat) (r:RkM),zem {h with mats:=m} x i l r=zem h x i l r
 | [],_,_=>rfl
 |t::l,i,r=>by rw [zem,zem,zmo h m x l];rfl
theorem zsz (h:Hist) (m:List Mat):∀n,rkM {h with mats:=m} n=rkM h n
 |0=>rfl
 |n+1=>by rw [rkM,rkM,zuf,zuf,zsz h m n,zmo];rfl
theorem zwt (h:Hist) (m:List Mat) (x:Int) (v:Ver):zfi {h with mats:=m} x v=zfi h x v:=by rw [zfi,zfi,zsz]
theorem zqk (h:Hist) (m:List Mat) (e:Ev) (a:Nat):zbe {h with mats:=m} e a=zbe h e a:=by rw [zbe,zbe,zwt];rfl
theorem zuz (h:Hist) (m:List Mat):zco {h with mats:=m}=zco h:=by
 suffices ∀n,j9 {h with mats:=m} (zbe {h with mats:=m}) n=j9 h (zbe h) n by exact this _
 intro n
 induction n with
 |zero=>rfl
 |succ n ih=>
  rw [j9,j9,ih]
  cases h.evs[n]? with
  |none=>rfl
  |some e=>simp only [zqk]
theorem zwd {h:Hist} {e:Ev} {n:Nat} {s:Seen} (hs:s∈k7 h e n):(0≤s.o∧s.o < h.os.length)∧∃hk:s.o.toNat < (k7 h e n).length,(k7 h e n)[s.o.toNat]=s:=by
 obtain ⟨k,hk,rfl⟩:=List.mem_iff_getElem.1 hs
 have e1:=yl1 hk
 have e2:=zkv h e n
 refine ⟨by omega,by omega,?_⟩
 congr 1
 omega
def yjd (h:Hist) (e:Ev) (a:Nat):List Int:=zbj (srt ((zf8 h e a).map Conf.t))
def we5:Ev:=⟨4,1,0,0,0,⟨0,0⟩,0,[⟨0,⟨0,1⟩⟩]⟩
def weE:List Ev:= [⟨1,0,0,4,0,⟨0,0⟩,0,[]⟩,⟨2,0,0,0,0,⟨0,1⟩,0,[]⟩,⟨5,0,0,0,0,⟨0,0⟩,0,[]⟩,⟨1,1,0,4,0,⟨0,0⟩,0,[]⟩,⟨3,1,0,0,0,⟨0,1⟩,0,[]⟩,we5,⟨5,1,0,0,0,⟨0,0⟩,0,[]⟩]
def weH:Hist:=⟨[bt1,bt2],[bS],[bX],[bP],weE,[],[⟨0,0,false,[0]⟩],[]⟩
theorem yc2:zfo weH=true:=by decide+kernel
theorem zgh:zaq weH=true:=by
 have:zjl weH=none:=(yb4 yc2).trans (by decide+kernel)
 rw [zaq,yc2,this];rfl
theorem zhp:q6 weH=0:=za0.2 zgh
theorem zsm:zij weH= [⟨0,1,1,1,4,0,0⟩]:=by decide+kernel
theorem zni:zkk weH= [⟨0,1,2,1,5,0,0⟩]:=by decide+kernel
theorem zz5:zbv (zco weH)= [⟨0,1,1,1,4,0,0⟩]:=(zt6 zgh).trans (by rw [zsm];decide+kernel)
theorem zz4:zbv (zdh weH)= [⟨0,1,2,1,5,0,0⟩]:=(zt5 zgh).trans (by rw [zni];decide+kernel)
theorem ylv:(⟨0,1,2,1,5,0,0⟩:Conf)∈zdh weH:=by rw [zjv zgh,zni];simp
theorem yc1:¬(⟨0,1,1,1,6,0,0⟩:Conf)∈zco weH∧¬(⟨0,1,1,1,6,0,0⟩:Conf)∈zdh weH:=by
 rw [zjw zgh,zjv zgh,zsm,zni]
 constructor <;> decide
end Go.H
