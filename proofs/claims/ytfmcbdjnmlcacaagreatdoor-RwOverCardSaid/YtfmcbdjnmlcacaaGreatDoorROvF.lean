/- The abstract logic, part 28: slices.Sort and slices.Compact at []int, as contracts over a row of one's own (the kit's shelf has walked them). .. -/
import Derived.Test.YtfmcbdjnmlcacaaGreatDoorROvE
import Derived.Shelf.Sort.Plain
import Derived.Shelf.Slices.In.SortNone
import Derived.Shelf.Slices.CompactI
set_option linter.unusedSectionVars false
set_option linter.unusedSimpArgs false
set_option linter.unusedVariables false
namespace Go.Ab
open Go Go.Shelf Go.Sort Go.Proofs
def numR (n:Int):List AV:= [.v (.int .i64 n)]
theorem zw0 {X:Nat→Prop} {w:World} {a:Addr} {cap:Nat} {T:TypeId} {xs ys zs:List Int} (hh:HRel X w [.row (.slice (some a) xs.length cap) 1 T (xs.map numR)]) (hl:ys.length=xs.length) (hz:zs=ys.take zs.length) (n:Nat) (os:Array Obj):
 HRel X (grow (putRow (Value.int .i64) (Sort.ahead w n) a.block a.off ys.toArray) os) [.row (.slice (some a) zs.length cap) 1 T (zs.map numR)]∧
 Keep [a.block] w [a.block] (grow (putRow (Value.int .i64) (Sort.ahead w n) a.block a.off ys.toArray) os):=by
 obtain ⟨h1,h2,h3,h4,c,h5,h6,h7⟩:=hh.holds _ (List.mem_singleton.2 rfl)
 have hb:a.block < w.heap.size:=(hh.lt a.block (by simp [j7,Res.own])).1
 have hX:¬X a.block:=(hh.lt a.block (by simp [j7,Res.own])).2
 obtain ⟨w',hw'⟩:∃w',w'=grow (putRow (Value.int .i64) (Sort.ahead w n) a.block a.off ys.toArray) os:=⟨_,rfl⟩
 rw [←hw']
 have hheap:w'.heap=(w.heap.modify a.block (onCells (putCells (Value.int .i64) a.off ys.toArray)))++os:=by rw [hw'];rfl
 have hos:ziw w w':=by rw [hw'];exact ⟨⟨rfl,rfl⟩,rfl,Nat.le_add_right _ _⟩
 have hsize:w.heap.size≤w'.heap.size:=by rw [hheap];simp
 have hold:∀b,b < w.heap.size→b≠a.block→w'.heap[b]? =w.heap[b]? :=fun b hb hne=>by
  rw [hheap,Array.getElem?_append_left (by simpa using hb),Array.getElem?_modify,if_neg (Ne.symm hne)]
 have hnew:w'.heap[a.block]? =some (.cells (putCells (Value.int .i64) a.off ys.toArray c) T (0,0)):=by
  rw [hheap,Array.getElem?_append_left (by simpa using hb),Array.getElem?_modify,if_pos rfl,h5];rfl
 have hlen:zs.length≤ys.length:=by
  have:=congrArg List.length hz
  rw [List.length_take] at this;omega
 refine ⟨⟨by simp [j7,Res.own],fun b hb2=> ?_,fun b hb2=>Nat.lt_of_lt_of_le (hh.xlt b hb2) hsize,fun r hr=> ?_⟩,⟨hsize,fun b hb2 hne=> ?_,hos⟩⟩
 ·have:b=a.block:=by simpa [j7,Res.own] using hb2
  subst this;exact ⟨Nat.lt_of_lt_of_le hb hsize,hX⟩
 ·rw [List.mem_singleton] at hr
  subst hr
  refine ⟨h1,by simp,by simp at h2 h3;omega,fun i hi=>by simp [numR],_,hnew,by simpa [putCells] using h6,fun i hi j hj=> ?_⟩
  have hi2:i < zs.length:=by simpa using hi
  have hj0:j=0:=by simp [numR] at hj;omega
  subst hj0
  have hc:a.off+i < c.size:=by simp at h2 h3;omega
  refine ⟨.int .i64 (zs[i]),?_,?_⟩
  ·have hz2:zs[i]=ys[i]'(by omega):=by
    have:zs[i]? =(ys.take zs.length)[i]? :=by rw [←hz]
    rw [List.getElem?_take_of_lt hi2,List.getElem?_eq_getElem hi2,List.getElem?_eq_getElem (by omega)] at this
    exact Option.some.inj this
   have e:a.off+i * 1+0=a.off+i:=by omega
   rw [e]
   simp only [putCells,Array.getElem?_mapIdx]
   rw [Array.getElem?_eq_getElem hc]
   simp only [Option.map_some]
   rw [if_pos ⟨by omega,by simp;omega⟩,hz2]
   have e2:a.off+i - a.off=i:=by omega
   rw [e2]
   congr 2
   exact getElem!_pos _ _ (by simp;omega)
  ·simp only [List.getElem_map,numR]
   exact .v _
 ·have hne2:b≠a.block:=by simpa using hne
  exact ⟨hold b hb2 hne2,hne⟩
theorem zw1 {X:Nat→Prop} {w:World} {a:Addr} {cap:Nat} {T:TypeId} {xs:List Int} (hh:HRel X w [.row (.slice (some a) xs.length cap) 1 T (xs.map numR)]):Holds (Value.int .i64) w a.block a.off xs.toArray∧a.block < w.heap.size∧xs.length≤cap∧a.spot=none:=by
 obtain ⟨h1,h2,h3,h4,c,h5,h6,h7⟩:=hh.holds _ (List.mem_singleton.2 rfl)
 refine ⟨fun j hj=> ?_,(hh.lt a.block (by simp [j7,Res.own])).1,h3,h1⟩
 have hj2:j < xs.length:=by simpa using hj
 obtain ⟨v,e,r⟩:=h7 j (by simpa using hj2) 0 (by simp [numR])
 simp only [List.getElem_map,numR] at r
 have hv:v= .int .i64 xs[j]:=r.v_eq
 subst hv
 have e0:a.off+j * 1+0=a.off+j:=by omega
 rw [e0] at e
 refine ⟨?_,?_⟩
 ·have e2:w.cell? ⟨a.block,a.off+j,none⟩=some (.int .i64 xs[j]):=by simp [World.cell?,h5,e]
  have e3:xs.toArray[j]! =xs[j]:=getElem!_pos xs.toArray j hj
  rw [e2,e3]
 ·simp [World.frozen?,h5]
theorem ybg {X:Nat→Prop} {w:World} {n cap:Nat} {T:TypeId} {xs:List Int} (hh:HRel X w [.row (.slice none n cap) 1 T (xs.map numR)]):xs= []∧n=0∧cap=0:=by
 obtain ⟨h1,h2,h3⟩:=hh.holds _ (List.mem_singleton.2 rfl)
 exact ⟨by simpa using h1,h2,h3⟩
section
variable {P:Program} {ρ:Ren}
theorem zz7 (Ly:Lays.n189 P ρ) (s:SV) (T:TypeId) (xs:List Int) (hs:xs.length < 4611686018427387904):
 y8 P (ρ.f 189) [.v s.v] [.row s.v 1 T (xs.map numR)] (fun r h'=>h'= [.row s.v 1 T ((xs.mergeSort fun x y=>decide (x≤y)).map numR)]∧r= .v (.tuple #[])):=by
 intro X w vs hh ha
 match vs,ha with
 | [v],⟨hv,_⟩=>
   obtain rfl:=hv.v_eq
   obtain ⟨a,n,cap⟩:=s
   cases a with
   |none=>
    obtain ⟨rfl,rfl,rfl⟩:=ybg hh
    refine callsIn_wide.2 ((Any.slices_Sort_int_none Ly none 0 w).mono ?_)
    rintro e w' ⟨rfl,rfl⟩
    exact ⟨_,_,_,rfl,⟨rfl,rfl⟩,.v _,by simpa using hh,.refl _ _⟩
   |some a=>
    have hn:n=xs.length:=by
     have:=(hh.holds _ (List.mem_singleton.2 rfl)).2.1
     simpa using this
    subst hn
    obtain ⟨g1,g2,g3,g4⟩:=zw1 hh
    obtain ⟨b,off,sp⟩:=a
    simp only at g1 g2 g4
    subst g4
    refine callsIn_wide.2 ((Any.slices_Sort_int Ly b off cap xs w g1 g2 hs).mono ?_)
    rintro e w' ⟨rfl,n,os,rfl⟩
    have hlen:(xs.mergeSort fun x y=>decide (x≤y)).length=xs.length:=List.length_mergeSort _
    obtain ⟨k1,k2⟩:=zw0 (zs:=xs.mergeSort fun x y=>decide (x≤y)) hh hlen (List.take_length).symm n os
    rw [hlen] at k1
    exact ⟨_,_,_,rfl,⟨rfl,rfl⟩,.v _,k1,k2⟩
theorem zrg (Ly:Lays2.n20 P ρ) (s:SV) (T:TypeId) (xs:List Int) (hs:xs.length≤4611686018427387904):
 y8 P (ρ.f 20) [.v s.v] [.row s.v 1 T (xs.map numR)] (fun r h'=>∃s':SV,h'= [.row s'.v 1 T ((Lib.compact xs).map numR)]∧r= .v s'.v):=by
 intro X w vs hh ha
 match vs,ha with
 | [v],⟨hv,_⟩=>
   obtain rfl:=hv.v_eq
   obtain ⟨a,n,cap⟩:=s
   cases a with
   |none=>
    obtain ⟨rfl,rfl,rfl⟩:=ybg hh
    refine callsIn_wide.2 ((Any.slices_Compact_int_empty Ly none 0 w).mono ?_)
    rintro e w' ⟨rfl,rfl⟩
    exact ⟨_,_,_,rfl,⟨⟨none,0,0⟩,rfl,rfl⟩,.v _,hh,.refl _ _⟩
   |some a=>
    have hn:n=xs.length:=by
     have:=(hh.holds _ (List.mem_singleton.2 rfl)).2.1
     simpa using this
    subst hn
    obtain ⟨g1,g2,g3,g4⟩:=zw1 hh
    obtain ⟨b,off,sp⟩:=a
    simp only at g1 g2 g4
    subst g4
    refine callsIn_wide.2 ((Any.slices_Compact_int Ly b off cap xs w g1 (by omega) g3).mono ?_)
    rintro e w' ⟨rfl,q,rfl⟩
    have hle:(Lib.compact xs).length≤xs.length:=by
     unfold Lib.compact Lib.compactUpTo
     rw [oM]
     exact Nat.le_trans (List.length_filter_le _ _) (by simp)
    obtain ⟨k1,k2⟩:=zw0 (ys:=Lib.compact xs++List.replicate (xs.length - (Lib.compact xs).length) 0) (zs:=Lib.compact xs) hh (by simp;omega) (by rw [List.take_left'];rfl) q #[]
    rw [grow_empty] at k1 k2
    exact ⟨_,_,_,rfl,⟨⟨some ⟨b,off,none⟩,(Lib.compact xs).length,cap⟩,rfl,rfl⟩,.v _,k1,k2⟩
end
end Go.Ab
namespace Go.H
open Go Go.Ab
theorem zpr (y:Int):∀l:List Int,zb4 (l++ [y])=zb4 l++(if l.getLast? =some y then [] else [y])
 | []=>by simp [zb4]
 | [x]=>by
   by_cases h:x=y
   ·subst h;simp [zb4]
   ·simp [zb4,h]
 |x::z::r=>by
  have ih:=zpr y (z::r)
  simp only [List.cons_append] at ih ⊢
  have hl:(x::z::r).getLast? =(z::r).getLast? :=by simp [List.getLast?_cons]
  rw [hl,zb4,zb4]
  by_cases h:x=z
  ·rw [if_pos h,if_pos h];exact ih
  ·rw [if_neg h,if_neg h,ih];rfl
theorem zzy (xs:List Int):Lib.compact xs=zb4 xs:=by
 have key:∀m,m≤xs.length→Lib.compactUpTo xs.toArray m=zb4 (xs.take m):=by
  intro m
  induction m with
  |zero=>intro _;rfl
  |succ m ih=>
   intro hm
   have hlt:m < xs.length:=hm
   rw [Lib.compactUpTo_succ,ih (by omega),List.take_succ_eq_append_getElem hlt,zpr]
   congr 1
   have e1:xs.toArray[m]! =xs[m]:=by simp [hlt]
   by_cases h0:m=0
   ·subst h0
    simp [Lib.keeps,hlt]
   ·have hlt':m - 1 < xs.length:=by omega
    have e2:xs.toArray[m - 1]! =xs[m - 1]:=by simp [hlt']
    have e3:(xs.take m).getLast? =some xs[m - 1]:=by
     rw [List.getLast?_eq_getElem?,List.length_take,Nat.min_eq_left (by omega),List.getElem?_take_of_lt (by omega)]
     simp [hlt']
    rw [e3]
    unfold Lib.keeps
    rw [e1,e2]
    by_cases he:xs[m]=xs[m - 1]
    ·rw [if_neg (by simp [h0,he]),if_pos (by rw [he])]
    ·rw [if_pos (by simp [he]),if_neg (fun q=>he (Option.some.inj q).symm)]
 have:=key xs.length (Nat.le_refl _)
 rw [List.take_length] at this
 exact this
def yki (l:List Ev):List (Int×Bool):=l.foldl (fun m e=>zeo e.t ((zbm e.t m).getD false||e.kind==5) m) []
theorem ydy (t:Int):∀(l:List Ev) (m:List (Int×Bool)),(zbm t (l.foldl (fun m e=>zeo e.t ((zbm e.t m).getD false||e.kind==5) m) m)).getD false=((zbm t m).getD false||l.any fun y=>y.t==t && y.kind==5)
 | [],m=>by simp
 |e::l,m=>by
  rw [List.foldl_cons,ydy t l,List.any_cons,zc7]
  by_cases h:e.t=t
  ·subst h;simp [Bool.or_assoc]
  ·have:(e.t==t)=false:=by simpa using h
   rw [if_neg h,this,Bool.false_and,Bool.false_or]
theorem zmj (l:List Ev) (t:Int):(zbm t (yki l)).getD false=l.any fun y=>y.t==t && y.kind==5:=by
 rw [yki,ydy];simp [zbm]
theorem zj4 {l:List Ev} {k:Nat} (hk:k < l.length):yki (l.take (k+1))=zeo l[k].t ((zbm l[k].t (yki (l.take k))).getD false||l[k].kind==5) (yki (l.take k)):=by
 rw [List.take_succ_eq_append_getElem hk,yki,List.foldl_append];rfl
section
variable {α:Type} {l:List α} {k:Nat} {p:α→Bool}
theorem yu3 (hk:k < l.length) (h:p l[k]=true):(l.take (k+1)).filter p=(l.take k).filter p++ [l[k]]:=by
 rw [List.take_succ_eq_append_getElem hk,List.filter_append];simp [h]
theorem yom (hk:k < l.length) (h:p l[k]=false):(l.take (k+1)).filter p=(l.take k).filter p:=by
 rw [List.take_succ_eq_append_getElem hk,List.filter_append];simp [h]
theorem ydj:((l.take k).filter p).length≤l.length:=Nat.le_trans (List.length_filter_le _ _) (by simp;omega)
end
def wrB (l:List Ev) (x:Int) (e:Ev):Bool:=e.kind==2 && e.o==x && l.any fun y=>y.t==e.t && y.kind==5
theorem zua (l:List Ev) (x:Int):zay l x=zb4 (srt ((l.filter (wrB l x)).map Ev.t)):=rfl
theorem ztq (l:List Int) (n:Int):(l.any fun a=>a==n)=l.contains n:=by
 rw [Bool.eq_iff_iff];simp
theorem zkc (l:List Ev) (x:Int):(zay l x).length≤l.length:=by
 rw [zua]
 refine Nat.le_trans (zj7 _) ?_
 rw [(zcl _).length_eq,oM]
 exact List.length_filter_le _ _
theorem zku (a b:Nat):((a:Int) !=(b:Int))= !decide (a=b):=by
 rw [Bool.eq_iff_iff];simp;omega
theorem y0.new {P:Program} {fv:AV} {args:List AV} {h:List Res} {R:AV→List Res→Prop} (hc:y0 P fv args [] R):y0 P fv args h (fun r h'=>∃h1,R r h1∧h'=h1++h):=
 (hc.frame h).mono fun _ _ ⟨h1,e,q⟩=>⟨h1,q,e⟩
def zg8 (h:Hist) (n many:Int):Int:=if u6 h=0 then (if 0≤n∧n < many then 0 else 2) else u6 h
def onE (e:Int) (l:List Int):List Int:=if e=0 then l else []
theorem yo2 {h:Hist} {n many:Int} (he:zg8 h n many=0):za0 h=true∧0≤n∧n < many:=by
 unfold zg8 at he
 split at he
 ·rename_i hc
  split at he
  ·rename_i hn;exact ⟨zbd.1 hc,hn⟩
  ·cases he
 ·rename_i hc;exact absurd he hc
theorem ask_c {h:Hist} {n many:Int} (hc:u6 h≠0):zg8 h n many=u6 h:=by rw [zg8,if_neg hc]
theorem zz5 {h:Hist} {n many:Int} (hc:u6 h=0) (hn:¬(0≤n∧n < many)):zg8 h n many=2:=by rw [zg8,if_pos hc,if_neg hn]
theorem zv9 {h:Hist} {n many:Int} (hc:u6 h=0) (hn:0≤n∧n < many):zg8 h n many=0:=by rw [zg8,if_pos hc,if_pos hn]
theorem ykq (h:Hist):zg8 h 0 1=u6 h:=by
 unfold zg8;split
 ·rename_i h0;rw [h0];rfl
 ·rfl
def zpn (l:List Ev):List (Int×Bool):=zr3 (fun e:Ev=>e.kind==5) Ev.t [] l
theorem yis (l:List Ev) (t:Int):(zbm t (zpn l)).getD false=zf1 l t 5:=by
 rw [zpn,zgo,zf0]
 have:(l.any fun e=>e.kind==5 && decide (e.t=t))=l.any fun y=>y.t==t && y.kind==5:=by
  congr 1;funext e;rw [Bool.and_comm];rfl
 rw [this]
 cases l.any fun y=>y.t==t && y.kind==5 <;> rfl
theorem ysy {l:List Ev} {k:Nat} (hk:k < l.length) (h5:(l[k].kind==5)=true):zpn (l.take (k+1))=zeo l[k].t true (zpn (l.take k)):=by
 rw [List.take_succ_eq_append_getElem hk,zpn,zr3,List.foldl_append,List.foldl_cons,List.foldl_nil,if_pos h5];rfl
theorem ysz {l:List Ev} {k:Nat} (hk:k < l.length) (h5:(l[k].kind==5)=false):zpn (l.take (k+1))=zpn (l.take k):=by
 rw [List.take_succ_eq_append_getElem hk,zpn,zr3,List.foldl_append,List.foldl_cons,List.foldl_nil,if_neg (by rw [h5];decide)];rfl
section
variable {α:Type} (cmp:α→α→Int)
def mrg:List α→List α→List α
 | [],b=>b
 |x::a,[]=>x::a
 |x::a,y::b=>if cmp y x < 0 then y::mrg (x::a) b else x::mrg a (y::b)
termination_by a b=>a.length+b.length
theorem yng (a:List α):mrg cmp a []=a:=by cases a <;> simp [mrg]
theorem zjw:∀(a b:List α),(mrg cmp a b).Perm (a++b)
 | [],b=>by simp [mrg]
 |x::a,[]=>by simp [mrg]
 |x::a,y::b=>by
  rw [mrg]
  split
  ·exact ((zjw (x::a) b).cons y).trans (List.perm_middle (l₁:=x::a)).symm
  ·exact (zjw a (y::b)).cons x
termination_by a b=>a.length+b.length
def LeC (a b:α):Prop:=cmp a b≤0
structure CmpOk:Prop where
 trans:∀a b c,cmp a b≤0→cmp b c≤0→cmp a c≤0
 anti:∀a b,cmp b a= - cmp a b
variable {cmp}
theorem zks (ok:CmpOk cmp):∀(a b:List α),a.Pairwise (LeC cmp)→b.Pairwise (LeC cmp)→(mrg cmp a b).Pairwise (LeC cmp)
 | [],b,_,hb=>by simpa [mrg] using hb
 |x::a,[],ha,_=>by simpa [mrg] using ha
 |x::a,y::b,ha,hb=>by
  rw [mrg]
  have ha':=List.pairwise_cons.1 ha
  have hb':=List.pairwise_cons.1 hb
  split
  ·rename_i h
   refine List.pairwise_cons.2 ⟨fun z hz=> ?_,zks ok (x::a) b ha hb'.2⟩
   have hz':=(zjw cmp (x::a) b).mem_iff.1 hz
   rcases List.mem_append.1 hz' with hz'|hz'
   ·have hyx:LeC cmp y x:=Int.le_of_lt h
    rcases List.mem_cons.1 hz' with rfl|hz'
    ·exact hyx
    ·exact ok.trans _ _ _ hyx (ha'.1 z hz')
   ·exact hb'.1 z hz'
  ·rename_i h
   have hxy:LeC cmp x y:=by have:=ok.anti x y;show cmp x y≤0;omega
   refine List.pairwise_cons.2 ⟨fun z hz=> ?_,zks ok a (y::b) ha'.2 hb⟩
   have hz':=(zjw cmp a (y::b)).mem_iff.1 hz
   rcases List.mem_append.1 hz' with hz'|hz'
   ·exact ha'.1 z hz'
   ·rcases List.mem_cons.1 hz' with rfl|hz'
    ·exact hxy
    ·exact ok.trans _ _ _ hxy (hb'.1 z hz')
termination_by a b=>a.length+b.length
variable (cmp)
def zbt:List (List α)→List (List α)
 |a::b::r=>mrg cmp a b::zbt r
 |l=>l
theorem zcv:∀l:List (List α),(zbt cmp l).length=(l.length+1) / 2
 | []=>by simp [zbt]
 | [a]=>by simp [zbt]
 |a::b::r=>by rw [zbt,List.length_cons,zcv r,List.length_cons,List.length_cons];omega
theorem zi2:∀l:List (List α),(zbt cmp l).flatten.Perm l.flatten
 | []=> .refl _
 | [a]=> .refl _
 |a::b::r=>by
  rw [zbt,List.flatten_cons,List.flatten_cons,List.flatten_cons,←List.append_assoc]
  exact (zjw cmp a b).append (zi2 r)
def zrd (l:List (List α)) (k:Nat):List α:=if k+1=l.length then (l[k]?).getD [] else mrg cmp ((l[k]?).getD []) ((l[k+1]?).getD [])
theorem zo9:∀(l:List (List α)) (i:Nat),i < (zbt cmp l).length→(zbt cmp l)[i]? =some (zrd cmp l (2 * i))
 | [],i,h=>by simp [zbt] at h
 | [a],i,h=>by
   have:i=0:=by simpa [zbt] using h
   subst this;rfl
 |a::b::r,0,h=>by
  rw [zbt,zrd,if_neg (by simp)];rfl
 |a::b::r,i+1,h=>by
  have h':i < (zbt cmp r).length:=by simpa [zbt] using h
  rw [zbt,List.getElem?_cons_succ,zo9 r i h',zrd,zrd,show 2 * (i+1)=2 * i+1+1 by omega]
  simp only [List.length_cons,List.getElem?_cons_succ]
  by_cases e:2 * i+1=r.length
  ·rw [if_pos e,if_pos (by omega)]
  ·rw [if_neg e,if_neg (by omega)]
def zru (l:List (List α)):List (List α):=if h:1 < l.length then zru (zbt cmp l) else l
termination_by l.length
decreasing_by rw [zcv];omega
theorem zp9 {l:List (List α)} (h:1 < l.length):zru cmp l=zru cmp (zbt cmp l):=by rw [zru,dif_pos h]
theorem zji {l:List (List α)} (h:¬1 < l.length):zru cmp l=l:=by rw [zru,dif_neg h]
theorem zrt (l:List (List α)):(zru cmp l).flatten.Perm l.flatten:=by
 by_cases h:1 < l.length
 ·rw [zp9 cmp h]
  have:(zbt cmp l).length < l.length:=by rw [zcv];omega
  exact (zrt (zbt cmp l)).trans (zi2 cmp l)
 ·rw [zji cmp h]
termination_by l.length
theorem zp8 (l:List (List α)):(zru cmp l).length≤1:=by
 by_cases h:1 < l.length
 ·rw [zp9 cmp h]
  have:(zbt cmp l).length < l.length:=by rw [zcv];omega
  exact zp8 (zbt cmp l)
 ·rw [zji cmp h];omega
termination_by l.length
def zkg (l:List α):List α:=((zru cmp (l.map fun x=> [x]))[0]?).getD []
theorem zzt (l:List (List α)) (h:l.length≤1):(l[0]?).getD []=l.flatten:=by
 match l,h with
 | [],_=>rfl
 | [a],_=>simp
theorem ydk (l:List α):(l.map fun x=> [x]).flatten=l:=by
 induction l with
 |nil=>rfl
 |cons a r ih=>rw [List.map_cons,List.flatten_cons,ih];rfl
theorem zoz (l:List α):(zkg cmp l).Perm l:=by
 rw [zkg,zzt _ (zp8 cmp _)]
 have:=zrt cmp (l.map fun x=> [x])
 rwa [ydk] at this
variable {cmp}
theorem zjs (ok:CmpOk cmp):∀l:List (List α),(∀r∈l,r.Pairwise (LeC cmp))→∀r∈zbt cmp l,r.Pairwise (LeC cmp)
 | [],_,r,h=>by cases h
 | [a],hl,r,h=>hl r h
 |a::b::q,hl,r,h=>by
  rw [zbt] at h
  rcases List.mem_cons.1 h with rfl|h
  ·exact zks ok a b (hl a (by simp)) (hl b (by simp))
  ·exact zjs ok q (fun r hr=>hl r (by simp [hr])) r h
theorem zmt (ok:CmpOk cmp) (l:List (List α)) (hl:∀r∈l,r.Pairwise (LeC cmp)):∀r∈zru cmp l,r.Pairwise (LeC cmp):=by
 by_cases h:1 < l.length
 ·rw [zp9 cmp h]
  have:(zbt cmp l).length < l.length:=by rw [zcv];omega
  exact zmt ok (zbt cmp l) (zjs ok l hl)
 ·rw [zji cmp h];exact hl
termination_by l.length
theorem zrx (ok:CmpOk cmp) (l:List α):(zkg cmp l).Pairwise (LeC cmp):=by
 have h:=zmt ok (l.map fun x=> [x]) (fun r hr=>by obtain ⟨x,_,rfl⟩:=List.mem_map.1 hr;exact List.pairwise_singleton _ _)
 have hl:=zp8 cmp (l.map fun x=> [x])
 rw [zkg]
 match hs:zru cmp (l.map fun x=> [x]),hl with
 | [],_=>exact .nil
 | [a],_=>exact h a (by rw [hs];simp)
def LtC (cmp:α→α→Int) (a b:α):Prop:=cmp a b < 0
theorem yhy (hz:∀a b,cmp a b=0→a=b):∀{l:List α},l.Pairwise (LeC cmp)→l.Nodup→l.Pairwise (LtC cmp):=by
 intro l h hn
 induction l with
 |nil=>exact .nil
 |cons a r ih=>
  rw [List.nodup_cons] at hn
  rw [List.pairwise_cons] at h ⊢
  refine ⟨fun b hb=> ?_,ih h.2 hn.2⟩
  have h1:=h.1 b hb
  have h2:cmp a b≠0:=fun e=>hn.1 (by rw [hz a b e];exact hb)
  show cmp a b < 0
  have:cmp a b≤0:=h1
  omega
theorem ycx (ok:CmpOk cmp):∀(l m:List α),l.Pairwise (LtC cmp)→m.Pairwise (LtC cmp)→(∀z,z∈l ↔ z∈m)→l=m
 | [],[],_,_,_=>rfl
 | [],b::m,_,_,h=>by have:=(h b).2 (by simp);cases this
 |a::l,[],_,_,h=>by have:=(h a).1 (by simp);cases this
 |a::l,b::m,hl,hm,h=>by
  have hl':=List.pairwise_cons.1 hl
  have hm':=List.pairwise_cons.1 hm
  have irr:∀z,¬LtC cmp z z:=fun z hz=>by have:=ok.anti z z;have:cmp z z < 0:=hz;omega
  have e:a=b:=by
   rcases List.mem_cons.1 ((h a).1 (by simp)) with e|h1
   ·exact e
   ·rcases List.mem_cons.1 ((h b).2 (by simp)) with e|h2
    ·exact e.symm
    ·have h3:cmp b a < 0:=hm'.1 a h1
     have h4:cmp a b < 0:=hl'.1 b h2
     have:=ok.anti a b;omega
  subst e
  congr 1
  refine ycx ok l m hl'.2 hm'.2 fun z=> ?_
  have hz:=h z
  simp only [List.mem_cons] at hz
  constructor
  ·intro q
   rcases hz.1 (.inr q) with rfl|q'
   ·exact absurd (hl'.1 _ q) (irr _)
   ·exact q'
  ·intro q
   rcases hz.2 (.inr q) with rfl|q'
   ·exact absurd (hm'.1 _ q) (irr _)
   ·exact q'
end
section
variable {α:Type} [DecidableEq α] (cmp:α→α→Int)
def yg5:List α→α→List α
 | [],c=> [c]
 |x::r,c=>if cmp x c < 0 then x::yg5 r c else if x=c then x::r else c::x::r
variable {cmp}
theorem zqj {c z:α}:∀{l:List α},z∈yg5 cmp l c ↔ z=c∨z∈l
 | []=>by simp [yg5]
 |x::r=>by
  rw [yg5]
  split
  ·rw [List.mem_cons,zqj,List.mem_cons];constructor <;> (rintro (h|h|h) <;> simp [h])
  ·split
   ·rename_i e;subst e;simp
   ·simp
theorem znc (ok:CmpOk cmp) (hz:∀a b,cmp a b=0→a=b) {c:α}:∀{l:List α},l.Pairwise (LtC cmp)→(yg5 cmp l c).Pairwise (LtC cmp)
 | [],_=>List.pairwise_singleton _ _
 |x::r,h=>by
  have h':=List.pairwise_cons.1 h
  rw [yg5]
  split
  ·rename_i hx
   refine List.pairwise_cons.2 ⟨fun z q=> ?_,znc ok hz h'.2⟩
   rcases zqj.1 q with rfl|q
   ·exact hx
   ·exact h'.1 z q
  ·split
   ·exact h
   ·rename_i hx he
    have hne:cmp x c≠0:=fun e=>he (hz x c e)
    have hcx:cmp c x < 0:=by have:=ok.anti x c;omega
    refine List.pairwise_cons.2 ⟨fun z q=> ?_,h⟩
    rcases List.mem_cons.1 q with rfl|q
    ·exact hcx
    ·have h1:cmp x z < 0:=h'.1 z q
     show cmp c z < 0
     have h2:cmp c z≤0:=ok.trans _ _ _ (Int.le_of_lt hcx) (Int.le_of_lt h1)
     by_cases e:cmp c z=0
     ·have:=hz _ _ e;subst this
      have:=ok.anti x c;omega
     ·omega
end
section
variable {α:Type}
def zk3 (q:α→α→Bool):α→List α→List α
 |_,[]=> []
 |p,y::r=>if q y p=true then zk3 q y r else y::zk3 q y r
def zk4 (q:α→α→Bool):List α→List α
 | []=> []
 |x::r=>x::zk3 q x r
def zqu (q:α→α→Bool):α→List α→List α
 |_,[]=> []
 |k,y::r=>if q y k=true then zqu q k r else y::zqu q y r
def yc6 (q:α→α→Bool):List α→List α
 | []=> []
 |x::r=>x::zqu q x r
theorem znr {κ:Type} [DecidableEq κ] {key:α→κ} {q:α→α→Bool} (hq:∀a b,q a b=decide (key a=key b)):∀(l:List α) (p k:α),key p=key k→zk3 q p l=zqu q k l
 | [],_,_,_=>rfl
 |y::r,p,k,h=>by
  rw [zk3,zqu,hq,hq,h]
  by_cases e:key y=key k
  ·rw [if_pos (by simpa using e),if_pos (by simpa using e)];exact znr hq r y k e
  ·rw [if_neg (by simpa using e),if_neg (by simpa using e),znr hq r y y rfl]
theorem zv1 {κ:Type} [DecidableEq κ] {key:α→κ} {q:α→α→Bool} (hq:∀a b,q a b=decide (key a=key b)):∀l:List α,zk4 q l=yc6 q l
 | []=>rfl
 |x::r=>by rw [zk4,yc6,znr hq r x x rfl]
theorem zns (q:α→α→Bool):∀(l:List α) (p:α),(zk3 q p l).Sublist l
 | [],_=> .slnil
 |y::r,p=>by
  rw [zk3];split
  ·exact (zns q r y).cons y
  ·exact (zns q r y).cons_cons y
theorem znt (q:α→α→Bool):∀l:List α,(zk4 q l).Sublist l
 | []=> .slnil
 |x::r=>(zns q r x).cons_cons x
end
variable {α:Type} (cmp:α→α→Int)
theorem yuo {a b:List α} {i j:Nat} (hi:i < a.length) (hj:j < b.length) (h:cmp b[j] a[i] < 0):mrg cmp (a.drop i) (b.drop j)=b[j]::mrg cmp (a.drop i) (b.drop (j+1)):=by
 rw [List.drop_eq_getElem_cons hi,List.drop_eq_getElem_cons hj,mrg,if_pos h]
theorem yup {a b:List α} {i j:Nat} (hi:i < a.length) (hj:j < b.length) (h:¬cmp b[j] a[i] < 0):mrg cmp (a.drop i) (b.drop j)=a[i]::mrg cmp (a.drop (i+1)) (b.drop j):=by
 rw [List.drop_eq_getElem_cons hi,List.drop_eq_getElem_cons hj,mrg,if_neg h]
theorem zxd {a b:List α} (h:a= []∨b= []):mrg cmp a b=a++b:=by
 rcases h with rfl|rfl
 ·simp [mrg]
 ·rw [yng,List.append_nil]
theorem yik {L:List (List α)} {r:List α} (h:r∈L):r.length≤L.flatten.length:=by
 induction L with
 |nil=>cases h
 |cons a L ih=>
  rw [List.flatten_cons,List.length_append]
  rcases List.mem_cons.1 h with rfl|h
  ·omega
  ·have:=ih h;omega
theorem yg9 {L:List (List α)} {i:Nat} (h:2 * i+1=L.length):zrd cmp L (2 * i)=L[2 * i]'(by omega):=by
 rw [zrd,if_pos h,List.getElem?_eq_getElem (by omega)];rfl
theorem yg8 {L:List (List α)} {i:Nat} (h:2 * i+1 < L.length):zrd cmp L (2 * i)=mrg cmp (L[2 * i]'(by omega)) L[2 * i+1]:=by
 rw [zrd,if_neg (by omega),List.getElem?_eq_getElem (by omega),List.getElem?_eq_getElem h];rfl
theorem zsr {L:List (List α)} {i:Nat} (h:i < (L.length+1) / 2):(zbt cmp L).take (i+1)=(zbt cmp L).take i++ [zrd cmp L (2 * i)]:=by
 have hl:i < (zbt cmp L).length:=by rw [zcv];exact h
 rw [List.take_succ_eq_append_getElem hl]
 congr 2
 have:=zo9 cmp L i hl
 rw [List.getElem?_eq_getElem hl] at this
 exact Option.some.inj this
theorem zl4 {L:List (List α)} {i:Nat} (h:i=(L.length+1) / 2):(zbt cmp L).take i=zbt cmp L:=by
 rw [List.take_of_length_le];rw [zcv];omega
theorem yf1 {L:List (List α)} {l:List α} (h:zru cmp L=zru cmp (l.map fun a=> [a])) (h0:L.length=0):zkg cmp l= []:=by
 rw [zkg,←h,zji cmp (by omega),List.length_eq_zero_iff.1 h0];rfl
theorem yf0 {r l:List α} (h:zru cmp [r]=zru cmp (l.map fun a=> [a])):zkg cmp l=r:=by
 rw [zkg,←h,zji cmp (by simp)];rfl
theorem yhh (l:List α):(l.map fun a=> [a]).flatten=l:=by induction l <;> simp_all
structure Conf where
 f:Int
 t:Int
 k:Int
 a:Int
 b:Int
 o:Int
 p:Int
 deriving DecidableEq
def k8 (c:Conf):List AV:= [iv c.f,iv c.t,iv c.k,iv c.a,iv c.b,iv c.o,iv c.p]
def ziu (l:List Conf):AV:= .list false 7 (l.map k8)
theorem ze9 (l:List Conf):∀r∈l.map k8,r.all AV.one=true:=by
 intro r hr;obtain ⟨a,_,rfl⟩:=List.mem_map.1 hr;rfl
def yfd (c:Conf):List Int:= [c.f,c.t,c.k,c.a,c.b,c.o,c.p]
def zhx:List Int→List Int→Int
 | [],[]=>0
 | [],_::_=> -1
 |_::_,[]=>1
 |x::a,y::b=>if x < y then -1 else if y < x then 1 else zhx a b
def zid (a b:Conf):Int:=zhx (yfd a) (yfd b)
theorem zny:∀a b:List Int,zhx b a= - zhx a b
 | [],[]=>rfl
 | [],_::_=>rfl
 |_::_,[]=>rfl
 |x::a,y::b=>by
  rw [zhx,zhx]
  by_cases h:x < y
  ·rw [if_neg (show ¬y < x by omega),if_pos h,if_pos h];rfl
  ·by_cases h':y < x
   ·rw [if_pos h',if_neg h,if_pos h']
   ·rw [if_neg h',if_neg h,if_neg h,if_neg h',zny a b]
theorem znx:∀a:List Int,zhx a a=0
 | []=>rfl
 |x::a=>by rw [zhx,if_neg (by omega),if_neg (by omega),znx a]
theorem znw:∀a b:List Int,zhx a b=0→a=b
 | [],[],_=>rfl
 | [],_::_,h=>by simp [zhx] at h
 |_::_,[],h=>by simp [zhx] at h
 |x::a,y::b,h=>by
  rw [zhx] at h
  split at h
  ·omega
  ·split at h
   ·omega
   ·rw [znw a b h,show x=y by omega]
theorem zk5:∀a b c:List Int,zhx a b≤0→zhx b c≤0→zhx a c≤0
 | [],[],c,_,h=>h
 | [],_::_,[],_,_=>by simp [zhx]
 | [],_::_,_::_,_,_=>by simp [zhx]
 |_::_,[],c,h,_=>by simp [zhx] at h
 |_::_,_::_,[],_,h=>by simp [zhx] at h
 |x::a,y::b,z::c,h1,h2=>by
  rw [zhx] at h1 h2 ⊢
  split at h1
  ·split at h2
   ·rw [if_pos (by omega)];omega
   ·split at h2
    ·omega
    ·rw [if_pos (by omega)];omega
  ·split at h1
   ·omega
   ·split at h2
    ·rw [if_pos (by omega)];omega
    ·split at h2
     ·omega
     ·rw [if_neg (by omega),if_neg (by omega)];exact zk5 a b c h1 h2
theorem yij {a b:Conf} (h:yfd a=yfd b):a=b:=by
 cases a;cases b;simp only [yfd,List.cons.injEq,and_true] at h;simp only [Conf.mk.injEq];exact h
theorem zk6:CmpOk zid:=⟨fun a b c h k=>zk5 _ _ _ h k,fun a b=>zny _ _⟩
theorem znz (a b:Conf) (h:zid a b=0):a=b:=yij (znw _ _ h)
theorem zj8 (a:Conf):zid a a=0:=znx _
def zeb (h:Hist) (t x:Int):Int:=atO (zpm h.evs t x)
def zfh (a b:Conf):Bool:=a.f==b.f && a.t==b.t
def zo8 (out l:List Conf):List Conf:=l.foldl (yg5 zid) out
theorem zjr:∀(l out:List Conf),out.Pairwise (LtC zid)→(zo8 out l).Pairwise (LtC zid)
 | [],_,h=>h
 |c::r,out,h=>zjr r (yg5 zid out c) (znc zk6 znz h)
theorem zkp {z:Conf}:∀(l out:List Conf),z∈zo8 out l ↔ z∈out∨z∈l
 | [],out=>by simp [zo8]
 |c::r,out=>by
  rw [show zo8 out (c::r)=zo8 (yg5 zid out c) r from rfl,zkp r,zqj,List.mem_cons]
  constructor
  ·rintro ((h|h)|h) <;> simp [h]
  ·rintro (h|h|h) <;> simp [h]
def ya4 (a b:Conf):Bool:=a.f==b.f && a.t==b.t && a.k==b.k
def yvv (l:List Conf):List Conf:=yc6 ya4 l
theorem zi5 {α:Type} {q r:α→α→Bool}:∀(l:List α) (k:α),(∀a∈l,∀b∈k::l,q a b=r a b)→zqu q k l=zqu r k l
 | [],_,_=>rfl
 |y::l,k,h=>by
  rw [zqu,zqu,h y (by simp) k (by simp),zi5 l k (fun a ha b hb=>h a (by simp [ha]) b (by rcases List.mem_cons.1 hb with rfl|hb <;> simp [*])),zi5 l y (fun a ha b hb=>h a (by simp [ha]) b (by rcases List.mem_cons.1 hb with rfl|hb <;> simp [*]))]
def zgz (c:Conf):Int×Int:=(c.f,c.t)
def zv2 (a b:Conf):Int:=zhx [a.f,a.t] [b.f,b.t]
theorem yot {a b:Conf} (h:zid a b≤0):zv2 a b≤0:=by
 simp only [zid,yfd,zhx] at h
 simp only [zv2,zhx]
 split
 ·omega
 ·rename_i h1
  rw [if_neg h1] at h
  split
  ·rename_i h2;rw [if_pos h2] at h;omega
  ·rename_i h2
   rw [if_neg h2] at h
   split
   ·omega
   ·rename_i h3
    rw [if_neg h3] at h
    split
    ·rename_i h4;rw [if_pos h4] at h;omega
    ·omega
theorem zfo {a b:Conf}:zv2 a b=0 ↔ zgz a=zgz b:=by
 constructor
 ·intro h
  have:=znw _ _ h
  simp only [List.cons.injEq,and_true] at this
  rw [zgz,zgz,this.1,this.2]
 ·intro h
  simp only [zgz,Prod.mk.injEq] at h
  rw [zv2,h.1,h.2,znx]
theorem zpt {a b c:Conf} (h:zv2 a b≤0) (k:zv2 b c≤0):zv2 a c≤0:=zk5 _ _ _ h k
theorem zyq (a b:Conf):zfh a b=decide (zgz a=zgz b):=by rw [zfh,Bool.eq_iff_iff];simp [zgz]
theorem zts:∀(l:List Conf) (p:Conf),(p::l).Pairwise (LeC zid)→(∀y∈zk3 zfh p l,zv2 p y < 0)∧(zk3 zfh p l).Pairwise (fun a b=>zv2 a b < 0)∧∀c∈l,zgz c=zgz p∨∃a∈zk3 zfh p l,zgz a=zgz c∧zid a c≤0
 | [],p,_=>⟨by simp [zk3],by simp [zk3],by simp⟩
 |y::r,p,h=>by
  have h':=List.pairwise_cons.1 h
  have hy:=List.pairwise_cons.1 h'.2
  obtain ⟨i1,i2,i3⟩:=zts r y h'.2
  have hpy:zv2 p y≤0:=yot (h'.1 y (by simp))
  rw [zk3,zyq]
  by_cases e:zgz y=zgz p
  ·rw [if_pos (by simpa using e)]
   have e0:=zfo.2 e
   refine ⟨fun z hz=> ?_,i2,fun c hc=> ?_⟩
   ·have a1:=i1 z hz
    have a2:=zpt hpy (Int.le_of_lt a1)
    rcases Int.lt_or_eq_of_le a2 with q|q
    ·exact q
    ·have:=zfo.1 q
     rw [←e] at this
     have:=zfo.2 this;omega
   ·rcases List.mem_cons.1 hc with rfl|hc
    ·exact .inl e
    ·rcases i3 c hc with q|q
     ·exact .inl (q.trans e)
     ·exact .inr q
  ·rw [if_neg (by simpa using e)]
   have lt:zv2 p y < 0:=by
    rcases Int.lt_or_eq_of_le hpy with q|q
    ·exact q
    ·exact absurd (zfo.1 q).symm e
   refine ⟨fun z hz=> ?_,List.pairwise_cons.2 ⟨i1,i2⟩,fun c hc=> ?_⟩
   ·rcases List.mem_cons.1 hz with rfl|hz
    ·exact lt
    ·have a1:=i1 z hz
     have a2:=zpt hpy (Int.le_of_lt a1)
     rcases Int.lt_or_eq_of_le a2 with q|q
     ·exact q
     ·have hk:=zfo.1 q
      have a3:zv2 y z < 0:=a1
      have a4:zhx [z.f,z.t] [y.f,y.t]= - zhx [y.f,y.t] [z.f,z.t]:=zny _ _
      have a5:zhx [p.f,p.t] [y.f,y.t]=zhx [z.f,z.t] [y.f,y.t]:=by
       simp only [zgz,Prod.mk.injEq] at hk;rw [hk.1,hk.2]
      simp only [zv2] at lt a3
      omega
   ·rcases List.mem_cons.1 hc with rfl|hc
    ·exact .inr ⟨c,by simp,rfl,by rw [zj8];exact Int.le_refl _⟩
    ·rcases i3 c hc with q|⟨a,ha,q1,q2⟩
     ·exact .inr ⟨y,by simp,q.symm,hy.1 c hc⟩
     ·exact .inr ⟨a,by simp [ha],q1,q2⟩
theorem yd7 (l:List Conf) (h:l.Pairwise (LeC zid)):(zk4 zfh l).Pairwise (fun a b=>zv2 a b < 0)∧∀c∈l,∃a∈zk4 zfh l,zgz a=zgz c∧zid a c≤0:=by
 cases l with
 |nil=>exact ⟨.nil,by simp⟩
 |cons x r=>
  obtain ⟨i1,i2,i3⟩:=zts r x h
  have h':=List.pairwise_cons.1 h
  refine ⟨List.pairwise_cons.2 ⟨i1,i2⟩,fun c hc=> ?_⟩
  rcases List.mem_cons.1 hc with rfl|hc
  ·exact ⟨c,by simp [zk4],rfl,by rw [zj8];exact Int.le_refl _⟩
  ·rcases i3 c hc with q|⟨a,ha,q1,q2⟩
   ·exact ⟨x,by simp [zk4],q.symm,h'.1 c hc⟩
   ·exact ⟨a,by simp [zk4,ha],q1,q2⟩
theorem zko {K V:Type} [DecidableEq K] (k:K) (v:V):∀m:List (K×V),(m.map Prod.fst).Nodup→((zeo k v m).map Prod.fst).Nodup∧∀z,z∈(zeo k v m).map Prod.fst ↔ z=k∨z∈m.map Prod.fst
 | [],_=>⟨by simp [zeo],by simp [zeo]⟩
 |p::r,h=>by
  rw [List.map_cons,List.nodup_cons] at h
  obtain ⟨i1,i2⟩:=zko k v r h.2
  rw [zeo]
  by_cases e:p.1=k
  ·rw [if_pos e]
   exact ⟨by rw [List.map_cons,List.nodup_cons];exact h,fun z=>by simp [e]⟩
  ·rw [if_neg e]
   have hnm:p.1 ∉ (zeo k v r).map Prod.fst:=fun q=>by
    rcases (i2 _).1 q with q|q
    ·exact e q
    ·exact h.1 q
   refine ⟨by rw [List.map_cons,List.nodup_cons];exact ⟨hnm,i1⟩,fun z=> ?_⟩
   ·rw [List.map_cons,List.mem_cons,i2,List.map_cons,List.mem_cons]
    constructor
    ·rintro (q|q|q) <;> simp [q]
    ·rintro (q|q|q) <;> simp [q]
def ypl (t:Int):Ev:=⟨1,t,0,1,0,⟨0,0⟩,0,[]⟩
def ytr (t o:Int):Ev:=⟨2,t,0,0,o,⟨t,1⟩,0,[]⟩
def ypk (t:Int):Ev:=⟨5,t,0,0,0,⟨0,0⟩,0,[]⟩
def wT (n:UInt8):ByteArray:=⟨#[84,n]⟩
def zx6:ByteArray:=⟨#[115]⟩
def bxx:ByteArray:=⟨#[120]⟩
def zyh (l:List Conf) (z:Conf):Prop:=z∈l∧∀c∈l,zgz c=zgz z→zid z c≤0
theorem zls {a b:Conf} (h:zid a b≤0) (k:zid b a≤0):a=b:=by
 have:=zk6.anti a b
 exact znz a b (by omega)
theorem zzz {l:List Conf} (h:(zk4 zfh l).Pairwise (fun a b=>zv2 a b < 0)) {a z:Conf} (ha:a∈zk4 zfh l) (hz:z∈zk4 zfh l) (e:zgz a=zgz z):a=z:=by
 obtain ⟨i,hi,rfl⟩:=List.mem_iff_getElem.1 ha
 obtain ⟨j,hj,rfl⟩:=List.mem_iff_getElem.1 hz
 have e1:=zfo.2 e
 have e2:=zfo.2 e.symm
 by_cases hij:i=j
 ·subst hij;rfl
 ·rcases Nat.lt_or_gt_of_ne hij with q|q
  ·have:=(List.pairwise_iff_getElem.1 h) i j hi hj q;omega
  ·have:=(List.pairwise_iff_getElem.1 h) j i hj hi q;omega
theorem yd6 {l:List Conf} (h:l.Pairwise (LeC zid)) (z:Conf):z∈zk4 zfh l ↔ zyh l z:=by
 obtain ⟨hp,hq⟩:=yd7 l h
 constructor
 ·intro hz
  refine ⟨(znt _ _).subset hz,fun c hc e=> ?_⟩
  obtain ⟨a,ha,e1,e2⟩:=hq c hc
  have:=zzz hp ha hz (e1.trans e)
  rw [this] at e2;exact e2
 ·rintro ⟨hz,hm⟩
  obtain ⟨a,ha,e1,e2⟩:=hq z hz
  have:=zls e2 (hm a ((znt _ _).subset ha) e1)
  rw [←this];exact ha
def zim (m:List ((Int×Int)×Conf)) (c:Conf):List ((Int×Int)×Conf):=match zbm (zgz c) m with
 |none=>zeo (zgz c) c m
 |some b=>if zid c b < 0 then zeo (zgz c) c m else m
def zch (l:List Conf):List ((Int×Int)×Conf):=l.foldl zim []
theorem zv5 {l:List Conf} {c:Conf}:zch (l++ [c])=zim (zch l) c:=by rw [zch,List.foldl_append];rfl
def zoa (l:List Conf) (m:List ((Int×Int)×Conf)):Prop:=∀k,match zbm k m with
 |none=>∀c∈l,zgz c≠k
 |some z=>zgz z=k∧zyh l z
theorem zpw {l:List Conf} {m:List ((Int×Int)×Conf)} {c:Conf} (h:zoa l m) (hc:∀d∈l,zgz d=zgz c→zid c d≤0):zoa (l++ [c]) (zeo (zgz c) c m):=by
 intro k
 rw [zc7]
 by_cases e:zgz c=k
 ·rw [if_pos e]
  refine ⟨e,by simp,fun d hd ed=> ?_⟩
  rcases List.mem_append.1 hd with hd|hd
  ·exact hc d hd ed
  ·rw [List.mem_singleton] at hd;rw [hd,zj8];exact Int.le_refl _
 ·rw [if_neg e]
  have:=h k
  cases hg:zbm k m with
  |none=>
   rw [hg] at this
   intro d hd
   rcases List.mem_append.1 hd with hd|hd
   ·exact this d hd
   ·rw [List.mem_singleton] at hd;rw [hd];exact e
  |some z=>
   rw [hg] at this
   obtain ⟨h1,h2,h3⟩:=this
   refine ⟨h1,List.mem_append_left _ h2,fun d hd ed=> ?_⟩
   rcases List.mem_append.1 hd with hd|hd
   ·exact h3 d hd ed
   ·rw [List.mem_singleton] at hd;rw [hd,h1] at ed;exact absurd ed e
theorem yi3 {l:List Conf} {m:List ((Int×Int)×Conf)} (h:zoa l m) (c:Conf):zoa (l++ [c]) (zim m c):=by
 unfold zim
 have hk:=h (zgz c)
 cases hg:zbm (zgz c) m with
 |none=>
  rw [hg] at hk
  simp only
  exact zpw h fun d hd e=>absurd e (hk d hd)
 |some b=>
  rw [hg] at hk
  obtain ⟨h1,h2,h3⟩:=hk
  simp only
  by_cases hlt:zid c b < 0
  ·rw [if_pos hlt]
   exact zpw h fun d hd e=>zk6.trans _ _ _ (Int.le_of_lt hlt) (h3 d hd (e.trans h1.symm))
  ·rw [if_neg hlt]
   intro k
   have hq:=h k
   cases hg2:zbm k m with
   |none=>
    rw [hg2] at hq
    intro d hd
    rcases List.mem_append.1 hd with hd|hd
    ·exact hq d hd
    ·rw [List.mem_singleton] at hd;rw [hd]
     intro e;rw [e,hg2] at hg;cases hg
   |some z=>
    rw [hg2] at hq
    obtain ⟨q1,q2,q3⟩:=hq
    refine ⟨q1,List.mem_append_left _ q2,fun d hd ed=> ?_⟩
    rcases List.mem_append.1 hd with hd|hd
    ·exact q3 d hd ed
    ·rw [List.mem_singleton] at hd
     rw [hd] at ed ⊢
     have e2:k=zgz c:=q1.symm.trans ed.symm
     rw [e2,hg] at hg2
     injection hg2 with hg2
     rw [←hg2]
     have:=zk6.anti c b;omega
theorem zx8 (l:List Conf):zoa l (zch l):=by
 suffices h:∀(l p:List Conf) (m:List ((Int×Int)×Conf)),zoa p m→zoa (p++l) (l.foldl zim m) by
  have:=h l [] [] (fun k=>by simp [zbm])
  simpa [zch] using this
 intro l
 induction l with
 |nil=>intro p m h;simpa using h
 |cons c r ih=>
  intro p m h
  have:=ih (p++ [c]) (zim m c) (yi3 h c)
  simpa using this
theorem zv4 {m:List ((Int×Int)×Conf)} (h:(m.map Prod.fst).Nodup) (c:Conf):((zim m c).map Prod.fst).Nodup:=by
 unfold zim
 split
 ·exact (zko _ _ _ h).1
 ·split
  ·exact (zko _ _ _ h).1
  ·exact h
theorem zfp (l:List Conf):((zch l).map Prod.fst).Nodup:=by
 suffices h:∀(l:List Conf) (m:List ((Int×Int)×Conf)),(m.map Prod.fst).Nodup→((l.foldl zim m).map Prod.fst).Nodup by exact h l [] .nil
 intro l
 induction l with
 |nil=>intro m h;exact h
 |cons c r ih=>intro m h;exact ih _ (zv4 h c)
theorem zj0 {K V:Type} [DecidableEq K] {k:K} {v:V}:∀{m:List (K×V)},(m.map Prod.fst).Nodup→(zbm k m=some v ↔ (k,v)∈m)
 | [],_=>by simp [zbm]
 |p::r,h=>by
  rw [List.map_cons,List.nodup_cons] at h
  rw [zbm,List.mem_cons]
  by_cases e:p.1=k
  ·rw [if_pos e]
   constructor
   ·intro q;injection q with q;left;rw [←e,←q]
   ·rintro (q|q)
    ·rw [←q]
    ·exact absurd (List.mem_map.2 ⟨_,q,e.symm⟩) h.1
  ·rw [if_neg e,zj0 h.2]
   constructor
   ·exact .inr
   ·rintro (q|q)
    ·exact absurd (by rw [←q]) e
    ·exact q
theorem yek {l:List Conf} {z:Conf}:z∈(zch l).map Prod.snd ↔ zyh l z:=by
 have hn:=zfp l
 constructor
 ·intro h
  obtain ⟨p,hp,rfl⟩:=List.mem_map.1 h
  have hg:=(zj0 (k:=p.1) (v:=p.2) hn).2 hp
  have:=zx8 l p.1
  rw [hg] at this
  exact this.2
 ·intro h
  have:=zx8 l (zgz z)
  cases hg:zbm (zgz z) (zch l) with
  |none=>rw [hg] at this;exact absurd rfl (this z h.1)
  |some y=>
   rw [hg] at this
   obtain ⟨h1,h2,h3⟩:=this
   have:y=z:=zls (h3 z h.1 h1.symm) (h.2 y h2 h1)
   subst this
   exact List.mem_map.2 ⟨_,(zj0 hn).1 hg,rfl⟩
theorem yej {l out:List Conf} (hp:out.Perm ((zch l).map Prod.snd)) {L:List Conf} (hL:L.Pairwise (LtC zid)) (hm:∀z,z∈L ↔ z∈l):zkg zid out=zk4 zfh L:=by
 have hLe:L.Pairwise (LeC zid):=hL.imp fun h=>Int.le_of_lt h
 have hnd:out.Nodup:=by
  rw [hp.nodup_iff,List.Nodup,List.pairwise_map]
  have hn:=zfp l
  rw [List.Nodup,List.pairwise_map] at hn
  rw [List.pairwise_iff_getElem] at hn ⊢
  intro i j hi hj hij e
  have k1:∀p∈zch l,zgz p.2=p.1:=fun p hp=>by
   have hg:=(zj0 (k:=p.1) (v:=p.2) (zfp l)).2 hp
   have:=zx8 l p.1
   rw [hg] at this
   exact this.1
  have:=hn i j hi hj hij
  rw [←k1 _ (List.getElem_mem hi),←k1 _ (List.getElem_mem hj),e] at this
  exact this rfl
 refine ycx zk6 _ _ (yhy znz (zrx zk6 _) ((zoz _ _).nodup_iff.2 hnd)) (hL.sublist (znt _ _)) fun z=> ?_
 rw [(zoz zid _).mem_iff,hp.mem_iff,yek,yd6 hLe]
 unfold zyh
 rw [hm]
 exact ⟨fun h=>⟨h.1,fun c hc=>h.2 c ((hm c).1 hc)⟩,fun h=>⟨h.1,fun c hc=>h.2 c ((hm c).2 hc)⟩⟩
abbrev RkM:=List ((Int×Int×Int)×Int)
def zt5 (x:Int) (v:Ver):Int×Int×Int:=(x,v.t,v.k)
theorem zjh {x y:Int} {v w:Ver}:zt5 x v=zt5 y w ↔ x=y∧v=w:=by
 cases v;cases w;simp [zt5]
def zkz (h:Hist) (x t:Int):Ver:=zrn (zpm h.evs t x)
def zii (h:Hist) (x:Int):Nat→List Int→RkM→RkM
 |_,[],m=>m
 |i,t::r,m=>zii h x (i+1) r (zeo (zt5 x (zkz h x t)) ((i:Int)+1) m)
def ygi (h:Hist) (x:Int) (m:RkM):RkM:=zii h x 0 (zbz h x) (zeo (zt5 x ⟨0,0⟩) 0 m)
def rkM (h:Hist):Nat→RkM
 |0=> []
 |n+1=>ygi h n (rkM h n)
theorem zo6 (h:Hist) (x:Int):∀(l:List Int) (i:Nat) (t:Int) (m:RkM),zii h x i (l++ [t]) m=zeo (zt5 x (zkz h x t)) (((i+l.length:Nat):Int)+1) (zii h x i l m)
 | [],i,t,m=>by simp [zii]
 |a::r,i,t,m=>by
  rw [List.cons_append,zii,zo6 h x r (i+1) t,zii,List.length_cons,show i+1+r.length=i+(r.length+1) by omega]
theorem yma {h:Hist} {x:Int} {l:List Int} {k:Nat} (hk:k < l.length) (m:RkM):zii h x 0 (l.take (k+1)) m=zeo (zt5 x (zkz h x l[k])) ((k:Int)+1) (zii h x 0 (l.take k) m):=by
 rw [List.take_succ_eq_append_getElem hk,zo6,List.length_take,Nat.min_eq_left (by omega),Nat.zero_add]
theorem zi0 (h:Hist) {x y:Int} (hxy:y≠x) (v:Ver):∀(l:List Int) (i:Nat) (m:RkM),zbm (zt5 y v) (zii h x i l m)=zbm (zt5 y v) m
 | [],_,_=>rfl
 |t::r,i,m=>by
  rw [zii,zi0 h hxy v r (i+1),zc7,if_neg]
  intro e;exact hxy ((zjh.1 e).1).symm
theorem zsc (h:Hist) (x:Int) (v:Ver):∀(l:List Int) (i:Nat) (m:RkM),(l.map (zkz h x)).Nodup→zbm (zt5 x v) (zii h x i l m)=if zbr (fun t=>zkz h x t==v) i l ≥ 0 then some (zbr (fun t=>zkz h x t==v) i l+1) else zbm (zt5 x v) m
 | [],i,m,_=>by rw [zii,zbr,if_neg (by decide)]
 |t::r,i,m,hn=>by
  rw [List.map_cons,List.nodup_cons] at hn
  rw [zii,zsc h x v r (i+1) _ hn.2]
  by_cases e:zkz h x t=v
  ·have hno:decide (zbr (fun t=>zkz h x t==v) (i+1) r ≥ 0)=false:=by
    rw [zer,List.any_eq_false]
    intro z hz q
    exact hn.1 (by rw [e,←eq_of_beq q];exact List.mem_map_of_mem hz)
   have e1:zbr (fun t=>zkz h x t==v) i (t::r)=(i:Int):=by rw [zbr,if_pos (by simpa using e)]
   rw [e1,if_neg (oF hno),if_pos (by omega),zc7,if_pos (by rw [e])]
  ·have e1:zbr (fun t=>zkz h x t==v) i (t::r)=zbr (fun t=>zkz h x t==v) (i+1) r:=by rw [zbr,if_neg (by simpa using e)]
   rw [e1]
   by_cases q:zbr (fun t=>zkz h x t==v) (i+1) r ≥ 0
   ·rw [if_pos q,if_pos q]
   ·rw [if_neg q,if_neg q,zc7,if_neg]
    intro e2;exact e ((zjh.1 e2).2)
theorem ydp {h:Hist} (hs:za0 h=true) {x:Int} (h0:0≤x) (h1:x < h.os.length):((zbz h x).map (zkz h x)).Nodup∧∀t∈zbz h x,zkz h x t≠⟨0,0⟩:=by
 obtain ⟨hn,_,hm⟩:=zi6 hs h0 h1
 have hv:∀t∈zbz h x,(zkz h x t).t=t∧0 < (zkz h x t).k:=fun t ht=>by
  obtain ⟨w1,_⟩:=zix.1 ((hm t).1 ht)
  obtain ⟨v,i,hf⟩:=ydq w1
  obtain ⟨_,_,_,vt,vk,_⟩:=zj2 hs hf
  rw [zkz,hf];exact ⟨vt,vk⟩
 constructor
 ·rw [List.Nodup,List.pairwise_map]
  refine (List.pairwise_iff_getElem).2 fun i j hi hj hij e=> ?_
  have a:=(hv _ (List.getElem_mem hi)).1
  have b:=(hv _ (List.getElem_mem hj)).1
  rw [e] at a
  exact (List.pairwise_iff_getElem.1 hn) i j hi hj hij (a.symm.trans b)
 ·intro t ht e
  have:=(hv t ht).2
  rw [e] at this;exact absurd this (by decide)
theorem ybj (h:Hist) (x:Int) (v:Ver):∀n:Nat,(n:Int)≤x∨x < 0→zbm (zt5 x v) (rkM h n)=none
 |0,_=>rfl
 |n+1,hx=>by
  have hne:x≠(n:Int):=by omega
  rw [rkM,ygi,zi0 h hne,zc7,if_neg,ybj h x v n (by omega)]
  intro e;exact hne ((zjh.1 e).1).symm
theorem zqe {h:Hist} (hs:za0 h=true) {x:Int} (v:Ver) (h0:0≤x) (h1:x < h.os.length):∀n:Nat,n≤h.os.length→x < n→zbm (zt5 x v) (rkM h n)=if v=⟨0,0⟩ then some 0 else if zoh h x v ≥ 0 then some (zoh h x v+1) else none
 |0,_,hx=>absurd hx (by omega)
 |n+1,hn,hx=>by
  by_cases e:x=(n:Int)
  ·subst e
   obtain ⟨a,b⟩:=ydp hs h0 h1
   rw [rkM,ygi,zsc h _ v _ _ _ a,zc7]
   have hr:zbr (fun t=>zkz h (n:Int) t==v) 0 (zbz h n)=zoh h n v:=rfl
   rw [hr]
   by_cases hv:v=⟨0,0⟩
   ·subst hv
    have:decide (zoh h n ⟨0,0⟩ ≥ 0)=false:=by
     rw [zoh,zer,List.any_eq_false]
     intro t ht q
     exact b t ht (eq_of_beq q)
    rw [if_neg (oF this),if_pos rfl,if_pos rfl]
   ·rw [if_neg hv,if_neg (fun e=>hv ((zjh.1 e).2).symm),ybj h _ v n (.inl (Int.le_refl _))]
  ·rw [rkM,ygi,zi0 h e,zc7,if_neg (fun q=>e ((zjh.1 q).1).symm)]
   exact zqe hs v h0 h1 n (by omega) (by omega)
def zqp (p o:Int) (r:Mat):Bool:=r.p==p && r.o==o
def yj4 (h:Hist) (p o:Int):Option Mat:=h.mats.find? (zqp p o)
def yph:Mat:=⟨0,0,false,[]⟩
def yfa (h:Hist) (p o:Int):Mat:=(yj4 h p o).getD yph
def yjj (m:Mat) (ts:List Int):List Bool:=m.first::ts.map (fun t=>m.ts.contains t)
def zwl (h:Hist) (p o:Int):List Bool:=yjj (yfa h p o) (zbz h o)
def zn4 (l:List Bool):AV:= .list false 1 (l.map zn5)
theorem yhi (l:List Bool):∀r∈l.map zn5,r.all AV.one=true:=by
 intro r hr;obtain ⟨a,_,rfl⟩:=List.mem_map.1 hr;rfl
theorem zwk (m:Mat) (ts:List Int):(yjj m ts).length=ts.length+1:=by simp [yjj]
def yfc (h:Hist) (o:Int):Int:=zg8 h o h.os.length
def zjd (h:Hist) (p o:Int):Int:=if yfc h o=0 then (if 0≤p∧p < h.ps.length then 0 else 2) else yfc h o
def mtE (h:Hist) (p o r:Int):Int:=if zjd h p o=0 then (if 0≤r∧r < (zwl h p o).length then 0 else 2) else zjd h p o
def mtB (h:Hist) (p o r:Int):Bool:=if mtE h p o r=0 then ((zwl h p o)[r.toNat]?).getD false else false
def ztx (l:List Bool):Nat→List Int
 |0=> []
 |k+1=>ztx l k++(if 0 < k∧l[k]? ≠l[k - 1]? then [(k:Int)] else [])
def ypm (l:List Bool):List Int:=ztx l l.length
def chL (h:Hist) (p o:Int):List Int:=if zjd h p o=0 then ypm (zwl h p o) else []
theorem zmk (l:List Bool):∀(n:Nat) (z:Int),z∈ztx l n ↔ ∃k:Nat,z=k∧0 < k∧k < n∧l[k]? ≠l[k - 1]?
 |0,z=>by simp [ztx]
 |n+1,z=>by
  rw [ztx,List.mem_append,zmk l n z]
  constructor
  ·rintro (⟨k,h1,h2,h3,h4⟩|h)
   ·exact ⟨k,h1,h2,by omega,h4⟩
   ·split at h
    ·rename_i hc
     rw [List.mem_singleton] at h
     exact ⟨n,h,hc.1,by omega,hc.2⟩
    ·cases h
  ·rintro ⟨k,h1,h2,h3,h4⟩
   by_cases e:k=n
   ·subst e;right;rw [if_pos ⟨h2,h4⟩,h1];simp
   ·left;exact ⟨k,h1,h2,by omega,h4⟩
theorem zv3 (l:List Bool):∀n:Nat,(ztx l n).Pairwise (· < ·)
 |0=> .nil
 |n+1=>by
  rw [ztx,List.pairwise_append]
  refine ⟨zv3 l n,by split <;> simp,fun a ha b hb=> ?_⟩
  obtain ⟨k,rfl,_,h3,_⟩:=(zmk l n a).1 ha
  split at hb
  ·rw [List.mem_singleton] at hb;subst hb;omega
  ·cases hb
theorem zx0 (l:List Bool):∀n:Nat,(ztx l n).length≤n
 |0=>by simp [ztx]
 |n+1=>by
  have:=zx0 l n
  rw [ztx,List.length_append]
  split <;> simp <;> omega
theorem ys3 {l:List Bool} {k:Nat} (h:k=0):ztx l (k+1)=ztx l k:=by rw [ztx,if_neg (by omega)];simp
def mtM (m:Option Mat) (ts:List Int) (r:Int):Bool:=match m with
 |none=>false
 |some m=>if r=0 then m.first else m.ts.contains ((ts[(r - 1).toNat]?).getD 0)
def zt6 (h:Hist) (p x r:Int):Bool:=mtM (yj4 h p x) (zde h x) r
def chR (f:Nat→Bool):Nat→List Int
 |0=> []
 |k+1=>chR f k++(if f (k+1)≠f k then [((k+1:Nat):Int)] else [])
theorem chR_len (f:Nat→Bool):∀n:Nat,(chR f n).length≤n
 |0=>by simp [chR]
 |n+1=>by
  have:=chR_len f n
  rw [chR,List.length_append]
  split <;> simp <;> omega
theorem zx1 {l:List Bool} {f:Nat→Bool} (hf:∀k,(h:k < l.length)→l[k]=f k):∀k,k < l.length→ztx l (k+1)=chR f k
 |0,h=>ys3 rfl
 |k+1,h=>by
  rw [ztx,zx1 hf k (by omega),chR]
  congr 1
  rw [List.getElem?_eq_getElem h,show k+1 - 1=k by omega,List.getElem?_eq_getElem (show k < l.length by omega),hf _ h,hf k (by omega)]
  by_cases e:f (k+1)=f k
  ·rw [if_neg (by rw [e];simp),if_neg (by simpa using e)]
  ·rw [if_pos ⟨by omega,by simpa using e⟩,if_pos e]
theorem zms (h:Hist) (p o:Int):(zwl h p o).length=(zbz h o).length+1:=zwk _ _
theorem yfv (m:Option Mat) (ts:List Int) {k:Nat} (hk:k < (yjj (m.getD yph) ts).length):(yjj (m.getD yph) ts)[k]=mtM m ts k:=by
 unfold mtM
 have hl:=zwk (m.getD yph) ts
 cases m with
 |none=>cases k with
  |zero=>rfl
  |succ k=>simp only [yjj,List.getElem_cons_succ,List.getElem_map];rfl
 |some m=>cases k with
  |zero=>rfl
  |succ k=>
   have hk':k < ts.length:=by omega
   simp only [yjj,List.getElem_cons_succ,List.getElem_map]
   rw [if_neg (by omega),show (((k+1:Nat):Int) - 1).toNat=k by omega,List.getElem?_eq_getElem hk'];rfl
theorem yla {h:Hist} {p x:Int} (hi:zbz h x=zde h x) {k:Nat} (hk:k < (zwl h p x).length):(zwl h p x)[k]=zt6 h p x k:=by
 rw [zt6,←hi];exact yfv (yj4 h p x) (zbz h x) hk
theorem yc8 {h:Hist} {x:Int}:yfc h x=0 ↔ u6 h=0∧0≤x∧x < h.os.length:=by
 constructor
 ·intro e
  obtain ⟨a,b⟩:=yo2 e
  exact ⟨zbd.2 a,b⟩
 ·rintro ⟨a,b⟩;exact zv9 a b
theorem zyl {h:Hist} {p x:Int}:zjd h p x=0 ↔ u6 h=0∧(0≤x∧x < h.os.length)∧0≤p∧p < h.ps.length:=by
 unfold zjd
 by_cases e:yfc h x=0
 ·rw [if_pos e]
  obtain ⟨a,b⟩:=yc8.1 e
  by_cases hp:0≤p∧p < h.ps.length
  ·rw [if_pos hp];exact ⟨fun _=>⟨a,b,hp⟩,fun _=>rfl⟩
  ·rw [if_neg hp];exact ⟨fun q=>(by cases q),fun q=>absurd q.2.2 hp⟩
 ·rw [if_neg e];exact ⟨fun q=>absurd q e,fun q=>absurd (yc8.2 ⟨q.1,q.2.1⟩) e⟩
theorem ywp {h:Hist} {p x r:Int} (he:zjd h p x≠0):mtE h p x r=zjd h p x∧mtB h p x r=false∧chL h p x= []:=by
 have e:mtE h p x r=zjd h p x:=by rw [mtE,if_neg he]
 exact ⟨e,by rw [mtB,e,if_neg he],by rw [chL,if_neg he]⟩
theorem zp6 {h:Hist} {p x:Int} (he:zjd h p x=0):zbz h x=zde h x:=by
 obtain ⟨a,⟨b,c⟩,_⟩:=zyl.1 he
 exact zpg (zbd.1 a) b c
theorem yws {h:Hist} {p x:Int} (he:zjd h p x=0):chL h p x=chR (fun k=>zt6 h p x k) (zde h x).length:=by
 have hi:=zp6 he
 have hl:=zms h p x
 rw [chL,if_pos he,ypm,hl,←hi]
 exact zx1 (f:=fun k=>zt6 h p x k) (fun k hk=>yla hi hk) _ (by omega)
def zum (scan:List Seen) (x:Int):Option Ver:=(scan.filter fun s=>s.o==x).getLast?.map Seen.v
def ye6 (l:List Ev) (t:Int) (n:Nat) (scan:List Seen) (x:Int):Ver:=match zum scan x with
 |some v=>v
 |none=>zrn (zdw l t x n)
def zz9 (l:List Ev) (t:Int):List (Int×Ver):=yfb (fun e:Ev=>e.t==t && e.kind==2) Ev.o Ev.v [] l
def ylr (m:List (Int×Ver)) (scan:List Seen):List (Int×Ver):=yfb (fun _:Seen=>true) Seen.o Seen.v m scan
theorem ycd {l:List Ev} {t:Int} {k:Nat} (hk:k < l.length) (h:(l[k].t==t && l[k].kind==2)=true):zz9 (l.take (k+1)) t=zeo l[k].o l[k].v (zz9 (l.take k) t):=by
 rw [List.take_succ_eq_append_getElem hk,zz9,yfb,List.foldl_append,List.foldl_cons,List.foldl_nil,if_pos h];rfl
theorem yce {l:List Ev} {t:Int} {k:Nat} (hk:k < l.length) (h:(l[k].t==t && l[k].kind==2)=false):zz9 (l.take (k+1)) t=zz9 (l.take k) t:=by
 rw [List.take_succ_eq_append_getElem hk,zz9,yfb,List.foldl_append,List.foldl_cons,List.foldl_nil,if_neg (by rw [h];decide)];rfl
theorem yp4 {m:List (Int×Ver)} {l:List Seen} {k:Nat} (hk:k < l.length):ylr m (l.take (k+1))=zeo l[k].o l[k].v (ylr m (l.take k)):=by
 rw [List.take_succ_eq_append_getElem hk,ylr,yfb,List.foldl_append,List.foldl_cons,List.foldl_nil,if_pos rfl];rfl
theorem zll (l:List Ev) (t x:Int):∀n,n≤l.length→(zdw l t x n).map Prod.fst=(((l.take n).filter (zar t x)).getLast?).map Ev.v
 |0,_=>by simp [zdw]
 |n+1,hn=>by
  have hk:n < l.length:=hn
  rw [zdw,List.getElem?_eq_getElem hk,List.take_succ_eq_append_getElem hk,List.filter_append]
  simp only
  by_cases hw:zar t x l[n]=true
  ·rw [if_pos hw,List.filter_cons_of_pos hw];simp
  ·rw [if_neg hw,List.filter_cons_of_neg hw,zll l t x n (by omega)];simp
theorem ym2 {l:List Ev} {t x:Int} {n:Nat} (scan:List Seen) (hn:n≤l.length):(zbm x (ylr (zz9 (l.take n) t) scan)).getD ⟨0,0⟩=ye6 l t n scan x:=by
 have h1:zbm x (zz9 (l.take n) t)=(zdw l t x n).map Prod.fst:=by
  rw [zll l t x n hn,zz9,zmc]
  have:((l.take n).filter fun e=>(e.t==t && e.kind==2) && decide (e.o=x))=(l.take n).filter (zar t x):=by
   refine List.filter_congr fun e _=> ?_
   rw [zar,Bool.eq_iff_iff];simp only [Bool.and_eq_true,beq_iff_eq,decide_eq_true_eq]
   exact ⟨fun ⟨⟨a,b⟩,c⟩=>⟨⟨b,a⟩,c⟩,fun ⟨⟨a,b⟩,c⟩=>⟨⟨b,a⟩,c⟩⟩
  rw [this]
  cases (((l.take n).filter (zar t x)).getLast?).map Ev.v <;> rfl
 have h2:(scan.filter fun e=>true && decide (e.o=x))=scan.filter fun s=>s.o==x:=by
  refine List.filter_congr fun e _=> ?_
  rw [Bool.true_and];rfl
 rw [ylr,zmc,h1,h2,ye6,zum]
 cases ((scan.filter fun s=>s.o==x).getLast?).map Seen.v with
 |some v=>rfl
 |none=>cases zdw l t x n <;> rfl
def zat (h:Hist) (e:Ev) (n:Nat):List Seen:=(upR h.os.length).map fun x=>⟨x,ye6 h.evs e.t n e.scan x⟩
theorem ya3 {scan:List Seen} {x:Int} {k:Nat} (hk:k < scan.length):zum (scan.take (k+1)) x=if (scan[k].o==x)=true then some scan[k].v else zum (scan.take k) x:=by
 rw [zum,List.take_succ_eq_append_getElem hk,List.filter_append]
 by_cases e:(scan[k].o==x)=true
 ·rw [if_pos e,List.filter_cons_of_pos (p:=fun s:Seen=>s.o==x) e];simp
 ·rw [if_neg e,List.filter_cons_of_neg (p:=fun s:Seen=>s.o==x) e];simp [zum]
theorem yty {h:Hist} {e:Ev} {n m:Nat} (hm:m < (zat h e n).length):(zat h e n)[m].o=m:=by
 simp only [zat,List.getElem_map];simp [upR]
theorem zmw (h:Hist) (e:Ev) (n:Nat):(zat h e n).length=h.os.length:=by rw [zat,oM,upR,oM,List.length_range]
def zej (h:Hist) (e:Ev) (c:Int) (a:Nat) (x r:Int):Option Conf:=
 if r > ((zbz h x).length:Int) then none else if (((zbz h x)[(r - 1).toNat]?).getD 0==e.t)=true then none
 else some ⟨e.t,((zbz h x)[(r - 1).toNat]?).getD 0,c,a,zeb h (((zbz h x)[(r - 1).toNat]?).getD 0) x,x,e.p⟩
def zlx (h:Hist) (x:Int) (v:Ver):Option Int:=zbm (zt5 x v) (rkM h h.os.length)
def zev (h:Hist) (e:Ev):List (Int×List Int):=match zlx h e.o e.v with
 |none=> []
 |some r=> [(e.o,[r+1])]
def rwOver (h:Hist) (p x r:Int):List Int:=(chL h p x).dropWhile fun k=> !decide (k > r)
def zds (h:Hist) (e:Ev) (s:Seen):Option (Int×List Int):=match zlx h s.o s.v with
 |none=>none
 |some r=>if (chL h e.p s.o).any (fun k=>decide (k > r))=true then some (s.o,rwOver h e.p s.o r) else none
def zh4 (h:Hist) (e:Ev) (a:Nat):List (Int×List Int):=(zat h e a).filterMap (zds h e)
def u7 (h:Hist) (e:Ev) (a:Nat):List (Int×List Int):=if e.kind=3 then zev h e else if e.kind=4 then zh4 h e a else []
def zf4 (e:Ev):Int:=if e.kind=3 then 3 else if e.kind=4 then 4 else 0
def zb5 (h:Hist) (e:Ev) (a:Nat):List Conf:=if zf1 h.evs e.t 5=true then (u7 h e a).flatMap fun p=>p.2.filterMap (zej h e (zf4 e) a p.1) else []
def rkR (h:Hist) (x:Int) (v:Ver):Option Int:=if v=⟨0,0⟩ then some 0 else if zbr (fun t=>zkz h x t==v) 0 (zde h x) ≥ 0 then some (zbr (fun t=>zkz h x t==v) 0 (zde h x)+1) else none
def zha (h:Hist) (e:Ev) (a:Nat):List Conf:=match rkR h e.o e.v with
 |none=> []
 |some r=>match (zde h e.o)[r.toNat]? with
  |none=> []
  |some t=>if (t==e.t)=true then [] else [⟨e.t,t,3,a,zeb h t e.o,e.o,0⟩]
def ze6 (h:Hist) (e:Ev) (a:Nat) (s:Seen) (k:Int):Option Conf:=match rkR h s.o s.v with
 |none=>none
 |some r=>if k≤r then none else if (((zde h s.o)[(k - 1).toNat]?).getD 0==e.t)=true then none
  else some ⟨e.t,((zde h s.o)[(k - 1).toNat]?).getD 0,4,a,zeb h (((zde h s.o)[(k - 1).toNat]?).getD 0) s.o,s.o,e.p⟩
def zie (h:Hist) (p x:Int):List Int:=chR (fun k=>zt6 h p x (k:Nat)) (zde h x).length
def zr5 (h:Hist) (e:Ev) (a:Nat):List Conf:=(zat h e a).flatMap fun s=>(zie h e.p s.o).filterMap (ze6 h e a s)
def zeq (h:Hist) (e:Ev) (a:Nat):List Conf:=if zf1 h.evs e.t 5=true then (if e.kind=3 then zha h e a else if e.kind=4 then zr5 h e a else []) else []
theorem yl9 {h:Hist} (hs:za0 h=true) {x:Int} (h0:0≤x) (h1:x < h.os.length) (v:Ver):zlx h x v=rkR h x v:=by
 rw [zlx,zqe hs v h0 h1 _ (Nat.le_refl _) h1,rkR,zoh,←zpg hs h0 h1];rfl
theorem ybi {h:Hist} {x:Int} {v:Ver} {r:Int} (e:rkR h x v=some r):0≤r:=by
 unfold rkR at e
 split at e
 ·injection e with e;omega
 ·split at e
  ·rename_i q;injection e with e;omega
  ·cases e
theorem zsi {h:Hist} {e:Ev} (he:zb3 h e=true) (h3:e.kind=3):(0≤e.o∧e.o < h.os.length)∧e.p=0:=by
 obtain ⟨_,_,_,hc,hq⟩:=zb6 he
 constructor
 ·rw [zf6,if_neg (by omega),if_neg (by omega),if_pos h3] at hc
  simp only [zep,Bool.and_eq_true,zbh] at hc
  exact hc.1
 ·rw [←hq];simp only [zf6];rw [if_neg (by omega),if_neg (by omega),if_pos h3]
theorem yjp {h:Hist} {e:Ev} (he:zb3 h e=true) (h4:e.kind=4):0≤e.p∧e.p < h.ps.length:=by
 obtain ⟨_,_,_,hc,_⟩:=zb6 he
 rw [zf6,if_neg (by omega),if_neg (by omega),if_neg (by omega),if_pos h4] at hc
 simp only [zc6,Bool.and_eq_true,zbh] at hc
 exact hc.1.1
theorem znq {l:List Int} (hl:l.Pairwise (· < ·)) (r:Int):(l.dropWhile fun k=> !decide (k > r))=l.filter fun k=>decide (k > r):=by
 induction l with
 |nil=>rfl
 |cons a l ih=>
  have h':=List.pairwise_cons.1 hl
  rw [List.dropWhile_cons,List.filter_cons]
  by_cases h:a > r
  ·rw [decide_eq_true h]
   simp only [Bool.not_true,Bool.false_eq_true,if_false,if_true]
   congr 1
   symm
   rw [List.filter_eq_self]
   intro b hb;exact decide_eq_true (by have:=h'.1 b hb;omega)
  ·rw [decide_eq_false h]
   simp only [Bool.not_false,if_true,Bool.false_eq_true,if_false]
   exact ih h'.2
theorem zxo {α β:Type} {f g:α→Option β}:∀{l:List α},(∀a∈l,f a=g a)→l.filterMap f=l.filterMap g
 | [],_=>rfl
 |a::r,h=>by rw [List.filterMap_cons,List.filterMap_cons,h a (by simp),zxo fun b hb=>h b (by simp [hb])]
theorem yde {h:Hist} (hs:za0 h=true) {e:Ev} (he:e∈h.evs) (h3:e.kind=3) (a:Nat):(zev h e).flatMap (fun p=>p.2.filterMap (zej h e 3 a p.1))=zha h e a:=by
 obtain ⟨⟨o0,o1⟩,ep⟩:=zsi (zet hs _ he) h3
 rw [zev,zha,yl9 hs o0 o1]
 cases hr:rkR h e.o e.v with
 |none=>rfl
 |some r=>
  have r0:=ybi hr
  simp only [List.flatMap_cons,List.flatMap_nil,List.append_nil,List.filterMap_cons,List.filterMap_nil]
  rw [zej,zpg hs o0 o1,Int.add_sub_cancel]
  by_cases q:r+1 > ((zde h e.o).length:Int)
  ·rw [if_pos q,List.getElem?_eq_none (by omega)]
  ·rw [if_neg q,List.getElem?_eq_getElem (by omega)]
   simp only [Option.getD_some]
   by_cases z:((zde h e.o)[r.toNat]'(by omega)==e.t)=true
   ·rw [if_pos z,if_pos z]
   ·rw [if_neg z,if_neg z,ep]
theorem ydd {h:Hist} (hs:za0 h=true) {e:Ev} (he:e∈h.evs) (h4:e.kind=4) (a:Nat):(zh4 h e a).flatMap (fun p=>p.2.filterMap (zej h e 4 a p.1))=zr5 h e a:=by
 have hp:=yjp (zet hs _ he) h4
 rw [zh4,zr5]
 have key:∀s∈zat h e a,(match zds h e s with|none=> []|some p=>p.2.filterMap (zej h e 4 a p.1))=(zie h e.p s.o).filterMap (ze6 h e a s):=fun s hsm=>by
  have ho:0≤s.o∧s.o < h.os.length:=by
   rw [zat,List.mem_map] at hsm
   obtain ⟨x,hx,rfl⟩:=hsm
   exact (zug _ _).1 hx
  have ht:zjd h e.p s.o=0:=zyl.2 ⟨zbd.2 hs,ho,hp⟩
  have hch:chL h e.p s.o=zie h e.p s.o:=yws ht
  have hlt:(chL h e.p s.o).Pairwise (· < ·):=by rw [chL,if_pos ht];exact zv3 _ _
  have hin:∀k∈chL h e.p s.o,1≤k∧k≤((zde h s.o).length:Int):=fun k hk=>by
   rw [chL,if_pos ht,ypm,zmk] at hk
   obtain ⟨j,rfl,j0,j1,_⟩:=hk
   rw [zms,zp6 ht] at j1
   omega
  rw [zds,yl9 hs ho.1 ho.2]
  cases hr:rkR h s.o s.v with
  |none=>
   symm
   simp only
   rw [List.filterMap_eq_nil_iff]
   intro k _;rw [ze6,hr]
  |some r=>
   simp only
   rw [hch] at hlt hin ⊢
   have e1:(zie h e.p s.o).filterMap (ze6 h e a s)=((zie h e.p s.o).filter fun k=>decide (k > r)).filterMap (zej h e 4 a s.o):=by
    rw [List.filterMap_filter]
    refine zxo fun k hk=> ?_
    obtain ⟨k1,k2⟩:=hin k hk
    rw [ze6,hr]
    simp only
    by_cases q:k > r
    ·rw [if_neg (show ¬k≤r by omega),if_pos (show decide (k > r)=true from decide_eq_true q),zej,zpg hs ho.1 ho.2,if_neg (show ¬k > ((zde h s.o).length:Int) by omega)]
    ·rw [if_pos (show k≤r by omega),if_neg (show ¬decide (k > r)=true by simpa using q)]
   by_cases q:((zie h e.p s.o).any fun k=>decide (k > r))=true
   ·rw [if_pos q]
    simp only
    rw [rwOver,hch,znq hlt,e1]
   ·rw [if_neg q,e1]
    symm
    have:((zie h e.p s.o).filter fun k=>decide (k > r))= []:=by
     rw [List.filter_eq_nil_iff]
     intro k hk z
     exact q (List.any_eq_true.2 ⟨k,hk,z⟩)
    rw [this];rfl
 generalize zat h e a=L at key
 induction L with
 |nil=>rfl
 |cons s r ih=>
  have k1:=key s (by simp)
  have ih':=ih fun s hs=>key s (by simp [hs])
  rw [List.flatMap_cons,←ih',←k1,List.filterMap_cons]
  cases zds h e s with
  |none=>rfl
  |some p=>rfl
theorem zvr {h:Hist} (hs:za0 h=true) {e:Ev} (he:e∈h.evs) (a:Nat):zb5 h e a=zeq h e a:=by
 rw [zb5,zeq,u7,zf4]
 by_cases hc:zf1 h.evs e.t 5=true
 ·rw [if_pos hc,if_pos hc]
  by_cases h3:e.kind=3
  ·rw [if_pos h3,if_pos h3,if_pos h3];exact yde hs he h3 a
  ·rw [if_neg h3,if_neg h3,if_neg h3]
   by_cases h4:e.kind=4
   ·rw [if_pos h4,if_pos h4,if_pos h4];exact ydd hs he h4 a
   ·rw [if_neg h4,if_neg h4,if_neg h4];rfl
 ·rw [if_neg hc,if_neg hc]
def zby (h:Hist) (kd:Int):Nat→List Conf
 |0=> []
 |n+1=>zby h kd n++(match h.evs[n]? with|some e=>if (e.kind==kd)=true then zb5 h e n else []|none=> [])
def zl3 (h:Hist) (kd:Int):List Conf:=zkg zid ((zch (zby h kd h.evs.length)).map Prod.snd)
def zos (h:Hist) (c:Int):Nat→List Conf
 |0=> []
 |n+1=>zo8 (zos h c n) (match h.evs[n]? with|some e=>(zeq h e n).filter (fun x=>x.k==c)|none=> [])
theorem ydg {h:Hist} {e:Ev} {a:Nat} {c:Conf} (hc:c∈zeq h e a):(e.kind=3∧c.k=3)∨(e.kind=4∧c.k=4):=by
 unfold zeq at hc
 split at hc
 ·split at hc
  ·rename_i h3
   left;refine ⟨h3,?_⟩
   unfold zha at hc
   split at hc
   ·cases hc
   ·split at hc
    ·cases hc
    ·split at hc
     ·cases hc
     ·rw [List.mem_singleton] at hc;rw [hc]
  ·split at hc
   ·rename_i h4
    right;refine ⟨h4,?_⟩
    rw [zr5,List.mem_flatMap] at hc
    obtain ⟨s,_,hc⟩:=hc
    rw [List.mem_filterMap] at hc
    obtain ⟨k,_,hc⟩:=hc
    unfold ze6 at hc
    split at hc
    ·cases hc
    ·split at hc
     ·cases hc
     ·split at hc
      ·cases hc
      ·injection hc with hc;rw [←hc]
   ·cases hc
 ·cases hc
theorem zlr (h:Hist) (c:Int):∀n,(zos h c n).Pairwise (LtC zid)
 |0=> .nil
 |n+1=>zjr _ _ (zlr h c n)
theorem yjs {h:Hist} (hs:za0 h=true) {kd:Int} (hk:kd=3∨kd=4) (z:Conf):∀n,z∈zos h kd n ↔ z∈zby h kd n
 |0=>by simp [zos,zby]
 |n+1=>by
  rw [zos,zkp,zby,List.mem_append,yjs hs hk z n]
  cases hn:h.evs[n]? with
  |none=>simp
  |some e=>
   have he:e∈h.evs:=List.mem_of_getElem? hn
   simp only
   rw [zvr hs he]
   have:z∈(zeq h e n).filter (fun x=>x.k==kd) ↔ z∈(if (e.kind==kd)=true then zeq h e n else []):=by
    rw [List.mem_filter]
    constructor
    ·rintro ⟨q1,q2⟩
     have q2:=eq_of_beq q2
     have:e.kind=kd:=by rcases ydg q1 with ⟨a,b⟩|⟨a,b⟩ <;> omega
     rw [if_pos (by simpa using this)];exact q1
    ·intro q
     split at q
     ·rename_i e2
      have e2:=eq_of_beq e2
      refine ⟨q,?_⟩
      rw [beq_iff_eq]
      rcases ydg q with ⟨a,b⟩|⟨a,b⟩ <;> omega
     ·cases q
   rw [this]
theorem zm0 {h:Hist} (hs:za0 h=true) {kd:Int} (hk:kd=3∨kd=4) {out:List Conf} (hp:out.Perm ((zch (zby h kd h.evs.length)).map Prod.snd)):zkg zid out=yvv (zos h kd h.evs.length):=by
 rw [yej hp (zlr h kd _) (yjs hs hk · _),zv1 (key:=fun c:Conf=>(c.f,c.t)) (q:=zfh) (fun a b=>by rw [zfh,Bool.eq_iff_iff];simp),yvv]
 have hkk:∀c∈zos h kd h.evs.length,c.k=kd:=by
  suffices ∀n,∀c∈zos h kd n,c.k=kd by exact this _
  intro n
  induction n with
  |zero=>intro c hc;cases hc
  |succ n ih=>
   intro c hc
   rw [zos,zkp] at hc
   rcases hc with hc|hc
   ·exact ih c hc
   ·cases hn:h.evs[n]? with
    |none=>rw [hn] at hc;cases hc
    |some e=>
     rw [hn] at hc
     exact eq_of_beq (List.mem_filter.1 hc).2
 generalize zos h kd h.evs.length=L at hkk
 cases L with
 |nil=>rfl
 |cons x r=>
  rw [yc6,yc6,zi5 r x fun a ha b hb=> ?_]
  rw [ya4,hkk a (by simp [ha]),hkk b hb];simp [zfh]
theorem yqj {h:Hist} (hs:za0 h=true) {x:Int} (h0:0≤x) (h1:x < h.os.length) {k:Nat} (hk:k < (zbz h x).length):zlx h x (zkz h x (zbz h x)[k])=some ((k:Int)+1):=by
 obtain ⟨v,i,hf,⟨hi,_⟩,hv,hr,_⟩:=zwf hs h0 h1 hk
 have e:zkz h x (zbz h x)[k]=v:=by rw [zkz,hf];rfl
 rw [e,zlx,zqe hs v h0 h1 _ (Nat.le_refl _) h1,if_neg (by rintro rfl;exact absurd hv (by decide)),hr,if_pos (by omega)]
theorem zqx {h:Hist} (hs:za0 h=true) {x:Int} (h0:0≤x) (h1:x < h.os.length) {k:Nat} (hk:k < (zbz h x).length):∃i,∃hi:i < h.evs.length,zpm h.evs (zbz h x)[k] x=some (h.evs[i].v,i)∧zeb h (zbz h x)[k] x=(i:Int)∧h.evs[i].kind=2∧h.evs[i].t=(zbz h x)[k]∧h.evs[i].o=x∧0 < h.evs[i].v.k∧h.evs[i].v.t=(zbz h x)[k]:=by
 obtain ⟨v,i,hf,_,hv,_⟩:=zwf hs h0 h1 hk
 obtain ⟨hi,e1,e2,e3,_⟩:=zj2 hs hf
 obtain ⟨w1,w2,w3⟩:=zh1.1 e2
 exact ⟨i,hi,by rw [hf,e1],by rw [zeb,hf];rfl,w1,w2,w3,by rw [e1];exact hv,by rw [e1];exact e3⟩
theorem zr8 {h:Hist} {kd:Int} {z:Conf}:∀{n:Nat},n≤h.evs.length→(z∈zby h kd n ↔ ∃j,∃hj:j < h.evs.length,j < n∧h.evs[j].kind=kd∧z∈zb5 h h.evs[j] j)
 |0,_=>by simp [zby]
 |n+1,hn=>by
  rw [zby,List.mem_append,zr8 (n:=n) (by omega),List.getElem?_eq_getElem (by omega)]
  simp only
  constructor
  ·rintro (⟨j,hj,q,r⟩|q)
   ·exact ⟨j,hj,by omega,r⟩
   ·split at q
    ·rename_i e;exact ⟨n,by omega,by omega,eq_of_beq e,q⟩
    ·cases q
  ·rintro ⟨j,hj,q,r,w⟩
   by_cases e:j=n
   ·subst e;right;rw [if_pos (by simpa using r)];exact w
   ·left;exact ⟨j,hj,by omega,r,w⟩
theorem yqh {h:Hist} (hs:za0 h=true) {x:Int} (h0:0≤x) (h1:x < h.os.length) {v:Ver} {r:Int} (hr:zlx h x v=some r):0≤r:=by
 rw [yl9 hs h0 h1] at hr;exact ybi hr
theorem zs5 {h:Hist} (hs:za0 h=true) {e:Ev} {c:Int} {a:Nat} {x r:Int} (h0:0≤x) (h1:x < h.os.length) (r1:1≤r) {z:Conf} (hz:zej h e c a x r=some z):∃k,∃hk:k < (zbz h x).length,r=(k:Int)+1∧∃j,∃hj:j < h.evs.length,z=⟨e.t,(zbz h x)[k],c,a,(j:Int),x,e.p⟩∧(zbz h x)[k]≠e.t∧h.evs[j].kind=2∧h.evs[j].t=(zbz h x)[k]∧h.evs[j].o=x∧zlx h x h.evs[j].v=some r:=by
 unfold zej at hz
 split at hz
 ·cases hz
 ·split at hz
  ·cases hz
  ·rename_i q1 q2
   have hk:(r - 1).toNat < (zbz h x).length:=by omega
   rw [List.getElem?_eq_getElem hk] at hz q2
   simp only [Option.getD_some] at hz q2
   injection hz with hz
   obtain ⟨j,hj,a1,a2,a3,a4,a5,a6,a7⟩:=zqx hs h0 h1 hk
   refine ⟨(r - 1).toNat,hk,by omega,j,hj,by rw [←hz,a2],fun q=>q2 (beq_iff_eq.2 q),a3,a4,a5,?_⟩
   have:=yqj hs h0 h1 hk
   rw [zkz,a1] at this
   rw [show h.evs[j].v=zrn (some (h.evs[j].v,j)) from rfl,this]
   congr 1;omega
theorem ykd {h:Hist} (hs:za0 h=true) {x:Int} (h0:0≤x) (h1:x < h.os.length) {t:Int} (ht:t∈zbz h x):0≤t∧t < h.ts.length:=by
 obtain ⟨k,hk,rfl⟩:=List.mem_iff_getElem.1 ht
 obtain ⟨j,hj,_,_,_,a4,_⟩:=zqx hs h0 h1 hk
 rw [←a4]
 exact yrq (zff hs).1 _ (List.getElem_mem hj)
theorem zsj {h:Hist} (hs:za0 h=true) {i:Nat} (hi:i < h.evs.length) (h3:h.evs[i].kind=3) {z:Conf} (hz:z∈zb5 h h.evs[i] i):(0≤z.o∧z.o < h.os.length)∧z.k=3∧z.p=0∧z.f≠z.t∧z.a=(i:Int)∧z.f=h.evs[i].t∧z.o=h.evs[i].o∧zf1 h.evs z.f 5=true∧∃k,∃hk:k < (zbz h z.o).length,zlx h z.o h.evs[i].v=some (k:Int)∧(zbz h z.o)[k]=z.t∧∃j,∃hj:j < h.evs.length,z.b=(j:Int)∧h.evs[j].kind=2∧h.evs[j].t=z.t∧h.evs[j].o=z.o:=by
 obtain ⟨⟨o0,o1⟩,ep⟩:=zsi (zet hs _ (List.getElem_mem hi)) h3
 unfold zb5 at hz
 split at hz
 ·rename_i hc
  rw [u7,if_pos h3,List.mem_flatMap] at hz
  obtain ⟨p,hp,hz⟩:=hz
  unfold zev at hp
  split at hp
  ·cases hp
  ·rename_i r hr
   rw [List.mem_singleton] at hp
   subst hp
   rw [zf4,if_pos h3,List.mem_filterMap] at hz
   obtain ⟨q,hq,hz⟩:=hz
   rw [List.mem_singleton] at hq
   subst hq
   have r0:=yqh hs o0 o1 hr
   obtain ⟨k,hk,ek,j,hj,ez,a1,a2,a3,a4,_⟩:=zs5 hs o0 o1 (by omega) hz
   subst ez
   refine ⟨⟨o0,o1⟩,rfl,ep,fun q=>a1 q.symm,rfl,rfl,rfl,hc,k,hk,by rw [hr];congr 1;omega,rfl,j,hj,rfl,a2,a3,a4⟩
 ·cases hz
theorem zqb {h:Hist} {e:Ev} {n:Nat} {s:Seen} (hs:s∈zat h e n):(0≤s.o∧s.o < h.os.length)∧∃hk:s.o.toNat < (zat h e n).length,(zat h e n)[s.o.toNat]=s:=by
 obtain ⟨k,hk,rfl⟩:=List.mem_iff_getElem.1 hs
 have e1:=yty hk
 have e2:=zmw h e n
 refine ⟨by omega,by omega,?_⟩
 congr 1
 omega
theorem zr4 {h:Hist} (hs:za0 h=true) {i:Nat} (hi:i < h.evs.length) (h4:h.evs[i].kind=4) {z:Conf} (hz:z∈zb5 h h.evs[i] i):(0≤z.o∧z.o < h.os.length)∧z.k=4∧z.f≠z.t∧z.a=(i:Int)∧z.f=h.evs[i].t∧z.p=h.evs[i].p∧z.t∈zbz h z.o∧(0≤z.p∧z.p < h.ps.length)∧∃r k:Int,(∃hk:z.o.toNat < (zat h h.evs[i] i).length,zlx h z.o (zat h h.evs[i] i)[z.o.toNat].v=some r)∧r < k∧k∈chL h z.p z.o∧∃j,∃hj:j < h.evs.length,z.b=(j:Int)∧h.evs[j].kind=2∧h.evs[j].t=z.t∧h.evs[j].o=z.o∧zlx h z.o h.evs[j].v=some k:=by
 have hp:=yjp (zet hs _ (List.getElem_mem hi)) h4
 unfold zb5 at hz
 split at hz
 ·rw [u7,if_neg (by omega),if_pos h4,List.mem_flatMap] at hz
  obtain ⟨p,hpp,hz⟩:=hz
  rw [zh4,List.mem_filterMap] at hpp
  obtain ⟨s,hsm,hpp⟩:=hpp
  obtain ⟨⟨o0,o1⟩,hk1,hk2⟩:=zqb hsm
  unfold zds at hpp
  split at hpp
  ·cases hpp
  ·rename_i r hr
   split at hpp
   ·injection hpp with hpp
    subst hpp
    rw [zf4,if_neg (by omega),if_pos h4,List.mem_filterMap] at hz
    obtain ⟨k,hk,hz⟩:=hz
    have ht:zjd h h.evs[i].p s.o=0:=zyl.2 ⟨zbd.2 hs,⟨o0,o1⟩,hp⟩
    have hlt:(chL h h.evs[i].p s.o).Pairwise (· < ·):=by rw [chL,if_pos ht];exact zv3 _ _
    simp only at hk hz
    rw [rwOver,znq hlt,List.mem_filter] at hk
    obtain ⟨hk,hkr⟩:=hk
    have hkr:=oT hkr
    have r0:=yqh hs o0 o1 hr
    obtain ⟨m,hm,em,j,hj,ez,a1,a2,a3,a4,a5⟩:=zs5 hs o0 o1 (by omega) hz
    subst ez
    refine ⟨⟨o0,o1⟩,rfl,fun q=>a1 q.symm,rfl,rfl,rfl,List.getElem_mem hm,hp,r,k,⟨hk1,by rw [hk2];exact hr⟩,by omega,hk,j,hj,rfl,a2,a3,a4,a5⟩
   ·cases hpp
 ·cases hz
theorem zlh {h:Hist} {e:Ev} {a:Nat} (h3:e.kind≠3) (h4:e.kind≠4):zb5 h e a= []:=by
 rw [zb5,u7,if_neg h3,if_neg h4];simp
def zzk (h:Hist) (e:Ev) (a:Nat):List Int:=zb4 (srt ((zb5 h e a).map Conf.t))
def ym5 (h:Hist) (e:Ev) (a:Nat):List Int:=(upR h.ts.length).filter fun t=>(zeq h e a).any fun c=>c.t==t
theorem zys {h:Hist} {e:Ev} {a:Nat} {t:Int}:t∈zzk h e a ↔ ∃c∈zb5 h e a,c.t=t:=by
 rw [zzk,zfn,(zcl _).mem_iff,List.mem_map]
theorem ykf {h:Hist} (hs:za0 h=true) {i:Nat} (hi:i < h.evs.length) {z:Conf} (hz:z∈zb5 h h.evs[i] i):0≤z.t∧z.t < h.ts.length:=by
 by_cases h3:h.evs[i].kind=3
 ·obtain ⟨⟨o0,o1⟩,_,_,_,_,_,_,_,k,hk,_,e,_⟩:=zsj hs hi h3 hz
  rw [←e];exact ykd hs o0 o1 (List.getElem_mem hk)
 ·by_cases h4:h.evs[i].kind=4
  ·obtain ⟨⟨o0,o1⟩,_,_,_,_,_,e,_⟩:=zr4 hs hi h4 hz
   exact ykd hs o0 o1 e
  ·rw [zlh h3 h4] at hz;cases hz
theorem yba {h:Hist} (hs:za0 h=true) {i:Nat} (hi:i < h.evs.length):zzk h h.evs[i] i=ym5 h h.evs[i] i:=by
 refine yj5 _ _ (zic _ (zwr _)) ((yjh _).filter _) fun t=> ?_
 have:=zys (h:=h) (e:=h.evs[i]) (a:=i) (t:=t)
 rw [this,ym5,List.mem_filter,zug,←zvr hs (List.getElem_mem hi),List.any_eq_true]
 constructor
 ·rintro ⟨c,hc,rfl⟩;exact ⟨ykf hs hi hc,c,hc,by simp⟩
 ·rintro ⟨_,c,hc,e⟩;exact ⟨c,hc,eq_of_beq e⟩
def bPP:ByteArray:=⟨#[80]⟩
def sr0:List Ev:= [ypl 0,⟨3,0,0,0,0,⟨0,0⟩,0,[]⟩,⟨4,0,0,0,0,⟨0,0⟩,0,[]⟩,ypk 0]
def srE:Nat→List Ev
 |0=>sr0
 |k+1=>srE k++ [ypl (k+1:Nat),ytr (k+1:Nat) 0,ypk (k+1:Nat)]
theorem ypy (k:Nat):srE (k+1)=srE k++ [ypl (k+1:Nat),ytr (k+1:Nat) 0,ypk (k+1:Nat)]:=rfl
theorem yld (k:Nat):(srE k).length=4+3 * k:=by
 induction k with
 |zero=>rfl
 |succ k ih=>rw [ypy,List.length_append,ih];simp only [List.length_cons,List.length_nil];omega
def rwH:Hist:=⟨[wT 48,wT 49,wT 50],[zx6],[bxx],[bPP],srE 2,[⟨0,[1,2]⟩],[⟨0,0,false,[2]⟩],[]⟩
theorem ya8:zfz rwH=true:=by decide+kernel
theorem zr6:za0 rwH=true:=by
 have:zj1 rwH=none:=(zxq ya8).trans (by decide+kernel)
 rw [za0,ya8,this];rfl
theorem zhf:u6 rwH=0:=zbd.2 zr6
theorem ya9:zl3 rwH 3= [⟨0,1,3,1,5,0,0⟩]:=by decide+kernel
theorem ya7:zl3 rwH 4= [⟨0,2,4,2,8,0,0⟩]:=(zm0 zr6 (.inr rfl) (.refl _)).trans (by decide+kernel)
theorem yge:(⟨0,1,3,1,5,0,0⟩:Conf)∈zb5 rwH (rwH.evs[1]'(by decide)) 1:=by decide+kernel
def zap (h:Hist):Hist:={h with evs:=h.evs.take 60}
theorem zfa {h:Hist} {N:Nat} (la:Lim N h):Lim N (zap h):=
 ⟨la.ts,la.ss,la.os,la.ps,by have:=la.evs;simp only [zap,List.length_take];omega,la.ords,la.mats,la.wants,fun e he=>la.scans e (List.mem_of_mem_take he),la.ordts,la.matts⟩
end Go.H
