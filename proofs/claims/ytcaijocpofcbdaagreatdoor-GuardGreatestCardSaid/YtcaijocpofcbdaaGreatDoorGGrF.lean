/- The abstract logic, part 28: slices.Sort and slices.Compact at []int, as contracts over a row of one's own (the kit's shelf has walked them). .. -/
import Derived.Test.YtcaijocpofcbdaaGreatDoorGGrE
import Derived.Shelf.Sort.Plain
import Derived.Shelf.Slices.In.SortNone
import Derived.Shelf.Slices.CompactI
set_option maxHeartbeats 4000000
set_option linter.unusedSectionVars false
set_option linter.unusedSimpArgs false
set_option linter.unusedVariables false
namespace Go.Ab
open Go Go.Shelf Go.Sort Go.Proofs
def numR (n:Int):List AV:= [.v (.int .i64 n)]
theorem zsp {X:Nat→Prop} {w:World} {a:Addr} {cap:Nat} {T:TypeId} {xs ys zs:List Int} (hh:HRel X w [.row (.slice (some a) xs.length cap) 1 T (xs.map numR)]) (hl:ys.length=xs.length) (hz:zs=ys.take zs.length) (n:Nat) (os:Array Obj):
 HRel X (grow (putRow (Value.int .i64) (Sort.ahead w n) a.block a.off ys.toArray) os) [.row (.slice (some a) zs.length cap) 1 T (zs.map numR)]∧
 Keep [a.block] w [a.block] (grow (putRow (Value.int .i64) (Sort.ahead w n) a.block a.off ys.toArray) os):=by
 obtain ⟨h1,h2,h3,h4,c,h5,h6,h7⟩:=hh.holds _ (List.mem_singleton.2 rfl)
 have hb:a.block < w.heap.size:=(hh.lt a.block (by simp [u4,Res.own])).1
 have hX:¬X a.block:=(hh.lt a.block (by simp [u4,Res.own])).2
 obtain ⟨w',hw'⟩:∃w',w'=grow (putRow (Value.int .i64) (Sort.ahead w n) a.block a.off ys.toArray) os:=⟨_,rfl⟩
 rw [←hw']
 have hheap:w'.heap=(w.heap.modify a.block (onCells (putCells (Value.int .i64) a.off ys.toArray)))++os:=by rw [hw'];rfl
 have hos:zg8 w w':=by rw [hw'];exact ⟨⟨rfl,rfl⟩,rfl,trivial⟩
 have hsize:w.heap.size≤w'.heap.size:=by rw [hheap];simp
 have hold:∀b,b < w.heap.size→b≠a.block→w'.heap[b]? =w.heap[b]? :=fun b hb hne=>by
  rw [hheap,Array.getElem?_append_left (by simpa using hb),Array.getElem?_modify,if_neg (Ne.symm hne)]
 have hnew:w'.heap[a.block]? =some (.cells (putCells (Value.int .i64) a.off ys.toArray c) T (0,0)):=by
  rw [hheap,Array.getElem?_append_left (by simpa using hb),Array.getElem?_modify,if_pos rfl,h5];rfl
 have hlen:zs.length≤ys.length:=by
  have:=congrArg List.length hz
  rw [List.length_take] at this;omega
 refine ⟨⟨by simp [u4,Res.own],fun b hb2=> ?_,fun b hb2=>Nat.lt_of_lt_of_le (hh.xlt b hb2) hsize,fun r hr=> ?_⟩,⟨hsize,fun b hb2 hne=> ?_,hos⟩⟩
 ·have:b=a.block:=by simpa [u4,Res.own] using hb2
  subst this;exact ⟨Nat.lt_of_lt_of_le hb hsize,hX⟩
 ·rw [List.mem_singleton] at hr
  subst hr
  refine ⟨h1,by simp,by simp at h2 h3;omega,fun i hi=>by simp [numR],_,hnew,by simpa [putCells] using h6,fun i hi j hj=> ?_⟩
  have hi2:i < zs.length:=by simpa using hi
  have hj0:j=0:=by simp [numR] at hj;omega
  subst hj0
  have hc:a.off+i < c.size:=by simp at h2 h3;omega
  refine ⟨.int .i64 (zs[i]),?_,?_⟩
  ·have hz2:zs[i]=ys[i]'(by omega):=by
    have:zs[i]? =(ys.take zs.length)[i]? :=by rw [←hz]
    rw [List.getElem?_take_of_lt hi2,List.getElem?_eq_getElem hi2,List.getElem?_eq_getElem (by omega)] at this
    exact Option.some.inj this
   have e:a.off+i * 1+0=a.off+i:=by omega
   rw [e]
   simp only [putCells,Array.getElem?_mapIdx]
   rw [Array.getElem?_eq_getElem hc]
   simp only [Option.map_some]
   rw [if_pos ⟨by omega,by simp;omega⟩,hz2]
   have e2:a.off+i - a.off=i:=by omega
   rw [e2]
   congr 2
   exact getElem!_pos _ _ (by simp;omega)
  ·simp only [List.getElem_map,numR]
   exact .v _
 ·have hne2:b≠a.block:=by simpa using hne
  exact ⟨hold b hb2 hne2,hne⟩
theorem zsq {X:Nat→Prop} {w:World} {a:Addr} {cap:Nat} {T:TypeId} {xs:List Int} (hh:HRel X w [.row (.slice (some a) xs.length cap) 1 T (xs.map numR)]):Holds (Value.int .i64) w a.block a.off xs.toArray∧a.block < w.heap.size∧xs.length≤cap∧a.spot=none:=by
 obtain ⟨h1,h2,h3,h4,c,h5,h6,h7⟩:=hh.holds _ (List.mem_singleton.2 rfl)
 refine ⟨fun j hj=> ?_,(hh.lt a.block (by simp [u4,Res.own])).1,h3,h1⟩
 have hj2:j < xs.length:=by simpa using hj
 obtain ⟨v,e,r⟩:=h7 j (by simpa using hj2) 0 (by simp [numR])
 simp only [List.getElem_map,numR] at r
 have hv:v= .int .i64 xs[j]:=r.v_eq
 subst hv
 have e0:a.off+j * 1+0=a.off+j:=by omega
 rw [e0] at e
 refine ⟨?_,?_⟩
 ·have e2:w.cell? ⟨a.block,a.off+j,none⟩=some (.int .i64 xs[j]):=by simp [World.cell?,h5,e]
  have e3:xs.toArray[j]! =xs[j]:=getElem!_pos xs.toArray j hj
  rw [e2,e3]
 ·simp [World.frozen?,h5]
theorem zv3 {X:Nat→Prop} {w:World} {n cap:Nat} {T:TypeId} {xs:List Int} (hh:HRel X w [.row (.slice none n cap) 1 T (xs.map numR)]):xs= []∧n=0∧cap=0:=by
 obtain ⟨h1,h2,h3⟩:=hh.holds _ (List.mem_singleton.2 rfl)
 exact ⟨by simpa using h1,h2,h3⟩
section
variable {P:Program} {ρ:Ren}
theorem zu3 (Ly:Lays.n189 P ρ) (s:SV) (T:TypeId) (xs:List Int) (hs:xs.length < 4611686018427387904):
 x3 P (ρ.f 189) [.v s.v] [.row s.v 1 T (xs.map numR)] (fun r h'=>h'= [.row s.v 1 T ((xs.mergeSort fun x y=>decide (x≤y)).map numR)]∧r= .v (.tuple #[])):=by
 intro X w vs hh ha
 match vs,ha with
 | [v],⟨hv,_⟩=>
   obtain rfl:=hv.v_eq
   obtain ⟨a,n,cap⟩:=s
   cases a with
   |none=>
    obtain ⟨rfl,rfl,rfl⟩:=zv3 hh
    refine callsIn_wide.2 ((Any.slices_Sort_int_none Ly none 0 w).mono ?_)
    rintro e w' ⟨rfl,rfl⟩
    exact ⟨_,_,_,rfl,⟨rfl,rfl⟩,.v _,by simpa using hh,.refl _ _⟩
   |some a=>
    have hn:n=xs.length:=by
     have:=(hh.holds _ (List.mem_singleton.2 rfl)).2.1
     simpa using this
    subst hn
    obtain ⟨g1,g2,g3,g4⟩:=zsq hh
    obtain ⟨b,off,sp⟩:=a
    simp only at g1 g2 g4
    subst g4
    refine callsIn_wide.2 ((Any.slices_Sort_int Ly b off cap xs w g1 g2 hs).mono ?_)
    rintro e w' ⟨rfl,n,os,rfl⟩
    have hlen:(xs.mergeSort fun x y=>decide (x≤y)).length=xs.length:=List.length_mergeSort _
    obtain ⟨k1,k2⟩:=zsp (zs:=xs.mergeSort fun x y=>decide (x≤y)) hh hlen (List.take_length).symm n os
    rw [hlen] at k1
    exact ⟨_,_,_,rfl,⟨rfl,rfl⟩,.v _,k1,k2⟩
theorem zny (Ly:Lays2.n20 P ρ) (s:SV) (T:TypeId) (xs:List Int) (hs:xs.length≤4611686018427387904):
 x3 P (ρ.f 20) [.v s.v] [.row s.v 1 T (xs.map numR)] (fun r h'=>∃s':SV,h'= [.row s'.v 1 T ((Lib.compact xs).map numR)]∧r= .v s'.v):=by
 intro X w vs hh ha
 match vs,ha with
 | [v],⟨hv,_⟩=>
   obtain rfl:=hv.v_eq
   obtain ⟨a,n,cap⟩:=s
   cases a with
   |none=>
    obtain ⟨rfl,rfl,rfl⟩:=zv3 hh
    refine callsIn_wide.2 ((Any.slices_Compact_int_empty Ly none 0 w).mono ?_)
    rintro e w' ⟨rfl,rfl⟩
    exact ⟨_,_,_,rfl,⟨⟨none,0,0⟩,rfl,rfl⟩,.v _,hh,.refl _ _⟩
   |some a=>
    have hn:n=xs.length:=by
     have:=(hh.holds _ (List.mem_singleton.2 rfl)).2.1
     simpa using this
    subst hn
    obtain ⟨g1,g2,g3,g4⟩:=zsq hh
    obtain ⟨b,off,sp⟩:=a
    simp only at g1 g2 g4
    subst g4
    refine callsIn_wide.2 ((Any.slices_Compact_int Ly b off cap xs w g1 (by omega) g3).mono ?_)
    rintro e w' ⟨rfl,q,rfl⟩
    have hle:(Lib.compact xs).length≤xs.length:=by
     unfold Lib.compact Lib.compactUpTo
     rw [oM]
     exact Nat.le_trans (List.length_filter_le _ _) (by simp)
    obtain ⟨k1,k2⟩:=zsp (ys:=Lib.compact xs++List.replicate (xs.length - (Lib.compact xs).length) 0) (zs:=Lib.compact xs) hh (by simp;omega) (by rw [List.take_left'];rfl) q #[]
    rw [grow_empty] at k1 k2
    exact ⟨_,_,_,rfl,⟨⟨some ⟨b,off,none⟩,(Lib.compact xs).length,cap⟩,rfl,rfl⟩,.v _,k1,k2⟩
end
end Go.Ab
namespace Go.H
open Go Go.Ab
theorem zmh (y:Int):∀l:List Int,za6 (l++ [y])=za6 l++(if l.getLast? =some y then [] else [y])
 | []=>by simp [za6]
 | [x]=>by
   by_cases h:x=y
   ·subst h;simp [za6]
   ·simp [za6,h]
 |x::z::r=>by
  have ih:=zmh y (z::r)
  simp only [List.cons_append] at ih ⊢
  have hl:(x::z::r).getLast? =(z::r).getLast? :=by simp [List.getLast?_cons]
  rw [hl,za6,za6]
  by_cases h:x=z
  ·rw [if_pos h,if_pos h];exact ih
  ·rw [if_neg h,if_neg h,ih];rfl
theorem zuz (xs:List Int):Lib.compact xs=za6 xs:=by
 have key:∀m,m≤xs.length→Lib.compactUpTo xs.toArray m=za6 (xs.take m):=by
  intro m
  induction m with
  |zero=>intro _;rfl
  |succ m ih=>
   intro hm
   have hlt:m < xs.length:=hm
   rw [Lib.compactUpTo_succ,ih (by omega),List.take_succ_eq_append_getElem hlt,zmh]
   congr 1
   have e1:xs.toArray[m]! =xs[m]:=by simp [hlt]
   by_cases h0:m=0
   ·subst h0
    simp [Lib.keeps,hlt]
   ·have hlt':m - 1 < xs.length:=by omega
    have e2:xs.toArray[m - 1]! =xs[m - 1]:=by simp [hlt']
    have e3:(xs.take m).getLast? =some xs[m - 1]:=by
     rw [List.getLast?_eq_getElem?,List.length_take,Nat.min_eq_left (by omega),List.getElem?_take_of_lt (by omega)]
     simp [hlt']
    rw [e3]
    unfold Lib.keeps
    rw [e1,e2]
    by_cases he:xs[m]=xs[m - 1]
    ·rw [if_neg (by simp [h0,he]),if_pos (by rw [he])]
    ·rw [if_pos (by simp [he]),if_neg (fun q=>he (Option.some.inj q).symm)]
 have:=key xs.length (Nat.le_refl _)
 rw [List.take_length] at this
 exact this
def yc7 (l:List Ev):List (Int×Bool):=l.foldl (fun m e=>zee e.t ((zbr e.t m).getD false||e.kind==5) m) []
theorem zxy (t:Int):∀(l:List Ev) (m:List (Int×Bool)),(zbr t (l.foldl (fun m e=>zee e.t ((zbr e.t m).getD false||e.kind==5) m) m)).getD false=((zbr t m).getD false||l.any fun y=>y.t==t && y.kind==5)
 | [],m=>by simp
 |e::l,m=>by
  rw [List.foldl_cons,zxy t l,List.any_cons,zc2]
  by_cases h:e.t=t
  ·subst h;simp [Bool.or_assoc]
  ·have:(e.t==t)=false:=by simpa using h
   rw [if_neg h,this,Bool.false_and,Bool.false_or]
theorem zjr (l:List Ev) (t:Int):(zbr t (yc7 l)).getD false=l.any fun y=>y.t==t && y.kind==5:=by
 rw [yc7,zxy];simp [zbr]
theorem zhr {l:List Ev} {k:Nat} (hk:k < l.length):yc7 (l.take (k+1))=zee l[k].t ((zbr l[k].t (yc7 (l.take k))).getD false||l[k].kind==5) (yc7 (l.take k)):=by
 rw [List.take_succ_eq_append_getElem hk,yc7,List.foldl_append];rfl
section
variable {α:Type} {l:List α} {k:Nat} {p:α→Bool}
theorem ym7 (hk:k < l.length) (h:p l[k]=true):(l.take (k+1)).filter p=(l.take k).filter p++ [l[k]]:=by
 rw [List.take_succ_eq_append_getElem hk,List.filter_append];simp [h]
theorem ygg (hk:k < l.length) (h:p l[k]=false):(l.take (k+1)).filter p=(l.take k).filter p:=by
 rw [List.take_succ_eq_append_getElem hk,List.filter_append];simp [h]
theorem zxs:((l.take k).filter p).length≤l.length:=Nat.le_trans (List.length_filter_le _ _) (by simp;omega)
end
def wrB (l:List Ev) (x:Int) (e:Ev):Bool:=e.kind==2 && e.o==x && l.any fun y=>y.t==e.t && y.kind==5
theorem zp2 (l:List Ev) (x:Int):zaf l x=za6 (srt ((l.filter (wrB l x)).map Ev.t)):=rfl
theorem zpk (l:List Int) (n:Int):(l.any fun a=>a==n)=l.contains n:=by
 rw [Bool.eq_iff_iff];simp
theorem zhy (l:List Ev) (x:Int):(zaf l x).length≤l.length:=by
 rw [zp2]
 refine Nat.le_trans (zkx _) ?_
 rw [(zec _).length_eq,oM]
 exact List.length_filter_le _ _
theorem zh7 (a b:Nat):((a:Int) !=(b:Int))= !decide (a=b):=by
 rw [Bool.eq_iff_iff];simp;omega
theorem y3.new {P:Program} {fv:AV} {args:List AV} {h:List Res} {R:AV→List Res→Prop} (hc:y3 P fv args [] R):y3 P fv args h (fun r h'=>∃h1,R r h1∧h'=h1++h):=
 (hc.frame h).mono fun _ _ ⟨h1,e,q⟩=>⟨h1,q,e⟩
def zih (h:Hist) (n many:Int):Int:=if q8 h=0 then (if 0≤n∧n < many then 0 else 2) else q8 h
def onE (e:Int) (l:List Int):List Int:=if e=0 then l else []
theorem yb6 {h:Hist} {n many:Int} (he:zih h n many=0):zbu h=true∧0≤n∧n < many:=by
 unfold zih at he
 split at he
 ·rename_i hc
  split at he
  ·rename_i hn;exact ⟨zbe.1 hc,hn⟩
  ·cases he
 ·rename_i hc;exact absurd he hc
theorem yk2 {h:Hist} {n many:Int} (hc:q8 h≠0):zih h n many=q8 h:=by rw [zih,if_neg hc]
theorem yb5 {h:Hist} {n many:Int} (hc:q8 h=0) (hn:¬(0≤n∧n < many)):zih h n many=2:=by rw [zih,if_pos hc,if_neg hn]
theorem zyj {h:Hist} {n many:Int} (hc:q8 h=0) (hn:0≤n∧n < many):zih h n many=0:=by rw [zih,if_pos hc,if_pos hn]
def zjq (l:List Ev):List (Int×Bool):=zsn (fun e:Ev=>e.kind==5) Ev.t [] l
theorem zte (l:List Ev) (t:Int):(zbr t (zjq l)).getD false=yf0 l t 5:=by
 rw [zjq,zgc,zjl]
 have:(l.any fun e=>e.kind==5 && decide (e.t=t))=l.any fun y=>y.t==t && y.kind==5:=by
  congr 1;funext e;rw [Bool.and_comm];rfl
 rw [this]
 cases l.any fun y=>y.t==t && y.kind==5 <;> rfl
theorem ykn {l:List Ev} {k:Nat} (hk:k < l.length) (h5:(l[k].kind==5)=true):zjq (l.take (k+1))=zee l[k].t true (zjq (l.take k)):=by
 rw [List.take_succ_eq_append_getElem hk,zjq,zsn,List.foldl_append,List.foldl_cons,List.foldl_nil,if_pos h5];rfl
theorem yko {l:List Ev} {k:Nat} (hk:k < l.length) (h5:(l[k].kind==5)=false):zjq (l.take (k+1))=zjq (l.take k):=by
 rw [List.take_succ_eq_append_getElem hk,zjq,zsn,List.foldl_append,List.foldl_cons,List.foldl_nil,if_neg (by rw [h5];decide)];rfl
section
variable {α:Type} (cmp:α→α→Int)
def mrg:List α→List α→List α
 | [],b=>b
 |x::a,[]=>x::a
 |x::a,y::b=>if cmp y x < 0 then y::mrg (x::a) b else x::mrg a (y::b)
termination_by a b=>a.length+b.length
theorem ze8 (a:List α):mrg cmp a []=a:=by cases a <;> simp [mrg]
theorem zje:∀(a b:List α),(mrg cmp a b).Perm (a++b)
 | [],b=>by simp [mrg]
 |x::a,[]=>by simp [mrg]
 |x::a,y::b=>by
  rw [mrg]
  split
  ·exact ((zje (x::a) b).cons y).trans (List.perm_middle (l₁:=x::a)).symm
  ·exact (zje a (y::b)).cons x
termination_by a b=>a.length+b.length
def LeC (a b:α):Prop:=cmp a b≤0
structure CmpOk:Prop where
 trans:∀a b c,cmp a b≤0→cmp b c≤0→cmp a c≤0
 anti:∀a b,cmp b a= - cmp a b
variable {cmp}
theorem zh3 (ok:CmpOk cmp):∀(a b:List α),a.Pairwise (LeC cmp)→b.Pairwise (LeC cmp)→(mrg cmp a b).Pairwise (LeC cmp)
 | [],b,_,hb=>by simpa [mrg] using hb
 |x::a,[],ha,_=>by simpa [mrg] using ha
 |x::a,y::b,ha,hb=>by
  rw [mrg]
  have ha':=List.pairwise_cons.1 ha
  have hb':=List.pairwise_cons.1 hb
  split
  ·rename_i h
   refine List.pairwise_cons.2 ⟨fun z hz=> ?_,zh3 ok (x::a) b ha hb'.2⟩
   have hz':=(zje cmp (x::a) b).mem_iff.1 hz
   rcases List.mem_append.1 hz' with hz'|hz'
   ·have hyx:LeC cmp y x:=Int.le_of_lt h
    rcases List.mem_cons.1 hz' with rfl|hz'
    ·exact hyx
    ·exact ok.trans _ _ _ hyx (ha'.1 z hz')
   ·exact hb'.1 z hz'
  ·rename_i h
   have hxy:LeC cmp x y:=by have:=ok.anti x y;show cmp x y≤0;omega
   refine List.pairwise_cons.2 ⟨fun z hz=> ?_,zh3 ok a (y::b) ha'.2 hb⟩
   have hz':=(zje cmp a (y::b)).mem_iff.1 hz
   rcases List.mem_append.1 hz' with hz'|hz'
   ·exact ha'.1 z hz'
   ·rcases List.mem_cons.1 hz' with rfl|hz'
    ·exact hxy
    ·exact ok.trans _ _ _ hxy (hb'.1 z hz')
termination_by a b=>a.length+b.length
variable (cmp)
variable {cmp}
end
section
variable {α:Type} [DecidableEq α] (cmp:α→α→Int)
variable {cmp}
end
section
variable {α:Type}
end
def yoh (p o:Int) (r:Mat):Bool:=r.p==p && r.o==o
def yoi (h:Hist) (p o:Int):Option Mat:=h.mats.find? (yoh p o)
def yok:Mat:=⟨0,0,false,[]⟩
def yoj (h:Hist) (p o:Int):Mat:=(yoi h p o).getD yok
def ylz (m:Mat) (ts:List Int):List Bool:=m.first::ts.map (fun t=>m.ts.contains t)
def yn0 (h:Hist) (p o:Int):List Bool:=ylz (yoj h p o) (zfm h o)
theorem zzi (m:Mat) (ts:List Int):(ylz m ts).length=ts.length+1:=by simp [ylz]
theorem tab_len (h:Hist) (p o:Int):(yn0 h p o).length=(zfm h o).length+1:=zzi _ _
structure Conf where
 f:Int
 t:Int
 k:Int
 a:Int
 b:Int
 o:Int
 p:Int
 deriving DecidableEq
abbrev RkM:=List ((Int×Int×Int)×Int)
def ztx (x:Int) (v:Ver):Int×Int×Int:=(x,v.t,v.k)
theorem zr5 {x y:Int} {v w:Ver}:ztx x v=ztx y w ↔ x=y∧v=w:=by
 cases v;cases w;simp [ztx]
def zy7 (h:Hist) (x t:Int):Ver:=ynp (ym8 h.evs t x)
def zfu (h:Hist) (x:Int):Nat→List Int→RkM→RkM
 |_,[],m=>m
 |i,t::r,m=>zfu h x (i+1) r (zee (ztx x (zy7 h x t)) ((i:Int)+1) m)
def zz3 (h:Hist) (x:Int) (m:RkM):RkM:=zfu h x 0 (zfm h x) (zee (ztx x ⟨0,0⟩) 0 m)
def rkM (h:Hist):Nat→RkM
 |0=> []
 |n+1=>zz3 h n (rkM h n)
theorem zl5 (h:Hist) (x:Int):∀(l:List Int) (i:Nat) (t:Int) (m:RkM),zfu h x i (l++ [t]) m=zee (ztx x (zy7 h x t)) (((i+l.length:Nat):Int)+1) (zfu h x i l m)
 | [],i,t,m=>by simp [zfu]
 |a::r,i,t,m=>by
  rw [List.cons_append,zfu,zl5 h x r (i+1) t,zfu,List.length_cons,show i+1+r.length=i+(r.length+1) by omega]
theorem yer {h:Hist} {x:Int} {l:List Int} {k:Nat} (hk:k < l.length) (m:RkM):zfu h x 0 (l.take (k+1)) m=zee (ztx x (zy7 h x l[k])) ((k:Int)+1) (zfu h x 0 (l.take k) m):=by
 rw [List.take_succ_eq_append_getElem hk,zl5,List.length_take,Nat.min_eq_left (by omega),Nat.zero_add]
theorem zj8 (h:Hist) {x y:Int} (hxy:y≠x) (v:Ver):∀(l:List Int) (i:Nat) (m:RkM),zbr (ztx y v) (zfu h x i l m)=zbr (ztx y v) m
 | [],_,_=>rfl
 |t::r,i,m=>by
  rw [zfu,zj8 h hxy v r (i+1),zc2,if_neg]
  intro e;exact hxy ((zr5.1 e).1).symm
theorem zv4 (h:Hist) (x:Int) (v:Ver):∀n:Nat,(n:Int)≤x∨x < 0→zbr (ztx x v) (rkM h n)=none
 |0,_=>rfl
 |n+1,hx=>by
  have hne:x≠(n:Int):=by omega
  rw [rkM,zz3,zj8 h hne,zc2,if_neg,zv4 h x v n (by omega)]
  intro e;exact hne ((zr5.1 e).1).symm
def zy4 (h:Hist) (x:Int) (v:Ver):Option Int:=zbr (ztx x v) (rkM h h.os.length)
theorem znh {α β:Type} {f g:α→Option β}:∀{l:List α},(∀a∈l,f a=g a)→l.filterMap f=l.filterMap g
 | [],_=>rfl
 |a::r,h=>by rw [List.filterMap_cons,List.filterMap_cons,h a (by simp),znh fun b hb=>h b (by simp [hb])]
section
variable {α:Type} {cmp:α→α→Int}
theorem zfw:∀(A1 B1 A2 B2:List α),(∀a∈A1,∀b∈B2,¬cmp b a < 0)→(∀b∈B1,∀a∈A2,cmp b a < 0)→mrg cmp (A1++A2) (B1++B2)=mrg cmp A1 B1++mrg cmp A2 B2
 | [],[],A2,B2,_,_=>by simp [mrg]
 | [],b::B,A2,B2,h1,h2=>by
   have ih:=zfw [] B A2 B2 (by simp) (fun b hb a ha=>h2 b (by simp [hb]) a ha)
   simp only [List.nil_append,mrg] at ih ⊢
   cases A2 with
   |nil=>rw [List.cons_append,mrg,←List.cons_append];simp [mrg]
   |cons a r=>rw [List.cons_append,mrg,if_pos (h2 b (by simp) a (by simp)),ih];rfl
 |a::A,[],A2,B2,h1,h2=>by
  have ih:=zfw A [] A2 B2 (fun a ha b hb=>h1 a (by simp [ha]) b hb) (by simp)
  rw [ze8] at ih ⊢
  simp only [List.nil_append] at ih ⊢
  cases B2 with
  |nil=>rw [ze8,ze8]
  |cons b r=>rw [List.cons_append,mrg,if_neg (h1 a (by simp) b (by simp)),ih];rfl
 |a::A,b::B,A2,B2,h1,h2=>by
  rw [List.cons_append,List.cons_append,mrg,mrg]
  by_cases q:cmp b a < 0
  ·rw [if_pos q,if_pos q]
   have ih:=zfw (a::A) B A2 B2 h1 (fun b hb a ha=>h2 b (by simp [hb]) a ha)
   rw [List.cons_append] at ih
   rw [ih];rfl
  ·rw [if_neg q,if_neg q]
   have ih:=zfw A (b::B) A2 B2 (fun a ha b hb=>h1 a (by simp [ha]) b hb) h2
   rw [List.cons_append] at ih
   rw [ih];rfl
termination_by A1 B1=>A1.length+B1.length
theorem zjf (ok:CmpOk cmp) {L R:List α} (hL:L.Pairwise (LeC cmp)) (hR:R.Pairwise (LeC cmp)) {x y:Nat} (hx:x≤L.length) (hy:y≤R.length)
 (h1:∀_:1≤x,∀hy:y < R.length,¬cmp R[y] (L[x - 1]'(by omega)) < 0) (h2:∀hx:x < L.length,∀_:1≤y,cmp (R[y - 1]'(by omega)) L[x] < 0):
 mrg cmp L R=mrg cmp (L.take x) (R.take y)++mrg cmp (L.drop x) (R.drop y):=by
 have le:∀{l:List α},l.Pairwise (LeC cmp)→∀i j,(hi:i < l.length)→(hj:j < l.length)→i≤j→cmp l[i] l[j]≤0:=fun {l} hl i j hi hj hij=>by
  rcases Nat.lt_or_eq_of_le hij with q|q
  ·exact (List.pairwise_iff_getElem.1 hl) i j hi hj q
  ·subst q;have:=ok.anti l[i] l[i];omega
 rw [←zfw,List.take_append_drop,List.take_append_drop]
 ·intro a ha b hb hlt
  obtain ⟨i,hi,rfl⟩:=List.mem_iff_getElem.1 ha
  obtain ⟨j,hj,rfl⟩:=List.mem_iff_getElem.1 hb
  simp only [List.length_take,List.length_drop] at hi hj
  rw [List.getElem_take,List.getElem_drop] at hlt
  have e:=h1 (by omega) (by omega)
  have q1:=le hL i (x - 1) (by omega) (by omega) (by omega)
  have q2:=le hR y (y+j) (by omega) (by omega) (by omega)
  have q3:=ok.anti R[y] (L[x - 1]'(by omega))
  have q4:=ok.trans _ _ _ q1 (show cmp (L[x - 1]'(by omega)) R[y]≤0 by omega)
  have q5:=ok.trans _ _ _ q4 q2
  have q6:=ok.anti (R[y+j]'(by omega)) (L[i]'(by omega))
  omega
 ·intro b hb a ha
  obtain ⟨j,hj,rfl⟩:=List.mem_iff_getElem.1 hb
  obtain ⟨i,hi,rfl⟩:=List.mem_iff_getElem.1 ha
  simp only [List.length_take,List.length_drop] at hi hj
  rw [List.getElem_take,List.getElem_drop]
  have e:=h2 (by omega) (by omega)
  have q1:=le hR j (y - 1) (by omega) (by omega) (by omega)
  have q2:=le hL x (x+i) (by omega) (by omega) (by omega)
  have q4:=ok.trans _ _ _ q1 (Int.le_of_lt e)
  have q5:=ok.trans _ _ _ q4 q2
  rcases Int.lt_or_eq_of_le q5 with z|z
  ·exact z
  ·exfalso
   have a1:=ok.anti (R[j]'(by omega)) (L[x+i]'(by omega))
   have a2:=ok.trans _ _ _ q2 (show cmp (L[x+i]'(by omega)) (R[j]'(by omega))≤0 by omega)
   have a3:=ok.trans _ _ _ a2 q1
   have a4:=ok.anti L[x] (R[y - 1]'(by omega))
   omega
end
section
variable {α:Type} (key:α→Int)
def za4 (a b:α):Int:=key a - key b
theorem zpl:CmpOk (za4 key):=⟨fun a b c h k=>by simp only [za4] at *;omega,fun a b=>by simp only [za4];omega⟩
def zn7 (l m:List α):Prop:=m.Pairwise (LeC (za4 key))∧∀x,(m.filter fun a=>key a==x)=l.filter fun a=>key a==x
theorem zh4 (x:Int):∀(A B:List α),A.Pairwise (LeC (za4 key))→B.Pairwise (LeC (za4 key))→((mrg (za4 key) A B).filter fun a=>key a==x)=(A.filter fun a=>key a==x)++B.filter fun a=>key a==x
 | [],B,_,_=>by simp [mrg]
 |a::A,[],_,_=>by simp [mrg]
 |a::A,b::B,hA,hB=>by
  have hA':=List.pairwise_cons.1 hA
  have hB':=List.pairwise_cons.1 hB
  rw [mrg]
  split
  ·rename_i q
   have q:key b < key a:=by simp only [za4] at q;omega
   rw [List.filter_cons,zh4 x (a::A) B hA hB'.2,List.filter_cons (x:=b)]
   by_cases e:key b=x
   ·have hn:(a::A).filter (fun a=>key a==x)= []:=by
     rw [List.filter_eq_nil_iff]
     intro z hz
     have:key a≤key z:=by
      rcases List.mem_cons.1 hz with rfl|hz
      ·exact Int.le_refl _
      ·have h0:key a - key z≤0:=hA'.1 z hz
       omega
     simp;omega
    rw [hn];simp [e]
   ·simp [e]
  ·rw [List.filter_cons,zh4 x A (b::B) hA'.2 hB,List.filter_cons (x:=a)]
   split <;> simp
termination_by A B=>A.length+B.length
theorem zsd {l1 l2 m1 m2:List α} (h1:zn7 key l1 m1) (h2:zn7 key l2 m2):zn7 key (l1++l2) (mrg (za4 key) m1 m2):=
 ⟨zh3 (zpl key) _ _ h1.1 h2.1,fun x=>by rw [zh4 key x _ _ h1.1 h2.1,h1.2,h2.2,List.filter_append]⟩
theorem zzo (a:α):zn7 key [a] [a]:=⟨by simp,fun _=>rfl⟩
theorem zsc:zn7 key ([]:List α) []:=⟨.nil,fun _=>rfl⟩
theorem zep {β:Type} {f g:Int→List β}:∀{l:List Int},(∀a∈l,f a=g a)→l.flatMap f=l.flatMap g
 | [],_=>rfl
 |a::r,h=>by rw [List.flatMap_cons,List.flatMap_cons,h a (by simp),zep fun b hb=>h b (by simp [hb])]
theorem ydv (n:Nat) {x:Int} (h:x∈upR n):0≤x∧x < n:=by
 rw [upR,List.mem_map] at h
 obtain ⟨k,hk,rfl⟩:=h
 have:=List.mem_range.1 hk
 omega
theorem zj3:∀(n:Nat) (l:List α),l.Pairwise (LeC (za4 key))→(∀a∈l,0≤key a∧key a < n)→l=(upR n).flatMap fun x=>l.filter fun a=>key a==x
 |0,l,_,h=>by
  have:l= []:=by
   cases l with
   |nil=>rfl
   |cons a r=>have:=h a (by simp);omega
  subst this;rfl
 |n+1,l,hs,h=>by
  have e:∀l:List α,l.Pairwise (LeC (za4 key))→(∀a∈l,0≤key a∧key a < (n+1:Nat))→l=(l.filter fun a=>decide (key a < n))++l.filter fun a=>key a==(n:Int):=by
   intro l
   induction l with
   |nil=>intro _ _;rfl
   |cons a r ih=>
    intro hs h
    have hs':=List.pairwise_cons.1 hs
    have ihr:=ih hs'.2 fun z hz=>h z (by simp [hz])
    have ha:=h a (by simp)
    rw [List.filter_cons,List.filter_cons]
    by_cases q:key a < n
    ·rw [if_pos (by simpa using q),if_neg (by simp;omega),List.cons_append,←ihr]
    ·have hr:r.filter (fun a=>decide (key a < n))= []:=by
      rw [List.filter_eq_nil_iff]
      intro z hz
      have h0:key a - key z≤0:=hs'.1 z hz
      simp;omega
     rw [hr,List.nil_append] at ihr
     rw [if_neg (by simpa using q),hr,List.nil_append,if_pos (by simp;omega),←ihr]
  have h1:=e l hs h
  have hs1:(l.filter fun a=>decide (key a < n)).Pairwise (LeC (za4 key)):=hs.filter _
  have ih:=zj3 n (l.filter fun a=>decide (key a < n)) hs1 fun a ha=>by
   obtain ⟨m1,m2⟩:=List.mem_filter.1 ha
   exact ⟨(h a m1).1,by simpa using m2⟩
  rw [yhm,List.flatMap_append]
  conv=>lhs;rw [h1,ih]
  congr 1
  ·refine zep fun x hx=> ?_
   rw [List.filter_filter]
   refine List.filter_congr fun a _=> ?_
   have:=ydv n hx
   by_cases q:key a=x
   ·simp [q];omega
   ·simp [q]
  ·simp
theorem zvq {n:Nat} {l m:List α} (h:zn7 key l m) (hk:∀a∈l,0≤key a∧key a < n):m=(upR n).flatMap fun x=>l.filter fun a=>key a==x:=by
 have hm:∀a∈m,a∈l:=fun a ha=>by
  have:a∈m.filter fun b=>key b==key a:=List.mem_filter.2 ⟨ha,by simp⟩
  rw [h.2] at this
  exact (List.mem_filter.1 this).1
 conv=>lhs;rw [zj3 key n m h.1 fun a ha=>hk a (hm a ha)]
 exact zep fun x _=>h.2 x
end
section
variable {α:Type}
def swp (l:List α) (i j:Nat):List α:=match l[i]?,l[j]? with
 |some x,some y=>(l.set i y).set j x
 |_,_=>l
theorem zsa {l:List α} {i j:Nat} {x y:α} (hi:l[i]? =some x) (hj:l[j]? =some y):swp l i j=(l.set i y).set j x:=by
 rw [swp,hi,hj]
theorem yd2 (l:List α) (i j:Nat):(swp l i j).length=l.length:=by
 unfold swp;split <;> simp
theorem zqc (A B C:List α) (x y:α):swp (A++x::(B++y::C)) A.length (A.length+1+B.length)=A++y::(B++x::C):=by
 have h1:(A++x::(B++y::C))[A.length]? =some x:=by simp
 have h2:(A++x::(B++y::C))[A.length+1+B.length]? =some y:=by
  rw [List.getElem?_append_right (by omega),show A.length+1+B.length - A.length=B.length+1 by omega,List.getElem?_cons_succ];simp
 rw [zsa h1 h2,List.set_append_right _ _ (Nat.le_refl _),Nat.sub_self,List.set_cons_zero,List.set_append_right _ _ (by omega),show A.length+1+B.length - A.length=B.length+1 by omega,List.set_cons_succ,List.set_append_right _ _ (Nat.le_refl _),Nat.sub_self,List.set_cons_zero]
def swN (l:List α) (a b:Nat):Nat→List α
 |0=>l
 |n+1=>swp (swN l a b n) (a+n) (b+n)
theorem zj2 (l:List α) (a b:Nat):∀n,(swN l a b n).length=l.length
 |0=>rfl
 |n+1=>by rw [swN,yd2,zj2]
theorem yci {P X W Y Z:List α} (hXY:X.length=Y.length):∀n,n≤X.length→swN (P++(X++(W++(Y++Z)))) P.length (P.length+X.length+W.length) n=P++(Y.take n++(X.drop n++(W++(X.take n++(Y.drop n++Z)))))
 |0,_=>by simp [swN]
 |n+1,hn=>by
  have hx:n < X.length:=hn
  have hy:n < Y.length:=by omega
  rw [swN,yci hXY n (by omega),List.drop_eq_getElem_cons hx,List.drop_eq_getElem_cons hy]
  have key:=zqc (P++Y.take n) (X.drop (n+1)++(W++X.take n)) (Y.drop (n+1)++Z) X[n] Y[n]
  have e1:(P++Y.take n).length=P.length+n:=by simp;omega
  have e2:(P++Y.take n).length+1+(X.drop (n+1)++(W++X.take n)).length=P.length+X.length+W.length+n:=by simp;omega
  rw [e2,e1] at key
  have e3:P++(Y.take n++(X[n]::X.drop (n+1)++(W++(X.take n++(Y[n]::Y.drop (n+1)++Z)))))=P++Y.take n++X[n]::(X.drop (n+1)++(W++X.take n)++Y[n]::(Y.drop (n+1)++Z)):=by simp only [List.append_assoc,List.cons_append]
  rw [e3,key,List.take_succ_eq_append_getElem hx,List.take_succ_eq_append_getElem hy]
  simp only [List.append_assoc,List.cons_append,List.nil_append]
theorem zms {P X W Y Z:List α} (hXY:X.length=Y.length):swN (P++(X++(W++(Y++Z)))) P.length (P.length+X.length+W.length) X.length=P++(Y++(W++(X++Z))):=by
 rw [yci hXY _ (Nat.le_refl _),List.take_length,List.drop_length,hXY,List.take_length,List.drop_length];simp
def Rot (m i j:Nat) (cur T:List α):Prop:=∃P I J Z,cur=P++(I++(J++Z))∧P.length+i=m∧I.length=i∧J.length=j∧P++(J++(I++Z))=T
theorem yic {m i j:Nat} {cur T:List α} (h:Rot m i j cur T) (hij:j < i):Rot m (i - j) j (swN cur (m - i) m j) T:=by
 obtain ⟨P,I,J,Z,rfl,hp,hi,hj,rfl⟩:=h
 have e:I=I.take j++I.drop j:=(List.take_append_drop j I).symm
 have hX:(I.take j).length=J.length:=by rw [List.length_take];omega
 have key:=zms (P:=P) (X:=I.take j) (W:=I.drop j) (Y:=J) (Z:=Z) hX
 have e1:P.length+(I.take j).length+(I.drop j).length=m:=by simp;omega
 rw [e1,show (I.take j).length=j by omega] at key
 refine ⟨P++J,I.drop j,I.take j,Z,?_,by simp;omega,by simp;omega,by omega,?_⟩
 ·conv=>lhs;rw [e]
  rw [show m - i=P.length by omega,List.append_assoc (I.take j),key,List.append_assoc]
 ·rw [←List.append_assoc (I.take j) (I.drop j) Z,List.take_append_drop,List.append_assoc]
theorem yib {m i j:Nat} {cur T:List α} (h:Rot m i j cur T) (hij:i < j):Rot m i (j - i) (swN cur (m - i) (m+j - i) i) T:=by
 obtain ⟨P,I,J,Z,rfl,hp,hi,hj,rfl⟩:=h
 have e:J=J.take (j - i)++J.drop (j - i):=(List.take_append_drop _ J).symm
 have hX:I.length=(J.drop (j - i)).length:=by rw [List.length_drop];omega
 have key:=zms (P:=P) (X:=I) (W:=J.take (j - i)) (Y:=J.drop (j - i)) (Z:=Z) hX
 have e1:P.length+I.length+(J.take (j - i)).length=m+j - i:=by simp;omega
 rw [e1,hi] at key
 refine ⟨P,J.drop (j - i),J.take (j - i),I++Z,?_,hp,by omega,by rw [List.length_take];omega,?_⟩
 ·conv=>lhs;rw [e]
  rw [show m - i=P.length by omega,List.append_assoc (J.take (j - i)),key]
 ·rw [←List.append_assoc (J.take (j - i)) (J.drop (j - i)) (I++Z),List.take_append_drop]
theorem yid {m i:Nat} {cur T:List α} (h:Rot m i i cur T):swN cur (m - i) m i=T:=by
 obtain ⟨P,I,J,Z,rfl,hp,hi,hj,rfl⟩:=h
 have key:=zms (P:=P) (X:=I) (W:= []) (Y:=J) (Z:=Z) (by omega)
 simp only [List.nil_append,List.length_nil,Nat.add_zero] at key
 rw [hi,hp] at key
 rw [show m - i=P.length by omega];exact key
end
section
variable {α:Type} {cmp:α→α→Int}
def isL (cmp:α→α→Int) (l:List α):List α:=l.foldl (fun s x=>mrg cmp s [x]) []
theorem yjq (l:List α) (x:α):isL cmp (l++ [x])=mrg cmp (isL cmp l) [x]:=by rw [isL,List.foldl_append];rfl
theorem zel:∀A B:List α,(mrg cmp A B).length=A.length+B.length
 | [],B=>by simp [mrg]
 |a::A,[]=>by simp [mrg]
 |a::A,b::B=>by
  rw [mrg];split
  ·rw [List.length_cons,zel (a::A) B];simp;omega
  ·rw [List.length_cons,zel A (b::B)];simp;omega
termination_by A B=>A.length+B.length
theorem zg0 (l:List α):(isL cmp l).length=l.length:=by
 suffices ∀(l s:List α),(l.foldl (fun s x=>mrg cmp s [x]) s).length=s.length+l.length by simpa [isL] using this l []
 intro l
 induction l with
 |nil=>intro s;simp
 |cons a l ih=>intro s;rw [List.foldl_cons,ih,zel];simp;omega
theorem yap {A:List α} {x:α} (h:∀a∈A,cmp x a < 0):mrg cmp A [x]=x::A:=by
 cases A with
 |nil=>simp [mrg]
 |cons a r=>rw [mrg,if_pos (h a (by simp)),ze8]
theorem yfx (ok:CmpOk cmp) {S:List α} (hS:S.Pairwise (LeC cmp)) {x:α} {k:Nat} (hk:k≤S.length) (h1:∀a∈S.drop k,cmp x a < 0) (h2:∀_:1≤k,¬cmp x (S[k - 1]'(by omega)) < 0):mrg cmp S [x]=S.take k++x::S.drop k:=by
 rw [zjf ok hS (R:= [x]) (by simp) hk (Nat.zero_le _) (fun hk1 _=>h2 hk1) (fun _ h=>by omega)]
 simp only [List.take_zero,List.drop_zero,ze8]
 rw [yap h1]
end
section
variable {α:Type} (key:α→Int)
theorem zmt (l:List α):zn7 key l (isL (za4 key) l):=by
 suffices ∀n,n≤l.length→zn7 key (l.take n) (isL (za4 key) (l.take n)) by simpa using this l.length (Nat.le_refl _)
 intro n
 induction n with
 |zero=>intro _;simpa [isL] using zsc key
 |succ n ih=>
  intro hn
  rw [List.take_succ_eq_append_getElem hn,yjq]
  exact zsd key (ih (by omega)) (zzo key _)
def zlk (D:List (List α×List α)):Nat:=(D.map fun p=>p.2.length).sum
def zr0 (D:List (List α×List α)):Prop:=∀p∈D,zn7 key p.1 p.2∧p.2.length=p.1.length
def Bl (bs:Nat):List (List α×List α)→Prop
 | []=>True
 | [p]=>p.2.length≤bs
 |p::q::r=>p.2.length=bs∧Bl bs (q::r)
def Fst (D:List (List α×List α)):List α:=(D.map Prod.fst).flatten
def Snd (D:List (List α×List α)):List α:=(D.map Prod.snd).flatten
theorem zej (D:List (List α×List α)):(Snd D).length=zlk D:=by simp [Snd,zlk,List.length_flatten,Function.comp_def]
theorem zkn (D E:List (List α×List α)):Fst (D++E)=Fst D++Fst E:=by simp [Fst]
theorem zj4 (D E:List (List α×List α)):Snd (D++E)=Snd D++Snd E:=by simp [Snd]
theorem zsu {x y:List α×List α} (hx:zn7 key x.1 x.2∧x.2.length=x.1.length) (hy:zn7 key y.1 y.2∧y.2.length=y.1.length):zn7 key (x.1++y.1) (mrg (za4 key) x.2 y.2)∧(mrg (za4 key) x.2 y.2).length=(x.1++y.1).length:=
 ⟨zsd key hx.1 hy.1,by rw [zel,List.length_append,hx.2,hy.2]⟩
theorem yku {bs:Nat} (h0:1≤bs) {D:List (List α×List α)} (hB:Bl bs D) (ht:2 * bs≤zlk D):∃x y r,D=x::y::r∧x.2.length=bs∧y.2.length=bs∧Bl bs r:=by
 match D,hB,ht with
 | [],_,ht=>simp [zlk] at ht;omega
 | [p],hB,ht=>have hB:p.2.length≤bs:=hB;simp [zlk] at ht;omega
 | [x,y],hB,ht=>
   obtain ⟨h1,h2⟩:=hB
   have h2:y.2.length≤bs:=h2
   refine ⟨x,y,[],rfl,h1,?_,trivial⟩
   simp [zlk] at ht;omega
 |x::y::z::r,hB,ht=>exact ⟨x,y,z::r,rfl,hB.1,hB.2.1,hB.2.2⟩
theorem ydd {bs:Nat} {D:List (List α×List α)} (hB:Bl bs D) (hP:zr0 key D) (ht:zlk D < 2 * bs):(zlk D≤bs∧zn7 key (Fst D) (Snd D)∧(Snd D).length=(Fst D).length)∨(bs < zlk D∧∃x y,D= [x,y]∧x.2.length=bs):=by
 match D,hB,hP,ht with
 | [],_,_,_=>exact .inl ⟨by simp [zlk],zsc key,rfl⟩
 | [p],hB,hP,_=>
   have h:=hP p (by simp)
   exact .inl ⟨by simpa [zlk,Bl] using hB,by simpa [Fst,Snd] using h.1,by simpa [Fst,Snd] using h.2⟩
 | [x,y],hB,hP,ht=>
   obtain ⟨h1,h2⟩:=hB
   have hx:=hP x (by simp)
   have hy:=hP y (by simp)
   by_cases q:y.2= []
   ·have q1:y.1= []:=by
     have:=hy.2
     rw [q] at this
     exact List.eq_nil_of_length_eq_zero this.symm
    exact .inl ⟨by simp [zlk,q,h1],by simpa [Fst,Snd,q,q1] using hx.1,by simpa [Fst,Snd,q,q1] using hx.2⟩
   ·refine .inr ⟨?_,x,y,rfl,h1⟩
    have:0 < y.2.length:=List.length_pos_iff.2 q
    simp [zlk,h1];omega
 |x::y::z::r,hB,hP,ht=>
  obtain ⟨h1,h2,_⟩:=hB
  simp [zlk] at ht;omega
end
section
variable {α:Type} (key:α→Int)
def St1 (bs:Nat) (l cur:List α) (a:Nat):Prop:=∃D R,zr0 key D∧(∀p∈D,p.2.length=bs)∧l=Fst D++R∧cur=Snd D++R∧a=bs * D.length
def St2 (bs:Nat) (l cur:List α):Prop:=∃D,zr0 key D∧Bl bs D∧l=Fst D∧cur=Snd D
def St3 (bs:Nat) (l cur:List α) (a:Nat):Prop:=∃E D,zr0 key E∧zr0 key D∧(∀p∈E,p.2.length=2 * bs)∧Bl bs D∧l=Fst E++Fst D∧cur=Snd E++Snd D∧a=2 * bs * E.length
theorem zga {bs:Nat}:∀{D:List (List α×List α)},(∀p∈D,p.2.length=bs)→zlk D=bs * D.length
 | [],_=>by simp [zlk]
 |p::D,h=>by
  have h1:=zga (D:=D) fun q hq=>h q (by simp [hq])
  have h2:=h p (by simp)
  have e:zlk (p::D)=p.2.length+zlk D:=by simp [zlk]
  rw [e,h1,h2,List.length_cons,Nat.mul_succ];omega
theorem znq {bs:Nat}:∀{D:List (List α×List α)} {p:List α×List α},(∀q∈D,q.2.length=bs)→p.2.length≤bs→Bl bs (D++ [p])
 | [],p,_,hp=>hp
 | [q],p,h,hp=>⟨h q (by simp),hp⟩
 |q::r::D,p,h,hp=>⟨h q (by simp),znq (D:=r::D) (fun z hz=>h z (by simp [hz])) hp⟩
variable {key}
theorem zey {D:List (List α×List α)} {p:List α×List α} (hD:zr0 key D) (hp:zn7 key p.1 p.2∧p.2.length=p.1.length):zr0 key (D++ [p]):=fun q hq=>by
 rcases List.mem_append.1 hq with h|h
 ·exact hD q h
 ·rw [List.mem_singleton.1 h];exact hp
theorem yl4 (bs:Nat) (l:List α):St1 key bs l l 0:=⟨[],l,fun p hp=>by simp at hp,fun p hp=>by simp at hp,by simp [Fst],by simp [Snd],by simp⟩
theorem zzr {bs a:Nat} {l cur:List α} (h:St1 key bs l cur a) (hb:a+bs≤cur.length):∃P M Z,cur=P++(M++Z)∧P.length=a∧M.length=bs∧St1 key bs l (P++(isL (za4 key) M++Z)) (a+bs):=by
 obtain ⟨D,R,h1,h2,rfl,rfl,rfl⟩:=h
 have e:(Snd D).length=bs * D.length:=by rw [zej,zga h2]
 rw [List.length_append,e] at hb
 have eR:R=R.take bs++R.drop bs:=(List.take_append_drop bs R).symm
 have hm:(R.take bs).length=bs:=by rw [List.length_take];omega
 refine ⟨Snd D,R.take bs,R.drop bs,by rw [List.take_append_drop],e,hm,D++ [(R.take bs,isL (za4 key) (R.take bs))],R.drop bs,zey h1 ⟨zmt key _,zg0 _⟩,fun p hp=> ?_,?_,?_,by rw [List.length_append,List.length_singleton,Nat.mul_add];omega⟩
 ·rcases List.mem_append.1 hp with h|h
  ·exact h2 p h
  ·rw [List.mem_singleton.1 h,zg0,hm]
 ·rw [zkn];simp [Fst]
 ·rw [zj4];simp [Snd]
theorem yd7 {bs a:Nat} {l cur:List α} (h:St1 key bs l cur a) (hb:cur.length < a+bs):∃P M,cur=P++M∧P.length=a∧St2 key bs l (P++isL (za4 key) M):=by
 obtain ⟨D,R,h1,h2,rfl,rfl,rfl⟩:=h
 have e:(Snd D).length=bs * D.length:=by rw [zej,zga h2]
 rw [List.length_append,e] at hb
 refine ⟨Snd D,R,rfl,e,D++ [(R,isL (za4 key) R)],zey h1 ⟨zmt key _,zg0 _⟩,znq h2 (by rw [zg0];omega),?_,?_⟩
 ·rw [zkn];simp [Fst]
 ·rw [zj4];simp [Snd]
theorem yl3 {bs:Nat} {l cur:List α} (h:St2 key bs l cur):St3 key bs l cur 0:=by
 obtain ⟨D,h1,h2,rfl,rfl⟩:=h
 exact ⟨[],D,fun p hp=>by simp at hp,h1,fun p hp=>by simp at hp,h2,by simp [Fst],by simp [Snd],by simp⟩
theorem yd4 {bs a:Nat} {l cur:List α} (h:St3 key bs l cur a):a≤cur.length:=by
 obtain ⟨E,D,h1,h2,h3,h4,rfl,rfl,rfl⟩:=h
 rw [List.length_append,zej,zga h3];omega
theorem zzq {bs a:Nat} (h0:1≤bs) {l cur:List α} (h:St3 key bs l cur a) (hb:a+2 * bs≤cur.length):∃P L R Z,cur=P++(L++(R++Z))∧P.length=a∧L.length=bs∧R.length=bs∧L.Pairwise (LeC (za4 key))∧R.Pairwise (LeC (za4 key))∧St3 key bs l (P++(mrg (za4 key) L R++Z)) (a+2 * bs):=by
 obtain ⟨E,D,h1,h2,h3,h4,rfl,rfl,rfl⟩:=h
 have e:(Snd E).length=2 * bs * E.length:=by rw [zej,zga h3]
 rw [List.length_append,e,zej] at hb
 obtain ⟨x,y,r,rfl,hx,hy,hr⟩:=yku h0 h4 (by omega)
 have px:=h2 x (by simp)
 have py:=h2 y (by simp)
 refine ⟨Snd E,x.2,y.2,Snd r,by simp [Snd],e,hx,hy,px.1.1,py.1.1,E++ [(x.1++y.1,mrg (za4 key) x.2 y.2)],r,zey h1 (zsu key px py),fun p hp=>h2 p (by simp [hp]),fun p hp=> ?_,hr,?_,?_,by rw [List.length_append,List.length_singleton,Nat.mul_add];omega⟩
 ·rcases List.mem_append.1 hp with h|h
  ·exact h3 p h
  ·rw [List.mem_singleton.1 h,zel];omega
 ·rw [zkn];simp [Fst]
 ·rw [zj4];simp [Snd]
theorem yd5 {bs a:Nat} {l cur:List α} (h:St3 key bs l cur a) (hb:cur.length < a+2 * bs):(cur.length≤a+bs∧St2 key (2 * bs) l cur)∨(a+bs < cur.length∧∃P L R,cur=P++(L++R)∧P.length=a∧L.length=bs∧L.Pairwise (LeC (za4 key))∧R.Pairwise (LeC (za4 key))∧St2 key (2 * bs) l (P++mrg (za4 key) L R)):=by
 obtain ⟨E,D,h1,h2,h3,h4,rfl,rfl,rfl⟩:=h
 have e:(Snd E).length=2 * bs * E.length:=by rw [zej,zga h3]
 rw [List.length_append,e,zej] at hb
 rw [List.length_append,e,zej]
 rcases ydd key h4 h2 (by omega) with ⟨q1,q2,q3⟩|⟨q1,x,y,rfl,hx⟩
 ·refine .inl ⟨by omega,E++ [(Fst D,Snd D)],zey h1 ⟨q2,q3⟩,znq h3 (by rw [zej];omega),?_,?_⟩
  ·rw [zkn];simp [Fst]
  ·rw [zj4];simp [Snd]
 ·have px:=h2 x (by simp)
  have py:=h2 y (by simp)
  have ht:zlk [x,y]=x.2.length+y.2.length:=by simp [zlk]
  refine .inr ⟨by omega,Snd E,x.2,y.2,by simp [Snd],e,hx,px.1.1,py.1.1,E++ [(x.1++y.1,mrg (za4 key) x.2 y.2)],zey h1 (zsu key px py),znq h3 (by rw [zel];omega),?_,?_⟩
  ·rw [zkn];simp [Fst]
  ·rw [zj4];simp [Snd]
theorem yd6 {bs:Nat} (h0:1≤bs) {l cur:List α} (h:St2 key bs l cur) (hb:cur.length≤bs):zn7 key l cur:=by
 obtain ⟨D,h1,h2,rfl,rfl⟩:=h
 rw [zej] at hb
 rcases ydd key h2 h1 (by omega) with ⟨_,q2,_⟩|⟨q1,_⟩
 ·exact q2
 ·omega
end
section
variable {α:Type} {cmp:α→α→Int}
theorem yfg (ok:CmpOk cmp) {x:α} {R:List α} (hR:R.Pairwise (LeC cmp)) {y:Nat} (hy:y≤R.length) (h1:∀_:1≤y,cmp (R[y - 1]'(by omega)) x < 0) (h2:∀h:y < R.length,¬cmp R[y] x < 0):mrg cmp [x] R=R.take y++x::R.drop y:=by
 rw [zjf ok (L:= [x]) (by simp) hR (x:=0) (Nat.zero_le _) hy (fun h _=>by omega) (fun _ hy=>h1 hy)]
 simp only [List.take_zero,List.drop_zero,List.nil_append]
 rw [show mrg cmp [] (R.take y)=R.take y by simp [mrg]]
 congr 1
 cases hd:R.drop y with
 |nil=>rw [ze8]
 |cons b r=>
  have hlt:y < R.length:=by
   have:=congrArg List.length hd
   simp at this;omega
  rw [List.drop_eq_getElem_cons hlt] at hd
  injection hd with e1 e2
  have h3:=h2 hlt
  rw [e1] at h3
  rw [mrg,if_neg h3];simp [mrg]
theorem yao (ok:CmpOk cmp) {y:α} {L:List α} (hL:L.Pairwise (LeC cmp)) {x:Nat} (hx:x≤L.length) (h1:∀_:1≤x,¬cmp y (L[x - 1]'(by omega)) < 0) (h2:∀h:x < L.length,cmp y L[x] < 0):mrg cmp L [y]=L.take x++y::L.drop x:=by
 rw [zjf ok hL (R:= [y]) (by simp) hx (y:=0) (Nat.zero_le _) (fun h _=>h1 h) (fun _ h=>by omega)]
 simp only [List.take_zero,List.drop_zero,ze8]
 congr 1
 cases hd:L.drop x with
 |nil=>simp [mrg]
 |cons b r=>
  have hlt:x < L.length:=by
   have:=congrArg List.length hd
   simp at this;omega
  rw [List.drop_eq_getElem_cons hlt] at hd
  injection hd with e1 e2
  have h3:=h2 hlt
  rw [e1] at h3
  rw [mrg,if_pos h3,ze8]
theorem ymq {P Z:List α} {x:α} {R:List α} {k:Nat} (hk:k < R.length):swp (P++(R.take k++x::(R.drop k++Z))) (P.length+k) (P.length+k+1)=P++(R.take (k+1)++x::(R.drop (k+1)++Z)):=by
 have key:=zqc (P++R.take k) [] (R.drop (k+1)++Z) x R[k]
 have e1:(P++R.take k).length=P.length+k:=by simp;omega
 rw [e1,List.length_nil,Nat.add_zero,List.nil_append,List.nil_append] at key
 rw [List.drop_eq_getElem_cons hk,List.take_succ_eq_append_getElem hk]
 simp only [List.append_assoc,List.cons_append,List.nil_append] at key ⊢
 exact key
theorem ymr {P Z:List α} {y:α} {L:List α} {k:Nat} (hk:k < L.length):swp (P++(L.take (k+1)++y::(L.drop (k+1)++Z))) (P.length+k) (P.length+k+1)=P++(L.take k++y::(L.drop k++Z)):=by
 have key:=zqc (P++L.take k) [] (L.drop (k+1)++Z) L[k] y
 have e1:(P++L.take k).length=P.length+k:=by simp;omega
 rw [e1,List.length_nil,Nat.add_zero,List.nil_append,List.nil_append] at key
 rw [List.drop_eq_getElem_cons hk,List.take_succ_eq_append_getElem hk]
 simp only [List.append_assoc,List.cons_append,List.nil_append] at key ⊢
 exact key
end
section
variable {α:Type} {cmp:α→α→Int}
def SmI (cmp:α→α→Int) (L R:List α) (a m b mid s0 r0 s r:Nat):Prop:=s0≤s∧s≤r∧r≤r0∧
 (s0 < s→∀u v,R[mid - s]? =some u→L[s - 1 - a]? =some v→¬cmp u v < 0)∧(r < r0→∀u v,R[mid - 1 - r]? =some u→L[r - a]? =some v→cmp u v < 0)
def SmS (L R:List α) (a m b mid s0 r0:Nat):Prop:=a+L.length=m∧m+R.length=b∧mid=(a+b) / 2∧((mid < m∧s0=mid+m - b∧r0=mid)∨(m≤mid∧s0=a∧r0=m))
theorem yn6 {L R:List α} {a m b mid s0 r0:Nat} (h:SmS L R a m b mid s0 r0):SmI cmp L R a m b mid s0 r0 s0 r0:=by
 obtain ⟨h1,h2,h3,h4⟩:=h
 exact ⟨Nat.le_refl _,by omega,Nat.le_refl _,fun q=>by omega,fun q=>by omega⟩
theorem yl5 {L R:List α} {a m b mid s0 r0 s r:Nat} (hS:SmS L R a m b mid s0 r0) (h:SmI cmp L R a m b mid s0 r0 s r) (hsr:s < r):a≤(s+r) / 2∧(s+r) / 2 < m∧m≤mid+m - 1 - (s+r) / 2∧mid+m - 1 - (s+r) / 2 < b∧(s+r) / 2 - a < L.length∧mid+m - 1 - (s+r) / 2 - m < R.length∧mid+m - 1 - (s+r) / 2 - m=mid - 1 - (s+r) / 2∧(s+r) / 2≤mid+m - 1∧s≤(s+r) / 2∧(s+r) / 2 < r:=by
 obtain ⟨h1,h2,h3,h4⟩:=hS
 obtain ⟨g1,g2,g3,_⟩:=h
 omega
theorem yn4 {L R:List α} {a m b mid s0 r0 s r c:Nat} (hS:SmS L R a m b mid s0 r0) (h:SmI cmp L R a m b mid s0 r0 s r) (hsr:s < r) (hc:c=(s+r) / 2) {u v:α} (hu:R[mid - 1 - c]? =some u) (hv:L[c - a]? =some v) (hn:¬cmp u v < 0):SmI cmp L R a m b mid s0 r0 (c+1) r:=by
 have hb:=yl5 hS h hsr
 obtain ⟨g1,g2,g3,g4,g5⟩:=h
 subst hc
 refine ⟨by omega,by omega,g3,fun _ u' v' e1 e2=> ?_,g5⟩
 rw [show mid - ((s+r) / 2+1)=mid - 1 - (s+r) / 2 by omega,hu] at e1
 rw [show (s+r) / 2+1 - 1 - a=(s+r) / 2 - a by omega,hv] at e2
 cases e1;cases e2;exact hn
theorem yn5 {L R:List α} {a m b mid s0 r0 s r c:Nat} (hS:SmS L R a m b mid s0 r0) (h:SmI cmp L R a m b mid s0 r0 s r) (hsr:s < r) (hc:c=(s+r) / 2) {u v:α} (hu:R[mid - 1 - c]? =some u) (hv:L[c - a]? =some v) (hn:cmp u v < 0):SmI cmp L R a m b mid s0 r0 s c:=by
 have hb:=yl5 hS h hsr
 obtain ⟨g1,g2,g3,g4,g5⟩:=h
 subst hc
 refine ⟨g1,by omega,by omega,g4,fun _ u' v' e1 e2=> ?_⟩
 rw [hu] at e1
 rw [hv] at e2
 cases e1;cases e2;exact hn
theorem yh3 (ok:CmpOk cmp) {L R:List α} (hL:L.Pairwise (LeC cmp)) (hR:R.Pairwise (LeC cmp)) {a m b mid s0 r0 s:Nat} (hS:SmS L R a m b mid s0 r0) (h:SmI cmp L R a m b mid s0 r0 s s):
 ∃x y,s=a+x∧mid=a+x+y∧x≤L.length∧y≤R.length∧mrg cmp L R=mrg cmp (L.take x) (R.take y)++mrg cmp (L.drop x) (R.drop y):=by
 obtain ⟨h1,h2,h3,h4⟩:=hS
 obtain ⟨g1,g2,g3,g4,g5⟩:=h
 have hx:s - a≤L.length:=by omega
 have hy:mid - s≤R.length:=by omega
 refine ⟨s - a,mid - s,by omega,by omega,hx,hy,?_⟩
 refine zjf ok hL hR hx hy (fun q1 q2=> ?_) (fun q1 q2=> ?_)
 ·by_cases q:s0 < s
  ·refine g4 q _ _ (List.getElem?_eq_getElem q2) ?_
   rw [show s - 1 - a=s - a - 1 by omega];exact List.getElem?_eq_getElem _
  ·omega
 ·by_cases q:s < r0
  ·refine g5 q _ _ ?_ (List.getElem?_eq_getElem q1)
   rw [show mid - 1 - s=mid - s - 1 by omega];exact List.getElem?_eq_getElem _
  ·omega
theorem yh2 {P L R Z:List α} {a m x y:Nat} (hp:P.length=a) (hm:a+L.length=m) (hx:x≤L.length) (hy:y≤R.length):
 Rot m (L.length - x) y (P++(L++(R++Z))) (P++(L.take x++(R.take y++(L.drop x++(R.drop y++Z))))):=by
 refine ⟨P++L.take x,L.drop x,R.take y,R.drop y++Z,?_,by simp;omega,by simp,by simp;omega,by simp only [List.append_assoc]⟩
 rw [List.append_assoc,←List.append_assoc (L.take x),List.take_append_drop,←List.append_assoc (R.take y),List.take_append_drop]
theorem yec {P L R Z:List α} {x y:Nat} (h:x=L.length∨y=0):P++(L++(R++Z))=P++(L.take x++(R.take y++(L.drop x++(R.drop y++Z)))):=by
 rcases h with rfl|rfl
 ·rw [List.take_length,List.drop_length,List.nil_append,←List.append_assoc (R.take y),List.take_append_drop]
 ·rw [List.take_zero,List.drop_zero,List.nil_append,←List.append_assoc (L.take x),List.take_append_drop]
theorem yeb {A B:List α} (h:A= []∨B= []):A++B=mrg cmp A B:=by
 rcases h with rfl|rfl
 ·simp [mrg]
 ·rw [ze8,List.append_nil]
theorem zr8 {L:List α} (h:L.Pairwise (LeC cmp)) (x:Nat):(L.take x).Pairwise (LeC cmp):=h.sublist (List.take_sublist _ _)
theorem ztf {L:List α} (h:L.Pairwise (LeC cmp)) (x:Nat):(L.drop x).Pairwise (LeC cmp):=h.sublist (List.drop_sublist _ _)
end
structure Brch where
 g:Int
 e:Int
 l:Int
 o:Int
 a:Int
 b:Int
 deriving DecidableEq
def zc6 (c:Brch):List AV:= [iv c.g,iv c.e,iv c.l,iv c.o,iv c.a,iv c.b]
structure Acc where
 o:Int
 r:Int
 a:Int
 deriving DecidableEq
def accR (a:Acc):List AV:= [iv a.o,iv a.r,iv a.a]
def zk8 (h:Hist) (t kd:Int) (k:Nat) (e:Ev):List Acc:=if (e.t==t && e.kind==kd)=true then (match zy4 h e.o e.v with|some r=> [⟨e.o,r,k⟩]|none=> []) else []
def zk4 (h:Hist) (t kd:Int):Nat→List Acc
 |0=> []
 |k+1=>zk4 h t kd k++(match h.evs[k]? with|some e=>zk8 h t kd k e|none=> [])
def znx (h:Hist) (t kd:Int):List Acc:=zk4 h t kd h.evs.length
def zn1 (n:Nat) (l:List Acc):List Acc:=(upR n).flatMap fun x=>l.filter fun a=>a.o==x
def brk (g t1 t2:Int) (a b:Acc):Option Brch:=if (a.o==b.o && decide (b.r < a.r))=true then some ⟨g,t1,t2,a.o,a.a,b.a⟩ else none
def ykx (n:Nat) (g t1 t2:Int) (A B:List Acc):List Brch:=(zn1 n A).flatMap fun a=>(zn1 n B).filterMap (brk g t1 t2 a)
def ynj (n:Nat) (g t1 t2:Int) (A B:List Acc):List Brch:=(upR n).flatMap fun x=>(A.filter fun a=>a.o==x).flatMap fun a=>(B.filter fun b=>b.o==x).filterMap fun b=>if b.r < a.r then some ⟨g,t1,t2,x,a.a,b.a⟩ else none
theorem zko {α:Type} {f:Int→List α} {x:Int}:∀{l:List Int},l.Nodup→x∈l→(∀y∈l,y≠x→f y= [])→l.flatMap f=f x
 | [],_,h,_=>by cases h
 |y::r,hn,hx,hf=>by
  rw [List.nodup_cons] at hn
  rw [List.flatMap_cons]
  by_cases e:y=x
  ·subst e
   have:r.flatMap f= []:=by
    rw [List.flatMap_eq_nil_iff]
    intro z hz
    exact hf z (by simp [hz]) fun e=>hn.1 (e ▸ hz)
   rw [this,List.append_nil]
  ·rw [hf y (by simp) e,List.nil_append]
   rcases List.mem_cons.1 hx with q|q
   ·exact absurd q.symm e
   ·exact zko hn.2 q fun z hz=>hf z (by simp [hz])
theorem zob (n:Nat):(upR n).Nodup:=(ycf n).imp fun h e=>by omega
theorem zdd {α β:Type} {f g:α→List β}:∀{l:List α},(∀a∈l,f a=g a)→l.flatMap f=l.flatMap g
 | [],_=>rfl
 |a::r,h=>by rw [List.flatMap_cons,List.flatMap_cons,h a (by simp),zdd fun b hb=>h b (by simp [hb])]
theorem ze0 {α β γ:Type} {f:α→List β} {g:β→Option γ}:∀{l:List α},(l.flatMap f).filterMap g=l.flatMap fun a=>(f a).filterMap g
 | []=>rfl
 |a::r=>by rw [List.flatMap_cons,List.filterMap_append,ze0,List.flatMap_cons]
theorem ykw (n:Nat) (g t1 t2:Int) (A B:List Acc):ykx n g t1 t2 A B=ynj n g t1 t2 A B:=by
 rw [ykx,ynj,show zn1 n A=(upR n).flatMap (fun x=>A.filter fun a=>a.o==x) from rfl,List.flatMap_assoc]
 refine zdd fun x hx=>zdd fun a ha=> ?_
 have ha:a.o=x:=by simpa using (List.mem_filter.1 ha).2
 rw [zn1,ze0,zko (x:=x) (zob n) hx]
 ·refine znh fun b hb=> ?_
  have hb:b.o=x:=by simpa using (List.mem_filter.1 hb).2
  rw [brk,ha,hb]
  by_cases q:b.r < a.r <;> simp [q]
 ·intro y _ hy
  rw [List.filterMap_eq_nil_iff]
  intro b hb
  have hb:b.o=y:=by simpa using (List.mem_filter.1 hb).2
  rw [brk,ha,hb,if_neg]
  simp [Ne.symm hy]
structure Doi where
 t:Int
 A:List Acc
 B:List Acc
def brL (n:Nat) (g:Int) (ds:List Doi):Nat→List Brch
 |0=> []
 |k+1=>brL n g ds k++(match ds[k]? with|some d=>(ds.take k).filterMap (fun e=>(ykx n g e.t d.t e.A d.B).head?)|none=> [])
def blk (n:Nat) (g:Int) (ds:List Doi):Nat→List (List Brch)
 |0=> []
 |k+1=>blk n g ds k++(match ds[k]? with|some d=>(ds.take k).map (fun e=>ykx n g e.t d.t e.A d.B)|none=> [])
theorem zyf (n:Nat) (g:Int) (ds:List Doi):∀k,brL n g ds k=(blk n g ds k).filterMap List.head?
 |0=>rfl
 |k+1=>by
  rw [brL,blk,List.filterMap_append,zyf n g ds k]
  cases ds[k]? with
  |none=>rfl
  |some d=>simp only [List.filterMap_map];rfl
def zuv (n:Nat) (g:Int) (ds:List Doi):Nat→List Brch
 |0=> []
 |k+1=>zuv n g ds k++(match ds[k]? with|some d=>(ds.take k).flatMap (fun e=>ynj n g e.t d.t e.A d.B)|none=> [])
theorem zpa (n:Nat) (g:Int) (ds:List Doi):∀k,zuv n g ds k=(blk n g ds k).flatten
 |0=>rfl
 |k+1=>by
  rw [zuv,blk,List.flatten_append,zpa n g ds k]
  cases ds[k]? with
  |none=>rfl
  |some d=>simp only [List.flatMap_def,←ykw]
theorem zo3 {α:Type}:∀L:List (List α),(L.filterMap List.head?).head? =L.flatten.head?
 | []=>rfl
 | []::r=>by rw [List.filterMap_cons,List.flatten_cons,List.nil_append];exact zo3 r
 |(a::l)::r=>rfl
theorem zuu (n:Nat) (g:Int) (ds:List Doi) (k:Nat):(brL n g ds k).head? =(zuv n g ds k).head? :=by rw [zyf,zpa,zo3]
theorem zwl (n:Nat) (g:Int) (ds:List Doi) (k:Nat):brL n g ds k= [] ↔ zuv n g ds k= []:=by
 rw [←List.head?_eq_none_iff,←List.head?_eq_none_iff,zuu]
theorem ycc {h:Hist} {t kd:Int} {k:Nat} {e:Ev} {a:Acc} (ha:a∈zk8 h t kd k e):e.t=t∧e.kind=kd∧a.o=e.o∧a.a=(k:Int)∧zy4 h e.o e.v=some a.r:=by
 rw [zk8] at ha
 split at ha
 ·rename_i q
  rw [Bool.and_eq_true,beq_iff_eq,beq_iff_eq] at q
  cases hr:zy4 h e.o e.v with
  |none=>rw [hr] at ha;cases ha
  |some r=>
   rw [hr] at ha
   have ha:a=⟨e.o,r,k⟩:=by simpa using ha
   subst ha
   exact ⟨q.1,q.2,rfl,rfl,rfl⟩
 ·cases ha
theorem ztr {h:Hist} {t kd:Int} {a:Acc}:∀{n:Nat},n≤h.evs.length→(a∈zk4 h t kd n ↔ ∃k,∃hk:k < h.evs.length,k < n∧a∈zk8 h t kd k h.evs[k])
 |0,_=>by simp [zk4]
 |n+1,hn=>by
  rw [zk4,List.mem_append,ztr (by omega),List.getElem?_eq_getElem (show n < h.evs.length by omega)]
  constructor
  ·rintro (⟨k,hk,hkn,q⟩|q)
   ·exact ⟨k,hk,by omega,q⟩
   ·exact ⟨n,by omega,by omega,q⟩
  ·rintro ⟨k,hk,hkn,q⟩
   by_cases e:k=n
   ·subst e;exact .inr q
   ·exact .inl ⟨k,hk,by omega,q⟩
theorem ylb {h:Hist} {t kd:Int} {a:Acc} (ha:a∈znx h t kd):∃k,∃hk:k < h.evs.length,h.evs[k].t=t∧h.evs[k].kind=kd∧a.o=h.evs[k].o∧a.a=(k:Int)∧zy4 h h.evs[k].o h.evs[k].v=some a.r:=by
 obtain ⟨k,hk,_,q⟩:=(ztr (Nat.le_refl _)).1 ha
 exact ⟨k,hk,ycc q⟩
def kdA (g:Int):Int:=if g=2∨g=8 then 3 else 2
def kdB (g:Int):Int:=if g=1∨g=2 then 3 else 2
def doi (h:Hist) (g t:Int):Doi:=⟨t,znx h t (kdA g),znx h t (kdB g)⟩
def zxz (h:Hist) (s g:Int):List Doi:=(zen h.evs s).map (doi h g)
def brS (h:Hist) (s g:Int):List Brch:=brL h.os.length g (zxz h s g) (zxz h s g).length
def eaS (h:Hist) (s g:Int):List Brch:=zuv h.os.length g (zxz h s g) (zxz h s g).length
theorem zoh (h:Hist) (w:List Wan):∀n,rkM {h with wants:=w} n=rkM h n
 |0=>rfl
 |n+1=>by
  have e:∀(x:Int) (l:List Int) (i:Nat) (m:RkM),zfu {h with wants:=w} x i l m=zfu h x i l m:=by
   intro x l
   induction l with
   |nil=>intro i m;rfl
   |cons t r ih=>intro i m;rw [zfu,zfu,ih];rfl
  rw [rkM,rkM,zoh h w n,zz3,zz3,e];rfl
theorem zmm (h:Hist) (w:List Wan) (t kd:Int):znx {h with wants:=w} t kd=znx h t kd:=by
 have e:∀n,zk4 {h with wants:=w} t kd n=zk4 h t kd n:=by
  intro n
  induction n with
  |zero=>rfl
  |succ n ih=>
   rw [zk4,zk4,ih]
   cases h.evs[n]? with
   |none=>rfl
   |some e=>simp only [zk8,zy4,zoh]
 exact e _
theorem zuw (h:Hist) (w:List Wan) (s g:Int):zxz {h with wants:=w} s g=zxz h s g:=by
 rw [zxz,zxz]
 refine List.map_congr_left fun t _=> ?_
 rw [doi,doi,zmm h w t (kdA g),zmm h w t (kdB g)]
theorem zye (h:Hist) (w:List Wan) (s g:Int):brS {h with wants:=w} s g=brS h s g:=by rw [brS,brS,zuw]
theorem ybz {h:Hist} (s g:Int):brS h s g= [] ↔ eaS h s g= []:=zwl _ _ _ _
def zk6 (h:Hist) (s:Int):Int:=([1,2,4,8]:List Int).foldl (fun n g=>if brS h s g= [] then n+g else n) 0
def yhd (h:Hist) (s:Int):Int:=([1,2,4,8]:List Int).foldl (fun n g=>if eaS h s g= [] then n+g else n) 0
theorem zxg (h:Hist) (s:Int):zk6 h s=yhd h s:=by
 simp only [zk6,yhd,ybz]
theorem zxf (h:Hist) (w:List Wan) (s:Int):zk6 {h with wants:=w} s=zk6 h s:=by
 simp only [zk6,zye]
section
variable {α β:Type}
theorem yk1 {P A B:List α} {x:α}:(P++(A++x::B))[P.length+A.length]? =some x:=by
 rw [List.getElem?_append_right (by omega),Nat.add_sub_cancel_left,List.getElem?_append_right (Nat.le_refl _),Nat.sub_self];rfl
theorem ygv {P B L:List α} {q n:Nat} (hq:q < n) (hl:q < L.length):(P++(L.take n++B))[P.length+q]? =some L[q]:=by
 rw [List.getElem?_append_right (by omega),Nat.add_sub_cancel_left,List.getElem?_append_left (by rw [List.length_take];omega),List.getElem?_take_of_lt hq,List.getElem?_eq_getElem hl]
theorem zja {f:α→β} {l:List α} {i j:Nat} {x y:α} (hi:l[i]? =some x) (hj:l[j]? =some y):((l.map f).set i (f y)).set j (f x)=(swp l i j).map f:=by
 rw [zsa hi hj,List.map_set,List.map_set]
theorem zzl {l:List α} {i j:Nat} (h:i≠j):swp l i j=swp l j i:=by
 unfold swp
 cases hi:l[i]? with
 |none=>cases hj:l[j]? <;> rfl
 |some x=>
  cases hj:l[j]? with
  |none=>rfl
  |some y=>simp only;rw [List.set_comm _ _ h]
theorem zb0 {f:α→β} {l:List α} {i:Nat} {x:α} (h:l[i]? =some x):(l.map f)[i]? =some (f x):=by rw [List.getElem?_map,h];rfl
theorem zdv {l:List α} {i:Nat} {x:α} (h:l[i]? =some x):i < l.length:=(List.getElem?_eq_some_iff.1 h).1
theorem yep {m i j:Nat} {c tg:List α} (h:Rot m i j c tg):i≤m∧m+j≤c.length:=by
 obtain ⟨P,I,J,Z,rfl,hp,hi,hj,rfl⟩:=h
 simp only [List.length_append];omega
theorem yjp {P S Z:List α} {x:α} {a q:Nat} (hP:P.length=a) (hq:q≤S.length):(P++(S.take q++x::(S.drop q++Z)))[a+q]? =some x:=by
 have:=yk1 (P:=P) (A:=S.take q) (B:=S.drop q++Z) (x:=x)
 rwa [hP,List.length_take,Nat.min_eq_left hq] at this
theorem ylm {P S Z:List α} {x:α} {a q:Nat} (hP:P.length=a) (hq:q≤S.length) (h1:1≤q):(P++(S.take q++x::(S.drop q++Z)))[a+q - 1]? =some (S.getD (q - 1) x):=by
 have:=ygv (P:=P) (L:=S) (B:=x::(S.drop q++Z)) (q:=q - 1) (n:=q) (by omega) (by omega)
 rw [hP,show a+(q - 1)=a+q - 1 by omega] at this
 rw [this,List.getD_eq_getElem?_getD,List.getElem?_eq_getElem (by omega)];rfl
theorem zxb {P S Z:List α} {x:α} {a q:Nat} (hP:P.length=a) (hq:q≤S.length) (h1:1≤q):swp (P++(S.take q++x::(S.drop q++Z))) (a+q) (a+q - 1)=P++(S.take (q - 1)++x::(S.drop (q - 1)++Z)):=by
 obtain ⟨k,rfl⟩:∃k,q=k+1:=⟨q - 1,by omega⟩
 rw [zzl (by omega)]
 have:=ymr (P:=P) (Z:=Z) (y:=x) (L:=S) (k:=k) (by omega)
 rw [hP] at this
 rw [show a+(k+1) - 1=a+k by omega,show a+(k+1)=a+k+1 by omega,show k+1 - 1=k by omega]
 exact this
variable {cmp:α→α→Int}
theorem yfw {S:List α} {x:α} {q:Nat} (hq:q≤S.length) (h1:1≤q) (hlt:cmp x (S.getD (q - 1) x) < 0) (hz:∀z∈S.drop q,cmp x z < 0):∀z∈S.drop (q - 1),cmp x z < 0:=by
 intro z hm
 rw [List.drop_eq_getElem_cons (by omega)] at hm
 rcases List.mem_cons.1 hm with rfl|hm
 ·rw [List.getD_eq_getElem?_getD,List.getElem?_eq_getElem (by omega)] at hlt;exact hlt
 ·rw [show q - 1+1=q by omega] at hm;exact hz z hm
theorem yfv {P M Z:List α}:P++(isL cmp (M.take (0+1))++(M.drop (0+1)++Z))=P++(M++Z):=by
 cases M with
 |nil=>rfl
 |cons a r=>simp [isL,mrg]
theorem yba {P M Z:List α} {k:Nat} (hS:(isL cmp (M.take (k+1))).length=k+1) (hk:k+1 < M.length):P++(isL cmp (M.take (k+1))++(M.drop (k+1)++Z))=P++((isL cmp (M.take (k+1))).take (k+1)++M[k+1]::((isL cmp (M.take (k+1))).drop (k+1)++(M.drop (k+1+1)++Z))):=by
 rw [List.take_of_length_le (l:=isL cmp (M.take (k+1))) (by omega),List.drop_eq_nil_of_le (by omega:(isL cmp (M.take (k+1))).length≤k+1),List.drop_eq_getElem_cons hk,List.nil_append,List.cons_append]
theorem ycy (ok:CmpOk cmp) {P M Z:List α} {k q:Nat} (hS:(isL cmp (M.take (k+1))).Pairwise (LeC cmp)) (hk:k+1 < M.length) (hq:q≤(isL cmp (M.take (k+1))).length) (hz:∀z∈(isL cmp (M.take (k+1))).drop q,cmp M[k+1] z < 0)
 (hst:1≤q→¬cmp M[k+1] ((isL cmp (M.take (k+1))).getD (q - 1) M[k+1]) < 0):
 P++((isL cmp (M.take (k+1))).take q++M[k+1]::((isL cmp (M.take (k+1))).drop q++(M.drop (k+1+1)++Z)))=P++(isL cmp (M.take (k+1+1))++(M.drop (k+1+1)++Z)):=by
 have h:=yfx ok hS (x:=M[k+1]) hq hz fun h1=>by
  have:=hst h1
  rw [List.getD_eq_getElem?_getD,List.getElem?_eq_getElem (by omega)] at this;exact this
 rw [List.take_succ_eq_append_getElem hk,yjq,h];simp
theorem getD_some {l:List α} {k:Nat} (h:k < l.length) (d:α):l[k]? =some (l.getD k d):=by
 rw [List.getD_eq_getElem?_getD,List.getElem?_eq_getElem h];rfl
theorem yg8 {P L R Z:List α} {a k:Nat} (hP:P.length=a) (d:α) (h1:a≤k) (h2:k < a+L.length):(P++(L++(R++Z)))[k]? =some (L.getD (k - a) d):=by
 rw [←getD_some (by omega) d]
 rw [List.getElem?_append_right (by omega),List.getElem?_append_left (by omega),hP]
theorem yg7 {P L R Z:List α} {a m k:Nat} (hP:P.length=a) (hm:a+L.length=m) (d:α) (h1:m≤k) (h2:k < m+R.length):(P++(L++(R++Z)))[k]? =some (R.getD (k - m) d):=by
 rw [←getD_some (by omega) d]
 rw [List.getElem?_append_right (by omega),List.getElem?_append_right (by omega),List.getElem?_append_left (by omega)]
 congr 1;omega
theorem yom {P S Z:List α} {x:α} {a q:Nat} (hP:P.length=a) (hq:q < S.length) (d:α):(P++(S.take q++x::(S.drop q++Z)))[a+q+1]? =some (S.getD q d):=by
 rw [←getD_some hq d]
 rw [List.getElem?_append_right (by omega),List.getElem?_append_right (by rw [List.length_take];omega),List.length_take,Nat.min_eq_left (by omega),show a+q+1 - P.length - q=0+1 by omega,List.getElem?_cons_succ,List.getElem?_append_left (by rw [List.length_drop];omega),List.getElem?_drop]
 congr 1
theorem ymw {P S Z:List α} {x:α} {a q:Nat} (hP:P.length=a) (hq:q < S.length):swp (P++(S.take q++x::(S.drop q++Z))) (a+q) (a+q+1)=P++(S.take (q+1)++x::(S.drop (q+1)++Z)):=by
 have:=ymq (P:=P) (Z:=Z) (x:=x) (R:=S) (k:=q) hq
 rwa [hP] at this
theorem yal (ok:CmpOk cmp) {P R Z:List α} {x d:α} (hR:R.Pairwise (LeC cmp)) {y:Nat} (hy:y≤R.length) (h1:1≤y→cmp (R.getD (y - 1) d) x < 0) (h2:y < R.length→¬cmp (R.getD y d) x < 0):P++(R.take y++x::(R.drop y++Z))=P++(mrg cmp [x] R++Z):=by
 rw [yfg ok hR hy (fun h=>by
  have:=h1 h
  rw [List.getD_eq_getElem?_getD,List.getElem?_eq_getElem (by omega)] at this;exact this) fun h=>by
  have:=h2 h
  rw [List.getD_eq_getElem?_getD,List.getElem?_eq_getElem h] at this;exact this]
 simp
theorem zw1 (ok:CmpOk cmp) {P L Z:List α} {y d:α} (hL:L.Pairwise (LeC cmp)) {x:Nat} (hx:x≤L.length) (h1:1≤x→¬cmp y (L.getD (x - 1) d) < 0) (h2:x < L.length→cmp y (L.getD x d) < 0):P++(L.take x++y::(L.drop x++Z))=P++(mrg cmp L [y]++Z):=by
 rw [yao ok hL hx (fun h=>by
  have:=h1 h
  rw [List.getD_eq_getElem?_getD,List.getElem?_eq_getElem (by omega)] at this;exact this) fun h=>by
  have:=h2 h
  rw [List.getD_eq_getElem?_getD,List.getElem?_eq_getElem h] at this;exact this]
 simp
theorem zvt {P A B W:List α} (h:A= []∨B= []):P++(A++(B++W))=P++(mrg cmp A B++W):=by
 rw [←yeb h,List.append_assoc]
theorem zr9 {l:List α} {x:Nat} (h:¬1≤x):l.take x= []:=by rw [show x=0 by omega];rfl
theorem zpb {l:List α} {x:Nat} (h:¬x < l.length):l.drop x= []:=List.drop_eq_nil_of_le (by omega)
end
theorem zhb {n:Nat} (h:n≤4611686018427387904):IntKind.u64.wrap (n:Int)=(n:Int):=by
 show (n:Int) % 18446744073709551616=n
 omega
theorem zi9 {n:Nat} (h:n≤4611686018427387904):zlz .shr .u64 (n:Int) 1=some ((n / 2:Nat):Int):=by
 have e:Int.fdiv (n:Int) 2=((n / 2:Nat):Int):=by rw [Int.fdiv_eq_ediv_of_nonneg _ (by decide)];omega
 show some (Int.fdiv (n:Int) 2)=_
 rw [e]
theorem zho {n:Nat} (h:n≤4611686018427387904):IntKind.i64.wrap (n:Int)=(n:Int):=IntWalk.i64_in _ ⟨by omega,by omega⟩
abbrev zi3:={a:Acc // 0≤a.o∧a.o < 1000000}
abbrev zby (a:zi3):List AV:=accR a.1
def zy6 (a:zi3):Int:=a.1.o
abbrev zcb:zi3→zi3→Int:=za4 zy6
def zdf:zi3:=⟨⟨0,0,0⟩,by decide⟩
theorem zzp {n:Nat} {l:List Acc} {lB m:List zi3} (e:lB.map (·.1)=l) (h:zn7 zy6 lB m) (hk:∀a∈l,0≤a.o∧a.o < n):m.map (·.1)=zn1 n l:=by
 have h1:=zvq zy6 (n:=n) h fun a ha=>hk a.1 (by rw [←e];exact List.mem_map_of_mem ha)
 rw [h1,zn1,List.map_flatMap]
 refine zdd fun x _=> ?_
 rw [←e,List.filter_map];rfl
theorem zyz {n:Nat} (hn:n≤1000000):∀{l:List Acc},(∀a∈l,0≤a.o∧a.o < n)→∃lB:List zi3,lB.map (·.1)=l
 | [],_=>⟨[],rfl⟩
 |a::l,h=>by
  obtain ⟨lB,e⟩:=zyz hn (l:=l) fun x hx=>h x (by simp [hx])
  have:=h a (by simp)
  exact ⟨⟨a,by omega,by omega⟩::lB,by rw [List.map_cons,e]⟩
theorem zkz:CmpOk zcb:=zpl zy6
structure Grd where
 s:Int
 q:Int
 a:Int
 deriving DecidableEq
def zjm (g:Grd):List AV:= [iv g.s,iv g.q,iv g.a]
def zct (l:List Grd):AV:= .list false 3 (l.map zjm)
def yb7 (l:List Wan):List (Int×Int):=l.foldl (fun m w=>zee w.s w.bits m) []
theorem yk3 {l:List Wan} {k:Nat} (hk:k < l.length):yb7 (l.take (k+1))=zee l[k].s l[k].bits (yb7 (l.take k)):=by
 rw [yb7,List.take_succ_eq_append_getElem hk,List.foldl_append];rfl
def zn6 (l:List Wan) (s:Int):Int:=match l.find? fun w=>w.s==s with|some w=>w.bits|none=>0
def ydg (l:List Wan) (s:Int):Int:=(zbr s (yb7 l)).getD 0
theorem yde (s:Int):∀(l:List Wan) (m:List (Int×Int)),(l.map Wan.s).Nodup→zbr s (l.foldl (fun m w=>zee w.s w.bits m) m)=match l.find? (fun w=>w.s==s) with|some w=>some w.bits|none=>zbr s m
 | [],m,_=>rfl
 |w::l,m,hn=>by
  rw [List.map_cons,List.nodup_cons] at hn
  rw [List.foldl_cons,yde s l _ hn.2,List.find?_cons]
  by_cases e:w.s=s
  ·have h0:l.find? (fun w=>w.s==s)=none:=by
    rw [List.find?_eq_none]
    intro v hv q
    exact hn.1 (by rw [e,←eq_of_beq q];exact List.mem_map_of_mem hv)
   rw [h0,show (w.s==s)=true by simpa using e]
   simp only;rw [zc2,if_pos e]
  ·rw [show (w.s==s)=false by simpa using e]
   simp only
   cases l.find? (fun w=>w.s==s) with
   |some v=>rfl
   |none=>simp only;rw [zc2,if_neg e]
theorem ydf {l:List Wan} (hn:(l.map Wan.s).Nodup) (s:Int):ydg l s=zn6 l s:=by
 rw [ydg,yb7,yde s l [] hn,zn6]
 cases l.find? (fun w=>w.s==s) <;> rfl
theorem zry {l:List Wan} (hn:(l.map Wan.s).Nodup) {w:Wan} (hw:w∈l):zn6 l w.s=w.bits:=by
 cases hf:l.find? (fun v=>v.s==w.s) with
 |none=>
  have:=List.find?_eq_none.1 hf w hw
  simp at this
 |some v=>
  have h1:v.s=w.s:=by simpa using List.find?_some hf
  have h2:=List.mem_of_find?_eq_some hf
  have:v=w:=by
   obtain ⟨i,hi,rfl⟩:=List.mem_iff_getElem.1 h2
   obtain ⟨j,hj,rfl⟩:=List.mem_iff_getElem.1 hw
   have:=(List.getElem_inj (i:=i) (j:=j) (h₀:=by simpa using hi) (h₁:=by simpa using hj) hn).1 (by simpa using h1)
   subst this;rfl
  rw [zn6,hf,this]
theorem zym {l:List Wan} {s:Int} (h:∀w∈l,w.s≠s):zn6 l s=0:=by
 have:l.find? (fun w=>w.s==s)=none:=by
  rw [List.find?_eq_none];intro w hw;simpa using h w hw
 rw [zn6,this]
def yc1 (l:List Wan) (s:Int):Bool:=l.any fun w=>w.s==s
def zcd (l:List Wan) (s b:Int):List Wan:=(l.map fun w=>if w.s=s then ⟨w.s,b⟩ else w)++(if yc1 l s=true then [] else [⟨s,b⟩])
def zfk (l:List Wan) (s b:Int):List Wan:=if zbl (fun w=>w.s==s) 0 l < 0 then l++ [⟨s,b⟩] else l.set (zbl (fun w=>w.s==s) 0 l).toNat ⟨s,b⟩
theorem zkq {α:Type} {p:α→Bool}:∀{l:List α} {i:Nat},zbl p i l≠ -1→∃k,∃hk:k < l.length,zbl p i l=((i+k:Nat):Int)∧p l[k]=true
 | [],_,h=>absurd rfl h
 |x::r,i,h=>by
  by_cases e:p x=true
  ·exact ⟨0,by simp,by rw [zbl,if_pos e];simp,e⟩
  ·rw [zbl,if_neg e] at h ⊢
   obtain ⟨k,hk,h1,h2⟩:=zkq h
   exact ⟨k+1,by simpa using hk,by rw [h1];congr 1;omega,h2⟩
theorem zot {l:List Wan} {s b:Int} (h:∀w∈l,w.s≠s):(l.map fun w=>if w.s=s then (⟨w.s,b⟩:Wan) else w)=l:=by
 conv=>rhs;rw [←List.map_id l]
 exact List.map_congr_left fun w hw=>by rw [if_neg (h w hw)];rfl
theorem zsz {s b:Int}:∀{l:List Wan} {k:Nat},(l.map Wan.s).Nodup→(hk:k < l.length)→l[k].s=s→(l.map fun w=>if w.s=s then (⟨w.s,b⟩:Wan) else w)=l.set k ⟨s,b⟩
 |w::l,0,hn,_,e=>by
  have e:w.s=s:=e
  rw [List.map_cons,List.nodup_cons] at hn
  rw [List.map_cons,if_pos e,List.set_cons_zero,e,zot]
  intro v hv q
  exact hn.1 (by rw [e,←q];exact List.mem_map_of_mem hv)
 |w::l,k+1,hn,hk,e=>by
  rw [List.map_cons,List.nodup_cons] at hn
  have hk':k < l.length:=by simpa using hk
  have e:l[k].s=s:=e
  rw [List.map_cons,List.set_cons_succ,zsz hn.2 hk' e,if_neg]
  intro q
  exact hn.1 (by rw [q,←e];exact List.mem_map_of_mem (List.getElem_mem _))
theorem zp5 {l:List Wan} (hn:(l.map Wan.s).Nodup) (s b:Int):zfk l s b=zcd l s b:=by
 rw [zfk,zcd]
 by_cases h:zbl (fun w:Wan=>w.s==s) 0 l= -1
 ·have hno:∀w∈l,w.s≠s:=fun w hw q=>by
   have:=zeq (fun w:Wan=>w.s==s) l 0
   rw [h] at this
   have h2:=List.any_eq_false.1 this.symm w hw
   simp [q] at h2
  have hw:yc1 l s=false:=by rw [yc1,List.any_eq_false];intro w hw;simpa using hno w hw
  rw [if_pos (by omega),zot hno,hw];rfl
 ·obtain ⟨k,hk,h1,h2⟩:=zkq h
  have hw:yc1 l s=true:=by rw [yc1,List.any_eq_true];exact ⟨_,List.getElem_mem hk,h2⟩
  rw [if_neg (by omega),h1,hw,if_pos rfl,List.append_nil,zsz hn hk (by simpa using h2)]
  congr 1;omega
theorem yhh (l:List Wan) (s b:Int):(zcd l s b).map Wan.s=l.map Wan.s++(if yc1 l s=true then [] else [s]):=by
 rw [zcd,List.map_append,List.map_map]
 congr 1
 ·exact List.map_congr_left fun w _=>by simp only [Function.comp];split <;> simp_all
 ·split <;> rfl
theorem zln {l:List Wan} (hn:(l.map Wan.s).Nodup) (s b:Int):((zcd l s b).map Wan.s).Nodup:=by
 rw [yhh,List.nodup_append]
 refine ⟨hn,by split <;> simp,fun x hx y hy e=> ?_⟩
 subst e
 split at hy
 ·cases hy
 ·rename_i q
  rw [List.mem_singleton] at hy
  subst hy
  obtain ⟨w,hw,e⟩:=List.mem_map.1 hx
  exact q (by rw [yc1,List.any_eq_true];exact ⟨w,hw,by simpa using e⟩)
theorem zr4 {l:List Wan} {s b:Int} {w:Wan} (hw:w∈zcd l s b):w=⟨s,b⟩∨(w∈l∧w.s≠s):=by
 rw [zcd,List.mem_append] at hw
 rcases hw with hw|hw
 ·obtain ⟨v,hv,rfl⟩:=List.mem_map.1 hw
  by_cases e:v.s=s
  ·rw [if_pos e,e];exact .inl rfl
  ·rw [if_neg e];exact .inr ⟨hv,e⟩
 ·split at hw
  ·cases hw
  ·rw [List.mem_singleton] at hw;exact .inl hw
theorem ydp (l:List Wan) (s b:Int):⟨s,b⟩∈zcd l s b:=by
 rw [zcd,List.mem_append]
 by_cases h:yc1 l s=true
 ·obtain ⟨w,hw,e⟩:=List.any_eq_true.1 h
  exact .inl (List.mem_map.2 ⟨w,hw,by rw [if_pos (by simpa using e),show w.s=s by simpa using e]⟩)
 ·rw [if_neg h];exact .inr (by simp)
theorem zzb {l:List Wan} {s b:Int} {w:Wan} (hw:w∈l) (e:w.s≠s):w∈zcd l s b:=by
 rw [zcd,List.mem_append]
 exact .inl (List.mem_map.2 ⟨w,hw,if_neg e⟩)
theorem zhx {l:List Wan} (hn:(l.map Wan.s).Nodup) (s b t:Int):zn6 (zcd l s b) t=if t=s then b else zn6 l t:=by
 have hn2:=zln hn s b
 by_cases e:t=s
 ·subst e;rw [if_pos rfl];exact zry hn2 (ydp l t b)
 ·rw [if_neg e]
  by_cases h:∃w∈l,w.s=t
  ·obtain ⟨w,hw,rfl⟩:=h
   rw [zry hn2 (zzb hw e),zry hn hw]
  ·have h1:∀w∈l,w.s≠t:=fun w hw q=>h ⟨w,hw,q⟩
   rw [zym h1,zym]
   intro w hw q
   rcases zr4 hw with rfl|⟨hw,_⟩
   ·exact e q.symm
   ·exact h1 w hw q
theorem zup {σ α:Type} {step:σ→α→Option σ} {x:α} {l:List α} {s m:σ} (h:goes step (some s) (x::l)=some m):∃s',step s x=some s'∧goes step (some s') l=some m:=by
 rw [goes] at h
 cases e:step s x with
 |none=>rw [show ((some s).bind fun s=>step s x)=none from e,zkl] at h;cases h
 |some s'=>exact ⟨s',rfl,by rw [show ((some s).bind fun s=>step s x)=some s' from e] at h;exact h⟩
theorem zug {s s':List Int} {x:Nat×Int} (h:zao s x=some s') (hl:s.length=4) (hx:x.1 < 4):s'.length=4∧x.2≤s.getD x.1 0∧s'.getD x.1 0=max (s.getD x.1 0) (x.2+1)∧∀k,k≠x.1→s'.getD k 0=s.getD k 0:=by
 rw [zao] at h
 split at h
 ·cases h
 ·rename_i q
  injection h with h
  subst h
  refine ⟨by rw [List.length_set];exact hl,by omega,?_,fun k hk=> ?_⟩
  ·rw [List.getD_eq_getElem?_getD,List.getElem?_set_self (by omega)];rfl
  ·rw [List.getD_eq_getElem?_getD,List.getElem?_set_ne (by omega),←List.getD_eq_getElem?_getD]
theorem zma:∀{l:List (Nat×Int)} {s m:List Int},goes zao (some s) l=some m→s.length=4→(∀x∈l,x.1 < 4)→m.length=4∧(∀k,s.getD k 0≤m.getD k 0)∧(∀x∈l,x.2+1≤m.getD x.1 0)∧∀n,s.getD 1 0≤n→n < m.getD 1 0→(1,n)∈l
 | [],s,m,h,hl,_=>by
   have h:some s=some m:=h
   injection h with h;subst h
   exact ⟨hl,fun k=>Int.le_refl _,fun x hx=>by simp at hx,fun n h1 h2=>by omega⟩
 |x::l,s,m,h,hl,hx=>by
  obtain ⟨s',h1,h2⟩:=zup h
  obtain ⟨a1,a2,a3,a4⟩:=zug h1 hl (hx x (by simp))
  obtain ⟨b1,b2,b3,b4⟩:=zma h2 a1 fun y hy=>hx y (by simp [hy])
  refine ⟨b1,fun k=> ?_,fun y hy=> ?_,fun n n1 n2=> ?_⟩
  ·have:=b2 k
   by_cases e:k=x.1
   ·subst e;omega
   ·have:=a4 k e;omega
  ·rcases List.mem_cons.1 hy with rfl|hy
   ·have:=b2 y.1;omega
   ·exact b3 y hy
  ·by_cases e:x.1=1
   ·rw [e] at a2 a3
    by_cases q:s'.getD 1 0≤n
    ·exact List.mem_cons_of_mem _ (b4 n q n2)
    ·have:x=(1,n):=Prod.ext e (by simp only;omega)
     rw [this];exact List.mem_cons_self ..
   ·have:=a4 1 (fun q=>e q.symm)
    exact List.mem_cons_of_mem _ (b4 n (by omega) n2)
theorem zh5 {s:List Int} (hl:s.length=4):∀{l:List (Nat×Int)},(∀x∈l,x.1 < 4∧x.2 < s.getD x.1 0)→goes zao (some s) l=some s
 | [],_=>rfl
 |x::l,h=>by
  obtain ⟨h1,h2⟩:=h x (by simp)
  have e:zao s x=some s:=by
   rw [zao]
   rw [if_neg (by omega),show max (s.getD x.1 0) (x.2+1)=s.getD x.1 0 by omega]
   congr 1
   refine List.ext_getElem (by simp) fun i q1 q2=> ?_
   rw [List.getElem_set]
   split
   ·rename_i e;subst e;rw [List.getD_eq_getElem?_getD,List.getElem?_eq_getElem q2];rfl
   ·rfl
  rw [goes,show ((some s).bind fun s=>zao s x)=some s from e]
  exact zh5 hl fun y hy=>h y (by simp [hy])
def zdq (h:Hist):List (Nat×Int):=h.evs.flatMap evL++(h.ords.flatMap yaj++h.mats.flatMap zwt)
theorem zsf (h:Hist):zb9 h=zdq h++h.wants.flatMap zp7:=by simp [zb9,zdq]
theorem ycu {v:Ver} {x:Nat×Int} (hx:x∈ze9 v):x.1=0:=by
 rw [ze9] at hx;split at hx
 ·rw [List.mem_singleton] at hx;rw [hx]
 ·cases hx
theorem ync {e:Ev} {x:Nat×Int} (hx:x∈evL e):x.1 < 4∧(x.1=1→e.kind=1∧x.2=e.s):=by
 rw [evL,List.mem_cons,List.mem_append] at hx
 rcases hx with rfl|hx|hx
 ·exact ⟨by simp,fun q=>by cases q⟩
 ·unfold zfl at hx
  split at hx
  ·rename_i q;rw [List.mem_singleton] at hx;subst hx;exact ⟨by simp,fun _=>⟨q,rfl⟩⟩
  ·split at hx
   ·rcases List.mem_cons.1 hx with rfl|hx
    ·exact ⟨by simp,fun q=>by cases q⟩
    ·rw [ycu hx];exact ⟨by simp,fun q=>by cases q⟩
   ·split at hx
    ·rw [List.mem_singleton] at hx;subst hx;exact ⟨by simp,fun q=>by cases q⟩
    ·cases hx
 ·obtain ⟨s,_,hx⟩:=List.mem_flatMap.1 hx
  rw [zt1,List.mem_cons] at hx
  rcases hx with rfl|hx
  ·exact ⟨by simp,fun q=>by cases q⟩
  ·rw [ycu hx];exact ⟨by simp,fun q=>by cases q⟩
theorem yho {l:List Int} {x:Nat×Int} (hx:x∈tsL l):x.1=0:=by
 obtain ⟨_,_,rfl⟩:=List.mem_map.1 hx;rfl
theorem zsg {h:Hist} {x:Nat×Int} (hx:x∈zdq h):x.1 < 4∧(x.1=1→∃e∈h.evs,e.kind=1∧e.s=x.2):=by
 rw [zdq,List.mem_append,List.mem_append] at hx
 rcases hx with hx|hx|hx
 ·obtain ⟨e,he,hx⟩:=List.mem_flatMap.1 hx
  obtain ⟨h1,h2⟩:=ync hx
  exact ⟨h1,fun q=>⟨e,he,(h2 q).1,(h2 q).2.symm⟩⟩
 ·obtain ⟨r,_,hx⟩:=List.mem_flatMap.1 hx
  rw [yaj,List.mem_cons] at hx
  rcases hx with rfl|hx
  ·exact ⟨by simp,fun q=>by cases q⟩
  ·rw [yho hx];exact ⟨by simp,fun q=>by cases q⟩
 ·obtain ⟨r,_,hx⟩:=List.mem_flatMap.1 hx
  rw [zwt,List.mem_cons,List.mem_cons] at hx
  rcases hx with rfl|rfl|hx
  ·exact ⟨by simp,fun q=>by cases q⟩
  ·exact ⟨by simp,fun q=>by cases q⟩
  ·rw [yho hx];exact ⟨by simp,fun q=>by cases q⟩
theorem zly {h:Hist} (hs:zbu h=true):zgf h=true∧∀r,1≤r→r≤10→zcg h r=none:=by
 rw [zbu,Bool.and_eq_true] at hs
 refine ⟨hs.1,fun r h1 h2=>zia (Option.isNone_iff_eq_none.1 hs.2) r ?_⟩
 rcases (by omega:r=1∨r=2∨r=3∨r=4∨r=5∨r=6∨r=7∨r=8∨r=9∨r=10) with e|e|e|e|e|e|e|e|e|e <;> subst e <;> decide
theorem zf9 {h:Hist} (hs:zbu h=true):(h.wants.map Wan.s).Nodup∧(∀w∈h.wants,(0≤w.s∧w.s < h.ss.length)∧0≤w.bits∧w.bits≤15)∧h.ss.length≤60∧(∀s:Int,0≤s→s < h.ss.length→∃e∈h.evs,e.kind=1∧e.s=s)∧goes zao (some [0,0,0,0]) (zdq h)=some (zkh h):=by
 obtain ⟨hm,hp⟩:=zly hs
 have h10:=(zev _ _).1 (show zdj (zk9 h) 0 h.wants=none from hp 10 (by decide) (by decide))
 rw [zgf,Bool.and_eq_true] at hm
 obtain ⟨hsh,hmany⟩:=hm
 obtain ⟨hok,hev,hor,hma,hwa⟩:=zdi hsh
 have hw:∀j (hj:j < h.wants.length),(∀i (hi:i < j),h.wants[i].s≠h.wants[j].s)∧∃e∈h.evs,e.kind=1∧e.s=h.wants[j].s:=fun j hj=>by
  have q:=h10 j hj
  rw [Nat.zero_add,zk9,Bool.or_eq_false_iff] at q
  refine ⟨fun i hi e=> ?_,?_⟩
  ·have:=List.any_eq_false.1 q.1 h.wants[i] (List.mem_iff_getElem.2 ⟨i,by rw [List.length_take];omega,by rw [List.getElem_take]⟩)
   simp [e] at this
  ·have q2:(h.evs.any fun e=>e.kind==1 && e.s==h.wants[j].s)=true:=by simpa using q.2
   obtain ⟨e,he,h1⟩:=List.any_eq_true.1 q2
   rw [Bool.and_eq_true,beq_iff_eq,beq_iff_eq] at h1
   exact ⟨e,he,h1.1,h1.2⟩
 have hn:(h.wants.map Wan.s).Nodup:=by
  rw [List.Nodup,List.pairwise_map]
  exact List.pairwise_iff_getElem.2 fun i j hi hj hij=>(hw j hj).1 i hij
 have hr:∀w∈h.wants,(0≤w.s∧w.s < h.ss.length)∧0≤w.bits∧w.bits≤15:=fun w hw=>by
  have:=hwa w hw
  unfold zvh at this
  simp only [zdh,Bool.and_eq_true,decide_eq_true_eq] at this
  omega
 have hl:h.ss.length≤60:=by
  have q:okK h 2=true:=by
   have:=hok
   simp only [okK,Bool.and_eq_true] at this ⊢
   exact this.1.1
  simp only [okK,zhl,Bool.and_eq_true,decide_eq_true_eq] at q
  have:=q.2.1
  have e:(yhb 1:Int)=60:=by decide
  rw [e] at this
  exact_mod_cast this
 have hsp:∀x∈zdq h,x.1 < 4:=fun x hx=>(zsg hx).1
 have hmany:goes zao (some [0,0,0,0]) (zdq h++h.wants.flatMap zp7)=some (zkh h):=by
  rw [←zsf];simpa [zlh] using hmany
 rw [zfa] at hmany
 cases hg:goes zao (some [0,0,0,0]) (zdq h) with
 |none=>rw [hg,zkl] at hmany;cases hmany
 |some m=>
  rw [hg] at hmany
  obtain ⟨m1,m2,m3,m4⟩:=zma hg rfl hsp
  have hsame:=zh5 (s:=m) m1 (l:=h.wants.flatMap zp7) fun x hx=>by
   obtain ⟨w,hwm,hx⟩:=List.mem_flatMap.1 hx
   rw [zp7,List.mem_singleton] at hx
   subst hx
   refine ⟨by simp,?_⟩
   obtain ⟨j,hj,rfl⟩:=List.mem_iff_getElem.1 hwm
   obtain ⟨e,he,k1,k2⟩:=(hw j hj).2
   have:(1,e.s)∈zdq h:=by
    rw [zdq,List.mem_append]
    refine .inl (List.mem_flatMap.2 ⟨e,he,?_⟩)
    rw [evL,zra k1];simp
   have:=m3 _ this
   simp only at this ⊢
   rw [k2] at this;omega
  rw [hsame] at hmany
  injection hmany with hmany
  subst hmany
  refine ⟨hn,hr,hl,fun s s0 s1=> ?_,rfl⟩
  have:=m4 s (by simpa using s0) (by simpa [zkh] using s1)
  exact (zsg this).2 rfl
theorem zqd {h:Hist} (hs:zbu h=true) {w:List Wan} (hl:w.length≤3000) (hn:(w.map Wan.s).Nodup) (hr:∀x∈w,(0≤x.s∧x.s < h.ss.length)∧0≤x.bits∧x.bits≤15):zbu {h with wants:=w}=true:=by
 obtain ⟨_,_,_,hb,hg⟩:=zf9 hs
 obtain ⟨hm,hp⟩:=zly hs
 rw [zgf,Bool.and_eq_true] at hm
 obtain ⟨hsh,_⟩:=hm
 obtain ⟨hok,hev,hor,hma,hwa⟩:=zdi hsh
 have ok0:okK {h with wants:=w} 4=true:=by
  simp only [okK,zsm,Bool.and_eq_true,decide_eq_true_eq] at hok ⊢
  obtain ⟨⟨⟨⟨⟨a,b⟩,c⟩,d⟩,e⟩,f⟩:=hok
  refine ⟨⟨⟨⟨⟨a,?_⟩,c⟩,d⟩,e⟩,f⟩
  omega
 have hwB:(w.all (zvh {h with wants:=w}))=true:=by
  rw [List.all_eq_true]
  intro x hx
  have:=hr x hx
  unfold zvh
  simp only [zdh,Bool.and_eq_true,decide_eq_true_eq]
  omega
 have hmay:zgf {h with wants:=w}=true:=by
  rw [zgf,Bool.and_eq_true]
  refine ⟨?_,?_⟩
  ·rw [zar,ok0]
   simp only [Bool.true_and,Bool.and_eq_true]
   exact ⟨⟨⟨List.all_eq_true.2 hev,List.all_eq_true.2 hor⟩,List.all_eq_true.2 hma⟩,hwB⟩
  ·rw [beq_iff_eq,zlh,zsf,zfa]
   rw [show zdq {h with wants:=w}=zdq h from rfl,hg]
   exact zh5 (s:=zkh h) rfl fun x hx=>by
    obtain ⟨v,hv,hx⟩:=List.mem_flatMap.1 hx
    rw [zp7,List.mem_singleton] at hx
    subst hx
    exact ⟨by simp,by simpa [zkh] using (hr v hv).1.2⟩
 have hpl:∀r,1≤r→r≤10→zcg {h with wants:=w} r=none:=fun r h1 h2=>by
  by_cases e:r=10
  ·subst e
   show zdj (zk9 {h with wants:=w}) 0 w=none
   refine (zev _ _).2 fun j hj=> ?_
   rw [Nat.zero_add,zk9,Bool.or_eq_false_iff]
   constructor
   ·rw [List.any_eq_false]
    intro v hv q
    obtain ⟨i,hi,rfl⟩:=List.mem_iff_getElem.1 hv
    rw [List.length_take] at hi
    rw [List.getElem_take] at q
    have q:w[i].s=w[j].s:=by simpa using q
    have:=(List.getElem_inj (i:=i) (j:=j) (h₀:=by simp;omega) (h₁:=by simpa using hj) hn).1 (by simpa using q)
    omega
   ·obtain ⟨a,b⟩:=hr w[j] (List.getElem_mem hj)
    obtain ⟨e,he,k1,k2⟩:=hb w[j].s a.1 a.2
    rw [Bool.not_eq_false',List.any_eq_true]
    exact ⟨e,he,by simp [k1,k2]⟩
  ·have:=hp r h1 h2
   rcases (by omega:r=1∨r=2∨r=3∨r=4∨r=5∨r=6∨r=7∨r=8∨r=9) with e|e|e|e|e|e|e|e|e <;> subst e <;> exact this
 rw [zbu,hmay,Bool.true_and,ziv]
 simp [rules10,zbj,hpl]
def zb1 (h:Hist):List Grd:=if q8 h=0 then (upR h.ss.length).map fun s=>⟨s,ydg h.wants s,zk6 h s⟩ else []
def yly (h:Hist):List Grd:=(upR h.ss.length).map fun s=>⟨s,zn6 h.wants s,yhd h s⟩
theorem yhs {h:Hist} (hc:q8 h=0):zb1 h=yly h:=by
 have hn:=(zf9 (zbe.1 hc)).1
 rw [zb1,if_pos hc,yly]
 exact List.map_congr_left fun s _=>by rw [ydf hn,zxg]
theorem zrf (h:Hist) (s:Int):0≤yhd h s∧yhd h s≤15:=by
 simp only [yhd,List.foldl_cons,List.foldl_nil]
 repeat' split
 all_goals omega
theorem ygz {h:Hist} (hs:zbu h=true) (s:Int):0≤zn6 h.wants s∧zn6 h.wants s≤15:=by
 obtain ⟨_,hr,_⟩:=zf9 hs
 rw [zn6]
 split
 ·rename_i w hw
  exact (hr w (List.mem_of_find?_eq_some hw)).2
 ·decide
def znr:List Int:= [1,2,4,8]
def zhn (g:Grd) (b:Int):Bool:=bI .and .i64 (bI .andNot .i64 g.q g.a) b !=0
def yjj (g:Grd) (b:Int):Bool:=decide (g.q / b % 2=1) && decide (g.a / b % 2=0)
theorem ya6:∀q:Fin 16,∀a:Fin 16,∀b∈znr,(bI .and .i64 (bI .andNot .i64 (q.val:Int) (a.val:Int)) b !=0)=(decide ((q.val:Int) / b % 2=1) && decide ((a.val:Int) / b % 2=0)):=by decide+kernel
theorem yfp {g:Grd} (h1:0≤g.q∧g.q≤15) (h2:0≤g.a∧g.a≤15) {b:Int} (hb:b∈znr):zhn g b=yjj g b:=by
 have:=ya6 ⟨g.q.toNat,by omega⟩ ⟨g.a.toNat,by omega⟩ b hb
 simp only [Int.toNat_of_nonneg h1.1,Int.toNat_of_nonneg h2.1] at this
 exact this
def zbk (l:List Grd):List (Int×Int):=l.flatMap fun g=>(znr.filter (zhn g)).map fun b=>(g.s,b)
theorem zet {h:Hist} (hc:q8 h=0):∀g∈zb1 h,((0≤g.q∧g.q≤15)∧0≤g.a∧g.a≤15)∧0≤g.s∧g.s < h.ss.length:=fun g hg=>by
 rw [yhs hc,yly] at hg
 obtain ⟨s,hs,rfl⟩:=List.mem_map.1 hg
 have h1:=ygz (zbe.1 hc) s
 have h2:=zrf h s
 have h3:0≤s∧s < h.ss.length:=by
  rw [upR,List.mem_map] at hs
  obtain ⟨k,hk,rfl⟩:=hs
  have:=List.mem_range.1 hk
  omega
 exact ⟨⟨h1,h2⟩,h3⟩
theorem zw4 {l:List Grd}:zbk l= [] ↔ ∀g∈l,∀b∈znr,zhn g b=false:=by
 rw [zbk,List.flatMap_eq_nil_iff]
 constructor
 ·intro h g hg b hb
  have:=List.map_eq_nil_iff.1 (h g hg)
  rw [List.filter_eq_nil_iff] at this
  simpa using this b hb
 ·intro h g hg
  rw [List.map_eq_nil_iff,List.filter_eq_nil_iff]
  intro b hb;simp [h g hg b hb]
theorem zw3 {s a:Int} (h:0≤a∧a≤15) {b:Int} (hb:b∈znr):zhn ⟨s,a,a⟩ b=false:=by
 rw [yfp (g:=⟨s,a,a⟩) h h hb,yjj]
 simp only
 by_cases e:a / b % 2=1
 ·simp [e]
 ·simp [e]
theorem zp4:∀q:Fin 16,∀a:Fin 16,(bI .andNot .i64 (q.val:Int) (a.val:Int)==0)=znr.all fun b=> !(bI .and .i64 (bI .andNot .i64 (q.val:Int) (a.val:Int)) b !=0):=by decide+kernel
theorem ztw {g:Grd} (h1:0≤g.q∧g.q≤15) (h2:0≤g.a∧g.a≤15):(bI .andNot .i64 g.q g.a==0)=znr.all fun b=> !zhn g b:=by
 have:=zp4 ⟨g.q.toNat,by omega⟩ ⟨g.a.toNat,by omega⟩
 simp only [Int.toNat_of_nonneg h1.1,Int.toNat_of_nonneg h2.1] at this
 exact this
def zei (l:List Wan) (T:List Grd):List Wan:=T.foldl (fun l g=>zcd l g.s g.a) l
theorem zvf {l:List Wan} {T:List Grd} {k:Nat} (hk:k < T.length):zei l (T.take (k+1))=zcd (zei l (T.take k)) T[k].s T[k].a:=by
 rw [zei,List.take_succ_eq_append_getElem hk,List.foldl_append];rfl
def WOk (n:Int) (l:List Wan):Prop:=(l.map Wan.s).Nodup∧∀w∈l,(0≤w.s∧w.s < n)∧0≤w.bits∧w.bits≤15
theorem zi7 {n:Int} {l:List Wan} (h:WOk n l) {s b:Int} (h1:0≤s∧s < n) (h2:0≤b∧b≤15):WOk n (zcd l s b):=
 ⟨zln h.1 s b,fun w hw=>by
  rcases zr4 hw with rfl|⟨hw,_⟩
  ·exact ⟨h1,h2⟩
  ·exact h.2 w hw⟩
theorem zp3 {n:Int}:∀{T:List Grd} {l:List Wan},WOk n l→(∀g∈T,(0≤g.s∧g.s < n)∧0≤g.a∧g.a≤15)→WOk n (zei l T)
 | [],l,h,_=>h
 |g::T,l,h,hT=>zp3 (T:=T) (zi7 h (hT g (by simp)).1 (hT g (by simp)).2) fun x hx=>hT x (by simp [hx])
theorem zor:∀{n:Nat} {l:List Int},l.Nodup→(∀x∈l,0≤x∧x < n)→l.length≤n
 |0,l,_,h=>by
  cases l with
  |nil=>simp
  |cons a r=>have:=h a (by simp);omega
 |n+1,l,hn,h=>by
  have h1:(l.filter fun x=>x !=(n:Int)).length≤n:=zor (hn.filter _) fun x hx=>by
   obtain ⟨h1,h2⟩:=List.mem_filter.1 hx
   have:=h x h1
   have:x≠n:=by simpa using h2
   omega
  have h2:(l.filter fun x=> !(x !=(n:Int))).length≤1:=by
   have hx:∀x∈l.filter (fun x=> !(x !=(n:Int))),x=(n:Int):=fun x hx=>by simpa using (List.mem_filter.1 hx).2
   have hd:(l.filter fun x=> !(x !=(n:Int))).Nodup:=hn.filter _
   generalize l.filter (fun x=> !(x !=(n:Int)))=m at hx hd
   match m,hx,hd with
   | [],_,_=>simp
   | [_],_,_=>simp
   |a::b::r,hx,hd=>
    rw [List.nodup_cons] at hd
    exact absurd (by rw [hx a (by simp),hx b (by simp)];simp) hd.1
  have h3:l.length=(l.filter fun x=>x !=(n:Int)).length+(l.filter fun x=> !(x !=(n:Int))).length:=by
   clear h1 h2 h hn
   induction l with
   |nil=>rfl
   |cons a l ih=>
    rw [List.filter_cons,List.filter_cons]
    cases (a !=(n:Int)) <;> simp <;> omega
  omega
theorem zjz {n:Nat} {l:List Wan} (h:WOk n l):l.length≤n:=by
 have:=zor (n:=n) h.1 fun x hx=>by
  obtain ⟨w,hw,rfl⟩:=List.mem_map.1 hx
  exact (h.2 w hw).1
 simpa using this
theorem zvb {h:Hist} (hs:zbu h=true) {w:List Wan} (hw:WOk h.ss.length w):zbu {h with wants:=w}=true:=by
 have:=(zf9 hs).2.2.1
 exact zqd hs (by have:=zjz hw;omega) hw.1 hw.2
theorem zvc {h:Hist} (hs:zbu h=true):WOk h.ss.length h.wants:=⟨(zf9 hs).1,(zf9 hs).2.1⟩
def k8 (h:Hist):List Wan:=zei h.wants (zb1 h)
theorem zb7 {h:Hist} (hc:q8 h=0):WOk h.ss.length (k8 h):=zp3 (zvc (zbe.1 hc)) fun g hg=>⟨(zet hc g hg).2,(zet hc g hg).1.2⟩
theorem zys {n:Int}:∀{T:List Grd} {l:List Wan},WOk n l→(∀g∈T,(0≤g.s∧g.s < n)∧0≤g.a∧g.a≤15)→(T.map Grd.s).Nodup→∀t,zn6 (zei l T) t=match T.find? (fun g=>g.s==t) with|some g=>g.a|none=>zn6 l t
 | [],l,h,_,_,t=>rfl
 |g::T,l,h,hT,hn,t=>by
  rw [List.map_cons,List.nodup_cons] at hn
  have h':=zi7 h (hT g (by simp)).1 (hT g (by simp)).2
  show zn6 (zei (zcd l g.s g.a) T) t=_
  rw [zys h' (fun x hx=>hT x (by simp [hx])) hn.2,List.find?_cons]
  by_cases e:g.s=t
  ·have h0:T.find? (fun g=>g.s==t)=none:=by
    rw [List.find?_eq_none]
    intro v hv q
    exact hn.1 (by rw [e,←eq_of_beq q];exact List.mem_map_of_mem hv)
   rw [h0,show (g.s==t)=true by simpa using e]
   simp only;rw [zhx h.1,if_pos e.symm]
  ·rw [show (g.s==t)=false by simpa using e]
   cases T.find? (fun g=>g.s==t) with
   |some v=>rfl
   |none=>simp only;rw [zhx h.1,if_neg (fun q=>e q.symm)]
theorem yhr {h:Hist} (hc:q8 h=0):(zb1 h).map Grd.s=upR h.ss.length:=by
 rw [zb1,if_pos hc,List.map_map];exact List.map_id' _
theorem ztz {h:Hist} (hc:q8 h=0) {s:Int} (h0:0≤s) (h1:s < h.ss.length):zn6 (k8 h) s=zk6 h s:=by
 have hn:((zb1 h).map Grd.s).Nodup:=by rw [yhr hc];exact zob _
 rw [k8,zys (zvc (zbe.1 hc)) (fun g hg=>⟨(zet hc g hg).2,(zet hc g hg).1.2⟩) hn]
 have hm:s∈(zb1 h).map Grd.s:=by
  rw [yhr hc,upR,List.mem_map]
  exact ⟨s.toNat,List.mem_range.2 (by omega),by omega⟩
 obtain ⟨g,hg,e⟩:=List.mem_map.1 hm
 cases hf:(zb1 h).find? (fun g=>g.s==s) with
 |none=>have:=List.find?_eq_none.1 hf g hg;simp [e] at this
 |some v=>
  have h2:v.s=s:=by simpa using List.find?_some hf
  have h3:=List.mem_of_find?_eq_some hf
  rw [zb1,if_pos hc] at h3
  obtain ⟨t,_,rfl⟩:=List.mem_map.1 h3
  simp only at h2 ⊢
  rw [h2]
def zai (h:Hist) (w:List Wan):Hist:={h with wants:=w}
theorem zg5 {h:Hist} (hc:q8 h=0) {w:List Wan} (hw:WOk h.ss.length w):q8 (zai h w)=0:=zbe.2 (zvb (zbe.1 hc) hw)
theorem zpw {h:Hist} (hc:q8 h=0) {w:List Wan} (hw:WOk h.ss.length w):zb1 (zai h w)=(upR h.ss.length).map fun s=>⟨s,zn6 w s,zk6 h s⟩:=by
 rw [zb1,if_pos (zg5 hc hw)]
 exact List.map_congr_left fun s _=>by
  rw [show (zai h w).wants=w from rfl,ydf hw.1]
  rw [show zk6 (zai h w) s=zk6 h s from zxf h w s]
theorem zrg {h:Hist} (hc:q8 h=0) {s b:Int} (h0:0≤s) (h1:s < h.ss.length) (hb:0≤b∧b≤15):
 decide (zbk (zb1 (zai h (zcd (k8 h) s b)))= [])=(bI .andNot .i64 b (zk6 h s)==0):=by
 have hw:=zi7 (zb7 hc) (s:=s) (b:=b) ⟨h0,h1⟩ hb
 have hh:0≤zk6 h s∧zk6 h s≤15:=by rw [zxg];exact zrf h s
 rw [ztw (g:=⟨s,b,zk6 h s⟩) hb hh,Bool.eq_iff_iff,decide_eq_true_iff,List.all_eq_true,zpw hc hw,zw4]
 constructor
 ·intro hl x hx
  have:=hl ⟨s,b,zk6 h s⟩ (List.mem_map.2 ⟨s,(zqa _ _).2 ⟨h0,h1⟩,by rw [zhx (zb7 hc).1,if_pos rfl]⟩) x hx
  rw [this];rfl
 ·intro hl g hg x hx
  obtain ⟨t,ht,rfl⟩:=List.mem_map.1 hg
  have hr:=(zqa _ _).1 ht
  rw [zhx (zb7 hc).1]
  by_cases e:t=s
  ·subst e;rw [if_pos rfl]
   have:=hl x hx
   simpa using this
  ·rw [if_neg e,ztz hc hr.1 hr.2]
   exact zw3 (by rw [zxg];exact zrf h t) hx
def ylr (t:Int):Ev:=⟨1,t,0,1,0,⟨0,0⟩,0,[]⟩
def ylq (t:Int):Ev:=⟨5,t,0,0,0,⟨0,0⟩,0,[]⟩
def yda:ByteArray:=⟨#[115]⟩
def bxx:ByteArray:=⟨#[120]⟩
def seW (t k:Int):Ev:=⟨2,0,0,0,0,⟨t,k⟩,0,[]⟩
section
variable {α:Type} {q:α→α→Bool}
end
theorem zqu (G:List Res) (n:NV) (sE sO sM:Value) (h:Hist) (E:List (SV×Ev)) (O:List (SV×H.Ord)) (M:List (SV×Mat)) (T9 T40 T54 T57 T52 T3:TypeId) (H:List Res) (hE:E.map (·.2)=h.evs) (hO:O.map (·.2)=h.ords) (hM:M.map (·.2)=h.mats)
 (h1: .row n.vT.v 1 T9 (h.ts.map za7)∈H) (h2: .row n.vS.v 1 T9 (h.ss.map za7)∈H) (h3: .row n.vO.v 1 T9 (h.os.map za7)∈H) (h4: .row n.vP.v 1 T9 (h.ps.map za7)∈H)
 (h5: .row sE 9 T40 (E.map yc5)∈H) (h6: .row sO 2 T54 (O.map zqw)∈H) (h7: .row sM 4 T57 (M.map zuf)∈H) (h9:∀r∈scR T52 E,r∈H) (h10:∀r∈otR T3 O,r∈H) (h11:∀r∈mtR T3 M,r∈H):
 zgn (G++H) (.agg [.v n.vT.v,.v n.vS.v,.v n.vO.v,.v n.vP.v,.v sE,.v sO,.v sM,zfp h.wants]) G (.agg (x4 h)):=by
 refine ⟨fun x hx=>by rw [x7];exact List.mem_append_left _ hx,fun X w v hh hr=> ?_⟩
 have hG:HRel X w G:=HRel.drop (h:=H) (hh.perm List.perm_append_comm)
 refine ⟨hG,?_⟩
 have hmem:∀r∈H,r∈G++H:=fun r hr=>List.mem_append_right _ hr
 have hout:∀r∈H,∀x∈r.own,¬OO G X x:=fun r hr x hx q=>by
  have hxH:x∈u4 H:=j3.2 ⟨r,hr,hx⟩
  have hn:=hh.nodup
  rw [x7,List.nodup_append] at hn
  rcases q with q|q
  ·exact hn.2.2 x q x hxH rfl
  ·exact (hh.lt x (by rw [x7];exact List.mem_append_right _ hxH)).2 q
 have lo:∀av u,Rel w (OO (G++H) X) av u→Rel w (OO G X) av u:=fun av u r=>r.loose fun x hx=>hx.imp (fun q=>by rw [x7];exact List.mem_append_left _ q) id
 have S:∀{α:Type} {s:Value} {sz:Nat} {T:TypeId} {f g:α→List AV} {l:List α},.row s sz T (l.map f)∈H→(∀a∈l,CT w (OO (G++H) X) (OO G X) (f a) (g a))→Rel w (OO G X) (.list false sz (l.map g)) s:=
  fun hm hc=>ydz hh (hmem _ hm) (hout _ hm) hc
 have str:∀{s:Value} {l:List ByteArray},.row s 1 T9 (l.map za7)∈H→Rel w (OO G X) (zbg l) s:=fun hm=>S (f:=za7) (g:=za7) hm fun a _=>⟨sc _,trivial⟩
 have evs:Rel w (OO G X) (zrk h.evs) sE:=by
  have:=S (g:=fun p=>evR p.2) h5 fun p hp=>⟨sc _,sc _,sc _,sc _,sc _,sc _,sc _,sc _,sn (S (f:=zaw) (g:=zaw) (h9 _ (List.mem_map.2 ⟨p,hp,rfl⟩)) fun a _=>⟨sc _,sc _,sc _,trivial⟩),trivial⟩
  rw [←hE]
  show Rel w (OO G X) (.list false 9 ((E.map (·.2)).map evR)) sE
  rw [List.map_map];exact this
 have ords:Rel w (OO G X) (zqv h.ords) sO:=by
  have:=S (g:=fun p=>zc7 p.2) h6 fun p hp=>⟨sc _,sn (S (f:=zba) (g:=zba) (h10 _ (List.mem_map.2 ⟨p,hp,rfl⟩)) fun a _=>⟨sc _,trivial⟩),trivial⟩
  rw [←hO]
  show Rel w (OO G X) (.list false 2 ((O.map (·.2)).map zc7)) sO
  rw [List.map_map];exact this
 have mats:Rel w (OO G X) (zq4 h.mats) sM:=by
  have:=S (g:=fun p=>zdc p.2) h7 fun p hp=>⟨sc _,sc _,sc _,sn (S (f:=zba) (g:=zba) (h11 _ (List.mem_map.2 ⟨p,hp,rfl⟩)) fun a _=>⟨sc _,trivial⟩),trivial⟩
  rw [←hM]
  show Rel w (OO G X) (.list false 4 ((M.map (·.2)).map zdc)) sM
  rw [List.map_map];exact this
 have hcells:CT w (OO (G++H) X) (OO G X) [.v n.vT.v,.v n.vS.v,.v n.vO.v,.v n.vP.v,.v sE,.v sO,.v sM,zfp h.wants] (x4 h):=⟨sn (str h1),sn (str h2),sn (str h3),sn (str h4),sn evs,sn ords,sn mats,lo _,trivial⟩
 cases hr with
 |agg _ ds hl2 hc2=>exact .agg _ ds (by rw [hcells.len];exact hl2) fun j a b=>hcells.get j (by rw [←hcells.len];exact a) a _ (hc2 j (by rw [←hcells.len];exact a) b)
end Go.H
set_option maxRecDepth 10000
namespace Go.Proofs
open Go Go.Ab
attribute [local irreducible] QR QV OE zcc aw zco za8 zav zah thn zez
open Go.H
theorem zti {f:Bool} (rows:List (List AV)) (hl:rows.length≤1099511627776):x3 Tryz.prog 55 [.list f 1 rows] [] (fun r h'=>h'= []∧r= .list false 1 rows):=by
 refine z6 Tryz.func55 rfl rfl rfl ?_
 refine rn ?_;refine z7 rfl (zdu rfl rfl rfl fun b4 hb4=> ?_)
 refine rn ?_;refine z8 rfl (fun hc4=> ?_) (fun hc4=> ?_)
 ·refine rn ?_;have h0:=hb4 hc4
  subst h0
  exact k7 rfl (.le (Sb.nil _ _).le) ⟨rfl,rfl⟩
 ·refine rn ?_;refine qv rfl rfl (u1 rfl rfl) ?_
  refine rn ?_;refine qv rfl rfl (zka rfl rfl (by simpa using hl)) ?_
  refine rn ?_;exact k7 rfl (.refl _ _) ⟨rfl,by rw [List.nil_append];rfl⟩
theorem zpq {f:Bool} (rows:List (List AV)) (hl:rows.length * 8≤140737488355328) (hone:∀r∈rows,r.all AV.one=true):x3 Tryz.prog 55 [.list f 1 rows] [] (fun r h'=>∃s,h'= [.row s 1 3 rows]∧r= .v s):=by
 refine z6 Tryz.func55 rfl rfl rfl ?_
 refine rn ?_;refine z7 rfl (zdu rfl rfl rfl fun b4 hb4=> ?_)
 refine rn ?_;refine z8 rfl (fun hc4=> ?_) (fun hc4=> ?_)
 ·refine rn ?_;have h0:=hb4 hc4
  subst h0
  exact k7 rfl (k9 1 3 _) ⟨_,rfl,rfl⟩
 ·refine rn ?_;refine z7 rfl (zc9 rfl rfl rfl fun s5=> ?_)
  refine rn ?_;refine z7 rfl (zbx rfl rfl (by simp only [List.length_nil];omega) rfl (fun s7=> ?_) hone (by simpa using hl))
  refine rn ?_;exact k7 rfl (.refl _ _) ⟨_,by rw [List.nil_append],rfl⟩
theorem zfd {f:Bool} (rows:List (List AV)) (hl:rows.length≤1099511627776) (hone:∀r∈rows,r.all AV.one=true):x3 Tryz.prog 55 [.list f 1 rows] [] (fun r h'=>∃s,h'= [.row s 1 3 rows]∧r= .v s):=zpq rows (by omega) hone
theorem zpm {f:Bool} (rows:List (List AV)) (hl:rows.length * 16≤140737488355328) (hone:∀r∈rows,r.all AV.one=true):x3 Tryz.prog 124 [.list f 1 rows] [] (fun r h'=>∃s,h'= [.row s 1 9 rows]∧r= .v s):=by
 refine z6 Tryz.func124 rfl rfl rfl ?_
 refine rn ?_;refine z7 rfl (zdu rfl rfl rfl fun b4 hb4=> ?_)
 refine rn ?_;refine z8 rfl (fun hc4=> ?_) (fun hc4=> ?_)
 ·refine rn ?_;have h0:=hb4 hc4
  subst h0
  exact k7 rfl (k9 1 9 _) ⟨_,rfl,rfl⟩
 ·refine rn ?_;refine z7 rfl (zc9 rfl rfl rfl fun s5=> ?_)
  refine rn ?_;refine z7 rfl (zbx rfl rfl (by simp only [List.length_nil];omega) rfl (fun s7=> ?_) hone (by simpa using hl))
  refine rn ?_;exact k7 rfl (.refl _ _) ⟨_,by rw [List.nil_append],rfl⟩
theorem zd8 {f:Bool} (rows:List (List AV)) (hl:rows.length≤1099511627776) (hone:∀r∈rows,r.all AV.one=true):x3 Tryz.prog 124 [.list f 1 rows] [] (fun r h'=>∃s,h'= [.row s 1 9 rows]∧r= .v s):=zpm rows (by omega) hone
theorem zx7 {f:Bool} (rows:List (List AV)) (hl:rows.length≤1099511627776):x3 Tryz.prog 81 [.list f 3 rows] [] (fun r h'=>h'= []∧r= .list false 3 rows):=by
 refine z6 Tryz.func81 rfl rfl rfl ?_
 refine rn ?_;refine z7 rfl (zdu rfl rfl rfl fun b4 hb4=> ?_)
 refine rn ?_;refine z8 rfl (fun hc4=> ?_) (fun hc4=> ?_)
 ·refine rn ?_;have h0:=hb4 hc4
  subst h0
  exact k7 rfl (.le (Sb.nil _ _).le) ⟨rfl,rfl⟩
 ·refine rn ?_;refine qv rfl rfl (u1 rfl rfl) ?_
  refine rn ?_;refine qv rfl rfl (zka rfl rfl (by simpa using hl)) ?_
  refine rn ?_;exact k7 rfl (.refl _ _) ⟨rfl,by rw [List.nil_append];rfl⟩
theorem znn {f:Bool} (rows:List (List AV)) (hl:rows.length * 24≤140737488355328) (hone:∀r∈rows,r.all AV.one=true):x3 Tryz.prog 81 [.list f 3 rows] [] (fun r h'=>∃s,h'= [.row s 3 139 rows]∧r= .v s):=by
 refine z6 Tryz.func81 rfl rfl rfl ?_
 refine rn ?_;refine z7 rfl (zdu rfl rfl rfl fun b4 hb4=> ?_)
 refine rn ?_;refine z8 rfl (fun hc4=> ?_) (fun hc4=> ?_)
 ·refine rn ?_;have h0:=hb4 hc4
  subst h0
  exact k7 rfl (k9 3 139 _) ⟨_,rfl,rfl⟩
 ·refine rn ?_;refine z7 rfl (zc9 rfl rfl rfl fun s5=> ?_)
  refine rn ?_;refine z7 rfl (zbx rfl rfl (by simp only [List.length_nil];omega) rfl (fun s7=> ?_) hone (by simpa using hl))
  refine rn ?_;exact k7 rfl (.refl _ _) ⟨_,by rw [List.nil_append],rfl⟩
theorem zpn {f:Bool} (rows:List (List AV)) (hl:rows.length≤1099511627776) (hone:∀r∈rows,r.all AV.one=true):x3 Tryz.prog 81 [.list f 3 rows] [] (fun r h'=>∃s,h'= [.row s 3 139 rows]∧r= .v s):=znn rows (by omega) hone
theorem zu0 {f:Bool} (rows:List (List AV)) (hl:rows.length≤1099511627776) (hone:∀r∈rows,r.all AV.one=true):x3 Tryz.prog 53 [.list f 9 rows] [] (fun r h'=>∃s,h'= [.row s 9 66 rows]∧r= .v s):=by
 refine z6 Tryz.func53 rfl rfl rfl ?_
 refine rn ?_;refine z7 rfl (zdu rfl rfl rfl fun b4 hb4=> ?_)
 refine rn ?_;refine z8 rfl (fun hc4=> ?_) (fun hc4=> ?_)
 ·refine rn ?_;have h0:=hb4 hc4
  subst h0
  exact k7 rfl (k9 9 66 _) ⟨_,rfl,rfl⟩
 ·refine rn ?_;refine z7 rfl (zc9 rfl rfl rfl fun s5=> ?_)
  refine rn ?_;refine z7 rfl (j7 rfl rfl (by simpa using hl) rfl (fun s7=> ?_) hone)
  refine rn ?_;exact k7 rfl (.refl _ _) ⟨_,by rw [List.nil_append],rfl⟩
theorem zpo {f:Bool} (rows:List (List AV)) (hl:rows.length * 32≤140737488355328) (hone:∀r∈rows,r.all AV.one=true):x3 Tryz.prog 54 [.list f 2 rows] [] (fun r h'=>∃s,h'= [.row s 2 99 rows]∧r= .v s):=by
 refine z6 Tryz.func54 rfl rfl rfl ?_
 refine rn ?_;refine z7 rfl (zdu rfl rfl rfl fun b4 hb4=> ?_)
 refine rn ?_;refine z8 rfl (fun hc4=> ?_) (fun hc4=> ?_)
 ·refine rn ?_;have h0:=hb4 hc4
  subst h0
  exact k7 rfl (k9 2 99 _) ⟨_,rfl,rfl⟩
 ·refine rn ?_;refine z7 rfl (zc9 rfl rfl rfl fun s5=> ?_)
  refine rn ?_;refine z7 rfl (zbx rfl rfl (by simp only [List.length_nil];omega) rfl (fun s7=> ?_) hone (by simpa using hl))
  refine rn ?_;exact k7 rfl (.refl _ _) ⟨_,by rw [List.nil_append],rfl⟩
theorem zrs {f:Bool} (rows:List (List AV)) (hl:rows.length≤1099511627776) (hone:∀r∈rows,r.all AV.one=true):x3 Tryz.prog 54 [.list f 2 rows] [] (fun r h'=>∃s,h'= [.row s 2 99 rows]∧r= .v s):=zpo rows (by omega) hone
theorem zpp {f:Bool} (rows:List (List AV)) (hl:rows.length * 48≤140737488355328) (hone:∀r∈rows,r.all AV.one=true):x3 Tryz.prog 128 [.list f 4 rows] [] (fun r h'=>∃s,h'= [.row s 4 112 rows]∧r= .v s):=by
 refine z6 Tryz.func128 rfl rfl rfl ?_
 refine rn ?_;refine z7 rfl (zdu rfl rfl rfl fun b4 hb4=> ?_)
 refine rn ?_;refine z8 rfl (fun hc4=> ?_) (fun hc4=> ?_)
 ·refine rn ?_;have h0:=hb4 hc4
  subst h0
  exact k7 rfl (k9 4 112 _) ⟨_,rfl,rfl⟩
 ·refine rn ?_;refine z7 rfl (zc9 rfl rfl rfl fun s5=> ?_)
  refine rn ?_;refine z7 rfl (zbx rfl rfl (by simp only [List.length_nil];omega) rfl (fun s7=> ?_) hone (by simpa using hl))
  refine rn ?_;exact k7 rfl (.refl _ _) ⟨_,by rw [List.nil_append],rfl⟩
theorem zrt {f:Bool} (rows:List (List AV)) (hl:rows.length≤1099511627776) (hone:∀r∈rows,r.all AV.one=true):x3 Tryz.prog 128 [.list f 4 rows] [] (fun r h'=>∃s,h'= [.row s 4 112 rows]∧r= .v s):=zpp rows (by omega) hone
theorem ybv {f:Bool} (rows:List (List AV)) (hl:rows.length≤1099511627776):x3 Tryz.prog 82 [.list f 2 rows] [] (fun r h'=>h'= []∧r= .list false 2 rows):=by
 refine z6 Tryz.func82 rfl rfl rfl ?_
 refine rn ?_;refine z7 rfl (zdu rfl rfl rfl fun b4 hb4=> ?_)
 refine rn ?_;refine z8 rfl (fun hc4=> ?_) (fun hc4=> ?_)
 ·refine rn ?_;have h0:=hb4 hc4
  subst h0
  exact k7 rfl (.le (Sb.nil _ _).le) ⟨rfl,rfl⟩
 ·refine rn ?_;refine qv rfl rfl (u1 rfl rfl) ?_
  refine rn ?_;refine qv rfl rfl (zka rfl rfl (by simpa using hl)) ?_
  refine rn ?_;exact k7 rfl (.refl _ _) ⟨rfl,by rw [List.nil_append];rfl⟩
attribute [local irreducible] zdl jch zeb
theorem ybt {full:Bool} (l:List ByteArray) (most:Nat) (hm:most≤1000):x3 Tryz.prog 80 [.list full 1 (l.map za7),iv most] [] (fun r h'=>h'= []∧r=zbg (zk7 most l)):=by
 refine z6 Tryz.func80 rfl rfl rfl ?_
 refine x9 (y5 ?_)
 refine q1 ?_;refine u3 (j8 ?_)
 refine x9 (y5 ?_)
 refine q1 ?_;refine q1 ?_;refine q1 ?_;refine q1 ?_;refine qq rfl rfl (zh0 (l.map za7).length most rfl rfl) ?_
 refine qq rfl rfl (zd3 (rows':=(l.take most).map za7) rfl rfl (by omega) (by rw [oM];exact take_min za7 l most)) ?_
 refine z7 rfl (w7 rfl rfl (y3.rowS (y3.of_fun (zd8 _ (by simp;omega) (zke _)))) rfl ?_)
 rintro _ _ ⟨s,rfl,rfl⟩
 refine rn ?_;refine u9 (fun k:Nat=>k≤(l.take most).length) (fun k=>⟨[(17,iv k),(16,iv ((l.take most).map za7).length),(15,.v s.v),(5,.v s.v)],[.row s.v 1 9 ((((l.take most).take k).map cutS).map za7++((l.take most).drop k).map za7)],[]⟩) (fun k=>(l.take most).length - k) 0 (by omega)
  (by simp only [List.take_zero,List.map_nil,List.nil_append,List.drop_zero];exact (x8 (.cons _ _ _ rfl (.cons _ _ _ rfl (.cons _ _ _ rfl (.cons _ _ _ rfl (.nil))))))) ?_
 intro k hk
 refine rn ?_;refine z8 rfl (fun hc18=> ?_) (fun hc18=> ?_)
 ·have hk2:k < (l.take most).length:=by simpa using hc18
  obtain ⟨b,hb⟩:∃b,b=(l.take most)[k]:=⟨_,rfl⟩
  have hd:=List.drop_eq_getElem_cons hk2
  rw [←hb] at hd
  have hL:=List.length_take_le most l
  have hkl:(((l.take most).take k).map cutS).length=k:=by rw [oM,List.length_take];omega
  have hrow:=zm2 (f:=za7) (g:=za7) (xs:=((l.take most).take k).map cutS) (k:=k) hkl hd
  have hk3:k < ((((l.take most).take k).map cutS).map za7++((l.take most).drop k).map za7).length:=by rw [zm1 hkl hk];exact hk2
  refine zab ?_;refine j8 ?_;refine x9 ?_;refine zad ?_;refine x9 (y5 ?_)
  refine q1 ?_;refine q1 ?_;refine qq rfl rfl (zcf rfl hrow rfl) ?_
  refine q1 ?_;refine q1 ?_;refine u3 (j8 ?_)
  refine y5 ?_;refine q1 ?_;refine q1 ?_;refine q1 ?_;refine q1 ?_;refine q1 ?_;refine qq rfl rfl (zh0 b.size 40 rfl rfl) ?_
  refine qq rfl rfl (zex rfl rfl (by omega)) ?_
  refine rn ?_;refine z7 rfl (zae rfl rfl rfl hrow rfl (Nat.le_of_ble_eq_true rfl) ?_)
  refine rn ?_;have hset:=zmz (f:=za7) (g:=za7) (l:=(l.take most)) (xs:=((l.take most).take k).map cutS) (a:=cutS b) (r:=(za7 b).take 0++ [sv (cutS b)]++(za7 b).drop (0+1)) hkl hd rfl
  have hx:((l.take most).take k).map cutS++ [cutS b]=((l.take most).take (k+1)).map cutS:=by rw [List.take_succ_eq_append_getElem hk2,hb];simp
  rw [hx] at hset
  exact ⟨k+1,by omega,(by rw [←hset];exact (x8 (.cons _ _ _ rfl (.cons _ _ _ rfl (.cons _ _ _ rfl (.cons _ _ _ rfl (.nil))))))),by omega⟩
 ·obtain rfl:k=(l.take most).length:=by
   have:¬k < (l.take most).length:=by simpa using hc18
   omega
  rw [List.take_length,List.drop_length,List.map_nil,List.append_nil]
  refine rn ?_;exact k7 rfl zj0 ⟨rfl,rfl⟩
theorem ym9 (h:Hist) (la:Lim 4611686018427387904 h):x3 Tryz.prog 32 [.agg (x4 h)] [] (fun r h'=>h'= []∧r= .agg (x4 (zjp h))):=by
 refine z6 Tryz.func32 rfl rfl rfl ?_
 refine rn ?_;refine z7 rfl (w6 rfl rfl rfl fun b1=> ?_)
 refine z7 rfl (x6 rfl fun b2=> ?_)
 refine rn0 ?_;refine zig (fun _:Nat=>True) (fun b3=>⟨[(1,pZ b1),(2,pZ b2),(3,pZ b3)],[.box b3 28 [zbg (zk7 12 h.ts),zbg (zk7 8 h.ss),zbg (zk7 10 h.os),zbg (zk7 6 h.ps),zn2,zn2,zn2,zn2],.box b2 28 zd5,.box b1 28 (x4 h)],[]⟩) ?_ ?_
 ·refine j5 14 rfl ?_
  refine rn ?_;refine dv rfl rfl (by exact y6 rfl rfl (zax (ybt h.ts 12 (by decide)) (Sbs.refl _))) ?_
  refine rn ?_;refine dv rfl rfl (by exact y6 rfl rfl (zax (ybt h.ss 8 (by decide)) (Sbs.refl _))) ?_
  refine rn ?_;refine dv rfl rfl (by exact y6 rfl rfl (zax (ybt h.os 10 (by decide)) (Sbs.refl _))) ?_
  refine rn ?_;refine dv rfl rfl (by exact y6 rfl rfl (zax (ybt h.ps 6 (by decide)) (Sbs.refl _))) ?_
  refine rn ?_;refine ybs rfl fun b3=> ?_
  refine rn ?_;exact ⟨b3,trivial,(x8 (.cons _ _ _ rfl (.cons _ _ _ rfl (.cons _ _ _ rfl (.nil)))))⟩
 ·intro b3 _
  refine rn ?_;refine u9 (fun x:Nat×SV=>x.1≤h.evs.length) (fun x=>⟨[(26,iv x.1),(25,iv (h.evs.map evR).length),(24,zrk h.evs),(1,pZ b1),(2,pZ b2),(3,pZ b3)],[.row x.2.v 9 66 (((h.evs.take (min x.1 70)).map zpi).map evR),.box b3 28 [zbg (zk7 12 h.ts),zbg (zk7 8 h.ss),zbg (zk7 10 h.os),zbg (zk7 6 h.ps),.v x.2.v,zn2,zn2,zn2],.box b2 28 zd5,.box b1 28 (x4 h)],[]⟩) (fun x=>h.evs.length - x.1) (0,ymo) (by simp)
   (w9 (za1 9 66) (x8 (.cons _ _ _ rfl (.cons _ _ _ rfl (.cons _ _ _ rfl (.cons _ _ _ rfl (.cons _ _ _ rfl (.cons _ _ _ rfl (.nil))))))))) ?_
  rintro ⟨k,s⟩ hk
  simp only at hk
  refine rn ?_;refine z8 rfl (fun hc27=> ?_) (fun hc27=> ?_)
  ·have hk2:k < h.evs.length:=by simpa using hc27
   obtain ⟨e,he⟩:∃e,e=h.evs[k]:=⟨_,rfl⟩
   have hrow:(h.evs.map evR)[k]? =some (evR e):=by rw [he];simp [hk2]
   have hle:=la.evs
   refine rn ?_;refine z7 rfl (x6 rfl fun b5=> ?_)
   refine rn ?_;refine z8 rfl (fun hc32=> ?_) (fun hc32=> ?_)
   ·have hlt:k < 70:=by have:=hc32;simp at this;omega
    refine x9 (y5 ?_)
    refine q1 ?_;refine q1 ?_;refine q1 ?_;refine q1 ?_;refine q1 ?_;refine qq rfl rfl (zh0 (e.scan.map zaw).length 12 rfl rfl) ?_
    refine qq rfl rfl (zd3 (rows':=(e.scan.take 12).map zaw) rfl rfl (by omega) (by rw [oM];exact take_min zaw e.scan 12)) ?_
    refine qv rfl rfl (y6 rfl rfl (zax (zx7 ((e.scan.take 12).map zaw) (by simp;omega)) (Sbs.refl _))) ?_
    refine rn ?_;refine qv rfl rfl (u1 rfl rfl) ?_
    refine z7 rfl (j7 rfl rfl (by have:=zvl h.evs k 70;simp at this ⊢;omega) rfl (fun s46=> ?_) (fun r hr=>by simp at hr;subst hr;rfl))
    refine zal s46 fun sv hsv=> ?_
    subst hsv
    refine rn ?_;have hx:((h.evs.take (min (k+1) 70)).map zpi).map evR=((h.evs.take (min k 70)).map zpi).map evR++ [evR (zpi e)]:=by rw [yd1 hk2 hlt he];simp
    exact ⟨(k+1,sv),by simp only;omega,(by rw [hx];exact (w9 (zbd (h1:= [_])) (x8 (.cons _ _ _ rfl (.cons _ _ _ rfl (.cons _ _ _ rfl (.cons _ _ _ rfl (.cons _ _ _ rfl (.cons _ _ _ rfl (.nil)))))))))),by simp only;omega⟩
   ·have hlt:¬k < 70:=by have:=hc32;simp at this;omega
    refine rn ?_;exact ⟨(k+1,s),by simp only;omega,(by rw [yd0 hlt];exact (w9 (zbd (h1:= [_])) (x8 (.cons _ _ _ rfl (.cons _ _ _ rfl (.cons _ _ _ rfl (.cons _ _ _ rfl (.cons _ _ _ rfl (.cons _ _ _ rfl (.nil)))))))))),by simp only;omega⟩
  ·obtain rfl:k=h.evs.length:=by
    have:¬k < h.evs.length:=by simpa using hc27
    omega
   obtain ⟨sE,hsE⟩:∃sE:SV,sE=s:=⟨_,rfl⟩
   simp only [zvm,←hsE]
   refine rn ?_;refine u9 (fun x:Nat×SV=>x.1≤h.ords.length) (fun x=>⟨[(52,iv x.1),(51,iv (h.ords.map zc7).length),(50,zqv h.ords),(1,pZ b1),(2,pZ b2),(3,pZ b3)],[.row x.2.v 2 99 (((h.ords.take (min x.1 14)).map zrr).map zc7),.row sE.v 9 66 (((h.evs.take 70).map zpi).map evR),.box b3 28 [zbg (zk7 12 h.ts),zbg (zk7 8 h.ss),zbg (zk7 10 h.os),zbg (zk7 6 h.ps),.v sE.v,.v x.2.v,zn2,zn2],.box b2 28 zd5,.box b1 28 (x4 h)],[]⟩) (fun x=>h.ords.length - x.1) (0,ymo) (by simp)
    (w9 (za1 2 99) (x8 (.cons _ _ _ rfl (.cons _ _ _ rfl (.cons _ _ _ rfl (.cons _ _ _ rfl (.cons _ _ _ rfl (.cons _ _ _ rfl (.nil))))))))) ?_
   rintro ⟨k,s⟩ hk
   simp only at hk
   refine rn ?_;refine z8 rfl (fun hc53=> ?_) (fun hc53=> ?_)
   ·have hk2:k < h.ords.length:=by simpa using hc53
    obtain ⟨e,he⟩:∃e,e=h.ords[k]:=⟨_,rfl⟩
    have hrow:(h.ords.map zc7)[k]? =some (zc7 e):=by rw [he];simp [hk2]
    have hle:=la.ords
    refine rn ?_;refine z7 rfl (x6 rfl fun b7=> ?_)
    refine rn ?_;refine z8 rfl (fun hc58=> ?_) (fun hc58=> ?_)
    ·have hlt:k < 14:=by have:=hc58;simp at this;omega
     refine j5 14 rfl ?_
     refine dq rfl rfl qrA ?_;refine dq rfl rfl qrA ?_;refine dq rfl rfl qrA ?_;refine dq rfl rfl qrA ?_;refine dq rfl rfl qrA ?_;refine dq rfl rfl qrA ?_;refine dq rfl rfl qrA ?_;refine dq rfl rfl qrA ?_;refine dq rfl rfl qrA ?_;refine dq rfl rfl (zh0 (e.ts.map zba).length 14 rfl rfl) ?_
     refine dq rfl rfl (zd3 (rows':=(e.ts.take 14).map zba) rfl rfl (by omega) (by rw [oM];exact take_min zba e.ts 14)) ?_
     refine dv rfl rfl (by exact y6 rfl rfl (zax (zti ((e.ts.take 14).map zba) (by simp;omega)) (Sbs.refl _))) ?_
     refine rn ?_;refine dv rfl rfl (u1 rfl rfl) ?_
     refine rn ?_;refine z7 rfl (j7 rfl rfl (by have:=zvl h.ords k 14;simp at this ⊢;omega) rfl (fun s73=> ?_) (fun r hr=>by simp at hr;subst hr;rfl))
     refine zal s73 fun sv hsv=> ?_
     subst hsv
     refine rn ?_;have hx:((h.ords.take (min (k+1) 14)).map zrr).map zc7=((h.ords.take (min k 14)).map zrr).map zc7++ [zc7 (zrr e)]:=by rw [yd1 hk2 hlt he];simp
     exact ⟨(k+1,sv),by simp only;omega,(by rw [hx];exact (w9 (zbd (h1:= [_])) (x8 (.cons _ _ _ rfl (.cons _ _ _ rfl (.cons _ _ _ rfl (.cons _ _ _ rfl (.cons _ _ _ rfl (.cons _ _ _ rfl (.nil)))))))))),by simp only;omega⟩
    ·have hlt:¬k < 14:=by have:=hc58;simp at this;omega
     refine rn ?_;exact ⟨(k+1,s),by simp only;omega,(by rw [yd0 hlt];exact (w9 (zbd (h1:= [_])) (x8 (.cons _ _ _ rfl (.cons _ _ _ rfl (.cons _ _ _ rfl (.cons _ _ _ rfl (.cons _ _ _ rfl (.cons _ _ _ rfl (.nil)))))))))),by simp only;omega⟩
   ·obtain rfl:k=h.ords.length:=by
     have:¬k < h.ords.length:=by simpa using hc53
     omega
    obtain ⟨sO,hsO⟩:∃sO:SV,sO=s:=⟨_,rfl⟩
    simp only [zvm,←hsO]
    refine rn ?_;refine u9 (fun x:Nat×SV=>x.1≤h.mats.length) (fun x=>⟨[(79,iv x.1),(78,iv (h.mats.map zdc).length),(77,zq4 h.mats),(1,pZ b1),(2,pZ b2),(3,pZ b3)],[.row x.2.v 4 112 (((h.mats.take (min x.1 20)).map zuy).map zdc),.row sO.v 2 99 (((h.ords.take 14).map zrr).map zc7),.row sE.v 9 66 (((h.evs.take 70).map zpi).map evR),.box b3 28 [zbg (zk7 12 h.ts),zbg (zk7 8 h.ss),zbg (zk7 10 h.os),zbg (zk7 6 h.ps),.v sE.v,.v sO.v,.v x.2.v,zn2],.box b2 28 zd5,.box b1 28 (x4 h)],[]⟩) (fun x=>h.mats.length - x.1) (0,ymo) (by simp)
     (w9 (za1 4 112) (x8 (.cons _ _ _ rfl (.cons _ _ _ rfl (.cons _ _ _ rfl (.cons _ _ _ rfl (.cons _ _ _ rfl (.cons _ _ _ rfl (.nil))))))))) ?_
    rintro ⟨k,s⟩ hk
    simp only at hk
    refine rn ?_;refine z8 rfl (fun hc80=> ?_) (fun hc80=> ?_)
    ·have hk2:k < h.mats.length:=by simpa using hc80
     obtain ⟨e,he⟩:∃e,e=h.mats[k]:=⟨_,rfl⟩
     have hrow:(h.mats.map zdc)[k]? =some (zdc e):=by rw [he];simp [hk2]
     have hle:=la.mats
     refine rn ?_;refine z7 rfl (x6 rfl fun b9=> ?_)
     refine rn ?_;refine z8 rfl (fun hc85=> ?_) (fun hc85=> ?_)
     ·have hlt:k < 20:=by have:=hc85;simp at this;omega
      refine x9 (y5 ?_)
      refine q1 ?_;refine q1 ?_;refine q1 ?_;refine q1 ?_;refine q1 ?_;refine qq rfl rfl (zh0 (e.ts.map zba).length 14 rfl rfl) ?_
      refine qq rfl rfl (zd3 (rows':=(e.ts.take 14).map zba) rfl rfl (by omega) (by rw [oM];exact take_min zba e.ts 14)) ?_
      refine qv rfl rfl (y6 rfl rfl (zax (zti ((e.ts.take 14).map zba) (by simp;omega)) (Sbs.refl _))) ?_
      refine rn ?_;refine qv rfl rfl (u1 rfl rfl) ?_
      refine z7 rfl (j7 rfl rfl (by have:=zvl h.mats k 20;simp at this ⊢;omega) rfl (fun s99=> ?_) (fun r hr=>by simp at hr;subst hr;rfl))
      refine zal s99 fun sv hsv=> ?_
      subst hsv
      refine rn ?_;have hx:((h.mats.take (min (k+1) 20)).map zuy).map zdc=((h.mats.take (min k 20)).map zuy).map zdc++ [zdc (zuy e)]:=by rw [yd1 hk2 hlt he];simp
      exact ⟨(k+1,sv),by simp only;omega,(by rw [hx];exact (w9 (zbd (h1:= [_])) (x8 (.cons _ _ _ rfl (.cons _ _ _ rfl (.cons _ _ _ rfl (.cons _ _ _ rfl (.cons _ _ _ rfl (.cons _ _ _ rfl (.nil)))))))))),by simp only;omega⟩
     ·have hlt:¬k < 20:=by have:=hc85;simp at this;omega
      refine rn ?_;exact ⟨(k+1,s),by simp only;omega,(by rw [yd0 hlt];exact (w9 (zbd (h1:= [_])) (x8 (.cons _ _ _ rfl (.cons _ _ _ rfl (.cons _ _ _ rfl (.cons _ _ _ rfl (.cons _ _ _ rfl (.cons _ _ _ rfl (.nil)))))))))),by simp only;omega⟩
    ·obtain rfl:k=h.mats.length:=by
      have:¬k < h.mats.length:=by simpa using hc80
      omega
     obtain ⟨sM,hsM⟩:∃sM:SV,sM=s:=⟨_,rfl⟩
     simp only [zvm,←hsM]
     refine zg4 ?_;refine zgv ?_;refine zgv ?_;refine zdm ?_;refine j8 ?_;refine x9 (y5 ?_)
     refine q1 ?_;refine q1 ?_;refine q1 ?_;refine q1 ?_;refine q1 ?_;refine qq rfl rfl (zh0 (h.wants.map zcm).length 12 rfl rfl) ?_
     refine qq rfl rfl (zd3 (rows':=(h.wants.take 12).map zcm) rfl rfl (by omega) (by rw [oM];exact take_min zcm h.wants 12)) ?_
     refine qv rfl rfl (y6 rfl rfl (zax (ybv ((h.wants.take 12).map zcm) (by simp;omega)) (Sbs.refl _))) ?_
     refine rn ?_;exact zea (.cons _ _ _ _ (.agg _ _ _ _ _ _ _ rfl inferInstance inferInstance inferInstance rfl) .nil) (.trans (zcj [_,_,_,_,_,_] _) (.trans (zcj [_,_,_,_,_] _) (.trans (zcj [_,_,_,_] _) (.drop [_,_,_] _ _)))) ⟨rfl,rfl⟩
end Go.Proofs
namespace Go.Ab
open Go
class HasMapE (h:List Res) (r:Nat) (i:outParam Nat) (es:outParam (List (Value×AV))) (j st:outParam Nat):Prop where
 h:h[i]? =some (.mape r es j st)
instance HasMapE.head {r:Nat} {es:List (Value×AV)} {j st:Nat} {h:List Res}:HasMapE (.mape r es j st::h) r 0 es j st:=⟨rfl⟩
instance HasMapE.tail {r i:Nat} {es:List (Value×AV)} {j st:Nat} {x:Res} {h:List Res} [k:HasMapE h r i es j st]:HasMapE (x::h) r (i+1) es j st:=⟨by simpa using k.h⟩
def ziw {K:Type} [DecidableEq K] (k:K) (z:AV) (es:List (K×AV)):List (K×AV):=match zc0 k es with
 |some _=>es
 |none=>es++ [(k,z)]
theorem zov {K:Type} [DecidableEq K] (k:K) (z:AV):∀es:List (K×AV),zc0 k es=none→zc0 k (es++ [(k,z)])=some z
 | [],_=>by simp [zc0]
 |p::es,h=>by
  simp only [zc0,List.cons_append] at h ⊢
  split at h
  ·cases h
  ·rename_i hn;rw [if_neg hn];exact zov k z es h
theorem zwu {K:Type} [DecidableEq K] (k:K) (z:AV) (es:List (K×AV)):(zc0 k (ziw k z es)).getD z=(zc0 k es).getD z:=by
 unfold ziw
 cases h:zc0 k es with
 |some a=>simp [h]
 |none=>simp [zov k z es h]
section
variable {P:Program} {ro:Option Nat} {nt:Nat} {dst:Option Tmp} {ty:TypeId} {pos:String} {after:Array Edge} {guard:Option (Nat×Bool)} {x y z:Operand} {t:Fr} {h:List Res} {ds:List Nat} {next:St→Prop} {f:Operand→Option AV}
 {K:Type} [DecidableEq K] {enc:K→Value} {es:List (K×AV)} {kt et T:TypeId} {r i:Nat} {k:K} {av:AV}
theorem zq0 {d:Tmp} {kv:AV} {zv:Value} {h':Res→List Res} (hlt:dok nt (some d)=true) (hx:ev t x=some (.v (.map (some r)))) (hy:ev t y=some kv) [hkv:KeyV kv (enc k)] [hm:HasMap h r i (j9 enc es)] [hu:Und P T (.map kt et)] [hkt:KeyT P kt enc] [hz:ZerV P et zv]
 [hset:∀y,SetAt h i y (h' y)] (hk:∀(j st:Nat),(∀a,(j9 enc (ziw k (.v zv) es)).modify j (fun p=>(p.1,a))=j9 enc (zlp k a es))→
  next ⟨(d,.tup [(zc0 k es).getD (.v zv),.v (.int .i64 st)])::t,h' (.mape r (j9 enc (ziw k (.v zv) es)) j st),ds⟩):
 OE P ro nt ⟨some d,.mapEntry T x y,ty,pos,after,guard⟩ ⟨t,h,ds⟩ next:=by
 intro X a w Kc Q hs hK
 refine ⟨j6,?_⟩
 obtain ⟨ents,clock,h1,h2,h3,h4,h5⟩:=hs.heap.holds _ (List.mem_of_getElem? hm.h)
 have hks:=keys_of_holds h2 h3
 have hl':es.length=ents.toList.length:=by simpa [j9] using h2
 have hle:es.length=ents.size:=by simpa using hl'
 have hfind:=hkt.find w k ents.toList (es.map (·.1)) hks
 have hrun:∃ents' clock' j st v,(Instr.mapEntry T (a.eval x) (a.eval y)).run P w= .ok (.tuple #[v,.int .i64 (st:Nat)]) {w with heap:=w.heap.setIfInBounds r (.map ents' clock')}∧
  Rel w (OO h X) ((zc0 k es).getD (.v zv)) v∧(∀a,(j9 enc (ziw k (.v zv) es)).modify j (fun p=>(p.1,a))=j9 enc (zlp k a es))∧
  (j9 enc (ziw k (.v zv) es)).length=ents'.size∧(∀i (h1:i < (j9 enc (ziw k (.v zv) es)).length) (h2:i < ents'.size),(j9 enc (ziw k (.v zv) es))[i].1=ents'[i].key∧Rel w (OO h X) (j9 enc (ziw k (.v zv) es))[i].2 ents'[i].val)∧
  (∀i (h:i < ents'.size),ents'[i].born < clock')∧(∀i j (hi:i < ents'.size) (hj:j < ents'.size),i < j→ents'[i].born < ents'[j].born)∧∃h:j < ents'.size,ents'[j].born=st:=by
  rw [(hs.env.rel x _ hx).v_eq,hkv.h w _ _ (hs.env.rel y _ hy)]
  simp only [Instr.mapEntry,Sem.run_bind,run_underlying (h:=hu),Result.andThen_ok,MapKept.run_getObj_map h1,hkt.chk,hfind]
  rcases zkt k es ents.toList 0 hl' with ⟨g,b,c⟩|⟨j,g1,g2,g,b,c,d⟩
  ·rw [g]
   have he:ziw k (.v zv) es=es++ [(k,.v zv)]:=by unfold ziw;rw [b]
   rw [he]
   refine ⟨ents.push {key:=enc k,val:=zv,born:=clock},clock+1,es.length,clock,zv,?_,by rw [b];exact .v _,fun a=> ?_,by simp [j9,hle],fun i a1 a2=> ?_,fun i a1=> ?_,fun i j a1 a2 a3=> ?_,by simp [hle],?_⟩
   ·simp only [Sem.run_bind,run_zeroValue hz.h,Result.andThen_ok,MapKept.run_setObj_map _ h1,Sem.run_pure,goInt]
   ·rw [c a]
    simp only [j9,List.map_append,List.map_cons,List.map_nil]
    have:es.length=(es.map fun p=>(enc p.1,p.2)).length:=by simp
    rw [this]
    have hmod:∀(l:List (Value×AV)) (p:Value×AV) (g:Value×AV→Value×AV),(l++ [p]).modify l.length g=l++ [g p]:=by
     intro l p g
     induction l with
     |nil=>rfl
     |cons q l ih=>simp [ih]
    rw [hmod]
   ·simp only [j9,List.map_append,List.map_cons,List.map_nil,List.getElem_append,Array.getElem_push]
    by_cases hi:i < ents.size
    ·have:i < (List.map (fun p:K×AV=>(enc p.1,p.2)) es).length:=by simp;omega
     simp only [hi,this,dif_pos]
     exact h3 i (by simpa [j9] using this) hi
    ·have h9:¬i < (List.map (fun p:K×AV=>(enc p.1,p.2)) es).length:=by simp;omega
     simp only [hi,h9,dif_neg,not_false_eq_true,List.getElem_singleton]
     exact ⟨trivial,.v _⟩
   ·rw [Array.getElem_push]
    split
    ·have:=h4 i (by assumption);omega
    ·simp
   ·simp only [Array.size_push] at a1 a2
    rw [Array.getElem_push,Array.getElem_push]
    split <;> split
    ·exact h5 i j _ _ a3
    ·have:=h4 i (by assumption);simpa using this
    ·omega
    ·omega
   ·simp [Array.getElem_push,hle]
  ·have hj:j < ents.size:=by simpa using g2
   have hkey:ents[j].key=enc k:=by
    have:=(h3 j (by simpa [j9] using g1) hj).1
    simp [j9] at this
    rw [←this,c]
   have he:ziw k (.v zv) es=es:=by unfold ziw;rw [b]
   rw [g,he]
   have hgd:((ents[j]?).map (·.key)).getD (enc k)=enc k:=by
    rw [Array.getElem?_eq_getElem hj];simp [hkey]
   have hsame:(ents.modify j fun e=>{e with key:=enc k})=ents:=by
    apply Array.ext
    ·simp
    ·intro q q1 q2
     rw [Array.getElem_modify]
     split
     ·rename_i hjq;subst hjq
      have hk2:∀e:MapEntry,e.key=enc k→({e with key:=enc k}:MapEntry)=e:=fun e he=>by
       cases e;simp only at he;subst he;rfl
      exact hk2 _ hkey
     ·rfl
   refine ⟨ents,clock,j,ents[j].born,ents[j].val,?_,?_,fun a=> ?_,h2,h3,h4,h5,hj,rfl⟩
   ·simp only [Sem.run_bind,Nat.zero_add,hgd,zfh (P:=P) (kt:=kt),Result.andThen_ok,hsame,MapKept.run_setObj_map _ h1,Sem.run_pure,goInt]
    simp only [Array.getElem?_eq_getElem hj,Option.map_some,Option.getD_some]
    rfl
   ·rw [b]
    have:=(h3 j (by simpa [j9] using g1) hj).2
    simpa [j9] using this
   ·rw [d a]
    refine List.ext_getElem (by simp [j9]) fun q q1 q2=> ?_
    simp only [j9,List.getElem_modify,List.getElem_map,List.getElem_set]
    split
    ·rename_i hq;subst hq;rw [c]
    ·rfl
 obtain ⟨ents',clock',j,st,v,e,hv,hmod,e1,e2,e3,e4,e5,e6⟩:=hrun
 rw [zan rfl]
 have e':(execOp a.eval (⟨some d,.mapEntry T x y,ty,pos,after,guard⟩:Oper)).run P w= .ok (.value (.tuple #[v,.int .i64 (st:Nat)])) {w with heap:=w.heap.setIfInBounds r (.map ents' clock')}:=run_v _ e
 rw [e']
 have hlt':r < w.heap.size:=(Array.getElem?_eq_some_iff.1 h1).1
 have hoth:∀b,b≠r→(w.heap.setIfInBounds r (.map ents' clock'))[b]? =w.heap[b]? :=fun b hb=>by rw [Array.getElem?_setIfInBounds_ne (Ne.symm hb)]
 have hrown:OO h X r:= .inl (j3.2 ⟨_,List.mem_of_getElem? hm.h,by simp [Res.own]⟩)
 have hkk:∀b,¬OO h X b→b < w.heap.size→(w.heap.setIfInBounds r (.map ents' clock'))[b]? =w.heap[b]? ∧¬OO h X b:=fun b hb hl=>⟨hoth b (fun q=>hb (q ▸ hrown)),hb⟩
 have hholds:(Res.mape r (j9 enc (ziw k (.v zv) es)) j st).holds {w with heap:=w.heap.setIfInBounds r (.map ents' clock')} (OO h X):=
  ⟨ents',clock',by simp [hlt'],e1,fun i a1 a2=>⟨(e2 i a1 a2).1,(e2 i a1 a2).2.keep (by simp) hkk⟩,e3,e4,e5,e6⟩
 have hh2:=hs.heap.set (w':={w with heap:=w.heap.setIfInBounds r (.map ents' clock')}) hm.h (y:= .mape r (j9 enc (ziw k (.v zv) es)) j st) rfl (by simp) (fun b hb hne=>hoth b (by simpa [Res.own] using hne)) hholds
 rw [(hset _).h] at hh2
 have hown:u4 (h' (.mape r (j9 enc (ziw k (.v zv) es)) j st))=u4 h:=by rw [←(hset _).h];exact zcl hm.h rfl
 have hkeep:Keep (u4 h) w (u4 (h' (.mape r (j9 enc (ziw k (.v zv) es)) j st))) {w with heap:=w.heap.setIfInBounds r (.map ents' clock')}:=⟨by simp,fun b hb ho=>⟨hoth b (fun q=>ho (q ▸ j3.2 ⟨_,List.mem_of_getElem? hm.h,by simp [Res.own]⟩)),by rw [hown];exact ho⟩,zg8.eq rfl rfl rfl (by first|exact Nat.le_refl _|exact Nat.le_succ _)⟩
 have hkoo:=fun b hb hl=>hkeep.oo (X:=X) b hb hl
 refine hK _ _ _ (hk j st hmod) (Sim.put (s:=⟨t,h' (.mape r (j9 enc (ziw k (.v zv) es)) j st),ds⟩) ⟨hh2,hs.size,hs.fr.keep hkeep.size (fun b hb hl=>hkoo b hb hl),hs.defs⟩ hlt (.tup _ _ rfl fun q q1 q2=> ?_)) hkeep
 match q,q1,q2 with
 |0,_,_=>exact hv.keep hkeep.size (fun b hb hl=>hkoo b hb hl)
 |1,_,_=>exact .v _
 |q+2,q1,_=>simp at q1;omega
theorem zmx {j st:Nat} {es' es2:List (Value×AV)} {h':List Res} (hx:ev t x=some (.v (.map (some r)))) (hy:ev t y=some (.v (.int .i64 st))) (hz:ev t z=some av) [hm:HasMapE h r i es' j st] (he:es'.modify j (fun p=>(p.1,av))=es2)
 [hset:SetAt h i (.map r es2) h'] (hk:next ⟨t,h',ds⟩):OE P ro nt ⟨none,.entryStore T x y z,ty,pos,after,guard⟩ ⟨t,h,ds⟩ next:=by
 refine ze7 rfl rfl (fun X a w hs=> ?_) hk
 obtain ⟨ents,clock,h1,h2,h3,h4,h5,hj,h6⟩:=hs.heap.holds _ (List.mem_of_getElem? hm.h)
 have hrv:=hs.env.rel z _ hz
 subst he
 have hidx:ents.findIdx? (fun e=>((e.born:Nat):Int)==((st:Nat):Int))=some j:=by
  rw [Array.findIdx?_eq_some_iff_getElem]
  refine ⟨hj,by simp [h6],fun q hq=> ?_⟩
  have:=h5 q j (by omega) hj hq
  simp;omega
 obtain ⟨ents',hents⟩:∃e,e=ents.modify j (fun e=>{e with val:=a.eval z}):=⟨_,rfl⟩
 have hsz:ents'.size=ents.size:=by rw [hents];simp
 have hrun:(Instr.entryStore T (a.eval x) (a.eval y) (a.eval z)).run P w= .ok () {w with heap:=w.heap.setIfInBounds r (.map ents' clock)}:=by
  rw [(hs.env.rel x _ hx).v_eq,(hs.env.rel y _ hy).v_eq]
  simp only [Instr.entryStore,Sem.run_bind,MapKept.run_getObj_map h1,Result.andThen_ok,asInt,asIntOf,Sem.run_pure,hidx,MapKept.run_setObj_map _ h1,hents]
 have hlt:r < w.heap.size:=(Array.getElem?_eq_some_iff.1 h1).1
 have hoth:∀b,b≠r→(w.heap.setIfInBounds r (.map ents' clock))[b]? =w.heap[b]? :=fun b hb=>by rw [Array.getElem?_setIfInBounds_ne (Ne.symm hb)]
 have hrown:OO h X r:= .inl (j3.2 ⟨_,List.mem_of_getElem? hm.h,by simp [Res.own]⟩)
 have hkk:∀b,¬OO h X b→b < w.heap.size→(w.heap.setIfInBounds r (.map ents' clock))[b]? =w.heap[b]? ∧¬OO h X b:=fun b hb hl=>⟨hoth b (fun q=>hb (q ▸ hrown)),hb⟩
 have hmapholds:(Res.map r (es'.modify j (fun p=>(p.1,av)))).holds {w with heap:=w.heap.setIfInBounds r (.map ents' clock)} (OO h X):=by
  refine ⟨ents',clock,by simp [hlt],by simp [hsz,h2],fun i a1 a2=> ?_,fun i a1=> ?_,fun i j' a1 a2 a3=> ?_⟩
  ·have b1:i < es'.length:=by simpa using a1
   have b2:i < ents.size:=by omega
   have:=h3 i b1 b2
   subst hents
   rw [List.getElem_modify,Array.getElem_modify]
   split
   ·exact ⟨this.1,hrv.keep (by simp) hkk⟩
   ·exact ⟨this.1,this.2.keep (by simp) hkk⟩
  ·subst hents
   rw [Array.getElem_modify]
   have b2:i < ents.size:=by simpa using a1
   split <;> exact h4 i b2
  ·subst hents
   have b1:i < ents.size:=by simpa using a1
   have b2:j' < ents.size:=by simpa using a2
   rw [Array.getElem_modify,Array.getElem_modify]
   split <;> split <;> exact h5 i j' b1 b2 a3
 have hh2:=hs.heap.set (w':={w with heap:=w.heap.setIfInBounds r (.map ents' clock)}) hm.h (y:= .map r (es'.modify j (fun p=>(p.1,av)))) rfl (by simp) (fun b hb hne=>hoth b (by simpa [Res.own] using hne)) hmapholds
 rw [hset.h] at hh2
 have hown:u4 h'=u4 h:=by rw [←hset.h];exact zcl hm.h rfl
 have hkeep:Keep (u4 h) w (u4 h') {w with heap:=w.heap.setIfInBounds r (.map ents' clock)}:=⟨by simp,fun b hb ho=>⟨hoth b (fun q=>ho (q ▸ j3.2 ⟨_,List.mem_of_getElem? hm.h,by simp [Res.own]⟩)),by rw [hown];exact ho⟩,zg8.eq rfl rfl rfl (by first|exact Nat.le_refl _|exact Nat.le_succ _)⟩
 exact ⟨_,zv2 hrun,⟨hh2,hs.size,hs.fr.keep hkeep.size (fun b hb hl=>hkeep.oo b hb hl),hs.defs⟩,hkeep⟩
theorem zqr {kv:AV} {zv:Value} {j st:Nat} (hx:f x=some (.v (.map (some r)))) (hy:f y=some kv) [hkv:KeyV kv (enc k)] [hm:HasMapE h r i (j9 enc (ziw k (.v zv) es)) j st] [hu:Und P T (.map kt et)] [hkt:KeyT P kt enc] [hz:ZerV P et zv]
 (hl:(zc0 k es).getD (.v zv)=av):QR P h f ⟨dst,.lookup T x y false,ty,pos,after,guard⟩ av:=fun X ρ w hev=>by
 obtain ⟨ents,clock,h1,h2,h3,h4,h5,_⟩:=hev.heap.holds _ (List.mem_of_getElem? hm.h)
 have hks:=keys_of_holds h2 h3
 have hl':(ziw k (.v zv) es).length=ents.toList.length:=by simpa [j9] using h2
 have hfind:=hkt.find w k ents.toList ((ziw k (.v zv) es).map (·.1)) hks
 have key:=zwu k (.v zv) es
 rw [hl] at key
 have hrun:∃v,(Instr.lookup T (ρ x) (ρ y) false).run P w= .ok v w∧Rel w (OO h X) av v:=by
  rw [(hev.rel x _ hx).v_eq,hkv.h w _ _ (hev.rel y _ hy)]
  simp only [Instr.lookup,Sem.run_bind,run_underlying (h:=hu),Result.andThen_ok,MapKept.run_getObj_map h1,Sem.run_pure,hkt.chk,hfind]
  rcases zkt k (ziw k (.v zv) es) ents.toList 0 hl' with ⟨a,b,c⟩|⟨j,g1,g2,a,b,c,d⟩
  ·rw [b] at key
   refine ⟨zv,?_,by rw [←key];exact .v _⟩
   rw [a];simp [run_zeroValue hz.h]
  ·rw [b] at key
   refine ⟨(ents[j]'(by simpa using g2)).val,?_,?_⟩
   ·rw [a];simp
   ·have:=(h3 j (by simpa [j9] using g1) (by simpa using g2)).2
    rw [←key];simpa [j9] using this
 obtain ⟨v,e,hr⟩:=hrun
 exact ⟨v,run_v _ e,hr⟩
end
def zeo (p:Int×Int×Int):Value:= .agg #[.int .i64 p.1,.int .i64 p.2.1,.int .i64 p.2.2]
class Chk3 (P:Program) (kt:TypeId):Prop where
 h:∀(e:Bool) (w:World) (a b c:Int),(Instr.checkKey e 10000 kt (.agg #[.int .i64 a,.int .i64 b,.int .i64 c])).run P w= .ok () w
instance KeyT.int3 {P:Program} {kt:TypeId} [he:EqInts P kt 3] [hc:Chk3 P kt] [hi:IsA P kt true]:KeyT P kt zeo where
 inj:=fun a b h=>by
  obtain ⟨a1,a2,a3⟩:=a;obtain ⟨b1,b2,b3⟩:=b
  simpa [zeo] using h
 stays:=fun a=>by simp [zeo,Instr.sameBits]
 chk:=fun e w k=>hc.h e w k.1 k.2.1 k.2.2
 find:=fun w k l ks h=>by
  obtain ⟨d,hd,hb⟩:=hi.h
  refine (congrArg (fun r=>r) (run_findKey_eq (P:=P) (w:=w) (k:=kt) (by rw [hd];cases d <;> simp [ynm] at hb ⊢) _ l)).trans ?_
  refine zfb (fun w a b=> ?_) k w l ks 0 h
  have:=zl3 (P:=P) (T:=kt) w (xs:= [a.1,a.2.1,a.2.2]) (ys:= [b.1,b.2.1,b.2.2]) rfl rfl
  simp only [zeo]
  refine this.trans ?_;obtain ⟨a1,a2,a3⟩:=a;obtain ⟨b1,b2,b3⟩:=b
  congr 1
  by_cases h1:a1=b1 <;> by_cases h2:a2=b2 <;> by_cases h3:a3=b3 <;> simp [h1,h2,h3]
instance KeyV.int3 {a b c:Int}:KeyV (.agg [.v (.int .i64 a),.v (.int .i64 b),.v (.int .i64 c)]) (zeo (a,b,c)):=⟨fun w O u r=>by
 cases r with
 |agg _ cs hl hr=>
  simp at hl
  have h0:=(hr 0 (by simp) (by omega)).v_eq
  have h1:=(hr 1 (by simp) (by omega)).v_eq
  have h2:=(hr 2 (by simp) (by omega)).v_eq
  simp only [zeo]
  congr 1
  apply Array.ext
  ·simp [←hl]
  ·intro i hi hi2
   match i,hi,hi2 with
   |0,_,_=>exact h0
   |1,_,_=>exact h1
   |2,_,_=>exact h2
   |i+3,hi,hi2=>simp at hi2;omega⟩
class ZV (z:Value) (a:AV):Prop where
 h:∀w O u,Rel w O (.v z) u→Rel w O a u
instance ZV.v {z:Value}:ZV z (.v z):=⟨fun _ _ _ h=>h⟩
instance ZV.agg2 {a b:Value}:ZV (.agg #[a,b]) (.agg [.v a,.v b]):=⟨fun w O u h=>by
 rw [h.v_eq]
 refine .agg _ _ rfl fun j h1 h2=> ?_
 match j,h1,h2 with
 |0,_,_=>exact .v _
 |1,_,_=>exact .v _
 |j+2,h1,_=>simp at h1;omega⟩
theorem zqm {P:Program} {h:List Res} {f:Operand→Option AV} {o:Oper} {a b:AV} (hw:∀w O v,Rel w O a v→Rel w O b v) (q:QR P h f o a):QR P h f o b:=fun X ρ w he=>
 let ⟨v,e,r⟩:=q X ρ w he;⟨v,e,hw _ _ _ r⟩
theorem za9 {P:Program} {h:List Res} {f:Operand→Option AV} {o:Oper} {a b:AV} (q:QR P h f o a) (e:a=b):QR P h f o b:=e ▸ q
section
variable {P:Program} {ro:Option Nat} {nt:Nat} {dst:Option Tmp} {ty:TypeId} {pos:String} {after:Array Edge} {guard:Option (Nat×Bool)} {x y z:Operand} {t:Fr} {h h':List Res} {ds:List Nat} {next:St→Prop} {f:Operand→Option AV}
 {K V:Type} [DecidableEq K] {enc:K→Value} {g:V→AV} {m:List (K×V)} {kt et T:TypeId} {r i:Nat} {k:K} {kv:AV}
theorem zm4 {zv:Value} {d:V} [hz:ZV zv (g d)] {w:World} {O:Nat→Prop} {u:Value} (h:Rel w O ((zc0 k (zbh g m)).getD (.v zv)) u):Rel w O (g ((zbr k m).getD d)) u:=by
 rw [zh6] at h
 cases hg:zbr k m with
 |some a=>rw [hg] at h;exact h
 |none=>rw [hg] at h;exact hz.h w O u h
theorem zbz (d:V) {zv:Value} (hx:f x=some (.v (.map (some r)))) (hy:f y=some kv) [hkv:KeyV kv (enc k)] [hm:HasMap h r i (j9 enc (zbh g m))] [hu:Und P T (.map kt et)] [hkt:KeyT P kt enc] [hz:ZerV P et zv] [hd:ZV zv (g d)]:
 QR P h f ⟨dst,.lookup T x y false,ty,pos,after,guard⟩ (g ((zbr k m).getD d)):=
 zqm (fun w O v hr=>zm4 hr) (zoj hx hy rfl)
theorem zok (d:V) {zv:Value} {b:Bool} (hx:f x=some (.v (.map (some r)))) (hy:f y=some kv) [hkv:KeyV kv (enc k)] [hm:HasMap h r i (j9 enc (zbh g m))] [hu:Und P T (.map kt et)] [hkt:KeyT P kt enc] [hz:ZerV P et zv] [hd:ZV zv (g d)]
 (hb:(zbr k m).isSome=b):QR P h f ⟨dst,.lookup T x y true,ty,pos,after,guard⟩ (.tup [g ((zbr k m).getD d),.v (.bool b)]):=
 zqm (fun w O v hr=>by
  cases hr with
  |tup _ cs hl hr=>
   refine .tup _ _ (by simpa using hl) fun j h1 h2=> ?_
   match j,h1,h2 with
   |0,_,h2=>exact zm4 (hr 0 (by simp) h2)
   |1,_,h2=>exact hr 1 (by simp) h2
   |j+2,h1,_=>simp at h1;omega) (zt9 hx hy rfl (b:=b) (by rw [zh6,Option.isSome_map];exact hb))
theorem zwb (d:V) {zv:Value} {j st:Nat} (hx:f x=some (.v (.map (some r)))) (hy:f y=some kv) [hkv:KeyV kv (enc k)] [hm:HasMapE h r i (j9 enc (ziw k (.v zv) (zbh g m))) j st] [hu:Und P T (.map kt et)] [hkt:KeyT P kt enc] [hz:ZerV P et zv] [hd:ZV zv (g d)]:
 QR P h f ⟨dst,.lookup T x y false,ty,pos,after,guard⟩ (g ((zbr k m).getD d)):=
 zqm (fun w O v hr=>zm4 hr) (zqr hx hy rfl)
theorem za0 {v:V} (hx:ev t x=some (.v (.map (some r)))) (hy:ev t y=some kv) (hz:ev t z=some (g v)) [hkv:KeyV kv (enc k)] [hm:HasMap h r i (j9 enc (zbh g m))] [hu:Und P T (.map kt et)] [hkt:KeyT P kt enc]
 [hset:SetAt h i (.map r (j9 enc (zbh g (zee k v m)))) h'] (hk:next ⟨t,h',ds⟩):OE P ro nt ⟨none,.mapUpdate T x y z,ty,pos,after,guard⟩ ⟨t,h,ds⟩ next:=by
 have:SetAt h i (.map r (j9 enc (zlp k (g v) (zbh g m)))) h':=by rw [zj1];exact hset
 exact ziq hx hy hz hk
theorem zh2 {d:Tmp} {zv:Value} {h':Res→List Res} (hlt:dok nt (some d)=true) (hx:ev t x=some (.v (.map (some r)))) (hy:ev t y=some kv) [hkv:KeyV kv (enc k)] [hm:HasMap h r i (j9 enc (zbh g m))] [hu:Und P T (.map kt et)] [hkt:KeyT P kt enc] [hz:ZerV P et zv]
 [hset:∀y,SetAt h i y (h' y)] (hk:∀(j st:Nat),(∀v,(j9 enc (ziw k (.v zv) (zbh g m))).modify j (fun p=>(p.1,g v))=j9 enc (zbh g (zee k v m)))→
  next ⟨(d,.tup [(zc0 k (zbh g m)).getD (.v zv),.v (.int .i64 st)])::t,h' (.mape r (j9 enc (ziw k (.v zv) (zbh g m))) j st),ds⟩):
 OE P ro nt ⟨some d,.mapEntry T x y,ty,pos,after,guard⟩ ⟨t,h,ds⟩ next:=
 zq0 hlt hx hy fun j st hj=>hk j st fun v=>by rw [hj (g v),zj1]
theorem zkg {v:V} {j st:Nat} {es':List (Value×AV)} (hx:ev t x=some (.v (.map (some r)))) (hy:ev t y=some (.v (.int .i64 st))) (hz:ev t z=some (g v)) [hm:HasMapE h r i es' j st] (he:es'.modify j (fun p=>(p.1,g v))=j9 enc (zbh g (zee k v m)))
 [hset:SetAt h i (.map r (j9 enc (zbh g (zee k v m)))) h'] (hk:next ⟨t,h',ds⟩):OE P ro nt ⟨none,.entryStore T x y z,ty,pos,after,guard⟩ ⟨t,h,ds⟩ next:=
 zmx hx hy hz he hk
theorem yof {d:Tmp} {op:Op} {av:AV} (hq:QR P h (ev t) ⟨some d,op,ty,pos,after,guard⟩ av) (hk:next ⟨(d,av)::t,h,ds⟩) (hd:dok nt (some d)=true:=by rfl) (hn:zau ⟨some d,op,ty,pos,after,guard⟩=true:=by rfl):
 OE P ro nt ⟨some d,op,ty,pos,after,guard⟩ ⟨t,h,ds⟩ next:=fun X a w K Q hs hK=>
 ze4 hq hn X a w K Q hs.env fun v w' hr hh hkp=>hK _ _ _ hk (Sim.put (s:=⟨t,h,ds⟩) ⟨hh,hs.size,hs.fr.keep hkp.size (fun b hb hl=>hkp.oo b hb hl),hs.defs⟩ hd hr) hkp
theorem zl7 {tys:List TypeId} (hx:f x=some (.v (.map (some r)))) [hm:HasMap h r i (j9 enc (zbh g m))] [hu:Und P T (.map kt et)]:QR P h f ⟨dst,.call ⟨.builtin .len,[x].toArray,(T::tys).toArray⟩,ty,pos,after,guard⟩ (.v (.int .i64 m.length)):=fun X ρ w he=>by
 obtain ⟨ents,clock,h1,h2,_⟩:=he.heap.holds _ (List.mem_of_getElem? hm.h)
 refine ⟨.int .i64 m.length,?_,.v _⟩
 have hl:m.length=ents.size:=by simpa [j9,zbh] using h2
 simp only [execOp,resolve,List.map_toArray,List.map_cons,List.map_nil,(he.rel x _ hx).v_eq,Sem.run_bind,Sem.run_pure,Result.andThen_ok,invoke,builtin,Builtin.len_,List.getElem?_toArray,List.getElem?_cons_zero,run_underlying (h:=hu),MapKept.run_getObj_map h1,hl]
 rfl
end
end Go.Ab
set_option maxRecDepth 10000
namespace Go.Proofs
open Go Go.Ab
attribute [local irreducible] QR QV OE zcc aw zco za8 zav zah thn zez zdl jch zeb
open Go.H
def ydn (cv:AV):Prop:=∀x y:zi3,y3 Tryz.prog cv [.agg (zby x),.agg (zby y)] [] (fun r h'=>h'= []∧r=iv (zcb x y))
theorem zhz (s:SV) (l:List zi3) (a b n:Nat) (cv:AV) (h1:a+n≤b) (h2:b+n≤l.length) (hl:l.length≤1000000000):x3 Tryz.prog 228 [.v s.v,iv (a:Int),iv (b:Int),iv (n:Int),cv] [.row s.v 3 178 ((l).map zby)] (fun r h'=>h'= [.row s.v 3 178 ((swN l a b n).map zby)]∧r= .tup []):=by
 refine z6 Tryz.func228 rfl rfl rfl ?_
 refine rn ?_;refine za5 n (fun _=>True) (fun k=>⟨[(10,iv (k:Int)),(0,.v s.v),(1,iv (a:Int)),(2,iv (b:Int)),(3,iv (n:Int))],.row s.v 3 178 ((swN l a b k).map zby):: [],[]⟩) trivial es ?_
 intro k lk _
 refine rn ?_;refine z8 rfl (fun hc13=> ?_) (fun hc13=> ?_)
 ·have hk:k < n:=by simpa using hc13
  obtain ⟨vx,hx⟩:∃v,(swN l a b k)[a+k]? =some v:=⟨_,List.getElem?_eq_getElem (by rw [zj2];omega)⟩
  obtain ⟨vy,hy⟩:∃v,(swN l a b k)[b+k]? =some v:=⟨_,List.getElem?_eq_getElem (by rw [zj2];omega)⟩
  have hxy:a+k≠b+k:=by omega
  refine zab ?_;refine rn0 ?_;refine x9 ?_;refine zad ?_;refine zju 22 [21] [] [12,13,18,19,20] (fun he=>True) rfl rfl rfl trivial ?_
  refine jq rfl (fun he hC=>by replace hC:=hC.2;exact qrA) ?_
  refine jq rfl (fun he hC=>by replace hC:=hC.2;exact qrA) ?_
  refine jq rfl (fun he hC=>by replace hC:=hC.2;exact qrA) ?_
  refine jq rfl (fun he hC=>by replace hC:=hC.2;exact qrA) ?_
  refine jq rfl (fun he hC=>by replace hC:=hC.2;exact qrA) ?_
  refine jq rfl (fun he hC=>by replace hC:=hC.2;exact qrA) ?_
  refine jq rfl (fun he hC=>by replace hC:=hC.2;exact qrA) ?_
  refine jq rfl (fun he hC=>by replace hC:=hC.2;exact qrA) ?_
  refine jq rfl (fun he hC=>by replace hC:=hC.2;exact qrA) ?_
  refine jq rfl (fun he hC=>by replace hC:=hC.2;exact qrA) ?_
  refine jq rfl (fun he hC=>by replace hC:=hC.2;exact qrA) ?_
  refine jq rfl (fun he hC=>by replace hC:=hC.2;exact qrA) ?_
  refine jq rfl (fun he hC=>by obtain rfl:=hC.1 rfl;exact w8 (k:=(b+k)) rfl rfl (by rw [oM];exact (zdv hy))) ?_
  refine jq rfl (fun he hC=>by obtain rfl:=hC.1 rfl;exact u5 (row:=zby vy) rfl (zb0 hy) rfl) ?_
  refine jq rfl (fun he hC=>by replace hC:=hC.2;exact qrA) ?_
  refine jq rfl (fun he hC=>by replace hC:=hC.2;exact qrA) ?_
  refine jq rfl (fun he hC=>by replace hC:=hC.2;exact qrA) ?_
  refine jq rfl (fun he hC=>by replace hC:=hC.2;exact qrA) ?_
  refine jq rfl (fun he hC=>by obtain rfl:=hC.1 rfl;exact w8 (k:=(a+k)) rfl rfl (by rw [oM];exact (zdv hx))) ?_
  refine jq rfl (fun he hC=>by obtain rfl:=hC.1 rfl;exact u5 (row:=zby vx) rfl (zb0 hx) rfl) ?_
  refine jq rfl (fun he hC=>by obtain rfl:=hC.1 rfl;exact w8 (k:=(a+k)) rfl rfl (by rw [oM];exact (zdv hx))) ?_
  refine je rfl ?_;refine ya9 ?_;refine jce rfl fun u=> ?_
  refine zae (k:=(a+k)) rfl rfl rfl (zb0 hx) rfl (Nat.le_of_ble_eq_true rfl) ⟨.any,_,rfl,trivial,?_⟩
  refine jcn ?_;refine ln ?_;refine qq rfl rfl (w8 (k:=(b+k)) rfl rfl (by rw [List.length_set,oM];exact zdv hy)) ?_
  refine z7 rfl (zae (k:=(b+k)) rfl rfl rfl (row:=zby vy) (by rw [List.getElem?_set_ne hxy];exact zb0 hy) rfl (Nat.le_of_ble_eq_true rfl) ?_)
  have hsw:=zja (f:=zby) hx hy
  refine rn ?_;exact ⟨hk,trivial,by rw [show (swN l a b (k+1)).map zby=_ from hsw.symm];exact eA⟩
 ·have qk:k=n:=by have q:¬(k:Int) < n:=(by simpa using hc13);omega
  refine rn ?_;refine yen ?_;rw [qk];exact ⟨rfl,rfl⟩
theorem yeo (s:SV) (l tg:List zi3) (a m b:Nat) (cv:AV) (hR:Rot m (m - a) (b - m) l tg) (h1:a < m) (h2:m < b) (hb:b≤l.length) (hl:l.length≤1000000000):x3 Tryz.prog 226 [.v s.v,iv (a:Int),iv (m:Int),iv (b:Int),cv] [.row s.v 3 178 ((l).map zby)] (fun r h'=>h'= [.row s.v 3 178 ((tg).map zby)]∧r= .tup []):=by
 refine z6 Tryz.func226 rfl rfl rfl ?_
 refine x9 (y5 ?_)
 refine q1 ?_;refine q1 ?_;refine qq rfl rfl (za9 (k6 rfl rfl rfl (by omega)) (show iv _=iv ((m - a:Nat):Int) from congrArg iv (by omega))) ?_
 refine q1 ?_;refine u3 (j8 ?_)
 refine x9 (y5 ?_)
 refine q1 ?_;refine q1 ?_;refine qq rfl rfl (za9 (k6 rfl rfl rfl (by omega)) (show iv _=iv ((b - m:Nat):Int) from congrArg iv (by omega))) ?_
 refine rn ?_;refine zde (fun x:Nat×Nat×List zi3=>Rot m x.1 x.2.1 x.2.2 tg∧1≤x.1∧1≤x.2.1∧x.2.2.length=l.length) (fun x=>⟨[(10,iv (x.1:Int)),(11,iv (x.2.1:Int)),(0,.v s.v),(2,iv (m:Int)),(4,cv)],.row s.v 3 178 ((x.2.2).map zby):: [],[]⟩) (fun x=>x.1+x.2.1) (m - a,b - m,l) ⟨hR,by show 1≤m - a;omega,by show 1≤b - m;omega,rfl⟩ es ?_
 rintro ⟨i,j,c⟩ ⟨hr,hi,hj,hcl⟩
 simp only at hr hi hj hcl
 have hrl:=yep hr
 show aw _ _ _ _ _ ⟨[(10,iv (i:Int)),(11,iv (j:Int)),(0,.v s.v),(2,iv (m:Int)),(4,cv)],.row s.v 3 178 ((c).map zby):: [],[]⟩
 refine rn ?_;refine z8 rfl (fun hc20=> ?_) (fun hc20=> ?_)
 ·have hne:i≠j:=by have q:¬(i:Int)=j:=(by simpa using hc20);omega
  refine rn ?_;refine z8 rfl (fun hc23=> ?_) (fun hc23=> ?_)
  ·have hlt:j < i:=by have q:(i:Int) > j:=(by simpa using hc23);omega
   refine x9 (y5 ?_)
   refine q1 ?_;refine q1 ?_;refine q1 ?_;refine qq rfl rfl (za9 (k6 rfl rfl rfl (by omega)) (show iv _=iv ((m - i:Nat):Int) from congrArg iv (by omega))) ?_
   refine rn ?_;refine z7 rfl (w7 rfl rfl (y3.of_fun (zhz s c (m - i) m j cv (by omega) (by omega) (by omega))) rfl ?_)
   rintro _ _ ⟨rfl,rfl⟩
   refine u3 (j8 ?_)
   refine y5 ?_;refine q1 ?_;refine q1 ?_;refine qq rfl rfl (za9 (k6 rfl rfl rfl (by omega)) (show iv _=iv ((i - j:Nat):Int) from congrArg iv (by omega))) ?_
   refine rn ?_;exact ⟨(i - j,j,swN c (m - i) m j),⟨yic hr hlt,by simp only;omega,hj,by rw [zj2];exact hcl⟩,eA,by simp only;omega⟩
  ·have hlt:i < j:=by have q:¬(i:Int) > j:=(by simpa using hc23);omega
   refine x9 (y5 ?_)
   refine q1 ?_;refine q1 ?_;refine q1 ?_;refine qq rfl rfl (za9 (k6 rfl rfl rfl (by omega)) (show iv _=iv ((m - i:Nat):Int) from congrArg iv (by omega))) ?_
   refine q1 ?_;refine q1 ?_;refine q1 ?_;refine q1 ?_;refine qq rfl rfl (za9 (k6 rfl rfl rfl (by omega)) (show iv _=iv ((m+j - i:Nat):Int) from congrArg iv (by omega))) ?_
   refine rn ?_;refine z7 rfl (w7 rfl rfl (y3.of_fun (zhz s c (m - i) (m+j - i) i cv (by omega) (by omega) (by omega))) rfl ?_)
   rintro _ _ ⟨rfl,rfl⟩
   refine u3 (j8 ?_)
   refine y5 ?_;refine q1 ?_;refine q1 ?_;refine qq rfl rfl (za9 (k6 rfl rfl rfl (by omega)) (show iv _=iv ((j - i:Nat):Int) from congrArg iv (by omega))) ?_
   refine rn ?_;exact ⟨(i,j - i,swN c (m - i) (m+j - i) i),⟨yib hr hlt,hi,by simp only;omega,by rw [zj2];exact hcl⟩,eA,by simp only;omega⟩
 ·have hij:i=j:=by have q:(i:Int)=j:=(by simpa using hc20);omega
  subst hij
  refine zg4 ?_;refine zgv ?_;refine zgv ?_;refine zdm ?_;refine j8 ?_;refine y5 ?_;refine q1 ?_;refine q1 ?_;refine q1 ?_;refine qq rfl rfl (za9 (k6 rfl rfl rfl (by omega)) (show iv _=iv ((m - i:Nat):Int) from congrArg iv (by omega))) ?_
  refine rn ?_;refine z7 rfl (w7 rfl rfl (y3.of_fun (zhz s c (m - i) m i cv (by omega) (by omega) (by omega))) rfl ?_)
  rintro _ _ ⟨rfl,rfl⟩
  refine rn ?_;refine yen ?_;rw [yid hr];exact ⟨rfl,rfl⟩
theorem zxc (s:SV) (P M Z:List zi3) (a b:Nat) (cv:AV) (hc:ydn cv) (hP:P.length=a) (hM:a+M.length=b) (hl:(P++(M++Z)).length≤1000000000):x3 Tryz.prog 215 [.v s.v,iv (a:Int),iv (b:Int),cv] [.row s.v 3 178 ((P++(M++Z)).map zby)] (fun r h'=>h'= [.row s.v 3 178 ((P++(isL zcb M++Z)).map zby)]∧r= .tup []):=by
 refine z6 Tryz.func215 rfl rfl rfl ?_
 simp only [List.length_append] at hl
 refine rn ?_;refine za5 M.length (fun _=>True) (fun k=>⟨[(8,iv ((a+1+k:Nat):Int)),(0,.v s.v),(1,iv (a:Int)),(2,iv (b:Int)),(3,cv)],.row s.v 3 178 ((P++(isL zcb (M.take (k+1))++(M.drop (k+1)++Z))).map zby):: [],[]⟩) trivial (by rw [yfv];exact es) ?_
 intro k lk _
 refine rn ?_;refine z8 rfl (fun hc14=> ?_) (fun hc14=> ?_)
 ·have hk:k+1 < M.length:=by have q:((a+1+k:Nat):Int) < b:=(by simpa using hc14);omega
  have hS:(isL zcb (M.take (k+1))).Pairwise (LeC zcb):=(zmt zy6 _).1
  have hSl:(isL zcb (M.take (k+1))).length=k+1:=by rw [zg0,List.length_take];omega
  have e0:P++((isL zcb (M.take (k+1)))++(M.drop (k+1)++Z))=P++((isL zcb (M.take (k+1))).take (k+1)++M[k+1]::((isL zcb (M.take (k+1))).drop (k+1)++(M.drop (k+1+1)++Z))):=yba hSl hk
  obtain ⟨x,hxm⟩:∃x,M[k+1]'hk=x:=⟨_,rfl⟩
  rw [e0,hxm]
  refine rn ?_;refine zde (fun q:Nat=>q≤(isL zcb (M.take (k+1))).length∧∀z∈(isL zcb (M.take (k+1))).drop q,zcb x z < 0) (fun q=>⟨[(9,iv ((a+q:Nat):Int)),(8,iv ((a+1+k:Nat):Int)),(0,.v s.v),(1,iv (a:Int)),(2,iv (b:Int)),(3,cv)],.row s.v 3 178 ((P++((isL zcb (M.take (k+1))).take q++x::((isL zcb (M.take (k+1))).drop q++(M.drop (k+1+1)++Z)))).map zby):: [],[]⟩) (fun q=>q) (k+1) ⟨by omega,fun z hz=>absurd hz (by rw [List.drop_eq_nil_of_le (Nat.le_of_eq hSl)];simp)⟩ (by rw [show a+(k+1)=a+1+k by omega];exact es) ?_
  rintro q ⟨hq,hz⟩
  refine rn ?_;refine j5 14 rfl ?_
  refine rn ?_;refine ze1 (fun hg4_3=> ?_) (fun hg4_3=> ?_)
  ·refine dq rfl rfl qrA ?_;refine dq rfl rfl qrA ?_;refine dq rfl rfl qrA ?_;refine dq rfl rfl (w8 (k:=a+q) rfl rfl (by rw [oM];exact zdv (yjp hP hq))) ?_
   refine dq rfl rfl (u5 (row:=zby x) rfl (zb0 (yjp hP hq)) rfl) ?_
   refine dq rfl rfl qrA ?_;refine dq rfl rfl qrA ?_;refine dq rfl rfl (za9 (k6 rfl rfl rfl (by omega)) (show iv _=iv ((a+q - 1:Nat):Int) from congrArg iv (by have h0:=oT hg4_3;omega))) ?_
   refine dq rfl rfl (w8 (k:=a+q - 1) rfl rfl (by rw [oM];exact zdv (ylm hP hq (by have h0:=oT hg4_3;omega)))) ?_
   refine dq rfl rfl (u5 (row:=zby ((isL zcb (M.take (k+1))).getD (q - 1) x)) rfl (zb0 (ylm hP hq (by have h0:=oT hg4_3;omega))) rfl) ?_
   refine rn ?_;refine qv rfl rfl (y6 rfl rfl (y3.pure (R:=fun r=>r=iv (zcb x ((isL zcb (M.take (k+1))).getD (q - 1) x))) (hc x ((isL zcb (M.take (k+1))).getD (q - 1) x)))) ?_
   refine rn ?_;refine z8 rfl (fun hc34=> ?_) (fun hc34=> ?_)
   ·have hq1:1≤q:=(by have h0:=oT hg4_3;omega)
    have hlt:zcb x ((isL zcb (M.take (k+1))).getD (q - 1) x) < 0:=oT hc34
    have hx:=yjp (Z:=(M.drop (k+1+1)++Z)) (x:=x) hP hq
    have hy:=ylm (Z:=(M.drop (k+1+1)++Z)) (x:=x) hP hq hq1
    obtain ⟨v,hv⟩:∃v,((isL zcb (M.take (k+1))).getD (q - 1) x)=v:=⟨_,rfl⟩
    rw [hv] at hy
    have hxy:a+q≠a+q - 1:=by omega
    refine zab ?_;refine rn0 ?_;refine x9 ?_;refine zad ?_;refine zju 16 [15] [] [8,9,12,13,14] (fun he=>True) rfl rfl rfl trivial ?_
    refine jq rfl (fun he hC=>by replace hC:=hC.2;exact qrA) ?_
    refine jq rfl (fun he hC=>by replace hC:=hC.2;exact qrA) ?_
    refine jq rfl (fun he hC=>by replace hC:=hC.2;exact qrA) ?_
    refine jq rfl (fun he hC=>by replace hC:=hC.2;exact qrA) ?_
    refine jq rfl (fun he hC=>by replace hC:=hC.2;exact za9 (k6 rfl rfl rfl (by omega)) (show iv _=iv ((a+q - 1:Nat):Int) from congrArg iv (by omega))) ?_
    refine jq rfl (fun he hC=>by replace hC:=hC.2;exact qrA) ?_
    refine jq rfl (fun he hC=>by replace hC:=hC.2;exact qrA) ?_
    refine jq rfl (fun he hC=>by replace hC:=hC.2;exact za9 (k6 rfl rfl rfl (by omega)) (show iv _=iv ((a+q - 1:Nat):Int) from congrArg iv (by omega))) ?_
    refine jq rfl (fun he hC=>by obtain rfl:=hC.1 rfl;exact w8 (k:=(a+q - 1)) rfl rfl (by rw [oM];exact (zdv hy))) ?_
    refine jq rfl (fun he hC=>by obtain rfl:=hC.1 rfl;exact u5 (row:=zby v) rfl (zb0 hy) rfl) ?_
    refine jq rfl (fun he hC=>by replace hC:=hC.2;exact qrA) ?_
    refine jq rfl (fun he hC=>by replace hC:=hC.2;exact qrA) ?_
    refine jq rfl (fun he hC=>by obtain rfl:=hC.1 rfl;exact w8 (k:=(a+q)) rfl rfl (by rw [oM];exact (zdv hx))) ?_
    refine jq rfl (fun he hC=>by obtain rfl:=hC.1 rfl;exact u5 (row:=zby x) rfl (zb0 hx) rfl) ?_
    refine jq rfl (fun he hC=>by obtain rfl:=hC.1 rfl;exact w8 (k:=(a+q)) rfl rfl (by rw [oM];exact (zdv hx))) ?_
    refine je rfl ?_;refine ya9 ?_;refine jce rfl fun u=> ?_
    refine zae (k:=(a+q)) rfl rfl rfl (zb0 hx) rfl (Nat.le_of_ble_eq_true rfl) ⟨.any,_,rfl,trivial,?_⟩
    refine jcn ?_;refine ln ?_;refine qq rfl rfl (w8 (k:=(a+q - 1)) rfl rfl (by rw [List.length_set,oM];exact zdv hy)) ?_
    refine z7 rfl (zae (k:=(a+q - 1)) rfl rfl rfl (row:=zby v) (by rw [List.getElem?_set_ne hxy];exact zb0 hy) rfl (Nat.le_of_ble_eq_true rfl) ?_)
    have hsw:=zja (f:=zby) hx hy
    refine u3 ?_;refine zkk ?_;refine j8 ?_;refine y5 ?_;refine q1 ?_;refine qq rfl rfl (za9 (k6 rfl rfl rfl (by omega)) (show iv _=iv ((a+(q - 1):Nat):Int) from congrArg iv (by omega))) ?_
    refine rn ?_;exact ⟨q - 1,⟨by omega,yfw hq hq1 hlt hz⟩,by rw [←zxb hP hq hq1,←hsw];exact eA,by omega⟩
   ·have hst:1≤q→¬zcb x ((isL zcb (M.take (k+1))).getD (q - 1) x) < 0:=by first|exact fun _=>oF hc34|exact fun h1=>absurd (oF hg4_3) (by omega)
    refine rn ?_;subst hxm
    exact ⟨by omega,trivial,by rw [←ycy zkz hS hk hq hz hst];exact eA⟩
  ·refine rn ?_;refine zpv rfl ?_;have hst:1≤q→¬zcb x ((isL zcb (M.take (k+1))).getD (q - 1) x) < 0:=by first|exact fun _=>oF hc34|exact fun h1=>absurd (oF hg4_3) (by omega)
   refine rn ?_;subst hxm
   exact ⟨by omega,trivial,by rw [←ycy zkz hS hk hq hz hst];exact eA⟩
 ·have hk:M.length≤k+1:=by have q:¬((a+1+k:Nat):Int) < b:=(by simpa using hc14);omega
  refine rn ?_;refine yen ?_;rw [List.take_of_length_le hk,List.drop_eq_nil_of_le hk];exact ⟨rfl,rfl⟩
end Go.Proofs
