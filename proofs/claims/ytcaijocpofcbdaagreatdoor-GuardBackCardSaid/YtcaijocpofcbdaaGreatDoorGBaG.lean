/- The abstract logic, part 28: slices.Sort and slices.Compact at []int, as contracts over a row of one's own (the kit's shelf has walked them). .. -/
import Derived.Test.YtcaijocpofcbdaaGreatDoorGBaF
import Derived.Shelf.Sort.Plain
import Derived.Shelf.Slices.In.SortNone
import Derived.Shelf.Slices.CompactI
set_option maxHeartbeats 4000000
set_option linter.unusedSectionVars false
set_option linter.unusedSimpArgs false
set_option linter.unusedVariables false
namespace Go.Ab
open Go Go.Shelf Go.Sort Go.Proofs
def numR (n:Int):List AV:= [.v (.int .i64 n)]
theorem zsp {X:Nat→Prop} {w:World} {a:Addr} {cap:Nat} {T:TypeId} {xs ys zs:List Int} (hh:HRel X w [.row (.slice (some a) xs.length cap) 1 T (xs.map numR)]) (hl:ys.length=xs.length) (hz:zs=ys.take zs.length) (n:Nat) (os:Array Obj):
 HRel X (grow (putRow (Value.int .i64) (Sort.ahead w n) a.block a.off ys.toArray) os) [.row (.slice (some a) zs.length cap) 1 T (zs.map numR)]∧
 Keep [a.block] w [a.block] (grow (putRow (Value.int .i64) (Sort.ahead w n) a.block a.off ys.toArray) os):=by
 obtain ⟨h1,h2,h3,h4,c,h5,h6,h7⟩:=hh.holds _ (List.mem_singleton.2 rfl)
 have hb:a.block < w.heap.size:=(hh.lt a.block (by simp [u2,Res.own])).1
 have hX:¬X a.block:=(hh.lt a.block (by simp [u2,Res.own])).2
 obtain ⟨w',hw'⟩:∃w',w'=grow (putRow (Value.int .i64) (Sort.ahead w n) a.block a.off ys.toArray) os:=⟨_,rfl⟩
 rw [←hw']
 have hheap:w'.heap=(w.heap.modify a.block (onCells (putCells (Value.int .i64) a.off ys.toArray)))++os:=by rw [hw'];rfl
 have hos:zg7 w w':=by rw [hw'];exact ⟨⟨rfl,rfl⟩,rfl,trivial⟩
 have hsize:w.heap.size≤w'.heap.size:=by rw [hheap];simp
 have hold:∀b,b < w.heap.size→b≠a.block→w'.heap[b]? =w.heap[b]? :=fun b hb hne=>by
  rw [hheap,Array.getElem?_append_left (by simpa using hb),Array.getElem?_modify,if_neg (Ne.symm hne)]
 have hnew:w'.heap[a.block]? =some (.cells (putCells (Value.int .i64) a.off ys.toArray c) T (0,0)):=by
  rw [hheap,Array.getElem?_append_left (by simpa using hb),Array.getElem?_modify,if_pos rfl,h5];rfl
 have hlen:zs.length≤ys.length:=by
  have:=congrArg List.length hz
  rw [List.length_take] at this;omega
 refine ⟨⟨by simp [u2,Res.own],fun b hb2=> ?_,fun b hb2=>Nat.lt_of_lt_of_le (hh.xlt b hb2) hsize,fun r hr=> ?_⟩,⟨hsize,fun b hb2 hne=> ?_,hos⟩⟩
 ·have:b=a.block:=by simpa [u2,Res.own] using hb2
  subst this;exact ⟨Nat.lt_of_lt_of_le hb hsize,hX⟩
 ·rw [List.mem_singleton] at hr
  subst hr
  refine ⟨h1,by simp,by simp at h2 h3;omega,fun i hi=>by simp [numR],_,hnew,by simpa [putCells] using h6,fun i hi j hj=> ?_⟩
  have hi2:i < zs.length:=by simpa using hi
  have hj0:j=0:=by simp [numR] at hj;omega
  subst hj0
  have hc:a.off+i < c.size:=by simp at h2 h3;omega
  refine ⟨.int .i64 (zs[i]),?_,?_⟩
  ·have hz2:zs[i]=ys[i]'(by omega):=by
    have:zs[i]? =(ys.take zs.length)[i]? :=by rw [←hz]
    rw [List.getElem?_take_of_lt hi2,List.getElem?_eq_getElem hi2,List.getElem?_eq_getElem (by omega)] at this
    exact Option.some.inj this
   have e:a.off+i * 1+0=a.off+i:=by omega
   rw [e]
   simp only [putCells,Array.getElem?_mapIdx]
   rw [Array.getElem?_eq_getElem hc]
   simp only [Option.map_some]
   rw [if_pos ⟨by omega,by simp;omega⟩,hz2]
   have e2:a.off+i - a.off=i:=by omega
   rw [e2]
   congr 2
   exact getElem!_pos _ _ (by simp;omega)
  ·simp only [List.getElem_map,numR]
   exact .v _
 ·have hne2:b≠a.block:=by simpa using hne
  exact ⟨hold b hb2 hne2,hne⟩
theorem zsq {X:Nat→Prop} {w:World} {a:Addr} {cap:Nat} {T:TypeId} {xs:List Int} (hh:HRel X w [.row (.slice (some a) xs.length cap) 1 T (xs.map numR)]):Holds (Value.int .i64) w a.block a.off xs.toArray∧a.block < w.heap.size∧xs.length≤cap∧a.spot=none:=by
 obtain ⟨h1,h2,h3,h4,c,h5,h6,h7⟩:=hh.holds _ (List.mem_singleton.2 rfl)
 refine ⟨fun j hj=> ?_,(hh.lt a.block (by simp [u2,Res.own])).1,h3,h1⟩
 have hj2:j < xs.length:=by simpa using hj
 obtain ⟨v,e,r⟩:=h7 j (by simpa using hj2) 0 (by simp [numR])
 simp only [List.getElem_map,numR] at r
 have hv:v= .int .i64 xs[j]:=r.v_eq
 subst hv
 have e0:a.off+j * 1+0=a.off+j:=by omega
 rw [e0] at e
 refine ⟨?_,?_⟩
 ·have e2:w.cell? ⟨a.block,a.off+j,none⟩=some (.int .i64 xs[j]):=by simp [World.cell?,h5,e]
  have e3:xs.toArray[j]! =xs[j]:=getElem!_pos xs.toArray j hj
  rw [e2,e3]
 ·simp [World.frozen?,h5]
theorem zv2 {X:Nat→Prop} {w:World} {n cap:Nat} {T:TypeId} {xs:List Int} (hh:HRel X w [.row (.slice none n cap) 1 T (xs.map numR)]):xs= []∧n=0∧cap=0:=by
 obtain ⟨h1,h2,h3⟩:=hh.holds _ (List.mem_singleton.2 rfl)
 exact ⟨by simpa using h1,h2,h3⟩
section
variable {P:Program} {ρ:Ren}
theorem zu1 (Ly:Lays.n189 P ρ) (s:SV) (T:TypeId) (xs:List Int) (hs:xs.length < 4611686018427387904):
 y9 P (ρ.f 189) [.v s.v] [.row s.v 1 T (xs.map numR)] (fun r h'=>h'= [.row s.v 1 T ((xs.mergeSort fun x y=>decide (x≤y)).map numR)]∧r= .v (.tuple #[])):=by
 intro X w vs hh ha
 match vs,ha with
 | [v],⟨hv,_⟩=>
   obtain rfl:=hv.v_eq
   obtain ⟨a,n,cap⟩:=s
   cases a with
   |none=>
    obtain ⟨rfl,rfl,rfl⟩:=zv2 hh
    refine callsIn_wide.2 ((Any.slices_Sort_int_none Ly none 0 w).mono ?_)
    rintro e w' ⟨rfl,rfl⟩
    exact ⟨_,_,_,rfl,⟨rfl,rfl⟩,.v _,by simpa using hh,.refl _ _⟩
   |some a=>
    have hn:n=xs.length:=by
     have:=(hh.holds _ (List.mem_singleton.2 rfl)).2.1
     simpa using this
    subst hn
    obtain ⟨g1,g2,g3,g4⟩:=zsq hh
    obtain ⟨b,off,sp⟩:=a
    simp only at g1 g2 g4
    subst g4
    refine callsIn_wide.2 ((Any.slices_Sort_int Ly b off cap xs w g1 g2 hs).mono ?_)
    rintro e w' ⟨rfl,n,os,rfl⟩
    have hlen:(xs.mergeSort fun x y=>decide (x≤y)).length=xs.length:=List.length_mergeSort _
    obtain ⟨k1,k2⟩:=zsp (zs:=xs.mergeSort fun x y=>decide (x≤y)) hh hlen (List.take_length).symm n os
    rw [hlen] at k1
    exact ⟨_,_,_,rfl,⟨rfl,rfl⟩,.v _,k1,k2⟩
theorem zn3 (Ly:Lays2.n20 P ρ) (s:SV) (T:TypeId) (xs:List Int) (hs:xs.length≤4611686018427387904):
 y9 P (ρ.f 20) [.v s.v] [.row s.v 1 T (xs.map numR)] (fun r h'=>∃s':SV,h'= [.row s'.v 1 T ((Lib.compact xs).map numR)]∧r= .v s'.v):=by
 intro X w vs hh ha
 match vs,ha with
 | [v],⟨hv,_⟩=>
   obtain rfl:=hv.v_eq
   obtain ⟨a,n,cap⟩:=s
   cases a with
   |none=>
    obtain ⟨rfl,rfl,rfl⟩:=zv2 hh
    refine callsIn_wide.2 ((Any.slices_Compact_int_empty Ly none 0 w).mono ?_)
    rintro e w' ⟨rfl,rfl⟩
    exact ⟨_,_,_,rfl,⟨⟨none,0,0⟩,rfl,rfl⟩,.v _,hh,.refl _ _⟩
   |some a=>
    have hn:n=xs.length:=by
     have:=(hh.holds _ (List.mem_singleton.2 rfl)).2.1
     simpa using this
    subst hn
    obtain ⟨g1,g2,g3,g4⟩:=zsq hh
    obtain ⟨b,off,sp⟩:=a
    simp only at g1 g2 g4
    subst g4
    refine callsIn_wide.2 ((Any.slices_Compact_int Ly b off cap xs w g1 (by omega) g3).mono ?_)
    rintro e w' ⟨rfl,q,rfl⟩
    have hle:(Lib.compact xs).length≤xs.length:=by
     unfold Lib.compact Lib.compactUpTo
     rw [oM]
     exact Nat.le_trans (List.length_filter_le _ _) (by simp)
    obtain ⟨k1,k2⟩:=zsp (ys:=Lib.compact xs++List.replicate (xs.length - (Lib.compact xs).length) 0) (zs:=Lib.compact xs) hh (by simp;omega) (by rw [List.take_left'];rfl) q #[]
    rw [grow_empty] at k1 k2
    exact ⟨_,_,_,rfl,⟨⟨some ⟨b,off,none⟩,(Lib.compact xs).length,cap⟩,rfl,rfl⟩,.v _,k1,k2⟩
end
end Go.Ab
namespace Go.H
open Go Go.Ab
theorem zmj (y:Int):∀l:List Int,za6 (l++ [y])=za6 l++(if l.getLast? =some y then [] else [y])
 | []=>by simp [za6]
 | [x]=>by
   by_cases h:x=y
   ·subst h;simp [za6]
   ·simp [za6,h]
 |x::z::r=>by
  have ih:=zmj y (z::r)
  simp only [List.cons_append] at ih ⊢
  have hl:(x::z::r).getLast? =(z::r).getLast? :=by simp [List.getLast?_cons]
  rw [hl,za6,za6]
  by_cases h:x=z
  ·rw [if_pos h,if_pos h];exact ih
  ·rw [if_neg h,if_neg h,ih];rfl
theorem zux (xs:List Int):Lib.compact xs=za6 xs:=by
 have key:∀m,m≤xs.length→Lib.compactUpTo xs.toArray m=za6 (xs.take m):=by
  intro m
  induction m with
  |zero=>intro _;rfl
  |succ m ih=>
   intro hm
   have hlt:m < xs.length:=hm
   rw [Lib.compactUpTo_succ,ih (by omega),List.take_succ_eq_append_getElem hlt,zmj]
   congr 1
   have e1:xs.toArray[m]! =xs[m]:=by simp [hlt]
   by_cases h0:m=0
   ·subst h0
    simp [Lib.keeps,hlt]
   ·have hlt':m - 1 < xs.length:=by omega
    have e2:xs.toArray[m - 1]! =xs[m - 1]:=by simp [hlt']
    have e3:(xs.take m).getLast? =some xs[m - 1]:=by
     rw [List.getLast?_eq_getElem?,List.length_take,Nat.min_eq_left (by omega),List.getElem?_take_of_lt (by omega)]
     simp [hlt']
    rw [e3]
    unfold Lib.keeps
    rw [e1,e2]
    by_cases he:xs[m]=xs[m - 1]
    ·rw [if_neg (by simp [h0,he]),if_pos (by rw [he])]
    ·rw [if_pos (by simp [he]),if_neg (fun q=>he (Option.some.inj q).symm)]
 have:=key xs.length (Nat.le_refl _)
 rw [List.take_length] at this
 exact this
def ycp (l:List Ev):List (Int×Bool):=l.foldl (fun m e=>zd8 e.t ((zbn e.t m).getD false||e.kind==5) m) []
theorem zxt (t:Int):∀(l:List Ev) (m:List (Int×Bool)),(zbn t (l.foldl (fun m e=>zd8 e.t ((zbn e.t m).getD false||e.kind==5) m) m)).getD false=((zbn t m).getD false||l.any fun y=>y.t==t && y.kind==5)
 | [],m=>by simp
 |e::l,m=>by
  rw [List.foldl_cons,zxt t l,List.any_cons,zc4]
  by_cases h:e.t=t
  ·subst h;simp [Bool.or_assoc]
  ·have:(e.t==t)=false:=by simpa using h
   rw [if_neg h,this,Bool.false_and,Bool.false_or]
theorem zjq (l:List Ev) (t:Int):(zbn t (ycp l)).getD false=l.any fun y=>y.t==t && y.kind==5:=by
 rw [ycp,zxt];simp [zbn]
theorem zhp {l:List Ev} {k:Nat} (hk:k < l.length):ycp (l.take (k+1))=zd8 l[k].t ((zbn l[k].t (ycp (l.take k))).getD false||l[k].kind==5) (ycp (l.take k)):=by
 rw [List.take_succ_eq_append_getElem hk,ycp,List.foldl_append];rfl
section
variable {α:Type} {l:List α} {k:Nat} {p:α→Bool}
theorem ymz (hk:k < l.length) (h:p l[k]=true):(l.take (k+1)).filter p=(l.take k).filter p++ [l[k]]:=by
 rw [List.take_succ_eq_append_getElem hk,List.filter_append];simp [h]
theorem yfy (hk:k < l.length) (h:p l[k]=false):(l.take (k+1)).filter p=(l.take k).filter p:=by
 rw [List.take_succ_eq_append_getElem hk,List.filter_append];simp [h]
theorem zxm:((l.take k).filter p).length≤l.length:=Nat.le_trans (List.length_filter_le _ _) (by simp;omega)
end
def wrB (l:List Ev) (x:Int) (e:Ev):Bool:=e.kind==2 && e.o==x && l.any fun y=>y.t==e.t && y.kind==5
theorem zqc (l:List Ev) (x:Int):zah l x=za6 (srt ((l.filter (wrB l x)).map Ev.t)):=rfl
theorem zps (l:List Int) (n:Int):(l.any fun a=>a==n)=l.contains n:=by
 rw [Bool.eq_iff_iff];simp
theorem zhw (l:List Ev) (x:Int):(zah l x).length≤l.length:=by
 rw [zqc]
 refine Nat.le_trans (zk4 _) ?_
 rw [(zd6 _).length_eq,oM]
 exact List.length_filter_le _ _
theorem zh7 (a b:Nat):((a:Int) !=(b:Int))= !decide (a=b):=by
 rw [Bool.eq_iff_iff];simp;omega
theorem y3.new {P:Program} {fv:AV} {args:List AV} {h:List Res} {R:AV→List Res→Prop} (hc:y3 P fv args [] R):y3 P fv args h (fun r h'=>∃h1,R r h1∧h'=h1++h):=
 (hc.frame h).mono fun _ _ ⟨h1,e,q⟩=>⟨h1,q,e⟩
def zii (h:Hist) (n many:Int):Int:=if u6 h=0 then (if 0≤n∧n < many then 0 else 2) else u6 h
def onE (e:Int) (l:List Int):List Int:=if e=0 then l else []
theorem ybr {h:Hist} {n many:Int} (he:zii h n many=0):zbp h=true∧0≤n∧n < many:=by
 unfold zii at he
 split at he
 ·rename_i hc
  split at he
  ·rename_i hn;exact ⟨zbb.1 hc,hn⟩
  ·cases he
 ·rename_i hc;exact absurd he hc
theorem ykr {h:Hist} {n many:Int} (hc:u6 h≠0):zii h n many=u6 h:=by rw [zii,if_neg hc]
theorem ybq {h:Hist} {n many:Int} (hc:u6 h=0) (hn:¬(0≤n∧n < many)):zii h n many=2:=by rw [zii,if_pos hc,if_neg hn]
theorem zyc {h:Hist} {n many:Int} (hc:u6 h=0) (hn:0≤n∧n < many):zii h n many=0:=by rw [zii,if_pos hc,if_pos hn]
def zjp (l:List Ev):List (Int×Bool):=zsn (fun e:Ev=>e.kind==5) Ev.t [] l
theorem ztf (l:List Ev) (t:Int):(zbn t (zjp l)).getD false=yfh l t 5:=by
 rw [zjp,zf6,zjl]
 have:(l.any fun e=>e.kind==5 && decide (e.t=t))=l.any fun y=>y.t==t && y.kind==5:=by
  congr 1;funext e;rw [Bool.and_comm];rfl
 rw [this]
 cases l.any fun y=>y.t==t && y.kind==5 <;> rfl
theorem ykc {l:List Ev} {k:Nat} (hk:k < l.length) (h5:(l[k].kind==5)=true):zjp (l.take (k+1))=zd8 l[k].t true (zjp (l.take k)):=by
 rw [List.take_succ_eq_append_getElem hk,zjp,zsn,List.foldl_append,List.foldl_cons,List.foldl_nil,if_pos h5];rfl
theorem ykd {l:List Ev} {k:Nat} (hk:k < l.length) (h5:(l[k].kind==5)=false):zjp (l.take (k+1))=zjp (l.take k):=by
 rw [List.take_succ_eq_append_getElem hk,zjp,zsn,List.foldl_append,List.foldl_cons,List.foldl_nil,if_neg (by rw [h5];decide)];rfl
section
variable {α:Type} (cmp:α→α→Int)
def mrg:List α→List α→List α
 | [],b=>b
 |x::a,[]=>x::a
 |x::a,y::b=>if cmp y x < 0 then y::mrg (x::a) b else x::mrg a (y::b)
termination_by a b=>a.length+b.length
theorem ze4 (a:List α):mrg cmp a []=a:=by cases a <;> simp [mrg]
theorem zjd:∀(a b:List α),(mrg cmp a b).Perm (a++b)
 | [],b=>by simp [mrg]
 |x::a,[]=>by simp [mrg]
 |x::a,y::b=>by
  rw [mrg]
  split
  ·exact ((zjd (x::a) b).cons y).trans (List.perm_middle (l₁:=x::a)).symm
  ·exact (zjd a (y::b)).cons x
termination_by a b=>a.length+b.length
def LeC (a b:α):Prop:=cmp a b≤0
structure CmpOk:Prop where
 trans:∀a b c,cmp a b≤0→cmp b c≤0→cmp a c≤0
 anti:∀a b,cmp b a= - cmp a b
variable {cmp}
theorem zh3 (ok:CmpOk cmp):∀(a b:List α),a.Pairwise (LeC cmp)→b.Pairwise (LeC cmp)→(mrg cmp a b).Pairwise (LeC cmp)
 | [],b,_,hb=>by simpa [mrg] using hb
 |x::a,[],ha,_=>by simpa [mrg] using ha
 |x::a,y::b,ha,hb=>by
  rw [mrg]
  have ha':=List.pairwise_cons.1 ha
  have hb':=List.pairwise_cons.1 hb
  split
  ·rename_i h
   refine List.pairwise_cons.2 ⟨fun z hz=> ?_,zh3 ok (x::a) b ha hb'.2⟩
   have hz':=(zjd cmp (x::a) b).mem_iff.1 hz
   rcases List.mem_append.1 hz' with hz'|hz'
   ·have hyx:LeC cmp y x:=Int.le_of_lt h
    rcases List.mem_cons.1 hz' with rfl|hz'
    ·exact hyx
    ·exact ok.trans _ _ _ hyx (ha'.1 z hz')
   ·exact hb'.1 z hz'
  ·rename_i h
   have hxy:LeC cmp x y:=by have:=ok.anti x y;show cmp x y≤0;omega
   refine List.pairwise_cons.2 ⟨fun z hz=> ?_,zh3 ok a (y::b) ha'.2 hb⟩
   have hz':=(zjd cmp a (y::b)).mem_iff.1 hz
   rcases List.mem_append.1 hz' with hz'|hz'
   ·exact ha'.1 z hz'
   ·rcases List.mem_cons.1 hz' with rfl|hz'
    ·exact hxy
    ·exact ok.trans _ _ _ hxy (hb'.1 z hz')
termination_by a b=>a.length+b.length
variable (cmp)
variable {cmp}
end
section
variable {α:Type} [DecidableEq α] (cmp:α→α→Int)
variable {cmp}
end
section
variable {α:Type}
end
def yob (p o:Int) (r:Mat):Bool:=r.p==p && r.o==o
def yoc (h:Hist) (p o:Int):Option Mat:=h.mats.find? (yob p o)
def yoe:Mat:=⟨0,0,false,[]⟩
def yod (h:Hist) (p o:Int):Mat:=(yoc h p o).getD yoe
def ylp (m:Mat) (ts:List Int):List Bool:=m.first::ts.map (fun t=>m.ts.contains t)
def ynv (h:Hist) (p o:Int):List Bool:=ylp (yod h p o) (zfi h o)
theorem zy7 (m:Mat) (ts:List Int):(ylp m ts).length=ts.length+1:=by simp [ylp]
theorem tab_len (h:Hist) (p o:Int):(ynv h p o).length=(zfi h o).length+1:=zy7 _ _
structure Conf where
 f:Int
 t:Int
 k:Int
 a:Int
 b:Int
 o:Int
 p:Int
 deriving DecidableEq
abbrev RkM:=List ((Int×Int×Int)×Int)
def ztx (x:Int) (v:Ver):Int×Int×Int:=(x,v.t,v.k)
theorem zr6 {x y:Int} {v w:Ver}:ztx x v=ztx y w ↔ x=y∧v=w:=by
 cases v;cases w;simp [ztx]
def zyv (h:Hist) (x t:Int):Ver:=ynk (ym0 h.evs t x)
def zhz (h:Hist) (x:Int):Nat→List Int→RkM→RkM
 |_,[],m=>m
 |i,t::r,m=>zhz h x (i+1) r (zd8 (ztx x (zyv h x t)) ((i:Int)+1) m)
def yh0 (h:Hist) (x:Int) (m:RkM):RkM:=zhz h x 0 (zfi h x) (zd8 (ztx x ⟨0,0⟩) 0 m)
def rkM (h:Hist):Nat→RkM
 |0=> []
 |n+1=>yh0 h n (rkM h n)
theorem zl7 (h:Hist) (x:Int):∀(l:List Int) (i:Nat) (t:Int) (m:RkM),zhz h x i (l++ [t]) m=zd8 (ztx x (zyv h x t)) (((i+l.length:Nat):Int)+1) (zhz h x i l m)
 | [],i,t,m=>by simp [zhz]
 |a::r,i,t,m=>by
  rw [List.cons_append,zhz,zl7 h x r (i+1) t,zhz,List.length_cons,show i+1+r.length=i+(r.length+1) by omega]
theorem yea {h:Hist} {x:Int} {l:List Int} {k:Nat} (hk:k < l.length) (m:RkM):zhz h x 0 (l.take (k+1)) m=zd8 (ztx x (zyv h x l[k])) ((k:Int)+1) (zhz h x 0 (l.take k) m):=by
 rw [List.take_succ_eq_append_getElem hk,zl7,List.length_take,Nat.min_eq_left (by omega),Nat.zero_add]
theorem zj9 (h:Hist) {x y:Int} (hxy:y≠x) (v:Ver):∀(l:List Int) (i:Nat) (m:RkM),zbn (ztx y v) (zhz h x i l m)=zbn (ztx y v) m
 | [],_,_=>rfl
 |t::r,i,m=>by
  rw [zhz,zj9 h hxy v r (i+1),zc4,if_neg]
  intro e;exact hxy ((zr6.1 e).1).symm
theorem zv3 (h:Hist) (x:Int) (v:Ver):∀n:Nat,(n:Int)≤x∨x < 0→zbn (ztx x v) (rkM h n)=none
 |0,_=>rfl
 |n+1,hx=>by
  have hne:x≠(n:Int):=by omega
  rw [rkM,yh0,zj9 h hne,zc4,if_neg,zv3 h x v n (by omega)]
  intro e;exact hne ((zr6.1 e).1).symm
def zzt (h:Hist) (x:Int) (v:Ver):Option Int:=zbn (ztx x v) (rkM h h.os.length)
theorem ztb {α β:Type} {f g:α→Option β}:∀{l:List α},(∀a∈l,f a=g a)→l.filterMap f=l.filterMap g
 | [],_=>rfl
 |a::r,h=>by rw [List.filterMap_cons,List.filterMap_cons,h a (by simp),ztb fun b hb=>h b (by simp [hb])]
section
variable {α:Type} {cmp:α→α→Int}
theorem zfr:∀(A1 B1 A2 B2:List α),(∀a∈A1,∀b∈B2,¬cmp b a < 0)→(∀b∈B1,∀a∈A2,cmp b a < 0)→mrg cmp (A1++A2) (B1++B2)=mrg cmp A1 B1++mrg cmp A2 B2
 | [],[],A2,B2,_,_=>by simp [mrg]
 | [],b::B,A2,B2,h1,h2=>by
   have ih:=zfr [] B A2 B2 (by simp) (fun b hb a ha=>h2 b (by simp [hb]) a ha)
   simp only [List.nil_append,mrg] at ih ⊢
   cases A2 with
   |nil=>rw [List.cons_append,mrg,←List.cons_append];simp [mrg]
   |cons a r=>rw [List.cons_append,mrg,if_pos (h2 b (by simp) a (by simp)),ih];rfl
 |a::A,[],A2,B2,h1,h2=>by
  have ih:=zfr A [] A2 B2 (fun a ha b hb=>h1 a (by simp [ha]) b hb) (by simp)
  rw [ze4] at ih ⊢
  simp only [List.nil_append] at ih ⊢
  cases B2 with
  |nil=>rw [ze4,ze4]
  |cons b r=>rw [List.cons_append,mrg,if_neg (h1 a (by simp) b (by simp)),ih];rfl
 |a::A,b::B,A2,B2,h1,h2=>by
  rw [List.cons_append,List.cons_append,mrg,mrg]
  by_cases q:cmp b a < 0
  ·rw [if_pos q,if_pos q]
   have ih:=zfr (a::A) B A2 B2 h1 (fun b hb a ha=>h2 b (by simp [hb]) a ha)
   rw [List.cons_append] at ih
   rw [ih];rfl
  ·rw [if_neg q,if_neg q]
   have ih:=zfr A (b::B) A2 B2 (fun a ha b hb=>h1 a (by simp [ha]) b hb) h2
   rw [List.cons_append] at ih
   rw [ih];rfl
termination_by A1 B1=>A1.length+B1.length
theorem zje (ok:CmpOk cmp) {L R:List α} (hL:L.Pairwise (LeC cmp)) (hR:R.Pairwise (LeC cmp)) {x y:Nat} (hx:x≤L.length) (hy:y≤R.length)
 (h1:∀_:1≤x,∀hy:y < R.length,¬cmp R[y] (L[x - 1]'(by omega)) < 0) (h2:∀hx:x < L.length,∀_:1≤y,cmp (R[y - 1]'(by omega)) L[x] < 0):
 mrg cmp L R=mrg cmp (L.take x) (R.take y)++mrg cmp (L.drop x) (R.drop y):=by
 have le:∀{l:List α},l.Pairwise (LeC cmp)→∀i j,(hi:i < l.length)→(hj:j < l.length)→i≤j→cmp l[i] l[j]≤0:=fun {l} hl i j hi hj hij=>by
  rcases Nat.lt_or_eq_of_le hij with q|q
  ·exact (List.pairwise_iff_getElem.1 hl) i j hi hj q
  ·subst q;have:=ok.anti l[i] l[i];omega
 rw [←zfr,List.take_append_drop,List.take_append_drop]
 ·intro a ha b hb hlt
  obtain ⟨i,hi,rfl⟩:=List.mem_iff_getElem.1 ha
  obtain ⟨j,hj,rfl⟩:=List.mem_iff_getElem.1 hb
  simp only [List.length_take,List.length_drop] at hi hj
  rw [List.getElem_take,List.getElem_drop] at hlt
  have e:=h1 (by omega) (by omega)
  have q1:=le hL i (x - 1) (by omega) (by omega) (by omega)
  have q2:=le hR y (y+j) (by omega) (by omega) (by omega)
  have q3:=ok.anti R[y] (L[x - 1]'(by omega))
  have q4:=ok.trans _ _ _ q1 (show cmp (L[x - 1]'(by omega)) R[y]≤0 by omega)
  have q5:=ok.trans _ _ _ q4 q2
  have q6:=ok.anti (R[y+j]'(by omega)) (L[i]'(by omega))
  omega
 ·intro b hb a ha
  obtain ⟨j,hj,rfl⟩:=List.mem_iff_getElem.1 hb
  obtain ⟨i,hi,rfl⟩:=List.mem_iff_getElem.1 ha
  simp only [List.length_take,List.length_drop] at hi hj
  rw [List.getElem_take,List.getElem_drop]
  have e:=h2 (by omega) (by omega)
  have q1:=le hR j (y - 1) (by omega) (by omega) (by omega)
  have q2:=le hL x (x+i) (by omega) (by omega) (by omega)
  have q4:=ok.trans _ _ _ q1 (Int.le_of_lt e)
  have q5:=ok.trans _ _ _ q4 q2
  rcases Int.lt_or_eq_of_le q5 with z|z
  ·exact z
  ·exfalso
   have a1:=ok.anti (R[j]'(by omega)) (L[x+i]'(by omega))
   have a2:=ok.trans _ _ _ q2 (show cmp (L[x+i]'(by omega)) (R[j]'(by omega))≤0 by omega)
   have a3:=ok.trans _ _ _ a2 q1
   have a4:=ok.anti L[x] (R[y - 1]'(by omega))
   omega
end
section
variable {α:Type} (key:α→Int)
def za4 (a b:α):Int:=key a - key b
theorem zpt:CmpOk (za4 key):=⟨fun a b c h k=>by simp only [za4] at *;omega,fun a b=>by simp only [za4];omega⟩
def zoa (l m:List α):Prop:=m.Pairwise (LeC (za4 key))∧∀x,(m.filter fun a=>key a==x)=l.filter fun a=>key a==x
theorem zh4 (x:Int):∀(A B:List α),A.Pairwise (LeC (za4 key))→B.Pairwise (LeC (za4 key))→((mrg (za4 key) A B).filter fun a=>key a==x)=(A.filter fun a=>key a==x)++B.filter fun a=>key a==x
 | [],B,_,_=>by simp [mrg]
 |a::A,[],_,_=>by simp [mrg]
 |a::A,b::B,hA,hB=>by
  have hA':=List.pairwise_cons.1 hA
  have hB':=List.pairwise_cons.1 hB
  rw [mrg]
  split
  ·rename_i q
   have q:key b < key a:=by simp only [za4] at q;omega
   rw [List.filter_cons,zh4 x (a::A) B hA hB'.2,List.filter_cons (x:=b)]
   by_cases e:key b=x
   ·have hn:(a::A).filter (fun a=>key a==x)= []:=by
     rw [List.filter_eq_nil_iff]
     intro z hz
     have:key a≤key z:=by
      rcases List.mem_cons.1 hz with rfl|hz
      ·exact Int.le_refl _
      ·have h0:key a - key z≤0:=hA'.1 z hz
       omega
     simp;omega
    rw [hn];simp [e]
   ·simp [e]
  ·rw [List.filter_cons,zh4 x A (b::B) hA'.2 hB,List.filter_cons (x:=a)]
   split <;> simp
termination_by A B=>A.length+B.length
theorem zse {l1 l2 m1 m2:List α} (h1:zoa key l1 m1) (h2:zoa key l2 m2):zoa key (l1++l2) (mrg (za4 key) m1 m2):=
 ⟨zh3 (zpt key) _ _ h1.1 h2.1,fun x=>by rw [zh4 key x _ _ h1.1 h2.1,h1.2,h2.2,List.filter_append]⟩
theorem zze (a:α):zoa key [a] [a]:=⟨by simp,fun _=>rfl⟩
theorem zsd:zoa key ([]:List α) []:=⟨.nil,fun _=>rfl⟩
theorem zel {β:Type} {f g:Int→List β}:∀{l:List Int},(∀a∈l,f a=g a)→l.flatMap f=l.flatMap g
 | [],_=>rfl
 |a::r,h=>by rw [List.flatMap_cons,List.flatMap_cons,h a (by simp),zel fun b hb=>h b (by simp [hb])]
theorem ydc (n:Nat) {x:Int} (h:x∈upR n):0≤x∧x < n:=by
 rw [upR,List.mem_map] at h
 obtain ⟨k,hk,rfl⟩:=h
 have:=List.mem_range.1 hk
 omega
theorem zj4:∀(n:Nat) (l:List α),l.Pairwise (LeC (za4 key))→(∀a∈l,0≤key a∧key a < n)→l=(upR n).flatMap fun x=>l.filter fun a=>key a==x
 |0,l,_,h=>by
  have:l= []:=by
   cases l with
   |nil=>rfl
   |cons a r=>have:=h a (by simp);omega
  subst this;rfl
 |n+1,l,hs,h=>by
  have e:∀l:List α,l.Pairwise (LeC (za4 key))→(∀a∈l,0≤key a∧key a < (n+1:Nat))→l=(l.filter fun a=>decide (key a < n))++l.filter fun a=>key a==(n:Int):=by
   intro l
   induction l with
   |nil=>intro _ _;rfl
   |cons a r ih=>
    intro hs h
    have hs':=List.pairwise_cons.1 hs
    have ihr:=ih hs'.2 fun z hz=>h z (by simp [hz])
    have ha:=h a (by simp)
    rw [List.filter_cons,List.filter_cons]
    by_cases q:key a < n
    ·rw [if_pos (by simpa using q),if_neg (by simp;omega),List.cons_append,←ihr]
    ·have hr:r.filter (fun a=>decide (key a < n))= []:=by
      rw [List.filter_eq_nil_iff]
      intro z hz
      have h0:key a - key z≤0:=hs'.1 z hz
      simp;omega
     rw [hr,List.nil_append] at ihr
     rw [if_neg (by simpa using q),hr,List.nil_append,if_pos (by simp;omega),←ihr]
  have h1:=e l hs h
  have hs1:(l.filter fun a=>decide (key a < n)).Pairwise (LeC (za4 key)):=hs.filter _
  have ih:=zj4 n (l.filter fun a=>decide (key a < n)) hs1 fun a ha=>by
   obtain ⟨m1,m2⟩:=List.mem_filter.1 ha
   exact ⟨(h a m1).1,by simpa using m2⟩
  rw [yg9,List.flatMap_append]
  conv=>lhs;rw [h1,ih]
  congr 1
  ·refine zel fun x hx=> ?_
   rw [List.filter_filter]
   refine List.filter_congr fun a _=> ?_
   have:=ydc n hx
   by_cases q:key a=x
   ·simp [q];omega
   ·simp [q]
  ·simp
theorem zvq {n:Nat} {l m:List α} (h:zoa key l m) (hk:∀a∈l,0≤key a∧key a < n):m=(upR n).flatMap fun x=>l.filter fun a=>key a==x:=by
 have hm:∀a∈m,a∈l:=fun a ha=>by
  have:a∈m.filter fun b=>key b==key a:=List.mem_filter.2 ⟨ha,by simp⟩
  rw [h.2] at this
  exact (List.mem_filter.1 this).1
 conv=>lhs;rw [zj4 key n m h.1 fun a ha=>hk a (hm a ha)]
 exact zel fun x _=>h.2 x
end
section
variable {α:Type}
def swp (l:List α) (i j:Nat):List α:=match l[i]?,l[j]? with
 |some x,some y=>(l.set i y).set j x
 |_,_=>l
theorem zsb {l:List α} {i j:Nat} {x y:α} (hi:l[i]? =some x) (hj:l[j]? =some y):swp l i j=(l.set i y).set j x:=by
 rw [swp,hi,hj]
theorem ydj (l:List α) (i j:Nat):(swp l i j).length=l.length:=by
 unfold swp;split <;> simp
theorem zqi (A B C:List α) (x y:α):swp (A++x::(B++y::C)) A.length (A.length+1+B.length)=A++y::(B++x::C):=by
 have h1:(A++x::(B++y::C))[A.length]? =some x:=by simp
 have h2:(A++x::(B++y::C))[A.length+1+B.length]? =some y:=by
  rw [List.getElem?_append_right (by omega),show A.length+1+B.length - A.length=B.length+1 by omega,List.getElem?_cons_succ];simp
 rw [zsb h1 h2,List.set_append_right _ _ (Nat.le_refl _),Nat.sub_self,List.set_cons_zero,List.set_append_right _ _ (by omega),show A.length+1+B.length - A.length=B.length+1 by omega,List.set_cons_succ,List.set_append_right _ _ (Nat.le_refl _),Nat.sub_self,List.set_cons_zero]
def swN (l:List α) (a b:Nat):Nat→List α
 |0=>l
 |n+1=>swp (swN l a b n) (a+n) (b+n)
theorem zj3 (l:List α) (a b:Nat):∀n,(swN l a b n).length=l.length
 |0=>rfl
 |n+1=>by rw [swN,ydj,zj3]
theorem yb2 {P X W Y Z:List α} (hXY:X.length=Y.length):∀n,n≤X.length→swN (P++(X++(W++(Y++Z)))) P.length (P.length+X.length+W.length) n=P++(Y.take n++(X.drop n++(W++(X.take n++(Y.drop n++Z)))))
 |0,_=>by simp [swN]
 |n+1,hn=>by
  have hx:n < X.length:=hn
  have hy:n < Y.length:=by omega
  rw [swN,yb2 hXY n (by omega),List.drop_eq_getElem_cons hx,List.drop_eq_getElem_cons hy]
  have key:=zqi (P++Y.take n) (X.drop (n+1)++(W++X.take n)) (Y.drop (n+1)++Z) X[n] Y[n]
  have e1:(P++Y.take n).length=P.length+n:=by simp;omega
  have e2:(P++Y.take n).length+1+(X.drop (n+1)++(W++X.take n)).length=P.length+X.length+W.length+n:=by simp;omega
  rw [e2,e1] at key
  have e3:P++(Y.take n++(X[n]::X.drop (n+1)++(W++(X.take n++(Y[n]::Y.drop (n+1)++Z)))))=P++Y.take n++X[n]::(X.drop (n+1)++(W++X.take n)++Y[n]::(Y.drop (n+1)++Z)):=by simp only [List.append_assoc,List.cons_append]
  rw [e3,key,List.take_succ_eq_append_getElem hx,List.take_succ_eq_append_getElem hy]
  simp only [List.append_assoc,List.cons_append,List.nil_append]
theorem zmt {P X W Y Z:List α} (hXY:X.length=Y.length):swN (P++(X++(W++(Y++Z)))) P.length (P.length+X.length+W.length) X.length=P++(Y++(W++(X++Z))):=by
 rw [yb2 hXY _ (Nat.le_refl _),List.take_length,List.drop_length,hXY,List.take_length,List.drop_length];simp
def Rot (m i j:Nat) (cur T:List α):Prop:=∃P I J Z,cur=P++(I++(J++Z))∧P.length+i=m∧I.length=i∧J.length=j∧P++(J++(I++Z))=T
theorem yhy {m i j:Nat} {cur T:List α} (h:Rot m i j cur T) (hij:j < i):Rot m (i - j) j (swN cur (m - i) m j) T:=by
 obtain ⟨P,I,J,Z,rfl,hp,hi,hj,rfl⟩:=h
 have e:I=I.take j++I.drop j:=(List.take_append_drop j I).symm
 have hX:(I.take j).length=J.length:=by rw [List.length_take];omega
 have key:=zmt (P:=P) (X:=I.take j) (W:=I.drop j) (Y:=J) (Z:=Z) hX
 have e1:P.length+(I.take j).length+(I.drop j).length=m:=by simp;omega
 rw [e1,show (I.take j).length=j by omega] at key
 refine ⟨P++J,I.drop j,I.take j,Z,?_,by simp;omega,by simp;omega,by omega,?_⟩
 ·conv=>lhs;rw [e]
  rw [show m - i=P.length by omega,List.append_assoc (I.take j),key,List.append_assoc]
 ·rw [←List.append_assoc (I.take j) (I.drop j) Z,List.take_append_drop,List.append_assoc]
theorem yhx {m i j:Nat} {cur T:List α} (h:Rot m i j cur T) (hij:i < j):Rot m i (j - i) (swN cur (m - i) (m+j - i) i) T:=by
 obtain ⟨P,I,J,Z,rfl,hp,hi,hj,rfl⟩:=h
 have e:J=J.take (j - i)++J.drop (j - i):=(List.take_append_drop _ J).symm
 have hX:I.length=(J.drop (j - i)).length:=by rw [List.length_drop];omega
 have key:=zmt (P:=P) (X:=I) (W:=J.take (j - i)) (Y:=J.drop (j - i)) (Z:=Z) hX
 have e1:P.length+I.length+(J.take (j - i)).length=m+j - i:=by simp;omega
 rw [e1,hi] at key
 refine ⟨P,J.drop (j - i),J.take (j - i),I++Z,?_,hp,by omega,by rw [List.length_take];omega,?_⟩
 ·conv=>lhs;rw [e]
  rw [show m - i=P.length by omega,List.append_assoc (J.take (j - i)),key]
 ·rw [←List.append_assoc (J.take (j - i)) (J.drop (j - i)) (I++Z),List.take_append_drop]
theorem yhz {m i:Nat} {cur T:List α} (h:Rot m i i cur T):swN cur (m - i) m i=T:=by
 obtain ⟨P,I,J,Z,rfl,hp,hi,hj,rfl⟩:=h
 have key:=zmt (P:=P) (X:=I) (W:= []) (Y:=J) (Z:=Z) (by omega)
 simp only [List.nil_append,List.length_nil,Nat.add_zero] at key
 rw [hi,hp] at key
 rw [show m - i=P.length by omega];exact key
end
section
variable {α:Type} {cmp:α→α→Int}
def isL (cmp:α→α→Int) (l:List α):List α:=l.foldl (fun s x=>mrg cmp s [x]) []
theorem yjd (l:List α) (x:α):isL cmp (l++ [x])=mrg cmp (isL cmp l) [x]:=by rw [isL,List.foldl_append];rfl
theorem zef:∀A B:List α,(mrg cmp A B).length=A.length+B.length
 | [],B=>by simp [mrg]
 |a::A,[]=>by simp [mrg]
 |a::A,b::B=>by
  rw [mrg];split
  ·rw [List.length_cons,zef (a::A) B];simp;omega
  ·rw [List.length_cons,zef A (b::B)];simp;omega
termination_by A B=>A.length+B.length
theorem zg0 (l:List α):(isL cmp l).length=l.length:=by
 suffices ∀(l s:List α),(l.foldl (fun s x=>mrg cmp s [x]) s).length=s.length+l.length by simpa [isL] using this l []
 intro l
 induction l with
 |nil=>intro s;simp
 |cons a l ih=>intro s;rw [List.foldl_cons,ih,zef];simp;omega
theorem yag {A:List α} {x:α} (h:∀a∈A,cmp x a < 0):mrg cmp A [x]=x::A:=by
 cases A with
 |nil=>simp [mrg]
 |cons a r=>rw [mrg,if_pos (h a (by simp)),ze4]
theorem yfe (ok:CmpOk cmp) {S:List α} (hS:S.Pairwise (LeC cmp)) {x:α} {k:Nat} (hk:k≤S.length) (h1:∀a∈S.drop k,cmp x a < 0) (h2:∀_:1≤k,¬cmp x (S[k - 1]'(by omega)) < 0):mrg cmp S [x]=S.take k++x::S.drop k:=by
 rw [zje ok hS (R:= [x]) (by simp) hk (Nat.zero_le _) (fun hk1 _=>h2 hk1) (fun _ h=>by omega)]
 simp only [List.take_zero,List.drop_zero,ze4]
 rw [yag h1]
end
section
variable {α:Type} (key:α→Int)
theorem zmu (l:List α):zoa key l (isL (za4 key) l):=by
 suffices ∀n,n≤l.length→zoa key (l.take n) (isL (za4 key) (l.take n)) by simpa using this l.length (Nat.le_refl _)
 intro n
 induction n with
 |zero=>intro _;simpa [isL] using zsd key
 |succ n ih=>
  intro hn
  rw [List.take_succ_eq_append_getElem hn,yjd]
  exact zse key (ih (by omega)) (zze key _)
def zlr (D:List (List α×List α)):Nat:=(D.map fun p=>p.2.length).sum
def zr1 (D:List (List α×List α)):Prop:=∀p∈D,zoa key p.1 p.2∧p.2.length=p.1.length
def Bl (bs:Nat):List (List α×List α)→Prop
 | []=>True
 | [p]=>p.2.length≤bs
 |p::q::r=>p.2.length=bs∧Bl bs (q::r)
def Fst (D:List (List α×List α)):List α:=(D.map Prod.fst).flatten
def Snd (D:List (List α×List α)):List α:=(D.map Prod.snd).flatten
theorem zed (D:List (List α×List α)):(Snd D).length=zlr D:=by simp [Snd,zlr,List.length_flatten,Function.comp_def]
theorem zkv (D E:List (List α×List α)):Fst (D++E)=Fst D++Fst E:=by simp [Fst]
theorem zj5 (D E:List (List α×List α)):Snd (D++E)=Snd D++Snd E:=by simp [Snd]
theorem zsu {x y:List α×List α} (hx:zoa key x.1 x.2∧x.2.length=x.1.length) (hy:zoa key y.1 y.2∧y.2.length=y.1.length):zoa key (x.1++y.1) (mrg (za4 key) x.2 y.2)∧(mrg (za4 key) x.2 y.2).length=(x.1++y.1).length:=
 ⟨zse key hx.1 hy.1,by rw [zef,List.length_append,hx.2,hy.2]⟩
theorem ykk {bs:Nat} (h0:1≤bs) {D:List (List α×List α)} (hB:Bl bs D) (ht:2 * bs≤zlr D):∃x y r,D=x::y::r∧x.2.length=bs∧y.2.length=bs∧Bl bs r:=by
 match D,hB,ht with
 | [],_,ht=>simp [zlr] at ht;omega
 | [p],hB,ht=>have hB:p.2.length≤bs:=hB;simp [zlr] at ht;omega
 | [x,y],hB,ht=>
   obtain ⟨h1,h2⟩:=hB
   have h2:y.2.length≤bs:=h2
   refine ⟨x,y,[],rfl,h1,?_,trivial⟩
   simp [zlr] at ht;omega
 |x::y::z::r,hB,ht=>exact ⟨x,y,z::r,rfl,hB.1,hB.2.1,hB.2.2⟩
theorem ycv {bs:Nat} {D:List (List α×List α)} (hB:Bl bs D) (hP:zr1 key D) (ht:zlr D < 2 * bs):(zlr D≤bs∧zoa key (Fst D) (Snd D)∧(Snd D).length=(Fst D).length)∨(bs < zlr D∧∃x y,D= [x,y]∧x.2.length=bs):=by
 match D,hB,hP,ht with
 | [],_,_,_=>exact .inl ⟨by simp [zlr],zsd key,rfl⟩
 | [p],hB,hP,_=>
   have h:=hP p (by simp)
   exact .inl ⟨by simpa [zlr,Bl] using hB,by simpa [Fst,Snd] using h.1,by simpa [Fst,Snd] using h.2⟩
 | [x,y],hB,hP,ht=>
   obtain ⟨h1,h2⟩:=hB
   have hx:=hP x (by simp)
   have hy:=hP y (by simp)
   by_cases q:y.2= []
   ·have q1:y.1= []:=by
     have:=hy.2
     rw [q] at this
     exact List.eq_nil_of_length_eq_zero this.symm
    exact .inl ⟨by simp [zlr,q,h1],by simpa [Fst,Snd,q,q1] using hx.1,by simpa [Fst,Snd,q,q1] using hx.2⟩
   ·refine .inr ⟨?_,x,y,rfl,h1⟩
    have:0 < y.2.length:=List.length_pos_iff.2 q
    simp [zlr,h1];omega
 |x::y::z::r,hB,hP,ht=>
  obtain ⟨h1,h2,_⟩:=hB
  simp [zlr] at ht;omega
end
section
variable {α:Type} (key:α→Int)
def St1 (bs:Nat) (l cur:List α) (a:Nat):Prop:=∃D R,zr1 key D∧(∀p∈D,p.2.length=bs)∧l=Fst D++R∧cur=Snd D++R∧a=bs * D.length
def St2 (bs:Nat) (l cur:List α):Prop:=∃D,zr1 key D∧Bl bs D∧l=Fst D∧cur=Snd D
def St3 (bs:Nat) (l cur:List α) (a:Nat):Prop:=∃E D,zr1 key E∧zr1 key D∧(∀p∈E,p.2.length=2 * bs)∧Bl bs D∧l=Fst E++Fst D∧cur=Snd E++Snd D∧a=2 * bs * E.length
theorem zf4 {bs:Nat}:∀{D:List (List α×List α)},(∀p∈D,p.2.length=bs)→zlr D=bs * D.length
 | [],_=>by simp [zlr]
 |p::D,h=>by
  have h1:=zf4 (D:=D) fun q hq=>h q (by simp [hq])
  have h2:=h p (by simp)
  have e:zlr (p::D)=p.2.length+zlr D:=by simp [zlr]
  rw [e,h1,h2,List.length_cons,Nat.mul_succ];omega
theorem zny {bs:Nat}:∀{D:List (List α×List α)} {p:List α×List α},(∀q∈D,q.2.length=bs)→p.2.length≤bs→Bl bs (D++ [p])
 | [],p,_,hp=>hp
 | [q],p,h,hp=>⟨h q (by simp),hp⟩
 |q::r::D,p,h,hp=>⟨h q (by simp),zny (D:=r::D) (fun z hz=>h z (by simp [hz])) hp⟩
variable {key}
theorem zes {D:List (List α×List α)} {p:List α×List α} (hD:zr1 key D) (hp:zoa key p.1 p.2∧p.2.length=p.1.length):zr1 key (D++ [p]):=fun q hq=>by
 rcases List.mem_append.1 hq with h|h
 ·exact hD q h
 ·rw [List.mem_singleton.1 h];exact hp
theorem ylt (bs:Nat) (l:List α):St1 key bs l l 0:=⟨[],l,fun p hp=>by simp at hp,fun p hp=>by simp at hp,by simp [Fst],by simp [Snd],by simp⟩
theorem zzh {bs a:Nat} {l cur:List α} (h:St1 key bs l cur a) (hb:a+bs≤cur.length):∃P M Z,cur=P++(M++Z)∧P.length=a∧M.length=bs∧St1 key bs l (P++(isL (za4 key) M++Z)) (a+bs):=by
 obtain ⟨D,R,h1,h2,rfl,rfl,rfl⟩:=h
 have e:(Snd D).length=bs * D.length:=by rw [zed,zf4 h2]
 rw [List.length_append,e] at hb
 have eR:R=R.take bs++R.drop bs:=(List.take_append_drop bs R).symm
 have hm:(R.take bs).length=bs:=by rw [List.length_take];omega
 refine ⟨Snd D,R.take bs,R.drop bs,by rw [List.take_append_drop],e,hm,D++ [(R.take bs,isL (za4 key) (R.take bs))],R.drop bs,zes h1 ⟨zmu key _,zg0 _⟩,fun p hp=> ?_,?_,?_,by rw [List.length_append,List.length_singleton,Nat.mul_add];omega⟩
 ·rcases List.mem_append.1 hp with h|h
  ·exact h2 p h
  ·rw [List.mem_singleton.1 h,zg0,hm]
 ·rw [zkv];simp [Fst]
 ·rw [zj5];simp [Snd]
theorem ydo {bs a:Nat} {l cur:List α} (h:St1 key bs l cur a) (hb:cur.length < a+bs):∃P M,cur=P++M∧P.length=a∧St2 key bs l (P++isL (za4 key) M):=by
 obtain ⟨D,R,h1,h2,rfl,rfl,rfl⟩:=h
 have e:(Snd D).length=bs * D.length:=by rw [zed,zf4 h2]
 rw [List.length_append,e] at hb
 refine ⟨Snd D,R,rfl,e,D++ [(R,isL (za4 key) R)],zes h1 ⟨zmu key _,zg0 _⟩,zny h2 (by rw [zg0];omega),?_,?_⟩
 ·rw [zkv];simp [Fst]
 ·rw [zj5];simp [Snd]
theorem yls {bs:Nat} {l cur:List α} (h:St2 key bs l cur):St3 key bs l cur 0:=by
 obtain ⟨D,h1,h2,rfl,rfl⟩:=h
 exact ⟨[],D,fun p hp=>by simp at hp,h1,fun p hp=>by simp at hp,h2,by simp [Fst],by simp [Snd],by simp⟩
theorem ydl {bs a:Nat} {l cur:List α} (h:St3 key bs l cur a):a≤cur.length:=by
 obtain ⟨E,D,h1,h2,h3,h4,rfl,rfl,rfl⟩:=h
 rw [List.length_append,zed,zf4 h3];omega
theorem zzg {bs a:Nat} (h0:1≤bs) {l cur:List α} (h:St3 key bs l cur a) (hb:a+2 * bs≤cur.length):∃P L R Z,cur=P++(L++(R++Z))∧P.length=a∧L.length=bs∧R.length=bs∧L.Pairwise (LeC (za4 key))∧R.Pairwise (LeC (za4 key))∧St3 key bs l (P++(mrg (za4 key) L R++Z)) (a+2 * bs):=by
 obtain ⟨E,D,h1,h2,h3,h4,rfl,rfl,rfl⟩:=h
 have e:(Snd E).length=2 * bs * E.length:=by rw [zed,zf4 h3]
 rw [List.length_append,e,zed] at hb
 obtain ⟨x,y,r,rfl,hx,hy,hr⟩:=ykk h0 h4 (by omega)
 have px:=h2 x (by simp)
 have py:=h2 y (by simp)
 refine ⟨Snd E,x.2,y.2,Snd r,by simp [Snd],e,hx,hy,px.1.1,py.1.1,E++ [(x.1++y.1,mrg (za4 key) x.2 y.2)],r,zes h1 (zsu key px py),fun p hp=>h2 p (by simp [hp]),fun p hp=> ?_,hr,?_,?_,by rw [List.length_append,List.length_singleton,Nat.mul_add];omega⟩
 ·rcases List.mem_append.1 hp with h|h
  ·exact h3 p h
  ·rw [List.mem_singleton.1 h,zef];omega
 ·rw [zkv];simp [Fst]
 ·rw [zj5];simp [Snd]
theorem ydm {bs a:Nat} {l cur:List α} (h:St3 key bs l cur a) (hb:cur.length < a+2 * bs):(cur.length≤a+bs∧St2 key (2 * bs) l cur)∨(a+bs < cur.length∧∃P L R,cur=P++(L++R)∧P.length=a∧L.length=bs∧L.Pairwise (LeC (za4 key))∧R.Pairwise (LeC (za4 key))∧St2 key (2 * bs) l (P++mrg (za4 key) L R)):=by
 obtain ⟨E,D,h1,h2,h3,h4,rfl,rfl,rfl⟩:=h
 have e:(Snd E).length=2 * bs * E.length:=by rw [zed,zf4 h3]
 rw [List.length_append,e,zed] at hb
 rw [List.length_append,e,zed]
 rcases ycv key h4 h2 (by omega) with ⟨q1,q2,q3⟩|⟨q1,x,y,rfl,hx⟩
 ·refine .inl ⟨by omega,E++ [(Fst D,Snd D)],zes h1 ⟨q2,q3⟩,zny h3 (by rw [zed];omega),?_,?_⟩
  ·rw [zkv];simp [Fst]
  ·rw [zj5];simp [Snd]
 ·have px:=h2 x (by simp)
  have py:=h2 y (by simp)
  have ht:zlr [x,y]=x.2.length+y.2.length:=by simp [zlr]
  refine .inr ⟨by omega,Snd E,x.2,y.2,by simp [Snd],e,hx,px.1.1,py.1.1,E++ [(x.1++y.1,mrg (za4 key) x.2 y.2)],zes h1 (zsu key px py),zny h3 (by rw [zef];omega),?_,?_⟩
  ·rw [zkv];simp [Fst]
  ·rw [zj5];simp [Snd]
theorem ydn {bs:Nat} (h0:1≤bs) {l cur:List α} (h:St2 key bs l cur) (hb:cur.length≤bs):zoa key l cur:=by
 obtain ⟨D,h1,h2,rfl,rfl⟩:=h
 rw [zed] at hb
 rcases ycv key h2 h1 (by omega) with ⟨_,q2,_⟩|⟨q1,_⟩
 ·exact q2
 ·omega
end
section
variable {α:Type} {cmp:α→α→Int}
theorem yey (ok:CmpOk cmp) {x:α} {R:List α} (hR:R.Pairwise (LeC cmp)) {y:Nat} (hy:y≤R.length) (h1:∀_:1≤y,cmp (R[y - 1]'(by omega)) x < 0) (h2:∀h:y < R.length,¬cmp R[y] x < 0):mrg cmp [x] R=R.take y++x::R.drop y:=by
 rw [zje ok (L:= [x]) (by simp) hR (x:=0) (Nat.zero_le _) hy (fun h _=>by omega) (fun _ hy=>h1 hy)]
 simp only [List.take_zero,List.drop_zero,List.nil_append]
 rw [show mrg cmp [] (R.take y)=R.take y by simp [mrg]]
 congr 1
 cases hd:R.drop y with
 |nil=>rw [ze4]
 |cons b r=>
  have hlt:y < R.length:=by
   have:=congrArg List.length hd
   simp at this;omega
  rw [List.drop_eq_getElem_cons hlt] at hd
  injection hd with e1 e2
  have h3:=h2 hlt
  rw [e1] at h3
  rw [mrg,if_neg h3];simp [mrg]
theorem yaf (ok:CmpOk cmp) {y:α} {L:List α} (hL:L.Pairwise (LeC cmp)) {x:Nat} (hx:x≤L.length) (h1:∀_:1≤x,¬cmp y (L[x - 1]'(by omega)) < 0) (h2:∀h:x < L.length,cmp y L[x] < 0):mrg cmp L [y]=L.take x++y::L.drop x:=by
 rw [zje ok hL (R:= [y]) (by simp) hx (y:=0) (Nat.zero_le _) (fun h _=>h1 h) (fun _ h=>by omega)]
 simp only [List.take_zero,List.drop_zero,ze4]
 congr 1
 cases hd:L.drop x with
 |nil=>simp [mrg]
 |cons b r=>
  have hlt:x < L.length:=by
   have:=congrArg List.length hd
   simp at this;omega
  rw [List.drop_eq_getElem_cons hlt] at hd
  injection hd with e1 e2
  have h3:=h2 hlt
  rw [e1] at h3
  rw [mrg,if_pos h3,ze4]
theorem ymg {P Z:List α} {x:α} {R:List α} {k:Nat} (hk:k < R.length):swp (P++(R.take k++x::(R.drop k++Z))) (P.length+k) (P.length+k+1)=P++(R.take (k+1)++x::(R.drop (k+1)++Z)):=by
 have key:=zqi (P++R.take k) [] (R.drop (k+1)++Z) x R[k]
 have e1:(P++R.take k).length=P.length+k:=by simp;omega
 rw [e1,List.length_nil,Nat.add_zero,List.nil_append,List.nil_append] at key
 rw [List.drop_eq_getElem_cons hk,List.take_succ_eq_append_getElem hk]
 simp only [List.append_assoc,List.cons_append,List.nil_append] at key ⊢
 exact key
theorem ymh {P Z:List α} {y:α} {L:List α} {k:Nat} (hk:k < L.length):swp (P++(L.take (k+1)++y::(L.drop (k+1)++Z))) (P.length+k) (P.length+k+1)=P++(L.take k++y::(L.drop k++Z)):=by
 have key:=zqi (P++L.take k) [] (L.drop (k+1)++Z) L[k] y
 have e1:(P++L.take k).length=P.length+k:=by simp;omega
 rw [e1,List.length_nil,Nat.add_zero,List.nil_append,List.nil_append] at key
 rw [List.drop_eq_getElem_cons hk,List.take_succ_eq_append_getElem hk]
 simp only [List.append_assoc,List.cons_append,List.nil_append] at key ⊢
 exact key
end
section
variable {α:Type} {cmp:α→α→Int}
def SmI (cmp:α→α→Int) (L R:List α) (a m b mid s0 r0 s r:Nat):Prop:=s0≤s∧s≤r∧r≤r0∧
 (s0 < s→∀u v,R[mid - s]? =some u→L[s - 1 - a]? =some v→¬cmp u v < 0)∧(r < r0→∀u v,R[mid - 1 - r]? =some u→L[r - a]? =some v→cmp u v < 0)
def SmS (L R:List α) (a m b mid s0 r0:Nat):Prop:=a+L.length=m∧m+R.length=b∧mid=(a+b) / 2∧((mid < m∧s0=mid+m - b∧r0=mid)∨(m≤mid∧s0=a∧r0=m))
theorem yn1 {L R:List α} {a m b mid s0 r0:Nat} (h:SmS L R a m b mid s0 r0):SmI cmp L R a m b mid s0 r0 s0 r0:=by
 obtain ⟨h1,h2,h3,h4⟩:=h
 exact ⟨Nat.le_refl _,by omega,Nat.le_refl _,fun q=>by omega,fun q=>by omega⟩
theorem ylu {L R:List α} {a m b mid s0 r0 s r:Nat} (hS:SmS L R a m b mid s0 r0) (h:SmI cmp L R a m b mid s0 r0 s r) (hsr:s < r):a≤(s+r) / 2∧(s+r) / 2 < m∧m≤mid+m - 1 - (s+r) / 2∧mid+m - 1 - (s+r) / 2 < b∧(s+r) / 2 - a < L.length∧mid+m - 1 - (s+r) / 2 - m < R.length∧mid+m - 1 - (s+r) / 2 - m=mid - 1 - (s+r) / 2∧(s+r) / 2≤mid+m - 1∧s≤(s+r) / 2∧(s+r) / 2 < r:=by
 obtain ⟨h1,h2,h3,h4⟩:=hS
 obtain ⟨g1,g2,g3,_⟩:=h
 omega
theorem ynz {L R:List α} {a m b mid s0 r0 s r c:Nat} (hS:SmS L R a m b mid s0 r0) (h:SmI cmp L R a m b mid s0 r0 s r) (hsr:s < r) (hc:c=(s+r) / 2) {u v:α} (hu:R[mid - 1 - c]? =some u) (hv:L[c - a]? =some v) (hn:¬cmp u v < 0):SmI cmp L R a m b mid s0 r0 (c+1) r:=by
 have hb:=ylu hS h hsr
 obtain ⟨g1,g2,g3,g4,g5⟩:=h
 subst hc
 refine ⟨by omega,by omega,g3,fun _ u' v' e1 e2=> ?_,g5⟩
 rw [show mid - ((s+r) / 2+1)=mid - 1 - (s+r) / 2 by omega,hu] at e1
 rw [show (s+r) / 2+1 - 1 - a=(s+r) / 2 - a by omega,hv] at e2
 cases e1;cases e2;exact hn
theorem yn0 {L R:List α} {a m b mid s0 r0 s r c:Nat} (hS:SmS L R a m b mid s0 r0) (h:SmI cmp L R a m b mid s0 r0 s r) (hsr:s < r) (hc:c=(s+r) / 2) {u v:α} (hu:R[mid - 1 - c]? =some u) (hv:L[c - a]? =some v) (hn:cmp u v < 0):SmI cmp L R a m b mid s0 r0 s c:=by
 have hb:=ylu hS h hsr
 obtain ⟨g1,g2,g3,g4,g5⟩:=h
 subst hc
 refine ⟨g1,by omega,by omega,g4,fun _ u' v' e1 e2=> ?_⟩
 rw [hu] at e1
 rw [hv] at e2
 cases e1;cases e2;exact hn
theorem yhp (ok:CmpOk cmp) {L R:List α} (hL:L.Pairwise (LeC cmp)) (hR:R.Pairwise (LeC cmp)) {a m b mid s0 r0 s:Nat} (hS:SmS L R a m b mid s0 r0) (h:SmI cmp L R a m b mid s0 r0 s s):
 ∃x y,s=a+x∧mid=a+x+y∧x≤L.length∧y≤R.length∧mrg cmp L R=mrg cmp (L.take x) (R.take y)++mrg cmp (L.drop x) (R.drop y):=by
 obtain ⟨h1,h2,h3,h4⟩:=hS
 obtain ⟨g1,g2,g3,g4,g5⟩:=h
 have hx:s - a≤L.length:=by omega
 have hy:mid - s≤R.length:=by omega
 refine ⟨s - a,mid - s,by omega,by omega,hx,hy,?_⟩
 refine zje ok hL hR hx hy (fun q1 q2=> ?_) (fun q1 q2=> ?_)
 ·by_cases q:s0 < s
  ·refine g4 q _ _ (List.getElem?_eq_getElem q2) ?_
   rw [show s - 1 - a=s - a - 1 by omega];exact List.getElem?_eq_getElem _
  ·omega
 ·by_cases q:s < r0
  ·refine g5 q _ _ ?_ (List.getElem?_eq_getElem q1)
   rw [show mid - 1 - s=mid - s - 1 by omega];exact List.getElem?_eq_getElem _
  ·omega
theorem yho {P L R Z:List α} {a m x y:Nat} (hp:P.length=a) (hm:a+L.length=m) (hx:x≤L.length) (hy:y≤R.length):
 Rot m (L.length - x) y (P++(L++(R++Z))) (P++(L.take x++(R.take y++(L.drop x++(R.drop y++Z))))):=by
 refine ⟨P++L.take x,L.drop x,R.take y,R.drop y++Z,?_,by simp;omega,by simp,by simp;omega,by simp only [List.append_assoc]⟩
 rw [List.append_assoc,←List.append_assoc (L.take x),List.take_append_drop,←List.append_assoc (R.take y),List.take_append_drop]
theorem ydt {P L R Z:List α} {x y:Nat} (h:x=L.length∨y=0):P++(L++(R++Z))=P++(L.take x++(R.take y++(L.drop x++(R.drop y++Z)))):=by
 rcases h with rfl|rfl
 ·rw [List.take_length,List.drop_length,List.nil_append,←List.append_assoc (R.take y),List.take_append_drop]
 ·rw [List.take_zero,List.drop_zero,List.nil_append,←List.append_assoc (L.take x),List.take_append_drop]
theorem yds {A B:List α} (h:A= []∨B= []):A++B=mrg cmp A B:=by
 rcases h with rfl|rfl
 ·simp [mrg]
 ·rw [ze4,List.append_nil]
theorem zr9 {L:List α} (h:L.Pairwise (LeC cmp)) (x:Nat):(L.take x).Pairwise (LeC cmp):=h.sublist (List.take_sublist _ _)
theorem ztg {L:List α} (h:L.Pairwise (LeC cmp)) (x:Nat):(L.drop x).Pairwise (LeC cmp):=h.sublist (List.drop_sublist _ _)
end
structure Brch where
 g:Int
 e:Int
 l:Int
 o:Int
 a:Int
 b:Int
 deriving DecidableEq
def zc8 (c:Brch):List AV:= [iv c.g,iv c.e,iv c.l,iv c.o,iv c.a,iv c.b]
structure Acc where
 o:Int
 r:Int
 a:Int
 deriving DecidableEq
def accR (a:Acc):List AV:= [iv a.o,iv a.r,iv a.a]
def zlq (h:Hist) (t kd:Int) (k:Nat) (e:Ev):List Acc:=if (e.t==t && e.kind==kd)=true then (match zzt h e.o e.v with|some r=> [⟨e.o,r,k⟩]|none=> []) else []
def zn2 (h:Hist) (t kd:Int):Nat→List Acc
 |0=> []
 |k+1=>zn2 h t kd k++(match h.evs[k]? with|some e=>zlq h t kd k e|none=> [])
def zp5 (h:Hist) (t kd:Int):List Acc:=zn2 h t kd h.evs.length
def zp9 (n:Nat) (l:List Acc):List Acc:=(upR n).flatMap fun x=>l.filter fun a=>a.o==x
def brk (g t1 t2:Int) (a b:Acc):Option Brch:=if (a.o==b.o && decide (b.r < a.r))=true then some ⟨g,t1,t2,a.o,a.a,b.a⟩ else none
def ync (n:Nat) (g t1 t2:Int) (A B:List Acc):List Brch:=(zp9 n A).flatMap fun a=>(zp9 n B).filterMap (brk g t1 t2 a)
def yok (n:Nat) (g t1 t2:Int) (A B:List Acc):List Brch:=(upR n).flatMap fun x=>(A.filter fun a=>a.o==x).flatMap fun a=>(B.filter fun b=>b.o==x).filterMap fun b=>if b.r < a.r then some ⟨g,t1,t2,x,a.a,b.a⟩ else none
theorem zgo {α β:Type} {f g:α→List β}:∀{l:List α},(∀a∈l,f a=g a)→l.flatMap f=l.flatMap g
 | [],_=>rfl
 |a::r,h=>by rw [List.flatMap_cons,List.flatMap_cons,h a (by simp),zgo fun b hb=>h b (by simp [hb])]
structure Doi where
 t:Int
 A:List Acc
 B:List Acc
def brL (n:Nat) (g:Int) (ds:List Doi):Nat→List Brch
 |0=> []
 |k+1=>brL n g ds k++(match ds[k]? with|some d=>(ds.take k).filterMap (fun e=>(ync n g e.t d.t e.A d.B).head?)|none=> [])
def blk (n:Nat) (g:Int) (ds:List Doi):Nat→List (List Brch)
 |0=> []
 |k+1=>blk n g ds k++(match ds[k]? with|some d=>(ds.take k).map (fun e=>ync n g e.t d.t e.A d.B)|none=> [])
def yke (n:Nat) (g:Int) (ds:List Doi):Nat→List Brch
 |0=> []
 |k+1=>yke n g ds k++(match ds[k]? with|some d=>(ds.take k).flatMap (fun e=>yok n g e.t d.t e.A d.B)|none=> [])
theorem yby {h:Hist} {t kd:Int} {k:Nat} {e:Ev} {a:Acc} (ha:a∈zlq h t kd k e):e.t=t∧e.kind=kd∧a.o=e.o∧a.a=(k:Int)∧zzt h e.o e.v=some a.r:=by
 rw [zlq] at ha
 split at ha
 ·rename_i q
  rw [Bool.and_eq_true,beq_iff_eq,beq_iff_eq] at q
  cases hr:zzt h e.o e.v with
  |none=>rw [hr] at ha;cases ha
  |some r=>
   rw [hr] at ha
   have ha:a=⟨e.o,r,k⟩:=by simpa using ha
   subst ha
   exact ⟨q.1,q.2,rfl,rfl,rfl⟩
 ·cases ha
theorem ztr {h:Hist} {t kd:Int} {a:Acc}:∀{n:Nat},n≤h.evs.length→(a∈zn2 h t kd n ↔ ∃k,∃hk:k < h.evs.length,k < n∧a∈zlq h t kd k h.evs[k])
 |0,_=>by simp [zn2]
 |n+1,hn=>by
  rw [zn2,List.mem_append,ztr (by omega),List.getElem?_eq_getElem (show n < h.evs.length by omega)]
  constructor
  ·rintro (⟨k,hk,hkn,q⟩|q)
   ·exact ⟨k,hk,by omega,q⟩
   ·exact ⟨n,by omega,by omega,q⟩
  ·rintro ⟨k,hk,hkn,q⟩
   by_cases e:k=n
   ·subst e;exact .inr q
   ·exact .inl ⟨k,hk,by omega,q⟩
theorem yk1 {h:Hist} {t kd:Int} {a:Acc} (ha:a∈zp5 h t kd):∃k,∃hk:k < h.evs.length,h.evs[k].t=t∧h.evs[k].kind=kd∧a.o=h.evs[k].o∧a.a=(k:Int)∧zzt h h.evs[k].o h.evs[k].v=some a.r:=by
 obtain ⟨k,hk,_,q⟩:=(ztr (Nat.le_refl _)).1 ha
 exact ⟨k,hk,yby q⟩
def kdA (g:Int):Int:=if g=2∨g=8 then 3 else 2
def kdB (g:Int):Int:=if g=1∨g=2 then 3 else 2
def doi (h:Hist) (g t:Int):Doi:=⟨t,zp5 h t (kdA g),zp5 h t (kdB g)⟩
def yf4 (h:Hist) (s g:Int):List Doi:=(zei h.evs s).map (doi h g)
def brS (h:Hist) (s g:Int):List Brch:=brL h.os.length g (yf4 h s g) (yf4 h s g).length
def eaS (h:Hist) (s g:Int):List Brch:=yke h.os.length g (yf4 h s g) (yf4 h s g).length
def yjj (h:Hist) (s:Int):Int:=([1,2,4,8]:List Int).foldl (fun n g=>if brS h s g= [] then n+g else n) 0
section
variable {α β:Type}
theorem ykp {P A B:List α} {x:α}:(P++(A++x::B))[P.length+A.length]? =some x:=by
 rw [List.getElem?_append_right (by omega),Nat.add_sub_cancel_left,List.getElem?_append_right (Nat.le_refl _),Nat.sub_self];rfl
theorem ygg {P B L:List α} {q n:Nat} (hq:q < n) (hl:q < L.length):(P++(L.take n++B))[P.length+q]? =some L[q]:=by
 rw [List.getElem?_append_right (by omega),Nat.add_sub_cancel_left,List.getElem?_append_left (by rw [List.length_take];omega),List.getElem?_take_of_lt hq,List.getElem?_eq_getElem hl]
theorem zi9 {f:α→β} {l:List α} {i j:Nat} {x y:α} (hi:l[i]? =some x) (hj:l[j]? =some y):((l.map f).set i (f y)).set j (f x)=(swp l i j).map f:=by
 rw [zsb hi hj,List.map_set,List.map_set]
theorem zza {l:List α} {i j:Nat} (h:i≠j):swp l i j=swp l j i:=by
 unfold swp
 cases hi:l[i]? with
 |none=>cases hj:l[j]? <;> rfl
 |some x=>
  cases hj:l[j]? with
  |none=>rfl
  |some y=>simp only;rw [List.set_comm _ _ h]
theorem zbz {f:α→β} {l:List α} {i:Nat} {x:α} (h:l[i]? =some x):(l.map f)[i]? =some (f x):=by rw [List.getElem?_map,h];rfl
theorem zdr {l:List α} {i:Nat} {x:α} (h:l[i]? =some x):i < l.length:=(List.getElem?_eq_some_iff.1 h).1
theorem yd8 {m i j:Nat} {c tg:List α} (h:Rot m i j c tg):i≤m∧m+j≤c.length:=by
 obtain ⟨P,I,J,Z,rfl,hp,hi,hj,rfl⟩:=h
 simp only [List.length_append];omega
theorem yjc {P S Z:List α} {x:α} {a q:Nat} (hP:P.length=a) (hq:q≤S.length):(P++(S.take q++x::(S.drop q++Z)))[a+q]? =some x:=by
 have:=ykp (P:=P) (A:=S.take q) (B:=S.drop q++Z) (x:=x)
 rwa [hP,List.length_take,Nat.min_eq_left hq] at this
theorem yld {P S Z:List α} {x:α} {a q:Nat} (hP:P.length=a) (hq:q≤S.length) (h1:1≤q):(P++(S.take q++x::(S.drop q++Z)))[a+q - 1]? =some (S.getD (q - 1) x):=by
 have:=ygg (P:=P) (L:=S) (B:=x::(S.drop q++Z)) (q:=q - 1) (n:=q) (by omega) (by omega)
 rw [hP,show a+(q - 1)=a+q - 1 by omega] at this
 rw [this,List.getD_eq_getElem?_getD,List.getElem?_eq_getElem (by omega)];rfl
theorem zw9 {P S Z:List α} {x:α} {a q:Nat} (hP:P.length=a) (hq:q≤S.length) (h1:1≤q):swp (P++(S.take q++x::(S.drop q++Z))) (a+q) (a+q - 1)=P++(S.take (q - 1)++x::(S.drop (q - 1)++Z)):=by
 obtain ⟨k,rfl⟩:∃k,q=k+1:=⟨q - 1,by omega⟩
 rw [zza (by omega)]
 have:=ymh (P:=P) (Z:=Z) (y:=x) (L:=S) (k:=k) (by omega)
 rw [hP] at this
 rw [show a+(k+1) - 1=a+k by omega,show a+(k+1)=a+k+1 by omega,show k+1 - 1=k by omega]
 exact this
variable {cmp:α→α→Int}
theorem yfd {S:List α} {x:α} {q:Nat} (hq:q≤S.length) (h1:1≤q) (hlt:cmp x (S.getD (q - 1) x) < 0) (hz:∀z∈S.drop q,cmp x z < 0):∀z∈S.drop (q - 1),cmp x z < 0:=by
 intro z hm
 rw [List.drop_eq_getElem_cons (by omega)] at hm
 rcases List.mem_cons.1 hm with rfl|hm
 ·rw [List.getD_eq_getElem?_getD,List.getElem?_eq_getElem (by omega)] at hlt;exact hlt
 ·rw [show q - 1+1=q by omega] at hm;exact hz z hm
theorem yfc {P M Z:List α}:P++(isL cmp (M.take (0+1))++(M.drop (0+1)++Z))=P++(M++Z):=by
 cases M with
 |nil=>rfl
 |cons a r=>simp [isL,mrg]
theorem ya1 {P M Z:List α} {k:Nat} (hS:(isL cmp (M.take (k+1))).length=k+1) (hk:k+1 < M.length):P++(isL cmp (M.take (k+1))++(M.drop (k+1)++Z))=P++((isL cmp (M.take (k+1))).take (k+1)++M[k+1]::((isL cmp (M.take (k+1))).drop (k+1)++(M.drop (k+1+1)++Z))):=by
 rw [List.take_of_length_le (l:=isL cmp (M.take (k+1))) (by omega),List.drop_eq_nil_of_le (by omega:(isL cmp (M.take (k+1))).length≤k+1),List.drop_eq_getElem_cons hk,List.nil_append,List.cons_append]
theorem ych (ok:CmpOk cmp) {P M Z:List α} {k q:Nat} (hS:(isL cmp (M.take (k+1))).Pairwise (LeC cmp)) (hk:k+1 < M.length) (hq:q≤(isL cmp (M.take (k+1))).length) (hz:∀z∈(isL cmp (M.take (k+1))).drop q,cmp M[k+1] z < 0)
 (hst:1≤q→¬cmp M[k+1] ((isL cmp (M.take (k+1))).getD (q - 1) M[k+1]) < 0):
 P++((isL cmp (M.take (k+1))).take q++M[k+1]::((isL cmp (M.take (k+1))).drop q++(M.drop (k+1+1)++Z)))=P++(isL cmp (M.take (k+1+1))++(M.drop (k+1+1)++Z)):=by
 have h:=yfe ok hS (x:=M[k+1]) hq hz fun h1=>by
  have:=hst h1
  rw [List.getD_eq_getElem?_getD,List.getElem?_eq_getElem (by omega)] at this;exact this
 rw [List.take_succ_eq_append_getElem hk,yjd,h];simp
theorem getD_some {l:List α} {k:Nat} (h:k < l.length) (d:α):l[k]? =some (l.getD k d):=by
 rw [List.getD_eq_getElem?_getD,List.getElem?_eq_getElem h];rfl
theorem ygx {P L R Z:List α} {a k:Nat} (hP:P.length=a) (d:α) (h1:a≤k) (h2:k < a+L.length):(P++(L++(R++Z)))[k]? =some (L.getD (k - a) d):=by
 rw [←getD_some (by omega) d]
 rw [List.getElem?_append_right (by omega),List.getElem?_append_left (by omega),hP]
theorem ygw {P L R Z:List α} {a m k:Nat} (hP:P.length=a) (hm:a+L.length=m) (d:α) (h1:m≤k) (h2:k < m+R.length):(P++(L++(R++Z)))[k]? =some (R.getD (k - m) d):=by
 rw [←getD_some (by omega) d]
 rw [List.getElem?_append_right (by omega),List.getElem?_append_right (by omega),List.getElem?_append_left (by omega)]
 congr 1;omega
theorem yog {P S Z:List α} {x:α} {a q:Nat} (hP:P.length=a) (hq:q < S.length) (d:α):(P++(S.take q++x::(S.drop q++Z)))[a+q+1]? =some (S.getD q d):=by
 rw [←getD_some hq d]
 rw [List.getElem?_append_right (by omega),List.getElem?_append_right (by rw [List.length_take];omega),List.length_take,Nat.min_eq_left (by omega),show a+q+1 - P.length - q=0+1 by omega,List.getElem?_cons_succ,List.getElem?_append_left (by rw [List.length_drop];omega),List.getElem?_drop]
 congr 1
theorem ymn {P S Z:List α} {x:α} {a q:Nat} (hP:P.length=a) (hq:q < S.length):swp (P++(S.take q++x::(S.drop q++Z))) (a+q) (a+q+1)=P++(S.take (q+1)++x::(S.drop (q+1)++Z)):=by
 have:=ymg (P:=P) (Z:=Z) (x:=x) (R:=S) (k:=q) hq
 rwa [hP] at this
theorem yab (ok:CmpOk cmp) {P R Z:List α} {x d:α} (hR:R.Pairwise (LeC cmp)) {y:Nat} (hy:y≤R.length) (h1:1≤y→cmp (R.getD (y - 1) d) x < 0) (h2:y < R.length→¬cmp (R.getD y d) x < 0):P++(R.take y++x::(R.drop y++Z))=P++(mrg cmp [x] R++Z):=by
 rw [yey ok hR hy (fun h=>by
  have:=h1 h
  rw [List.getD_eq_getElem?_getD,List.getElem?_eq_getElem (by omega)] at this;exact this) fun h=>by
  have:=h2 h
  rw [List.getD_eq_getElem?_getD,List.getElem?_eq_getElem h] at this;exact this]
 simp
theorem zw1 (ok:CmpOk cmp) {P L Z:List α} {y d:α} (hL:L.Pairwise (LeC cmp)) {x:Nat} (hx:x≤L.length) (h1:1≤x→¬cmp y (L.getD (x - 1) d) < 0) (h2:x < L.length→cmp y (L.getD x d) < 0):P++(L.take x++y::(L.drop x++Z))=P++(mrg cmp L [y]++Z):=by
 rw [yaf ok hL hx (fun h=>by
  have:=h1 h
  rw [List.getD_eq_getElem?_getD,List.getElem?_eq_getElem (by omega)] at this;exact this) fun h=>by
  have:=h2 h
  rw [List.getD_eq_getElem?_getD,List.getElem?_eq_getElem h] at this;exact this]
 simp
theorem zvt {P A B W:List α} (h:A= []∨B= []):P++(A++(B++W))=P++(mrg cmp A B++W):=by
 rw [←yds h,List.append_assoc]
theorem zsa {l:List α} {x:Nat} (h:¬1≤x):l.take x= []:=by rw [show x=0 by omega];rfl
theorem zpj {l:List α} {x:Nat} (h:¬x < l.length):l.drop x= []:=List.drop_eq_nil_of_le (by omega)
end
theorem zi7 {n:Nat} (h:n≤4611686018427387904):IntKind.u64.wrap (n:Int)=(n:Int):=by
 show (n:Int) % 18446744073709551616=n
 omega
theorem zi8 {n:Nat} (h:n≤4611686018427387904):zl0 .shr .u64 (n:Int) 1=some ((n / 2:Nat):Int):=by
 have e:Int.fdiv (n:Int) 2=((n / 2:Nat):Int):=by rw [Int.fdiv_eq_ediv_of_nonneg _ (by decide)];omega
 show some (Int.fdiv (n:Int) 2)=_
 rw [e]
theorem zjk {n:Nat} (h:n≤4611686018427387904):IntKind.i64.wrap (n:Int)=(n:Int):=IntWalk.i64_in _ ⟨by omega,by omega⟩
abbrev zi2:={a:Acc // 0≤a.o∧a.o < 1000000}
abbrev zbu (a:zi2):List AV:=accR a.1
def zyt (a:zi2):Int:=a.1.o
abbrev zce:zi2→zi2→Int:=za4 zyt
def zdd:zi2:=⟨⟨0,0,0⟩,by decide⟩
theorem zzf {n:Nat} {l:List Acc} {lB m:List zi2} (e:lB.map (·.1)=l) (h:zoa zyt lB m) (hk:∀a∈l,0≤a.o∧a.o < n):m.map (·.1)=zp9 n l:=by
 have h1:=zvq zyt (n:=n) h fun a ha=>hk a.1 (by rw [←e];exact List.mem_map_of_mem ha)
 rw [h1,zp9,List.map_flatMap]
 refine zgo fun x _=> ?_
 rw [←e,List.filter_map];rfl
theorem zyn {n:Nat} (hn:n≤1000000):∀{l:List Acc},(∀a∈l,0≤a.o∧a.o < n)→∃lB:List zi2,lB.map (·.1)=l
 | [],_=>⟨[],rfl⟩
 |a::l,h=>by
  obtain ⟨lB,e⟩:=zyn hn (l:=l) fun x hx=>h x (by simp [hx])
  have:=h a (by simp)
  exact ⟨⟨a,by omega,by omega⟩::lB,by rw [List.map_cons,e]⟩
theorem zk6:CmpOk zce:=zpt zyt
structure Grd where
 s:Int
 q:Int
 a:Int
 deriving DecidableEq
def zn8 (g:Grd):List AV:= [iv g.s,iv g.q,iv g.a]
def zc7 (l:List Grd):AV:= .list false 3 (l.map zn8)
def ybt (l:List Wan):List (Int×Int):=l.foldl (fun m w=>zd8 w.s w.bits m) []
theorem yks {l:List Wan} {k:Nat} (hk:k < l.length):ybt (l.take (k+1))=zd8 l[k].s l[k].bits (ybt (l.take k)):=by
 rw [ybt,List.take_succ_eq_append_getElem hk,List.foldl_append];rfl
def zp4 (l:List Wan) (s:Int):Int:=match l.find? fun w=>w.s==s with|some w=>w.bits|none=>0
def ybs (l:List Wan) (s:Int):Int:=(zbn s (ybt l)).getD 0
theorem ycx (s:Int):∀(l:List Wan) (m:List (Int×Int)),(l.map Wan.s).Nodup→zbn s (l.foldl (fun m w=>zd8 w.s w.bits m) m)=match l.find? (fun w=>w.s==s) with|some w=>some w.bits|none=>zbn s m
 | [],m,_=>rfl
 |w::l,m,hn=>by
  rw [List.map_cons,List.nodup_cons] at hn
  rw [List.foldl_cons,ycx s l _ hn.2,List.find?_cons]
  by_cases e:w.s=s
  ·have h0:l.find? (fun w=>w.s==s)=none:=by
    rw [List.find?_eq_none]
    intro v hv q
    exact hn.1 (by rw [e,←eq_of_beq q];exact List.mem_map_of_mem hv)
   rw [h0,show (w.s==s)=true by simpa using e]
   simp only;rw [zc4,if_pos e]
  ·rw [show (w.s==s)=false by simpa using e]
   simp only
   cases l.find? (fun w=>w.s==s) with
   |some v=>rfl
   |none=>simp only;rw [zc4,if_neg e]
theorem ykq {l:List Wan} (hn:(l.map Wan.s).Nodup) (s:Int):ybs l s=zp4 l s:=by
 rw [ybs,ybt,ycx s l [] hn,zp4]
 cases l.find? (fun w=>w.s==s) <;> rfl
theorem ygl {l:List Wan} (hn:(l.map Wan.s).Nodup) {w:Wan} (hw:w∈l):zp4 l w.s=w.bits:=by
 cases hf:l.find? (fun v=>v.s==w.s) with
 |none=>
  have:=List.find?_eq_none.1 hf w hw
  simp at this
 |some v=>
  have h1:v.s=w.s:=by simpa using List.find?_some hf
  have h2:=List.mem_of_find?_eq_some hf
  have:v=w:=by
   obtain ⟨i,hi,rfl⟩:=List.mem_iff_getElem.1 h2
   obtain ⟨j,hj,rfl⟩:=List.mem_iff_getElem.1 hw
   have:=(List.getElem_inj (i:=i) (j:=j) (h₀:=by simpa using hi) (h₁:=by simpa using hj) hn).1 (by simpa using h1)
   subst this;rfl
  rw [zp4,hf,this]
def zqa (l:List Wan) (s:Int):Bool:=l.any fun w=>w.s==s
def zat (l:List Wan) (s b:Int):List Wan:=(l.map fun w=>if w.s=s then ⟨w.s,b⟩ else w)++(if zqa l s=true then [] else [⟨s,b⟩])
def zew (l:List Wan) (s b:Int):List Wan:=if za5 (fun w=>w.s==s) 0 l < 0 then l++ [⟨s,b⟩] else l.set (za5 (fun w=>w.s==s) 0 l).toNat ⟨s,b⟩
theorem zkx {α:Type} {p:α→Bool}:∀{l:List α} {i:Nat},za5 p i l≠ -1→∃k,∃hk:k < l.length,za5 p i l=((i+k:Nat):Int)∧p l[k]=true
 | [],_,h=>absurd rfl h
 |x::r,i,h=>by
  by_cases e:p x=true
  ·exact ⟨0,by simp,by rw [za5,if_pos e];simp,e⟩
  ·rw [za5,if_neg e] at h ⊢
   obtain ⟨k,hk,h1,h2⟩:=zkx h
   exact ⟨k+1,by simpa using hk,by rw [h1];congr 1;omega,h2⟩
theorem zo0 {l:List Wan} {s b:Int} (h:∀w∈l,w.s≠s):(l.map fun w=>if w.s=s then (⟨w.s,b⟩:Wan) else w)=l:=by
 conv=>rhs;rw [←List.map_id l]
 exact List.map_congr_left fun w hw=>by rw [if_neg (h w hw)];rfl
theorem zsy {s b:Int}:∀{l:List Wan} {k:Nat},(l.map Wan.s).Nodup→(hk:k < l.length)→l[k].s=s→(l.map fun w=>if w.s=s then (⟨w.s,b⟩:Wan) else w)=l.set k ⟨s,b⟩
 |w::l,0,hn,_,e=>by
  have e:w.s=s:=e
  rw [List.map_cons,List.nodup_cons] at hn
  rw [List.map_cons,if_pos e,List.set_cons_zero,e,zo0]
  intro v hv q
  exact hn.1 (by rw [e,←q];exact List.mem_map_of_mem hv)
 |w::l,k+1,hn,hk,e=>by
  rw [List.map_cons,List.nodup_cons] at hn
  have hk':k < l.length:=by simpa using hk
  have e:l[k].s=s:=e
  rw [List.map_cons,List.set_cons_succ,zsy hn.2 hk' e,if_neg]
  intro q
  exact hn.1 (by rw [q,←e];exact List.mem_map_of_mem (List.getElem_mem _))
theorem zvc {l:List Wan} (hn:(l.map Wan.s).Nodup) (s b:Int):zew l s b=zat l s b:=by
 rw [zew,zat]
 by_cases h:za5 (fun w:Wan=>w.s==s) 0 l= -1
 ·have hno:∀w∈l,w.s≠s:=fun w hw q=>by
   have:=zd2 (fun w:Wan=>w.s==s) l 0
   rw [h] at this
   have h2:=List.any_eq_false.1 this.symm w hw
   simp [q] at h2
  have hw:zqa l s=false:=by rw [zqa,List.any_eq_false];intro w hw;simpa using hno w hw
  rw [if_pos (by omega),zo0 hno,hw];rfl
 ·obtain ⟨k,hk,h1,h2⟩:=zkx h
  have hw:zqa l s=true:=by rw [zqa,List.any_eq_true];exact ⟨_,List.getElem_mem hk,h2⟩
  rw [if_neg (by omega),h1,hw,if_pos rfl,List.append_nil,zsy hn hk (by simpa using h2)]
  congr 1;omega
theorem yg5 (l:List Wan) (s b:Int):(zat l s b).map Wan.s=l.map Wan.s++(if zqa l s=true then [] else [s]):=by
 rw [zat,List.map_append,List.map_map]
 congr 1
 ·exact List.map_congr_left fun w _=>by simp only [Function.comp];split <;> simp_all
 ·split <;> rfl
theorem ztv {l:List Wan} (hn:(l.map Wan.s).Nodup) (s b:Int):((zat l s b).map Wan.s).Nodup:=by
 rw [yg5,List.nodup_append]
 refine ⟨hn,by split <;> simp,fun x hx y hy e=> ?_⟩
 subst e
 split at hy
 ·cases hy
 ·rename_i q
  rw [List.mem_singleton] at hy
  subst hy
  obtain ⟨w,hw,e⟩:=List.mem_map.1 hx
  exact q (by rw [zqa,List.any_eq_true];exact ⟨w,hw,by simpa using e⟩)
theorem zyz {l:List Wan} {s b:Int} {w:Wan} (hw:w∈zat l s b):w=⟨s,b⟩∨(w∈l∧w.s≠s):=by
 rw [zat,List.mem_append] at hw
 rcases hw with hw|hw
 ·obtain ⟨v,hv,rfl⟩:=List.mem_map.1 hw
  by_cases e:v.s=s
  ·rw [if_pos e,e];exact .inl rfl
  ·rw [if_neg e];exact .inr ⟨hv,e⟩
 ·split at hw
  ·cases hw
  ·rw [List.mem_singleton] at hw;exact .inl hw
theorem zvb (l:List Wan) (s b:Int):⟨s,b⟩∈zat l s b:=by
 rw [zat,List.mem_append]
 by_cases h:zqa l s=true
 ·obtain ⟨w,hw,e⟩:=List.any_eq_true.1 h
  exact .inl (List.mem_map.2 ⟨w,hw,by rw [if_pos (by simpa using e),show w.s=s by simpa using e]⟩)
 ·rw [if_neg h];exact .inr (by simp)
theorem zvd {l:List Wan} (hn:(l.map Wan.s).Nodup) {s b:Int} (h:zqa l s=true):zat (zat l s b) s (zp4 l s)=l:=by
 have h2:zqa (zat l s b) s=true:=by rw [zqa,List.any_eq_true];exact ⟨_,zvb l s b,by simp⟩
 rw [zat,h2,if_pos rfl,List.append_nil,zat,h,if_pos rfl,List.append_nil,List.map_map]
 conv=>rhs;rw [←List.map_id l]
 refine List.map_congr_left fun w hw=> ?_
 simp only [Function.comp]
 by_cases e:w.s=s
 ·subst e
  rw [if_pos rfl];simp only [if_true]
  rw [ygl hn hw];rfl
 ·rw [if_neg e,if_neg e];rfl
theorem zva {l:List Wan} {s b:Int} (h:zqa l s=false) (c:Int):(zat (zat l s b) s c).length=l.length+1:=by
 have h2:zqa (zat l s b) s=true:=by rw [zqa,List.any_eq_true];exact ⟨_,zvb l s b,by simp⟩
 rw [zat,h2,if_pos rfl,List.append_nil,oM,zat,h];simp
theorem zuq {σ α:Type} {step:σ→α→Option σ} {x:α} {l:List α} {s m:σ} (h:goes step (some s) (x::l)=some m):∃s',step s x=some s'∧goes step (some s') l=some m:=by
 rw [goes] at h
 cases e:step s x with
 |none=>rw [show ((some s).bind fun s=>step s x)=none from e,zkt] at h;cases h
 |some s'=>exact ⟨s',rfl,by rw [show ((some s).bind fun s=>step s x)=some s' from e] at h;exact h⟩
theorem zui {s s':List Int} {x:Nat×Int} (h:zap s x=some s') (hl:s.length=4) (hx:x.1 < 4):s'.length=4∧x.2≤s.getD x.1 0∧s'.getD x.1 0=max (s.getD x.1 0) (x.2+1)∧∀k,k≠x.1→s'.getD k 0=s.getD k 0:=by
 rw [zap] at h
 split at h
 ·cases h
 ·rename_i q
  injection h with h
  subst h
  refine ⟨by rw [List.length_set];exact hl,by omega,?_,fun k hk=> ?_⟩
  ·rw [List.getD_eq_getElem?_getD,List.getElem?_set_self (by omega)];rfl
  ·rw [List.getD_eq_getElem?_getD,List.getElem?_set_ne (by omega),←List.getD_eq_getElem?_getD]
theorem zmc:∀{l:List (Nat×Int)} {s m:List Int},goes zap (some s) l=some m→s.length=4→(∀x∈l,x.1 < 4)→m.length=4∧(∀k,s.getD k 0≤m.getD k 0)∧(∀x∈l,x.2+1≤m.getD x.1 0)∧∀n,s.getD 1 0≤n→n < m.getD 1 0→(1,n)∈l
 | [],s,m,h,hl,_=>by
   have h:some s=some m:=h
   injection h with h;subst h
   exact ⟨hl,fun k=>Int.le_refl _,fun x hx=>by simp at hx,fun n h1 h2=>by omega⟩
 |x::l,s,m,h,hl,hx=>by
  obtain ⟨s',h1,h2⟩:=zuq h
  obtain ⟨a1,a2,a3,a4⟩:=zui h1 hl (hx x (by simp))
  obtain ⟨b1,b2,b3,b4⟩:=zmc h2 a1 fun y hy=>hx y (by simp [hy])
  refine ⟨b1,fun k=> ?_,fun y hy=> ?_,fun n n1 n2=> ?_⟩
  ·have:=b2 k
   by_cases e:k=x.1
   ·subst e;omega
   ·have:=a4 k e;omega
  ·rcases List.mem_cons.1 hy with rfl|hy
   ·have:=b2 y.1;omega
   ·exact b3 y hy
  ·by_cases e:x.1=1
   ·rw [e] at a2 a3
    by_cases q:s'.getD 1 0≤n
    ·exact List.mem_cons_of_mem _ (b4 n q n2)
    ·have:x=(1,n):=Prod.ext e (by simp only;omega)
     rw [this];exact List.mem_cons_self ..
   ·have:=a4 1 (fun q=>e q.symm)
    exact List.mem_cons_of_mem _ (b4 n (by omega) n2)
theorem zh5 {s:List Int} (hl:s.length=4):∀{l:List (Nat×Int)},(∀x∈l,x.1 < 4∧x.2 < s.getD x.1 0)→goes zap (some s) l=some s
 | [],_=>rfl
 |x::l,h=>by
  obtain ⟨h1,h2⟩:=h x (by simp)
  have e:zap s x=some s:=by
   rw [zap]
   rw [if_neg (by omega),show max (s.getD x.1 0) (x.2+1)=s.getD x.1 0 by omega]
   congr 1
   refine List.ext_getElem (by simp) fun i q1 q2=> ?_
   rw [List.getElem_set]
   split
   ·rename_i e;subst e;rw [List.getD_eq_getElem?_getD,List.getElem?_eq_getElem q2];rfl
   ·rfl
  rw [goes,show ((some s).bind fun s=>zap s x)=some s from e]
  exact zh5 hl fun y hy=>h y (by simp [hy])
def zdn (h:Hist):List (Nat×Int):=h.evs.flatMap evL++(h.ords.flatMap zz8++h.mats.flatMap zwq)
theorem zsg (h:Hist):zcb h=zdn h++h.wants.flatMap zqe:=by simp [zcb,zdn]
theorem ycd {v:Ver} {x:Nat×Int} (hx:x∈ze5 v):x.1=0:=by
 rw [ze5] at hx;split at hx
 ·rw [List.mem_singleton] at hx;rw [hx]
 ·cases hx
theorem ym4 {e:Ev} {x:Nat×Int} (hx:x∈evL e):x.1 < 4∧(x.1=1→e.kind=1∧x.2=e.s):=by
 rw [evL,List.mem_cons,List.mem_append] at hx
 rcases hx with rfl|hx|hx
 ·exact ⟨by simp,fun q=>by cases q⟩
 ·unfold zfh at hx
  split at hx
  ·rename_i q;rw [List.mem_singleton] at hx;subst hx;exact ⟨by simp,fun _=>⟨q,rfl⟩⟩
  ·split at hx
   ·rcases List.mem_cons.1 hx with rfl|hx
    ·exact ⟨by simp,fun q=>by cases q⟩
    ·rw [ycd hx];exact ⟨by simp,fun q=>by cases q⟩
   ·split at hx
    ·rw [List.mem_singleton] at hx;subst hx;exact ⟨by simp,fun q=>by cases q⟩
    ·cases hx
 ·obtain ⟨s,_,hx⟩:=List.mem_flatMap.1 hx
  rw [zt1,List.mem_cons] at hx
  rcases hx with rfl|hx
  ·exact ⟨by simp,fun q=>by cases q⟩
  ·rw [ycd hx];exact ⟨by simp,fun q=>by cases q⟩
theorem yhc {l:List Int} {x:Nat×Int} (hx:x∈tsL l):x.1=0:=by
 obtain ⟨_,_,rfl⟩:=List.mem_map.1 hx;rfl
theorem zsh {h:Hist} {x:Nat×Int} (hx:x∈zdn h):x.1 < 4∧(x.1=1→∃e∈h.evs,e.kind=1∧e.s=x.2):=by
 rw [zdn,List.mem_append,List.mem_append] at hx
 rcases hx with hx|hx|hx
 ·obtain ⟨e,he,hx⟩:=List.mem_flatMap.1 hx
  obtain ⟨h1,h2⟩:=ym4 hx
  exact ⟨h1,fun q=>⟨e,he,(h2 q).1,(h2 q).2.symm⟩⟩
 ·obtain ⟨r,_,hx⟩:=List.mem_flatMap.1 hx
  rw [zz8,List.mem_cons] at hx
  rcases hx with rfl|hx
  ·exact ⟨by simp,fun q=>by cases q⟩
  ·rw [yhc hx];exact ⟨by simp,fun q=>by cases q⟩
 ·obtain ⟨r,_,hx⟩:=List.mem_flatMap.1 hx
  rw [zwq,List.mem_cons,List.mem_cons] at hx
  rcases hx with rfl|rfl|hx
  ·exact ⟨by simp,fun q=>by cases q⟩
  ·exact ⟨by simp,fun q=>by cases q⟩
  ·rw [yhc hx];exact ⟨by simp,fun q=>by cases q⟩
theorem zhy {h:Hist} (hs:zbp h=true):zf9 h=true∧∀r,1≤r→r≤10→zci h r=none:=by
 rw [zbp,Bool.and_eq_true] at hs
 refine ⟨hs.1,fun r h1 h2=>zib (Option.isNone_iff_eq_none.1 hs.2) r ?_⟩
 rcases (by omega:r=1∨r=2∨r=3∨r=4∨r=5∨r=6∨r=7∨r=8∨r=9∨r=10) with e|e|e|e|e|e|e|e|e|e <;> subst e <;> decide
theorem zg9 {h:Hist} (hs:zbp h=true):(h.wants.map Wan.s).Nodup∧(∀w∈h.wants,(0≤w.s∧w.s < h.ss.length)∧0≤w.bits∧w.bits≤15)∧h.ss.length≤60∧(∀s:Int,0≤s→s < h.ss.length→∃e∈h.evs,e.kind=1∧e.s=s)∧goes zap (some [0,0,0,0]) (zdn h)=some (zko h):=by
 obtain ⟨hm,hp⟩:=zhy hs
 have h10:=(zep _ _).1 (show zdh (zle h) 0 h.wants=none from hp 10 (by decide) (by decide))
 rw [zf9,Bool.and_eq_true] at hm
 obtain ⟨hsh,hmany⟩:=hm
 obtain ⟨hok,hev,hor,hma,hwa⟩:=zdg hsh
 have hw:∀j (hj:j < h.wants.length),(∀i (hi:i < j),h.wants[i].s≠h.wants[j].s)∧∃e∈h.evs,e.kind=1∧e.s=h.wants[j].s:=fun j hj=>by
  have q:=h10 j hj
  rw [Nat.zero_add,zle,Bool.or_eq_false_iff] at q
  refine ⟨fun i hi e=> ?_,?_⟩
  ·have:=List.any_eq_false.1 q.1 h.wants[i] (List.mem_iff_getElem.2 ⟨i,by rw [List.length_take];omega,by rw [List.getElem_take]⟩)
   simp [e] at this
  ·have q2:(h.evs.any fun e=>e.kind==1 && e.s==h.wants[j].s)=true:=by simpa using q.2
   obtain ⟨e,he,h1⟩:=List.any_eq_true.1 q2
   rw [Bool.and_eq_true,beq_iff_eq,beq_iff_eq] at h1
   exact ⟨e,he,h1.1,h1.2⟩
 have hn:(h.wants.map Wan.s).Nodup:=by
  rw [List.Nodup,List.pairwise_map]
  exact List.pairwise_iff_getElem.2 fun i j hi hj hij=>(hw j hj).1 i hij
 have hr:∀w∈h.wants,(0≤w.s∧w.s < h.ss.length)∧0≤w.bits∧w.bits≤15:=fun w hw=>by
  have:=hwa w hw
  unfold zvh at this
  simp only [zdf,Bool.and_eq_true,decide_eq_true_eq] at this
  omega
 have hl:h.ss.length≤60:=by
  have q:okK h 2=true:=by
   have:=hok
   simp only [okK,Bool.and_eq_true] at this ⊢
   exact this.1.1
  simp only [okK,zhl,Bool.and_eq_true,decide_eq_true_eq] at q
  have:=q.2.1
  have e:(yg0 1:Int)=60:=by decide
  rw [e] at this
  exact_mod_cast this
 have hsp:∀x∈zdn h,x.1 < 4:=fun x hx=>(zsh hx).1
 have hmany:goes zap (some [0,0,0,0]) (zdn h++h.wants.flatMap zqe)=some (zko h):=by
  rw [←zsg];simpa [zlm] using hmany
 rw [ze7] at hmany
 cases hg:goes zap (some [0,0,0,0]) (zdn h) with
 |none=>rw [hg,zkt] at hmany;cases hmany
 |some m=>
  rw [hg] at hmany
  obtain ⟨m1,m2,m3,m4⟩:=zmc hg rfl hsp
  have hsame:=zh5 (s:=m) m1 (l:=h.wants.flatMap zqe) fun x hx=>by
   obtain ⟨w,hwm,hx⟩:=List.mem_flatMap.1 hx
   rw [zqe,List.mem_singleton] at hx
   subst hx
   refine ⟨by simp,?_⟩
   obtain ⟨j,hj,rfl⟩:=List.mem_iff_getElem.1 hwm
   obtain ⟨e,he,k1,k2⟩:=(hw j hj).2
   have:(1,e.s)∈zdn h:=by
    rw [zdn,List.mem_append]
    refine .inl (List.mem_flatMap.2 ⟨e,he,?_⟩)
    rw [evL,zre k1];simp
   have:=m3 _ this
   simp only at this ⊢
   rw [k2] at this;omega
  rw [hsame] at hmany
  injection hmany with hmany
  subst hmany
  refine ⟨hn,hr,hl,fun s s0 s1=> ?_,rfl⟩
  have:=m4 s (by simpa using s0) (by simpa [zko] using s1)
  exact (zsh this).2 rfl
theorem zqj {h:Hist} (hs:zbp h=true) {w:List Wan} (hl:w.length≤3000) (hn:(w.map Wan.s).Nodup) (hr:∀x∈w,(0≤x.s∧x.s < h.ss.length)∧0≤x.bits∧x.bits≤15):zbp {h with wants:=w}=true:=by
 obtain ⟨_,_,_,hb,hg⟩:=zg9 hs
 obtain ⟨hm,hp⟩:=zhy hs
 rw [zf9,Bool.and_eq_true] at hm
 obtain ⟨hsh,_⟩:=hm
 obtain ⟨hok,hev,hor,hma,hwa⟩:=zdg hsh
 have ok0:okK {h with wants:=w} 4=true:=by
  simp only [okK,zsm,Bool.and_eq_true,decide_eq_true_eq] at hok ⊢
  obtain ⟨⟨⟨⟨⟨a,b⟩,c⟩,d⟩,e⟩,f⟩:=hok
  refine ⟨⟨⟨⟨⟨a,?_⟩,c⟩,d⟩,e⟩,f⟩
  omega
 have hwB:(w.all (zvh {h with wants:=w}))=true:=by
  rw [List.all_eq_true]
  intro x hx
  have:=hr x hx
  unfold zvh
  simp only [zdf,Bool.and_eq_true,decide_eq_true_eq]
  omega
 have hmay:zf9 {h with wants:=w}=true:=by
  rw [zf9,Bool.and_eq_true]
  refine ⟨?_,?_⟩
  ·rw [zav,ok0]
   simp only [Bool.true_and,Bool.and_eq_true]
   exact ⟨⟨⟨List.all_eq_true.2 hev,List.all_eq_true.2 hor⟩,List.all_eq_true.2 hma⟩,hwB⟩
  ·rw [beq_iff_eq,zlm,zsg,ze7]
   rw [show zdn {h with wants:=w}=zdn h from rfl,hg]
   exact zh5 (s:=zko h) rfl fun x hx=>by
    obtain ⟨v,hv,hx⟩:=List.mem_flatMap.1 hx
    rw [zqe,List.mem_singleton] at hx
    subst hx
    exact ⟨by simp,by simpa [zko] using (hr v hv).1.2⟩
 have hpl:∀r,1≤r→r≤10→zci {h with wants:=w} r=none:=fun r h1 h2=>by
  by_cases e:r=10
  ·subst e
   show zdh (zle {h with wants:=w}) 0 w=none
   refine (zep _ _).2 fun j hj=> ?_
   rw [Nat.zero_add,zle,Bool.or_eq_false_iff]
   constructor
   ·rw [List.any_eq_false]
    intro v hv q
    obtain ⟨i,hi,rfl⟩:=List.mem_iff_getElem.1 hv
    rw [List.length_take] at hi
    rw [List.getElem_take] at q
    have q:w[i].s=w[j].s:=by simpa using q
    have:=(List.getElem_inj (i:=i) (j:=j) (h₀:=by simp;omega) (h₁:=by simpa using hj) hn).1 (by simpa using q)
    omega
   ·obtain ⟨a,b⟩:=hr w[j] (List.getElem_mem hj)
    obtain ⟨e,he,k1,k2⟩:=hb w[j].s a.1 a.2
    rw [Bool.not_eq_false',List.any_eq_true]
    exact ⟨e,he,by simp [k1,k2]⟩
  ·have:=hp r h1 h2
   rcases (by omega:r=1∨r=2∨r=3∨r=4∨r=5∨r=6∨r=7∨r=8∨r=9) with e|e|e|e|e|e|e|e|e <;> subst e <;> exact this
 rw [zbp,hmay,Bool.true_and,ziu]
 simp [rules10,zbg,hpl]
def zec (h:Hist):List Grd:=if u6 h=0 then (upR h.ss.length).map fun s=>⟨s,ybs h.wants s,yjj h s⟩ else []
theorem ygk {h:Hist} (hs:zbp h=true) (s:Int):0≤zp4 h.wants s∧zp4 h.wants s≤15:=by
 obtain ⟨_,hr,_⟩:=zg9 hs
 rw [zp4]
 split
 ·rename_i w hw
  exact (hr w (List.mem_of_find?_eq_some hw)).2
 ·decide
def yga:List Int:= [1,2,4,8]
def zln (g:Grd) (b:Int):Bool:=bI .and .i64 (bI .andNot .i64 g.q g.a) b !=0
def zbw (l:List Grd):List (Int×Int):=l.flatMap fun g=>(yga.filter (zln g)).map fun b=>(g.s,b)
def WOk (n:Int) (l:List Wan):Prop:=(l.map Wan.s).Nodup∧∀w∈l,(0≤w.s∧w.s < n)∧0≤w.bits∧w.bits≤15
theorem zr3 {n:Int} {l:List Wan} (h:WOk n l) {s b:Int} (h1:0≤s∧s < n) (h2:0≤b∧b≤15):WOk n (zat l s b):=
 ⟨ztv h.1 s b,fun w hw=>by
  rcases zyz hw with rfl|⟨hw,_⟩
  ·exact ⟨h1,h2⟩
  ·exact h.2 w hw⟩
theorem zox:∀{n:Nat} {l:List Int},l.Nodup→(∀x∈l,0≤x∧x < n)→l.length≤n
 |0,l,_,h=>by
  cases l with
  |nil=>simp
  |cons a r=>have:=h a (by simp);omega
 |n+1,l,hn,h=>by
  have h1:(l.filter fun x=>x !=(n:Int)).length≤n:=zox (hn.filter _) fun x hx=>by
   obtain ⟨h1,h2⟩:=List.mem_filter.1 hx
   have:=h x h1
   have:x≠n:=by simpa using h2
   omega
  have h2:(l.filter fun x=> !(x !=(n:Int))).length≤1:=by
   have hx:∀x∈l.filter (fun x=> !(x !=(n:Int))),x=(n:Int):=fun x hx=>by simpa using (List.mem_filter.1 hx).2
   have hd:(l.filter fun x=> !(x !=(n:Int))).Nodup:=hn.filter _
   generalize l.filter (fun x=> !(x !=(n:Int)))=m at hx hd
   match m,hx,hd with
   | [],_,_=>simp
   | [_],_,_=>simp
   |a::b::r,hx,hd=>
    rw [List.nodup_cons] at hd
    exact absurd (by rw [hx a (by simp),hx b (by simp)];simp) hd.1
  have h3:l.length=(l.filter fun x=>x !=(n:Int)).length+(l.filter fun x=> !(x !=(n:Int))).length:=by
   clear h1 h2 h hn
   induction l with
   |nil=>rfl
   |cons a l ih=>
    rw [List.filter_cons,List.filter_cons]
    cases (a !=(n:Int)) <;> simp <;> omega
  omega
theorem zj0 {n:Nat} {l:List Wan} (h:WOk n l):l.length≤n:=by
 have:=zox (n:=n) h.1 fun x hx=>by
  obtain ⟨w,hw,rfl⟩:=List.mem_map.1 hx
  exact (h.2 w hw).1
 simpa using this
theorem zu9 {h:Hist} (hs:zbp h=true) {w:List Wan} (hw:WOk h.ss.length w):zbp {h with wants:=w}=true:=by
 have:=(zg9 hs).2.2.1
 exact zqj hs (by have:=zj0 hw;omega) hw.1 hw.2
theorem zr4 {h:Hist} (hs:zbp h=true):WOk h.ss.length h.wants:=⟨(zg9 hs).1,(zg9 hs).2.1⟩
def zbr (h:Hist) (w:List Wan):Hist:={h with wants:=w}
theorem zlb {h:Hist} (hc:u6 h=0) {w:List Wan} (hw:WOk h.ss.length w):u6 (zbr h w)=0:=zbb.2 (zu9 (zbb.1 hc) hw)
def yli (t:Int):Ev:=⟨1,t,0,1,0,⟨0,0⟩,0,[]⟩
def ylh (t:Int):Ev:=⟨5,t,0,0,0,⟨0,0⟩,0,[]⟩
def ycs:ByteArray:=⟨#[115]⟩
def bxx:ByteArray:=⟨#[120]⟩
def seW (t k:Int):Ev:=⟨2,0,0,0,0,⟨t,k⟩,0,[]⟩
section
variable {α:Type} {q:α→α→Bool}
end
theorem zq0 (G:List Res) (n:NV) (sE sO sM:Value) (h:Hist) (E:List (SV×Ev)) (O:List (SV×H.Ord)) (M:List (SV×Mat)) (T9 T40 T54 T57 T52 T3:TypeId) (H:List Res) (hE:E.map (·.2)=h.evs) (hO:O.map (·.2)=h.ords) (hM:M.map (·.2)=h.mats)
 (h1: .row n.vT.v 1 T9 (h.ts.map zay)∈H) (h2: .row n.vS.v 1 T9 (h.ss.map zay)∈H) (h3: .row n.vO.v 1 T9 (h.os.map zay)∈H) (h4: .row n.vP.v 1 T9 (h.ps.map zay)∈H)
 (h5: .row sE 9 T40 (E.map ycn)∈H) (h6: .row sO 2 T54 (O.map zq1)∈H) (h7: .row sM 4 T57 (M.map zuh)∈H) (h9:∀r∈scR T52 E,r∈H) (h10:∀r∈otR T3 O,r∈H) (h11:∀r∈mtR T3 M,r∈H):
 zgi (G++H) (.agg [.v n.vT.v,.v n.vS.v,.v n.vO.v,.v n.vP.v,.v sE,.v sO,.v sM,zfl h.wants]) G (.agg (x4 h)):=by
 refine ⟨fun x hx=>by rw [x8];exact List.mem_append_left _ hx,fun X w v hh hr=> ?_⟩
 have hG:HRel X w G:=HRel.drop (h:=H) (hh.perm List.perm_append_comm)
 refine ⟨hG,?_⟩
 have hmem:∀r∈H,r∈G++H:=fun r hr=>List.mem_append_right _ hr
 have hout:∀r∈H,∀x∈r.own,¬OO G X x:=fun r hr x hx q=>by
  have hxH:x∈u2 H:=j5.2 ⟨r,hr,hx⟩
  have hn:=hh.nodup
  rw [x8,List.nodup_append] at hn
  rcases q with q|q
  ·exact hn.2.2 x q x hxH rfl
  ·exact (hh.lt x (by rw [x8];exact List.mem_append_right _ hxH)).2 q
 have lo:∀av u,Rel w (OO (G++H) X) av u→Rel w (OO G X) av u:=fun av u r=>r.loose fun x hx=>hx.imp (fun q=>by rw [x8];exact List.mem_append_left _ q) id
 have S:∀{α:Type} {s:Value} {sz:Nat} {T:TypeId} {f g:α→List AV} {l:List α},.row s sz T (l.map f)∈H→(∀a∈l,CT w (OO (G++H) X) (OO G X) (f a) (g a))→Rel w (OO G X) (.list false sz (l.map g)) s:=
  fun hm hc=>ydg hh (hmem _ hm) (hout _ hm) hc
 have str:∀{s:Value} {l:List ByteArray},.row s 1 T9 (l.map zay)∈H→Rel w (OO G X) (zbv l) s:=fun hm=>S (f:=zay) (g:=zay) hm fun a _=>⟨sc _,trivial⟩
 have evs:Rel w (OO G X) (zte h.evs) sE:=by
  have:=S (g:=fun p=>evR p.2) h5 fun p hp=>⟨sc _,sc _,sc _,sc _,sc _,sc _,sc _,sc _,sn (S (f:=zaz) (g:=zaz) (h9 _ (List.mem_map.2 ⟨p,hp,rfl⟩)) fun a _=>⟨sc _,sc _,sc _,trivial⟩),trivial⟩
  rw [←hE]
  show Rel w (OO G X) (.list false 9 ((E.map (·.2)).map evR)) sE
  rw [List.map_map];exact this
 have ords:Rel w (OO G X) (zuc h.ords) sO:=by
  have:=S (g:=fun p=>zb7 p.2) h6 fun p hp=>⟨sc _,sn (S (f:=za8) (g:=za8) (h10 _ (List.mem_map.2 ⟨p,hp,rfl⟩)) fun a _=>⟨sc _,trivial⟩),trivial⟩
  rw [←hO]
  show Rel w (OO G X) (.list false 2 ((O.map (·.2)).map zb7)) sO
  rw [List.map_map];exact this
 have mats:Rel w (OO G X) (zug h.mats) sM:=by
  have:=S (g:=fun p=>zcc p.2) h7 fun p hp=>⟨sc _,sc _,sc _,sn (S (f:=za8) (g:=za8) (h11 _ (List.mem_map.2 ⟨p,hp,rfl⟩)) fun a _=>⟨sc _,trivial⟩),trivial⟩
  rw [←hM]
  show Rel w (OO G X) (.list false 4 ((M.map (·.2)).map zcc)) sM
  rw [List.map_map];exact this
 have hcells:CT w (OO (G++H) X) (OO G X) [.v n.vT.v,.v n.vS.v,.v n.vO.v,.v n.vP.v,.v sE,.v sO,.v sM,zfl h.wants] (x4 h):=⟨sn (str h1),sn (str h2),sn (str h3),sn (str h4),sn evs,sn ords,sn mats,lo _,trivial⟩
 cases hr with
 |agg _ ds hl2 hc2=>exact .agg _ ds (by rw [hcells.len];exact hl2) fun j a b=>hcells.get j (by rw [←hcells.len];exact a) a _ (hc2 j (by rw [←hcells.len];exact a) b)
end Go.H
set_option maxRecDepth 10000
namespace Go.Proofs
open Go Go.Ab
attribute [local irreducible] QR QV OE zca aw zcu zbh za3 zam thn ze6
open Go.H
theorem zph {f g:Bool} (l m:List Ord) (fv:AV) (q:Ord→Ord→Bool) (hp:∀a∈l,∀b∈m,y3 Tryz.prog fv [.agg (zb7 a),.agg (zb7 b)] [] (fun r h'=>h'= []∧r=bv (q a b))) (hl:l.length≤4611686018427387904) (hm:m.length≤4611686018427387904):y9 Tryz.prog 95 [.list f 2 (l.map zb7),.list g 2 (m.map zb7),fv] [] (fun r h'=>h'= []∧r=bv (eqF q l m)):=by
 refine z6 Tryz.func95 rfl rfl rfl ?_
 refine rn ?_;refine z8 rfl (fun hc14=> ?_) (fun hc14=> ?_)
 ·refine rn ?_;have hne:(l.length==m.length)=false:=beq_eq_false_iff_ne.2 fun q=>by simp [q] at hc14
  exact j6 rfl (.refl _ _) ⟨rfl,by rw [eqF,hne,Bool.false_and];rfl⟩
 ·have hlm:l.length=m.length:=by simp at hc14;omega
  refine rn ?_;refine u5 (fun k:Nat=>k≤l.length∧zge q l m=zge q (l.drop k) (m.drop k)) (fun k=>⟨[(17,iv k),(16,iv (l.map zb7).length),(15,.list f 2 (l.map zb7)),(1,.list g 2 (m.map zb7)),(2,fv)],[],[]⟩) (fun k=>l.length - k) 0 ⟨Nat.zero_le _,by simp⟩
   (x7 (.cons _ _ _ rfl (.cons _ _ _ rfl (.cons _ _ _ rfl (.cons _ _ _ rfl (.cons _ _ _ rfl (.nil))))))) ?_
  rintro k ⟨hk,hz⟩
  refine rn ?_;refine z8 rfl (fun hc18=> ?_) (fun hc18=> ?_)
  ·have hk2:k < l.length:=by simpa using hc18
   have hk3:k < m.length:=by omega
   have hrow1:(l.map zb7)[k]? =some (zb7 l[k]):=by simp [hk2]
   have hrow2:(m.map zb7)[k]? =some (zb7 m[k]):=by simp [hk3]
   have hd1:=List.drop_eq_getElem_cons hk2
   have hd2:=List.drop_eq_getElem_cons hk3
   refine rn ?_;refine z7 rfl (x5 rfl fun b8=> ?_)
   refine rn ?_;refine z7 rfl (x5 rfl fun b9=> ?_)
   refine rn ?_;refine qv rfl rfl (y4 rfl rfl (y3.pure (R:=fun x=>x=bv (q l[k] m[k])) (hp l[k] (by simp) m[k] (by simp)))) ?_
   refine rn ?_;refine z8 rfl (fun hc30=> ?_) (fun hc30=> ?_)
   ·refine rn ?_;exact j6 rfl (.drop [_,_] _ _) ⟨rfl,by rw [eqF,hz,hd1,hd2,zge,show q l[k] m[k]=false from zkj hc30,Bool.false_and,Bool.and_false];rfl⟩
   ·refine rn ?_;exact ⟨k+1,⟨by omega,by rw [hz,hd1,hd2,zge,show q l[k] m[k]=true from zkk hc30,Bool.true_and]⟩,(w7 (zas (h1:= [_,_])) (x7 (.cons _ _ _ rfl (.cons _ _ _ rfl (.cons _ _ _ rfl (.cons _ _ _ rfl (.cons _ _ _ rfl (.nil)))))))),by omega⟩
  ·have hk3:k=l.length:=by
    have:l.length≤k:=by simpa using hc18
    omega
   refine rn ?_;exact j6 rfl (.refl _ _) ⟨rfl,by rw [eqF,hz,hk3,List.drop_length,zev,hlm,beq_self_eq_true];rfl⟩
theorem zpi {f g:Bool} (l m:List Mat) (fv:AV) (q:Mat→Mat→Bool) (hp:∀a∈l,∀b∈m,y3 Tryz.prog fv [.agg (zcc a),.agg (zcc b)] [] (fun r h'=>h'= []∧r=bv (q a b))) (hl:l.length≤4611686018427387904) (hm:m.length≤4611686018427387904):y9 Tryz.prog 97 [.list f 4 (l.map zcc),.list g 4 (m.map zcc),fv] [] (fun r h'=>h'= []∧r=bv (eqF q l m)):=by
 refine z6 Tryz.func97 rfl rfl rfl ?_
 refine rn ?_;refine z8 rfl (fun hc14=> ?_) (fun hc14=> ?_)
 ·refine rn ?_;have hne:(l.length==m.length)=false:=beq_eq_false_iff_ne.2 fun q=>by simp [q] at hc14
  exact j6 rfl (.refl _ _) ⟨rfl,by rw [eqF,hne,Bool.false_and];rfl⟩
 ·have hlm:l.length=m.length:=by simp at hc14;omega
  refine rn ?_;refine u5 (fun k:Nat=>k≤l.length∧zge q l m=zge q (l.drop k) (m.drop k)) (fun k=>⟨[(17,iv k),(16,iv (l.map zcc).length),(15,.list f 4 (l.map zcc)),(1,.list g 4 (m.map zcc)),(2,fv)],[],[]⟩) (fun k=>l.length - k) 0 ⟨Nat.zero_le _,by simp⟩
   (x7 (.cons _ _ _ rfl (.cons _ _ _ rfl (.cons _ _ _ rfl (.cons _ _ _ rfl (.cons _ _ _ rfl (.nil))))))) ?_
  rintro k ⟨hk,hz⟩
  refine rn ?_;refine z8 rfl (fun hc18=> ?_) (fun hc18=> ?_)
  ·have hk2:k < l.length:=by simpa using hc18
   have hk3:k < m.length:=by omega
   have hrow1:(l.map zcc)[k]? =some (zcc l[k]):=by simp [hk2]
   have hrow2:(m.map zcc)[k]? =some (zcc m[k]):=by simp [hk3]
   have hd1:=List.drop_eq_getElem_cons hk2
   have hd2:=List.drop_eq_getElem_cons hk3
   refine rn ?_;refine z7 rfl (x5 rfl fun b8=> ?_)
   refine rn ?_;refine z7 rfl (x5 rfl fun b9=> ?_)
   refine rn ?_;refine qv rfl rfl (y4 rfl rfl (y3.pure (R:=fun x=>x=bv (q l[k] m[k])) (hp l[k] (by simp) m[k] (by simp)))) ?_
   refine rn ?_;refine z8 rfl (fun hc30=> ?_) (fun hc30=> ?_)
   ·refine rn ?_;exact j6 rfl (.drop [_,_] _ _) ⟨rfl,by rw [eqF,hz,hd1,hd2,zge,show q l[k] m[k]=false from zkj hc30,Bool.false_and,Bool.and_false];rfl⟩
   ·refine rn ?_;exact ⟨k+1,⟨by omega,by rw [hz,hd1,hd2,zge,show q l[k] m[k]=true from zkk hc30,Bool.true_and]⟩,(w7 (zas (h1:= [_,_])) (x7 (.cons _ _ _ rfl (.cons _ _ _ rfl (.cons _ _ _ rfl (.cons _ _ _ rfl (.cons _ _ _ rfl (.nil)))))))),by omega⟩
  ·have hk3:k=l.length:=by
    have:l.length≤k:=by simpa using hc18
    omega
   refine rn ?_;exact j6 rfl (.refl _ _) ⟨rfl,by rw [eqF,hz,hk3,List.drop_length,zev,hlm,beq_self_eq_true];rfl⟩
theorem zrm {f g:Bool} (l m:List Ev) (fv:AV) (q:Ev→Ev→Bool) (hp:∀a∈l,∀b∈m,y3 Tryz.prog fv [.agg (evR a),.agg (evR b)] [] (fun r h'=>h'= []∧r=bv (q a b))) (hl:l.length≤4611686018427387904) (hm:m.length≤4611686018427387904):y9 Tryz.prog 100 [.list f 9 (l.map evR),.list g 9 (m.map evR),fv] [] (fun r h'=>h'= []∧r=bv (eqF q l m)):=by
 refine z6 Tryz.func100 rfl rfl rfl ?_
 refine rn ?_;refine z8 rfl (fun hc14=> ?_) (fun hc14=> ?_)
 ·refine rn ?_;have hne:(l.length==m.length)=false:=beq_eq_false_iff_ne.2 fun q=>by simp [q] at hc14
  exact j6 rfl (.refl _ _) ⟨rfl,by rw [eqF,hne,Bool.false_and];rfl⟩
 ·have hlm:l.length=m.length:=by simp at hc14;omega
  refine rn ?_;refine u5 (fun k:Nat=>k≤l.length∧zge q l m=zge q (l.drop k) (m.drop k)) (fun k=>⟨[(17,iv k),(16,iv (l.map evR).length),(15,.list f 9 (l.map evR)),(1,.list g 9 (m.map evR)),(2,fv)],[],[]⟩) (fun k=>l.length - k) 0 ⟨Nat.zero_le _,by simp⟩
   (x7 (.cons _ _ _ rfl (.cons _ _ _ rfl (.cons _ _ _ rfl (.cons _ _ _ rfl (.cons _ _ _ rfl (.nil))))))) ?_
  rintro k ⟨hk,hz⟩
  refine rn ?_;refine z8 rfl (fun hc18=> ?_) (fun hc18=> ?_)
  ·have hk2:k < l.length:=by simpa using hc18
   have hk3:k < m.length:=by omega
   have hrow1:(l.map evR)[k]? =some (evR l[k]):=by simp [hk2]
   have hrow2:(m.map evR)[k]? =some (evR m[k]):=by simp [hk3]
   have hd1:=List.drop_eq_getElem_cons hk2
   have hd2:=List.drop_eq_getElem_cons hk3
   refine rn ?_;refine z7 rfl (x5 rfl fun b8=> ?_)
   refine rn ?_;refine z7 rfl (x5 rfl fun b9=> ?_)
   refine rn ?_;refine qv rfl rfl (y4 rfl rfl (y3.pure (R:=fun x=>x=bv (q l[k] m[k])) (hp l[k] (by simp) m[k] (by simp)))) ?_
   refine rn ?_;refine z8 rfl (fun hc30=> ?_) (fun hc30=> ?_)
   ·refine rn ?_;exact j6 rfl (.drop [_,_] _ _) ⟨rfl,by rw [eqF,hz,hd1,hd2,zge,show q l[k] m[k]=false from zkj hc30,Bool.false_and,Bool.and_false];rfl⟩
   ·refine rn ?_;exact ⟨k+1,⟨by omega,by rw [hz,hd1,hd2,zge,show q l[k] m[k]=true from zkk hc30,Bool.true_and]⟩,(w7 (zas (h1:= [_,_])) (x7 (.cons _ _ _ rfl (.cons _ _ _ rfl (.cons _ _ _ rfl (.cons _ _ _ rfl (.cons _ _ _ rfl (.nil)))))))),by omega⟩
  ·have hk3:k=l.length:=by
    have:l.length≤k:=by simpa using hc18
    omega
   refine rn ?_;exact j6 rfl (.refl _ _) ⟨rfl,by rw [eqF,hz,hk3,List.drop_length,zev,hlm,beq_self_eq_true];rfl⟩
theorem ztj {f:Bool} (rows:List (List AV)) (hl:rows.length≤1099511627776):y9 Tryz.prog 55 [.list f 1 rows] [] (fun r h'=>h'= []∧r= .list false 1 rows):=by
 refine z6 Tryz.func55 rfl rfl rfl ?_
 refine rn ?_;refine z7 rfl (zdq rfl rfl rfl fun b4 hb4=> ?_)
 refine rn ?_;refine z8 rfl (fun hc4=> ?_) (fun hc4=> ?_)
 ·refine rn ?_;have h0:=hb4 hc4
  subst h0
  exact j6 rfl (.le (Sb.nil _ _).le) ⟨rfl,rfl⟩
 ·refine rn ?_;refine qv rfl rfl (v8 rfl rfl) ?_
  refine rn ?_;refine qv rfl rfl (zkb rfl rfl (by simpa using hl)) ?_
  refine rn ?_;exact j6 rfl (.refl _ _) ⟨rfl,by rw [List.nil_append];rfl⟩
theorem zpy {f:Bool} (rows:List (List AV)) (hl:rows.length * 8≤140737488355328) (hone:∀r∈rows,r.all AV.one=true):y9 Tryz.prog 55 [.list f 1 rows] [] (fun r h'=>∃s,h'= [.row s 1 3 rows]∧r= .v s):=by
 refine z6 Tryz.func55 rfl rfl rfl ?_
 refine rn ?_;refine z7 rfl (zdq rfl rfl rfl fun b4 hb4=> ?_)
 refine rn ?_;refine z8 rfl (fun hc4=> ?_) (fun hc4=> ?_)
 ·refine rn ?_;have h0:=hb4 hc4
  subst h0
  exact j6 rfl (k9 1 3 _) ⟨_,rfl,rfl⟩
 ·refine rn ?_;refine z7 rfl (zc9 rfl rfl rfl fun s5=> ?_)
  refine rn ?_;refine z7 rfl (zbt rfl rfl (by simp only [List.length_nil];omega) rfl (fun s7=> ?_) hone (by simpa using hl))
  refine rn ?_;exact j6 rfl (.refl _ _) ⟨_,by rw [List.nil_append],rfl⟩
theorem ze9 {f:Bool} (rows:List (List AV)) (hl:rows.length≤1099511627776) (hone:∀r∈rows,r.all AV.one=true):y9 Tryz.prog 55 [.list f 1 rows] [] (fun r h'=>∃s,h'= [.row s 1 3 rows]∧r= .v s):=zpy rows (by omega) hone
theorem zpu {f:Bool} (rows:List (List AV)) (hl:rows.length * 16≤140737488355328) (hone:∀r∈rows,r.all AV.one=true):y9 Tryz.prog 124 [.list f 1 rows] [] (fun r h'=>∃s,h'= [.row s 1 9 rows]∧r= .v s):=by
 refine z6 Tryz.func124 rfl rfl rfl ?_
 refine rn ?_;refine z7 rfl (zdq rfl rfl rfl fun b4 hb4=> ?_)
 refine rn ?_;refine z8 rfl (fun hc4=> ?_) (fun hc4=> ?_)
 ·refine rn ?_;have h0:=hb4 hc4
  subst h0
  exact j6 rfl (k9 1 9 _) ⟨_,rfl,rfl⟩
 ·refine rn ?_;refine z7 rfl (zc9 rfl rfl rfl fun s5=> ?_)
  refine rn ?_;refine z7 rfl (zbt rfl rfl (by simp only [List.length_nil];omega) rfl (fun s7=> ?_) hone (by simpa using hl))
  refine rn ?_;exact j6 rfl (.refl _ _) ⟨_,by rw [List.nil_append],rfl⟩
theorem zd5 {f:Bool} (rows:List (List AV)) (hl:rows.length≤1099511627776) (hone:∀r∈rows,r.all AV.one=true):y9 Tryz.prog 124 [.list f 1 rows] [] (fun r h'=>∃s,h'= [.row s 1 9 rows]∧r= .v s):=zpu rows (by omega) hone
theorem zx1 {f:Bool} (rows:List (List AV)) (hl:rows.length≤1099511627776):y9 Tryz.prog 81 [.list f 3 rows] [] (fun r h'=>h'= []∧r= .list false 3 rows):=by
 refine z6 Tryz.func81 rfl rfl rfl ?_
 refine rn ?_;refine z7 rfl (zdq rfl rfl rfl fun b4 hb4=> ?_)
 refine rn ?_;refine z8 rfl (fun hc4=> ?_) (fun hc4=> ?_)
 ·refine rn ?_;have h0:=hb4 hc4
  subst h0
  exact j6 rfl (.le (Sb.nil _ _).le) ⟨rfl,rfl⟩
 ·refine rn ?_;refine qv rfl rfl (v8 rfl rfl) ?_
  refine rn ?_;refine qv rfl rfl (zkb rfl rfl (by simpa using hl)) ?_
  refine rn ?_;exact j6 rfl (.refl _ _) ⟨rfl,by rw [List.nil_append];rfl⟩
theorem znw {f:Bool} (rows:List (List AV)) (hl:rows.length * 24≤140737488355328) (hone:∀r∈rows,r.all AV.one=true):y9 Tryz.prog 81 [.list f 3 rows] [] (fun r h'=>∃s,h'= [.row s 3 139 rows]∧r= .v s):=by
 refine z6 Tryz.func81 rfl rfl rfl ?_
 refine rn ?_;refine z7 rfl (zdq rfl rfl rfl fun b4 hb4=> ?_)
 refine rn ?_;refine z8 rfl (fun hc4=> ?_) (fun hc4=> ?_)
 ·refine rn ?_;have h0:=hb4 hc4
  subst h0
  exact j6 rfl (k9 3 139 _) ⟨_,rfl,rfl⟩
 ·refine rn ?_;refine z7 rfl (zc9 rfl rfl rfl fun s5=> ?_)
  refine rn ?_;refine z7 rfl (zbt rfl rfl (by simp only [List.length_nil];omega) rfl (fun s7=> ?_) hone (by simpa using hl))
  refine rn ?_;exact j6 rfl (.refl _ _) ⟨_,by rw [List.nil_append],rfl⟩
theorem zpv {f:Bool} (rows:List (List AV)) (hl:rows.length≤1099511627776) (hone:∀r∈rows,r.all AV.one=true):y9 Tryz.prog 81 [.list f 3 rows] [] (fun r h'=>∃s,h'= [.row s 3 139 rows]∧r= .v s):=znw rows (by omega) hone
theorem zuy {f:Bool} (rows:List (List AV)) (hl:rows.length≤1099511627776) (hone:∀r∈rows,r.all AV.one=true):y9 Tryz.prog 53 [.list f 9 rows] [] (fun r h'=>∃s,h'= [.row s 9 66 rows]∧r= .v s):=by
 refine z6 Tryz.func53 rfl rfl rfl ?_
 refine rn ?_;refine z7 rfl (zdq rfl rfl rfl fun b4 hb4=> ?_)
 refine rn ?_;refine z8 rfl (fun hc4=> ?_) (fun hc4=> ?_)
 ·refine rn ?_;have h0:=hb4 hc4
  subst h0
  exact j6 rfl (k9 9 66 _) ⟨_,rfl,rfl⟩
 ·refine rn ?_;refine z7 rfl (zc9 rfl rfl rfl fun s5=> ?_)
  refine rn ?_;refine z7 rfl (j8 rfl rfl (by simpa using hl) rfl (fun s7=> ?_) hone)
  refine rn ?_;exact j6 rfl (.refl _ _) ⟨_,by rw [List.nil_append],rfl⟩
theorem zpw {f:Bool} (rows:List (List AV)) (hl:rows.length * 32≤140737488355328) (hone:∀r∈rows,r.all AV.one=true):y9 Tryz.prog 54 [.list f 2 rows] [] (fun r h'=>∃s,h'= [.row s 2 99 rows]∧r= .v s):=by
 refine z6 Tryz.func54 rfl rfl rfl ?_
 refine rn ?_;refine z7 rfl (zdq rfl rfl rfl fun b4 hb4=> ?_)
 refine rn ?_;refine z8 rfl (fun hc4=> ?_) (fun hc4=> ?_)
 ·refine rn ?_;have h0:=hb4 hc4
  subst h0
  exact j6 rfl (k9 2 99 _) ⟨_,rfl,rfl⟩
 ·refine rn ?_;refine z7 rfl (zc9 rfl rfl rfl fun s5=> ?_)
  refine rn ?_;refine z7 rfl (zbt rfl rfl (by simp only [List.length_nil];omega) rfl (fun s7=> ?_) hone (by simpa using hl))
  refine rn ?_;exact j6 rfl (.refl _ _) ⟨_,by rw [List.nil_append],rfl⟩
theorem zru {f:Bool} (rows:List (List AV)) (hl:rows.length≤1099511627776) (hone:∀r∈rows,r.all AV.one=true):y9 Tryz.prog 54 [.list f 2 rows] [] (fun r h'=>∃s,h'= [.row s 2 99 rows]∧r= .v s):=zpw rows (by omega) hone
theorem zpx {f:Bool} (rows:List (List AV)) (hl:rows.length * 48≤140737488355328) (hone:∀r∈rows,r.all AV.one=true):y9 Tryz.prog 128 [.list f 4 rows] [] (fun r h'=>∃s,h'= [.row s 4 112 rows]∧r= .v s):=by
 refine z6 Tryz.func128 rfl rfl rfl ?_
 refine rn ?_;refine z7 rfl (zdq rfl rfl rfl fun b4 hb4=> ?_)
 refine rn ?_;refine z8 rfl (fun hc4=> ?_) (fun hc4=> ?_)
 ·refine rn ?_;have h0:=hb4 hc4
  subst h0
  exact j6 rfl (k9 4 112 _) ⟨_,rfl,rfl⟩
 ·refine rn ?_;refine z7 rfl (zc9 rfl rfl rfl fun s5=> ?_)
  refine rn ?_;refine z7 rfl (zbt rfl rfl (by simp only [List.length_nil];omega) rfl (fun s7=> ?_) hone (by simpa using hl))
  refine rn ?_;exact j6 rfl (.refl _ _) ⟨_,by rw [List.nil_append],rfl⟩
theorem zrv {f:Bool} (rows:List (List AV)) (hl:rows.length≤1099511627776) (hone:∀r∈rows,r.all AV.one=true):y9 Tryz.prog 128 [.list f 4 rows] [] (fun r h'=>∃s,h'= [.row s 4 112 rows]∧r= .v s):=zpx rows (by omega) hone
theorem ybi {f:Bool} (rows:List (List AV)) (hl:rows.length≤1099511627776):y9 Tryz.prog 82 [.list f 2 rows] [] (fun r h'=>h'= []∧r= .list false 2 rows):=by
 refine z6 Tryz.func82 rfl rfl rfl ?_
 refine rn ?_;refine z7 rfl (zdq rfl rfl rfl fun b4 hb4=> ?_)
 refine rn ?_;refine z8 rfl (fun hc4=> ?_) (fun hc4=> ?_)
 ·refine rn ?_;have h0:=hb4 hc4
  subst h0
  exact j6 rfl (.le (Sb.nil _ _).le) ⟨rfl,rfl⟩
 ·refine rn ?_;refine qv rfl rfl (v8 rfl rfl) ?_
  refine rn ?_;refine qv rfl rfl (zkb rfl rfl (by simpa using hl)) ?_
  refine rn ?_;exact j6 rfl (.refl _ _) ⟨rfl,by rw [List.nil_append];rfl⟩
attribute [local irreducible] zdj jch zeh
theorem ybg {full:Bool} (l:List ByteArray) (most:Nat) (hm:most≤1000):y9 Tryz.prog 80 [.list full 1 (l.map zay),iv most] [] (fun r h'=>h'= []∧r=zbv (zld most l)):=by
 refine z6 Tryz.func80 rfl rfl rfl ?_
 refine w6 (y6 ?_)
 refine q1 ?_;refine u3 (k6 ?_)
 refine w6 (y6 ?_)
 refine q1 ?_;refine q1 ?_;refine q1 ?_;refine q1 ?_;refine qq rfl rfl (zh0 (l.map zay).length most rfl rfl) ?_
 refine qq rfl rfl (zdy (rows':=(l.take most).map zay) rfl rfl (by omega) (by rw [oM];exact take_min zay l most)) ?_
 refine z7 rfl (w8 rfl rfl (y3.rowS (y3.of_fun (zd5 _ (by simp;omega) (zkg _)))) rfl ?_)
 rintro _ _ ⟨s,rfl,rfl⟩
 refine rn ?_;refine u5 (fun k:Nat=>k≤(l.take most).length) (fun k=>⟨[(17,iv k),(16,iv ((l.take most).map zay).length),(15,.v s.v),(5,.v s.v)],[.row s.v 1 9 ((((l.take most).take k).map cutS).map zay++((l.take most).drop k).map zay)],[]⟩) (fun k=>(l.take most).length - k) 0 (by omega)
  (by simp only [List.take_zero,List.map_nil,List.nil_append,List.drop_zero];exact (x7 (.cons _ _ _ rfl (.cons _ _ _ rfl (.cons _ _ _ rfl (.cons _ _ _ rfl (.nil))))))) ?_
 intro k hk
 refine rn ?_;refine z8 rfl (fun hc18=> ?_) (fun hc18=> ?_)
 ·have hk2:k < (l.take most).length:=by simpa using hc18
  obtain ⟨b,hb⟩:∃b,b=(l.take most)[k]:=⟨_,rfl⟩
  have hd:=List.drop_eq_getElem_cons hk2
  rw [←hb] at hd
  have hL:=List.length_take_le most l
  have hkl:(((l.take most).take k).map cutS).length=k:=by rw [oM,List.length_take];omega
  have hrow:=zm8 (f:=zay) (g:=zay) (xs:=((l.take most).take k).map cutS) (k:=k) hkl hd
  have hk3:k < ((((l.take most).take k).map cutS).map zay++((l.take most).drop k).map zay).length:=by rw [zm7 hkl hk];exact hk2
  refine zad ?_;refine k6 ?_;refine w6 ?_;refine zae ?_;refine w6 (y6 ?_)
  refine q1 ?_;refine q1 ?_;refine qq rfl rfl (zch rfl hrow rfl) ?_
  refine q1 ?_;refine q1 ?_;refine u3 (k6 ?_)
  refine y6 ?_;refine q1 ?_;refine q1 ?_;refine q1 ?_;refine q1 ?_;refine q1 ?_;refine qq rfl rfl (zh0 b.size 40 rfl rfl) ?_
  refine qq rfl rfl (zer rfl rfl (by omega)) ?_
  refine rn ?_;refine z7 rfl (zag rfl rfl rfl hrow rfl (Nat.le_of_ble_eq_true rfl) ?_)
  refine rn ?_;have hset:=zm5 (f:=zay) (g:=zay) (l:=(l.take most)) (xs:=((l.take most).take k).map cutS) (a:=cutS b) (r:=(zay b).take 0++ [sv (cutS b)]++(zay b).drop (0+1)) hkl hd rfl
  have hx:((l.take most).take k).map cutS++ [cutS b]=((l.take most).take (k+1)).map cutS:=by rw [List.take_succ_eq_append_getElem hk2,hb];simp
  rw [hx] at hset
  exact ⟨k+1,by omega,(by rw [←hset];exact (x7 (.cons _ _ _ rfl (.cons _ _ _ rfl (.cons _ _ _ rfl (.cons _ _ _ rfl (.nil))))))),by omega⟩
 ·obtain rfl:k=(l.take most).length:=by
   have:¬k < (l.take most).length:=by simpa using hc18
   omega
  rw [List.take_length,List.drop_length,List.map_nil,List.append_nil]
  refine rn ?_;exact j6 rfl zj1 ⟨rfl,rfl⟩
theorem ym1 (h:Hist) (la:Lim 4611686018427387904 h):y9 Tryz.prog 32 [.agg (x4 h)] [] (fun r h'=>h'= []∧r= .agg (x4 (zgh h))):=by
 refine z6 Tryz.func32 rfl rfl rfl ?_
 refine rn ?_;refine z7 rfl (x9 rfl rfl rfl fun b1=> ?_)
 refine z7 rfl (x5 rfl fun b2=> ?_)
 refine rn0 ?_;refine zih (fun _:Nat=>True) (fun b3=>⟨[(1,pZ b1),(2,pZ b2),(3,pZ b3)],[.box b3 28 [zbv (zld 12 h.ts),zbv (zld 8 h.ss),zbv (zld 10 h.os),zbv (zld 6 h.ps),zn6,zn6,zn6,zn6],.box b2 28 zek,.box b1 28 (x4 h)],[]⟩) ?_ ?_
 ·refine j4 14 rfl ?_
  refine rn ?_;refine dv rfl rfl (by exact y4 rfl rfl (zaf (ybg h.ts 12 (by decide)) (Sbs.refl _))) ?_
  refine rn ?_;refine dv rfl rfl (by exact y4 rfl rfl (zaf (ybg h.ss 8 (by decide)) (Sbs.refl _))) ?_
  refine rn ?_;refine dv rfl rfl (by exact y4 rfl rfl (zaf (ybg h.os 10 (by decide)) (Sbs.refl _))) ?_
  refine rn ?_;refine dv rfl rfl (by exact y4 rfl rfl (zaf (ybg h.ps 6 (by decide)) (Sbs.refl _))) ?_
  refine rn ?_;refine znv rfl fun b3=> ?_
  refine rn ?_;exact ⟨b3,trivial,(x7 (.cons _ _ _ rfl (.cons _ _ _ rfl (.cons _ _ _ rfl (.nil)))))⟩
 ·intro b3 _
  refine rn ?_;refine u5 (fun x:Nat×SV=>x.1≤h.evs.length) (fun x=>⟨[(26,iv x.1),(25,iv (h.evs.map evR).length),(24,zte h.evs),(1,pZ b1),(2,pZ b2),(3,pZ b3)],[.row x.2.v 9 66 (((h.evs.take (min x.1 70)).map zpq).map evR),.box b3 28 [zbv (zld 12 h.ts),zbv (zld 8 h.ss),zbv (zld 10 h.os),zbv (zld 6 h.ps),.v x.2.v,zn6,zn6,zn6],.box b2 28 zek,.box b1 28 (x4 h)],[]⟩) (fun x=>h.evs.length - x.1) (0,yme) (by simp)
   (w7 (za1 9 66) (x7 (.cons _ _ _ rfl (.cons _ _ _ rfl (.cons _ _ _ rfl (.cons _ _ _ rfl (.cons _ _ _ rfl (.cons _ _ _ rfl (.nil))))))))) ?_
  rintro ⟨k,s⟩ hk
  simp only at hk
  refine rn ?_;refine z8 rfl (fun hc27=> ?_) (fun hc27=> ?_)
  ·have hk2:k < h.evs.length:=by simpa using hc27
   obtain ⟨e,he⟩:∃e,e=h.evs[k]:=⟨_,rfl⟩
   have hrow:(h.evs.map evR)[k]? =some (evR e):=by rw [he];simp [hk2]
   have hle:=la.evs
   refine rn ?_;refine z7 rfl (x5 rfl fun b5=> ?_)
   refine rn ?_;refine z8 rfl (fun hc32=> ?_) (fun hc32=> ?_)
   ·have hlt:k < 70:=by have:=hc32;simp at this;omega
    refine w6 (y6 ?_)
    refine q1 ?_;refine q1 ?_;refine q1 ?_;refine q1 ?_;refine q1 ?_;refine qq rfl rfl (zh0 (e.scan.map zaz).length 12 rfl rfl) ?_
    refine qq rfl rfl (zdy (rows':=(e.scan.take 12).map zaz) rfl rfl (by omega) (by rw [oM];exact take_min zaz e.scan 12)) ?_
    refine qv rfl rfl (y4 rfl rfl (zaf (zx1 ((e.scan.take 12).map zaz) (by simp;omega)) (Sbs.refl _))) ?_
    refine rn ?_;refine qv rfl rfl (v8 rfl rfl) ?_
    refine z7 rfl (j8 rfl rfl (by have:=zvl h.evs k 70;simp at this ⊢;omega) rfl (fun s46=> ?_) (fun r hr=>by simp at hr;subst hr;rfl))
    refine zak s46 fun sv hsv=> ?_
    subst hsv
    refine rn ?_;have hx:((h.evs.take (min (k+1) 70)).map zpq).map evR=((h.evs.take (min k 70)).map zpq).map evR++ [evR (zpq e)]:=by rw [ydi hk2 hlt he];simp
    exact ⟨(k+1,sv),by simp only;omega,(by rw [hx];exact (w7 (zas (h1:= [_])) (x7 (.cons _ _ _ rfl (.cons _ _ _ rfl (.cons _ _ _ rfl (.cons _ _ _ rfl (.cons _ _ _ rfl (.cons _ _ _ rfl (.nil)))))))))),by simp only;omega⟩
   ·have hlt:¬k < 70:=by have:=hc32;simp at this;omega
    refine rn ?_;exact ⟨(k+1,s),by simp only;omega,(by rw [ydh hlt];exact (w7 (zas (h1:= [_])) (x7 (.cons _ _ _ rfl (.cons _ _ _ rfl (.cons _ _ _ rfl (.cons _ _ _ rfl (.cons _ _ _ rfl (.cons _ _ _ rfl (.nil)))))))))),by simp only;omega⟩
  ·obtain rfl:k=h.evs.length:=by
    have:¬k < h.evs.length:=by simpa using hc27
    omega
   obtain ⟨sE,hsE⟩:∃sE:SV,sE=s:=⟨_,rfl⟩
   simp only [zvm,←hsE]
   refine rn ?_;refine u5 (fun x:Nat×SV=>x.1≤h.ords.length) (fun x=>⟨[(52,iv x.1),(51,iv (h.ords.map zb7).length),(50,zuc h.ords),(1,pZ b1),(2,pZ b2),(3,pZ b3)],[.row x.2.v 2 99 (((h.ords.take (min x.1 14)).map zrt).map zb7),.row sE.v 9 66 (((h.evs.take 70).map zpq).map evR),.box b3 28 [zbv (zld 12 h.ts),zbv (zld 8 h.ss),zbv (zld 10 h.os),zbv (zld 6 h.ps),.v sE.v,.v x.2.v,zn6,zn6],.box b2 28 zek,.box b1 28 (x4 h)],[]⟩) (fun x=>h.ords.length - x.1) (0,yme) (by simp)
    (w7 (za1 2 99) (x7 (.cons _ _ _ rfl (.cons _ _ _ rfl (.cons _ _ _ rfl (.cons _ _ _ rfl (.cons _ _ _ rfl (.cons _ _ _ rfl (.nil))))))))) ?_
   rintro ⟨k,s⟩ hk
   simp only at hk
   refine rn ?_;refine z8 rfl (fun hc53=> ?_) (fun hc53=> ?_)
   ·have hk2:k < h.ords.length:=by simpa using hc53
    obtain ⟨e,he⟩:∃e,e=h.ords[k]:=⟨_,rfl⟩
    have hrow:(h.ords.map zb7)[k]? =some (zb7 e):=by rw [he];simp [hk2]
    have hle:=la.ords
    refine rn ?_;refine z7 rfl (x5 rfl fun b7=> ?_)
    refine rn ?_;refine z8 rfl (fun hc58=> ?_) (fun hc58=> ?_)
    ·have hlt:k < 14:=by have:=hc58;simp at this;omega
     refine j4 14 rfl ?_
     refine dq rfl rfl qrA ?_;refine dq rfl rfl qrA ?_;refine dq rfl rfl qrA ?_;refine dq rfl rfl qrA ?_;refine dq rfl rfl qrA ?_;refine dq rfl rfl qrA ?_;refine dq rfl rfl qrA ?_;refine dq rfl rfl qrA ?_;refine dq rfl rfl qrA ?_;refine dq rfl rfl (zh0 (e.ts.map za8).length 14 rfl rfl) ?_
     refine dq rfl rfl (zdy (rows':=(e.ts.take 14).map za8) rfl rfl (by omega) (by rw [oM];exact take_min za8 e.ts 14)) ?_
     refine dv rfl rfl (by exact y4 rfl rfl (zaf (ztj ((e.ts.take 14).map za8) (by simp;omega)) (Sbs.refl _))) ?_
     refine rn ?_;refine dv rfl rfl (v8 rfl rfl) ?_
     refine rn ?_;refine z7 rfl (j8 rfl rfl (by have:=zvl h.ords k 14;simp at this ⊢;omega) rfl (fun s73=> ?_) (fun r hr=>by simp at hr;subst hr;rfl))
     refine zak s73 fun sv hsv=> ?_
     subst hsv
     refine rn ?_;have hx:((h.ords.take (min (k+1) 14)).map zrt).map zb7=((h.ords.take (min k 14)).map zrt).map zb7++ [zb7 (zrt e)]:=by rw [ydi hk2 hlt he];simp
     exact ⟨(k+1,sv),by simp only;omega,(by rw [hx];exact (w7 (zas (h1:= [_])) (x7 (.cons _ _ _ rfl (.cons _ _ _ rfl (.cons _ _ _ rfl (.cons _ _ _ rfl (.cons _ _ _ rfl (.cons _ _ _ rfl (.nil)))))))))),by simp only;omega⟩
    ·have hlt:¬k < 14:=by have:=hc58;simp at this;omega
     refine rn ?_;exact ⟨(k+1,s),by simp only;omega,(by rw [ydh hlt];exact (w7 (zas (h1:= [_])) (x7 (.cons _ _ _ rfl (.cons _ _ _ rfl (.cons _ _ _ rfl (.cons _ _ _ rfl (.cons _ _ _ rfl (.cons _ _ _ rfl (.nil)))))))))),by simp only;omega⟩
   ·obtain rfl:k=h.ords.length:=by
     have:¬k < h.ords.length:=by simpa using hc53
     omega
    obtain ⟨sO,hsO⟩:∃sO:SV,sO=s:=⟨_,rfl⟩
    simp only [zvm,←hsO]
    refine rn ?_;refine u5 (fun x:Nat×SV=>x.1≤h.mats.length) (fun x=>⟨[(79,iv x.1),(78,iv (h.mats.map zcc).length),(77,zug h.mats),(1,pZ b1),(2,pZ b2),(3,pZ b3)],[.row x.2.v 4 112 (((h.mats.take (min x.1 20)).map zuw).map zcc),.row sO.v 2 99 (((h.ords.take 14).map zrt).map zb7),.row sE.v 9 66 (((h.evs.take 70).map zpq).map evR),.box b3 28 [zbv (zld 12 h.ts),zbv (zld 8 h.ss),zbv (zld 10 h.os),zbv (zld 6 h.ps),.v sE.v,.v sO.v,.v x.2.v,zn6],.box b2 28 zek,.box b1 28 (x4 h)],[]⟩) (fun x=>h.mats.length - x.1) (0,yme) (by simp)
     (w7 (za1 4 112) (x7 (.cons _ _ _ rfl (.cons _ _ _ rfl (.cons _ _ _ rfl (.cons _ _ _ rfl (.cons _ _ _ rfl (.cons _ _ _ rfl (.nil))))))))) ?_
    rintro ⟨k,s⟩ hk
    simp only at hk
    refine rn ?_;refine z8 rfl (fun hc80=> ?_) (fun hc80=> ?_)
    ·have hk2:k < h.mats.length:=by simpa using hc80
     obtain ⟨e,he⟩:∃e,e=h.mats[k]:=⟨_,rfl⟩
     have hrow:(h.mats.map zcc)[k]? =some (zcc e):=by rw [he];simp [hk2]
     have hle:=la.mats
     refine rn ?_;refine z7 rfl (x5 rfl fun b9=> ?_)
     refine rn ?_;refine z8 rfl (fun hc85=> ?_) (fun hc85=> ?_)
     ·have hlt:k < 20:=by have:=hc85;simp at this;omega
      refine w6 (y6 ?_)
      refine q1 ?_;refine q1 ?_;refine q1 ?_;refine q1 ?_;refine q1 ?_;refine qq rfl rfl (zh0 (e.ts.map za8).length 14 rfl rfl) ?_
      refine qq rfl rfl (zdy (rows':=(e.ts.take 14).map za8) rfl rfl (by omega) (by rw [oM];exact take_min za8 e.ts 14)) ?_
      refine qv rfl rfl (y4 rfl rfl (zaf (ztj ((e.ts.take 14).map za8) (by simp;omega)) (Sbs.refl _))) ?_
      refine rn ?_;refine qv rfl rfl (v8 rfl rfl) ?_
      refine z7 rfl (j8 rfl rfl (by have:=zvl h.mats k 20;simp at this ⊢;omega) rfl (fun s99=> ?_) (fun r hr=>by simp at hr;subst hr;rfl))
      refine zak s99 fun sv hsv=> ?_
      subst hsv
      refine rn ?_;have hx:((h.mats.take (min (k+1) 20)).map zuw).map zcc=((h.mats.take (min k 20)).map zuw).map zcc++ [zcc (zuw e)]:=by rw [ydi hk2 hlt he];simp
      exact ⟨(k+1,sv),by simp only;omega,(by rw [hx];exact (w7 (zas (h1:= [_])) (x7 (.cons _ _ _ rfl (.cons _ _ _ rfl (.cons _ _ _ rfl (.cons _ _ _ rfl (.cons _ _ _ rfl (.cons _ _ _ rfl (.nil)))))))))),by simp only;omega⟩
     ·have hlt:¬k < 20:=by have:=hc85;simp at this;omega
      refine rn ?_;exact ⟨(k+1,s),by simp only;omega,(by rw [ydh hlt];exact (w7 (zas (h1:= [_])) (x7 (.cons _ _ _ rfl (.cons _ _ _ rfl (.cons _ _ _ rfl (.cons _ _ _ rfl (.cons _ _ _ rfl (.cons _ _ _ rfl (.nil)))))))))),by simp only;omega⟩
    ·obtain rfl:k=h.mats.length:=by
      have:¬k < h.mats.length:=by simpa using hc80
      omega
     obtain ⟨sM,hsM⟩:∃sM:SV,sM=s:=⟨_,rfl⟩
     simp only [zvm,←hsM]
     refine zg4 ?_;refine zgv ?_;refine zgv ?_;refine zdk ?_;refine k6 ?_;refine w6 (y6 ?_)
     refine q1 ?_;refine q1 ?_;refine q1 ?_;refine q1 ?_;refine q1 ?_;refine qq rfl rfl (zh0 (h.wants.map zbi).length 12 rfl rfl) ?_
     refine qq rfl rfl (zdy (rows':=(h.wants.take 12).map zbi) rfl rfl (by omega) (by rw [oM];exact take_min zbi h.wants 12)) ?_
     refine qv rfl rfl (y4 rfl rfl (zaf (ybi ((h.wants.take 12).map zbi) (by simp;omega)) (Sbs.refl _))) ?_
     refine rn ?_;exact zd7 (.cons _ _ _ _ (.agg _ _ _ _ _ _ _ rfl inferInstance inferInstance inferInstance rfl) .nil) (.trans (zcm [_,_,_,_,_,_] _) (.trans (zcm [_,_,_,_,_] _) (.trans (zcm [_,_,_,_] _) (.drop [_,_,_] _ _)))) ⟨rfl,rfl⟩
def yc4 (cv:AV):Prop:=∀x y:zi2,y3 Tryz.prog cv [.agg (zbu x),.agg (zbu y)] [] (fun r h'=>h'= []∧r=iv (zce x y))
theorem zhx (s:SV) (l:List zi2) (a b n:Nat) (cv:AV) (h1:a+n≤b) (h2:b+n≤l.length) (hl:l.length≤1000000000):y9 Tryz.prog 228 [.v s.v,iv (a:Int),iv (b:Int),iv (n:Int),cv] [.row s.v 3 178 ((l).map zbu)] (fun r h'=>h'= [.row s.v 3 178 ((swN l a b n).map zbu)]∧r= .tup []):=by
 refine z6 Tryz.func228 rfl rfl rfl ?_
 refine rn ?_;refine zbc n (fun _=>True) (fun k=>⟨[(10,iv (k:Int)),(0,.v s.v),(1,iv (a:Int)),(2,iv (b:Int)),(3,iv (n:Int))],.row s.v 3 178 ((swN l a b k).map zbu):: [],[]⟩) trivial es ?_
 intro k lk _
 refine rn ?_;refine z8 rfl (fun hc13=> ?_) (fun hc13=> ?_)
 ·have hk:k < n:=by simpa using hc13
  obtain ⟨vx,hx⟩:∃v,(swN l a b k)[a+k]? =some v:=⟨_,List.getElem?_eq_getElem (by rw [zj3];omega)⟩
  obtain ⟨vy,hy⟩:∃v,(swN l a b k)[b+k]? =some v:=⟨_,List.getElem?_eq_getElem (by rw [zj3];omega)⟩
  have hxy:a+k≠b+k:=by omega
  refine zad ?_;refine rn0 ?_;refine w6 ?_;refine zae ?_;refine zju 22 [21] [] [12,13,18,19,20] (fun he=>True) rfl rfl rfl trivial ?_
  refine jq rfl (fun he hC=>by replace hC:=hC.2;exact qrA) ?_
  refine jq rfl (fun he hC=>by replace hC:=hC.2;exact qrA) ?_
  refine jq rfl (fun he hC=>by replace hC:=hC.2;exact qrA) ?_
  refine jq rfl (fun he hC=>by replace hC:=hC.2;exact qrA) ?_
  refine jq rfl (fun he hC=>by replace hC:=hC.2;exact qrA) ?_
  refine jq rfl (fun he hC=>by replace hC:=hC.2;exact qrA) ?_
  refine jq rfl (fun he hC=>by replace hC:=hC.2;exact qrA) ?_
  refine jq rfl (fun he hC=>by replace hC:=hC.2;exact qrA) ?_
  refine jq rfl (fun he hC=>by replace hC:=hC.2;exact qrA) ?_
  refine jq rfl (fun he hC=>by replace hC:=hC.2;exact qrA) ?_
  refine jq rfl (fun he hC=>by replace hC:=hC.2;exact qrA) ?_
  refine jq rfl (fun he hC=>by replace hC:=hC.2;exact qrA) ?_
  refine jq rfl (fun he hC=>by obtain rfl:=hC.1 rfl;exact w9 (k:=(b+k)) rfl rfl (by rw [oM];exact (zdr hy))) ?_
  refine jq rfl (fun he hC=>by obtain rfl:=hC.1 rfl;exact u4 (row:=zbu vy) rfl (zbz hy) rfl) ?_
  refine jq rfl (fun he hC=>by replace hC:=hC.2;exact qrA) ?_
  refine jq rfl (fun he hC=>by replace hC:=hC.2;exact qrA) ?_
  refine jq rfl (fun he hC=>by replace hC:=hC.2;exact qrA) ?_
  refine jq rfl (fun he hC=>by replace hC:=hC.2;exact qrA) ?_
  refine jq rfl (fun he hC=>by obtain rfl:=hC.1 rfl;exact w9 (k:=(a+k)) rfl rfl (by rw [oM];exact (zdr hx))) ?_
  refine jq rfl (fun he hC=>by obtain rfl:=hC.1 rfl;exact u4 (row:=zbu vx) rfl (zbz hx) rfl) ?_
  refine jq rfl (fun he hC=>by obtain rfl:=hC.1 rfl;exact w9 (k:=(a+k)) rfl rfl (by rw [oM];exact (zdr hx))) ?_
  refine je rfl ?_;refine zyu ?_;refine jce rfl fun u=> ?_
  refine zag (k:=(a+k)) rfl rfl rfl (zbz hx) rfl (Nat.le_of_ble_eq_true rfl) ⟨.any,_,rfl,trivial,?_⟩
  refine jcn ?_;refine ln ?_;refine qq rfl rfl (w9 (k:=(b+k)) rfl rfl (by rw [List.length_set,oM];exact zdr hy)) ?_
  refine z7 rfl (zag (k:=(b+k)) rfl rfl rfl (row:=zbu vy) (by rw [List.getElem?_set_ne hxy];exact zbz hy) rfl (Nat.le_of_ble_eq_true rfl) ?_)
  have hsw:=zi9 (f:=zbu) hx hy
  refine rn ?_;exact ⟨hk,trivial,by rw [show (swN l a b (k+1)).map zbu=_ from hsw.symm];exact eA⟩
 ·have qk:k=n:=by have q:¬(k:Int) < n:=(by simpa using hc13);omega
  refine rn ?_;refine yd6 ?_;rw [qk];exact ⟨rfl,rfl⟩
theorem yd7 (s:SV) (l tg:List zi2) (a m b:Nat) (cv:AV) (hR:Rot m (m - a) (b - m) l tg) (h1:a < m) (h2:m < b) (hb:b≤l.length) (hl:l.length≤1000000000):y9 Tryz.prog 226 [.v s.v,iv (a:Int),iv (m:Int),iv (b:Int),cv] [.row s.v 3 178 ((l).map zbu)] (fun r h'=>h'= [.row s.v 3 178 ((tg).map zbu)]∧r= .tup []):=by
 refine z6 Tryz.func226 rfl rfl rfl ?_
 refine w6 (y6 ?_)
 refine q1 ?_;refine q1 ?_;refine qq rfl rfl (za7 (k7 rfl rfl rfl (by omega)) (show iv _=iv ((m - a:Nat):Int) from congrArg iv (by omega))) ?_
 refine q1 ?_;refine u3 (k6 ?_)
 refine w6 (y6 ?_)
 refine q1 ?_;refine q1 ?_;refine qq rfl rfl (za7 (k7 rfl rfl rfl (by omega)) (show iv _=iv ((b - m:Nat):Int) from congrArg iv (by omega))) ?_
 refine rn ?_;refine zdc (fun x:Nat×Nat×List zi2=>Rot m x.1 x.2.1 x.2.2 tg∧1≤x.1∧1≤x.2.1∧x.2.2.length=l.length) (fun x=>⟨[(10,iv (x.1:Int)),(11,iv (x.2.1:Int)),(0,.v s.v),(2,iv (m:Int)),(4,cv)],.row s.v 3 178 ((x.2.2).map zbu):: [],[]⟩) (fun x=>x.1+x.2.1) (m - a,b - m,l) ⟨hR,by show 1≤m - a;omega,by show 1≤b - m;omega,rfl⟩ es ?_
 rintro ⟨i,j,c⟩ ⟨hr,hi,hj,hcl⟩
 simp only at hr hi hj hcl
 have hrl:=yd8 hr
 show aw _ _ _ _ _ ⟨[(10,iv (i:Int)),(11,iv (j:Int)),(0,.v s.v),(2,iv (m:Int)),(4,cv)],.row s.v 3 178 ((c).map zbu):: [],[]⟩
 refine rn ?_;refine z8 rfl (fun hc20=> ?_) (fun hc20=> ?_)
 ·have hne:i≠j:=by have q:¬(i:Int)=j:=(by simpa using hc20);omega
  refine rn ?_;refine z8 rfl (fun hc23=> ?_) (fun hc23=> ?_)
  ·have hlt:j < i:=by have q:(i:Int) > j:=(by simpa using hc23);omega
   refine w6 (y6 ?_)
   refine q1 ?_;refine q1 ?_;refine q1 ?_;refine qq rfl rfl (za7 (k7 rfl rfl rfl (by omega)) (show iv _=iv ((m - i:Nat):Int) from congrArg iv (by omega))) ?_
   refine rn ?_;refine z7 rfl (w8 rfl rfl (y3.of_fun (zhx s c (m - i) m j cv (by omega) (by omega) (by omega))) rfl ?_)
   rintro _ _ ⟨rfl,rfl⟩
   refine u3 (k6 ?_)
   refine y6 ?_;refine q1 ?_;refine q1 ?_;refine qq rfl rfl (za7 (k7 rfl rfl rfl (by omega)) (show iv _=iv ((i - j:Nat):Int) from congrArg iv (by omega))) ?_
   refine rn ?_;exact ⟨(i - j,j,swN c (m - i) m j),⟨yhy hr hlt,by simp only;omega,hj,by rw [zj3];exact hcl⟩,eA,by simp only;omega⟩
  ·have hlt:i < j:=by have q:¬(i:Int) > j:=(by simpa using hc23);omega
   refine w6 (y6 ?_)
   refine q1 ?_;refine q1 ?_;refine q1 ?_;refine qq rfl rfl (za7 (k7 rfl rfl rfl (by omega)) (show iv _=iv ((m - i:Nat):Int) from congrArg iv (by omega))) ?_
   refine q1 ?_;refine q1 ?_;refine q1 ?_;refine q1 ?_;refine qq rfl rfl (za7 (k7 rfl rfl rfl (by omega)) (show iv _=iv ((m+j - i:Nat):Int) from congrArg iv (by omega))) ?_
   refine rn ?_;refine z7 rfl (w8 rfl rfl (y3.of_fun (zhx s c (m - i) (m+j - i) i cv (by omega) (by omega) (by omega))) rfl ?_)
   rintro _ _ ⟨rfl,rfl⟩
   refine u3 (k6 ?_)
   refine y6 ?_;refine q1 ?_;refine q1 ?_;refine qq rfl rfl (za7 (k7 rfl rfl rfl (by omega)) (show iv _=iv ((j - i:Nat):Int) from congrArg iv (by omega))) ?_
   refine rn ?_;exact ⟨(i,j - i,swN c (m - i) (m+j - i) i),⟨yhx hr hlt,hi,by simp only;omega,by rw [zj3];exact hcl⟩,eA,by simp only;omega⟩
 ·have hij:i=j:=by have q:(i:Int)=j:=(by simpa using hc20);omega
  subst hij
  refine zg4 ?_;refine zgv ?_;refine zgv ?_;refine zdk ?_;refine k6 ?_;refine y6 ?_;refine q1 ?_;refine q1 ?_;refine q1 ?_;refine qq rfl rfl (za7 (k7 rfl rfl rfl (by omega)) (show iv _=iv ((m - i:Nat):Int) from congrArg iv (by omega))) ?_
  refine rn ?_;refine z7 rfl (w8 rfl rfl (y3.of_fun (zhx s c (m - i) m i cv (by omega) (by omega) (by omega))) rfl ?_)
  rintro _ _ ⟨rfl,rfl⟩
  refine rn ?_;refine yd6 ?_;rw [yhz hr];exact ⟨rfl,rfl⟩
theorem zxa (s:SV) (P M Z:List zi2) (a b:Nat) (cv:AV) (hc:yc4 cv) (hP:P.length=a) (hM:a+M.length=b) (hl:(P++(M++Z)).length≤1000000000):y9 Tryz.prog 215 [.v s.v,iv (a:Int),iv (b:Int),cv] [.row s.v 3 178 ((P++(M++Z)).map zbu)] (fun r h'=>h'= [.row s.v 3 178 ((P++(isL zce M++Z)).map zbu)]∧r= .tup []):=by
 refine z6 Tryz.func215 rfl rfl rfl ?_
 simp only [List.length_append] at hl
 refine rn ?_;refine zbc M.length (fun _=>True) (fun k=>⟨[(8,iv ((a+1+k:Nat):Int)),(0,.v s.v),(1,iv (a:Int)),(2,iv (b:Int)),(3,cv)],.row s.v 3 178 ((P++(isL zce (M.take (k+1))++(M.drop (k+1)++Z))).map zbu):: [],[]⟩) trivial (by rw [yfc];exact es) ?_
 intro k lk _
 refine rn ?_;refine z8 rfl (fun hc14=> ?_) (fun hc14=> ?_)
 ·have hk:k+1 < M.length:=by have q:((a+1+k:Nat):Int) < b:=(by simpa using hc14);omega
  have hS:(isL zce (M.take (k+1))).Pairwise (LeC zce):=(zmu zyt _).1
  have hSl:(isL zce (M.take (k+1))).length=k+1:=by rw [zg0,List.length_take];omega
  have e0:P++((isL zce (M.take (k+1)))++(M.drop (k+1)++Z))=P++((isL zce (M.take (k+1))).take (k+1)++M[k+1]::((isL zce (M.take (k+1))).drop (k+1)++(M.drop (k+1+1)++Z))):=ya1 hSl hk
  obtain ⟨x,hxm⟩:∃x,M[k+1]'hk=x:=⟨_,rfl⟩
  rw [e0,hxm]
  refine rn ?_;refine zdc (fun q:Nat=>q≤(isL zce (M.take (k+1))).length∧∀z∈(isL zce (M.take (k+1))).drop q,zce x z < 0) (fun q=>⟨[(9,iv ((a+q:Nat):Int)),(8,iv ((a+1+k:Nat):Int)),(0,.v s.v),(1,iv (a:Int)),(2,iv (b:Int)),(3,cv)],.row s.v 3 178 ((P++((isL zce (M.take (k+1))).take q++x::((isL zce (M.take (k+1))).drop q++(M.drop (k+1+1)++Z)))).map zbu):: [],[]⟩) (fun q=>q) (k+1) ⟨by omega,fun z hz=>absurd hz (by rw [List.drop_eq_nil_of_le (Nat.le_of_eq hSl)];simp)⟩ (by rw [show a+(k+1)=a+1+k by omega];exact es) ?_
  rintro q ⟨hq,hz⟩
  refine rn ?_;refine j4 14 rfl ?_
  refine rn ?_;refine zet (fun hg4_3=> ?_) (fun hg4_3=> ?_)
  ·refine dq rfl rfl qrA ?_;refine dq rfl rfl qrA ?_;refine dq rfl rfl qrA ?_;refine dq rfl rfl (w9 (k:=a+q) rfl rfl (by rw [oM];exact zdr (yjc hP hq))) ?_
   refine dq rfl rfl (u4 (row:=zbu x) rfl (zbz (yjc hP hq)) rfl) ?_
   refine dq rfl rfl qrA ?_;refine dq rfl rfl qrA ?_;refine dq rfl rfl (za7 (k7 rfl rfl rfl (by omega)) (show iv _=iv ((a+q - 1:Nat):Int) from congrArg iv (by have h0:=oT hg4_3;omega))) ?_
   refine dq rfl rfl (w9 (k:=a+q - 1) rfl rfl (by rw [oM];exact zdr (yld hP hq (by have h0:=oT hg4_3;omega)))) ?_
   refine dq rfl rfl (u4 (row:=zbu ((isL zce (M.take (k+1))).getD (q - 1) x)) rfl (zbz (yld hP hq (by have h0:=oT hg4_3;omega))) rfl) ?_
   refine rn ?_;refine qv rfl rfl (y4 rfl rfl (y3.pure (R:=fun r=>r=iv (zce x ((isL zce (M.take (k+1))).getD (q - 1) x))) (hc x ((isL zce (M.take (k+1))).getD (q - 1) x)))) ?_
   refine rn ?_;refine z8 rfl (fun hc34=> ?_) (fun hc34=> ?_)
   ·have hq1:1≤q:=(by have h0:=oT hg4_3;omega)
    have hlt:zce x ((isL zce (M.take (k+1))).getD (q - 1) x) < 0:=oT hc34
    have hx:=yjc (Z:=(M.drop (k+1+1)++Z)) (x:=x) hP hq
    have hy:=yld (Z:=(M.drop (k+1+1)++Z)) (x:=x) hP hq hq1
    obtain ⟨v,hv⟩:∃v,((isL zce (M.take (k+1))).getD (q - 1) x)=v:=⟨_,rfl⟩
    rw [hv] at hy
    have hxy:a+q≠a+q - 1:=by omega
    refine zad ?_;refine rn0 ?_;refine w6 ?_;refine zae ?_;refine zju 16 [15] [] [8,9,12,13,14] (fun he=>True) rfl rfl rfl trivial ?_
    refine jq rfl (fun he hC=>by replace hC:=hC.2;exact qrA) ?_
    refine jq rfl (fun he hC=>by replace hC:=hC.2;exact qrA) ?_
    refine jq rfl (fun he hC=>by replace hC:=hC.2;exact qrA) ?_
    refine jq rfl (fun he hC=>by replace hC:=hC.2;exact qrA) ?_
    refine jq rfl (fun he hC=>by replace hC:=hC.2;exact za7 (k7 rfl rfl rfl (by omega)) (show iv _=iv ((a+q - 1:Nat):Int) from congrArg iv (by omega))) ?_
    refine jq rfl (fun he hC=>by replace hC:=hC.2;exact qrA) ?_
    refine jq rfl (fun he hC=>by replace hC:=hC.2;exact qrA) ?_
    refine jq rfl (fun he hC=>by replace hC:=hC.2;exact za7 (k7 rfl rfl rfl (by omega)) (show iv _=iv ((a+q - 1:Nat):Int) from congrArg iv (by omega))) ?_
    refine jq rfl (fun he hC=>by obtain rfl:=hC.1 rfl;exact w9 (k:=(a+q - 1)) rfl rfl (by rw [oM];exact (zdr hy))) ?_
    refine jq rfl (fun he hC=>by obtain rfl:=hC.1 rfl;exact u4 (row:=zbu v) rfl (zbz hy) rfl) ?_
    refine jq rfl (fun he hC=>by replace hC:=hC.2;exact qrA) ?_
    refine jq rfl (fun he hC=>by replace hC:=hC.2;exact qrA) ?_
    refine jq rfl (fun he hC=>by obtain rfl:=hC.1 rfl;exact w9 (k:=(a+q)) rfl rfl (by rw [oM];exact (zdr hx))) ?_
    refine jq rfl (fun he hC=>by obtain rfl:=hC.1 rfl;exact u4 (row:=zbu x) rfl (zbz hx) rfl) ?_
    refine jq rfl (fun he hC=>by obtain rfl:=hC.1 rfl;exact w9 (k:=(a+q)) rfl rfl (by rw [oM];exact (zdr hx))) ?_
    refine je rfl ?_;refine zyu ?_;refine jce rfl fun u=> ?_
    refine zag (k:=(a+q)) rfl rfl rfl (zbz hx) rfl (Nat.le_of_ble_eq_true rfl) ⟨.any,_,rfl,trivial,?_⟩
    refine jcn ?_;refine ln ?_;refine qq rfl rfl (w9 (k:=(a+q - 1)) rfl rfl (by rw [List.length_set,oM];exact zdr hy)) ?_
    refine z7 rfl (zag (k:=(a+q - 1)) rfl rfl rfl (row:=zbu v) (by rw [List.getElem?_set_ne hxy];exact zbz hy) rfl (Nat.le_of_ble_eq_true rfl) ?_)
    have hsw:=zi9 (f:=zbu) hx hy
    refine u3 ?_;refine zks ?_;refine k6 ?_;refine y6 ?_;refine q1 ?_;refine qq rfl rfl (za7 (k7 rfl rfl rfl (by omega)) (show iv _=iv ((a+(q - 1):Nat):Int) from congrArg iv (by omega))) ?_
    refine rn ?_;exact ⟨q - 1,⟨by omega,yfd hq hq1 hlt hz⟩,by rw [←zw9 hP hq hq1,←hsw];exact eA,by omega⟩
   ·have hst:1≤q→¬zce x ((isL zce (M.take (k+1))).getD (q - 1) x) < 0:=by first|exact fun _=>oF hc34|exact fun h1=>absurd (oF hg4_3) (by omega)
    refine rn ?_;subst hxm
    exact ⟨by omega,trivial,by rw [←ych zk6 hS hk hq hz hst];exact eA⟩
  ·refine rn ?_;refine zp3 rfl ?_;have hst:1≤q→¬zce x ((isL zce (M.take (k+1))).getD (q - 1) x) < 0:=by first|exact fun _=>oF hc34|exact fun h1=>absurd (oF hg4_3) (by omega)
   refine rn ?_;subst hxm
   exact ⟨by omega,trivial,by rw [←ych zk6 hS hk hq hz hst];exact eA⟩
 ·have hk:M.length≤k+1:=by have q:¬((a+1+k:Nat):Int) < b:=(by simpa using hc14);omega
  refine rn ?_;refine yd6 ?_;rw [List.take_of_length_le hk,List.drop_eq_nil_of_le hk];exact ⟨rfl,rfl⟩
theorem yny (s:SV) (P R Z:List zi2) (x:zi2) (a m b:Nat) (cv:AV) (hc:yc4 cv) (hP:P.length=a) (hm:a+ [x].length=m) (hb:m+R.length=b) (hR:R.Pairwise (LeC zce)) (hl:(P++([x]++(R++Z))).length≤1000000000):y9 Tryz.prog 216 [.v s.v,iv (a:Int),iv (m:Int),iv (b:Int),cv] [.row s.v 3 178 ((P++([x]++(R++Z))).map zbu)] (fun r h'=>h'= [.row s.v 3 178 ((P++(mrg zce [x] R++Z)).map zbu)]∧r= .tup []):=by
 refine z6 Tryz.func216 rfl rfl rfl ?_
 simp only [List.length_append] at hl
 refine w6 ?_;refine w6 (y6 ?_)
 refine q1 ?_;refine q1 ?_;refine q1 ?_;refine qq rfl rfl (zio (c:=true) rfl rfl (congrArg some (beq_iff_eq.2 (by simp at hm;omega)))) ?_
 refine rn ?_;refine z8 rfl (fun hc28=> ?_) (fun hc28=> ?_)
 ·refine rn ?_;refine zdc (fun z:Nat×Nat=>z.1≤z.2∧z.2≤R.length∧(1≤z.1→zce (R.getD (z.1 - 1) zdd) x < 0)∧(z.2 < R.length→¬zce (R.getD z.2 zdd) x < 0)) (fun z=>⟨[(10,iv ((m+z.1:Nat):Int)),(11,iv ((m+z.2:Nat):Int)),(0,.v s.v),(1,iv (a:Int)),(2,iv (m:Int)),(3,iv (b:Int)),(4,cv)],.row s.v 3 178 ((P++([x]++(R++Z))).map zbu):: [],[]⟩) (fun z=>z.2 - z.1) (0,R.length) ⟨Nat.zero_le _,Nat.le_refl _,fun h=>absurd h (by simp),fun h=>absurd h (by simp)⟩ (by simp only [Nat.add_zero,hb];exact es) ?_
  rintro ⟨u,v⟩ ⟨huv0,hu0,h1,h2⟩
  simp only at huv0 hu0 h1 h2
  show aw _ _ _ _ _ ⟨[(10,iv ((m+u:Nat):Int)),(11,iv ((m+v:Nat):Int)),(0,.v s.v),(1,iv (a:Int)),(2,iv (m:Int)),(3,iv (b:Int)),(4,cv)],.row s.v 3 178 ((P++([x]++(R++Z))).map zbu):: [],[]⟩
  refine rn ?_;refine z8 rfl (fun hc33=> ?_) (fun hc33=> ?_)
  ·have huv:u < v:=by have q:((m+u:Nat):Int) < ((m+v:Nat):Int):=oT hc33;omega
   refine zad ?_;refine k6 ?_;refine zae ?_;refine w6 (y6 ?_)
   refine q1 ?_;refine q1 ?_;refine qq rfl rfl (za7 (k7 rfl rfl rfl (by omega)) (show iv _=iv (((m+u)+(m+v):Nat):Int) from congrArg iv (by omega))) ?_
   refine qq rfl rfl (zb6 (m:=(((m+u)+(m+v):Nat):Int)) rfl (zi7 (by omega))) ?_
   refine qq rfl rfl (ze1 (c:=((((m+u)+(m+v)) / 2:Nat):Int)) rfl rfl (zi8 (by omega)) (by decide)) ?_
   refine qq rfl rfl (zb6 (m:=((((m+u)+(m+v)) / 2:Nat):Int)) rfl (zjk (by omega))) ?_
   refine rn0 ?_;refine w6 ?_;rw [show (m+u+(m+v)) / 2=m+((u+v) / 2) by omega]
   refine j4 9 rfl ?_
   refine dq rfl rfl qrA ?_;refine dq rfl rfl qrA ?_;refine dq rfl rfl qrA ?_;refine dq rfl rfl (w9 (k:=(m+((u+v) / 2))) rfl rfl (by rw [oM];exact (zdr (ygw (L:= [x]) hP hm zdd (by omega) (by omega))))) ?_
   refine dq rfl rfl (u4 (row:=zbu (R.getD (m+((u+v) / 2) - m) zdd)) rfl (zbz (ygw (L:= [x]) hP hm zdd (by omega) (by omega))) rfl) ?_
   refine dq rfl rfl qrA ?_;refine dq rfl rfl qrA ?_;refine dq rfl rfl (w9 (k:=a) rfl rfl (by rw [oM];exact (zdr (ygx (L:= [x]) (R:=R) (Z:=Z) hP zdd (Nat.le_refl a) (by simp))))) ?_
   refine dq rfl rfl (u4 (row:=zbu ([x].getD (a - a) zdd)) rfl (zbz (ygx (L:= [x]) (R:=R) (Z:=Z) hP zdd (Nat.le_refl a) (by simp))) rfl) ?_
   refine rn ?_;refine qv rfl rfl (y4 rfl rfl (y3.pure (R:=fun r=>r=iv (zce (R.getD (m+((u+v) / 2) - m) zdd) ([x].getD (a - a) zdd))) (hc (R.getD (m+((u+v) / 2) - m) zdd) ([x].getD (a - a) zdd)))) ?_
   refine rn ?_;refine z8 rfl (fun hc50=> ?_) (fun hc50=> ?_)
   ·have hlt:zce (R.getD (m+((u+v) / 2) - m) zdd) ([x].getD (a - a) zdd) < 0:=oT hc50
    rw [show m+((u+v) / 2) - m=((u+v) / 2) by omega,show [x].getD (a - a) zdd=x by rw [Nat.sub_self];rfl] at hlt
    refine y6 ?_;refine q1 ?_;refine qq rfl rfl (za7 (k7 rfl rfl rfl (by omega)) (show iv _=iv ((m+(((u+v) / 2)+1):Nat):Int) from congrArg iv (by omega))) ?_
    refine rn ?_;exact ⟨(((u+v) / 2)+1,v),⟨by simp only;omega,hu0,fun _=>by simp only;rw [Nat.add_sub_cancel];exact hlt,h2⟩,eA,by simp only;omega⟩
   ·have hlt:¬zce (R.getD (m+((u+v) / 2) - m) zdd) ([x].getD (a - a) zdd) < 0:=oF hc50
    rw [show m+((u+v) / 2) - m=((u+v) / 2) by omega,show [x].getD (a - a) zdd=x by rw [Nat.sub_self];rfl] at hlt
    refine rn ?_;exact ⟨(u,((u+v) / 2)),⟨by simp only;omega,by simp only;omega,h1,fun _=>hlt⟩,eA,by simp only;omega⟩
  ·have huv:u=v:=by have q:¬((m+u:Nat):Int) < ((m+v:Nat):Int):=oF hc33;omega
   subst huv
   refine rn ?_;have hu:u≤R.length:=hu0
   refine zbc u (fun _=>True) (fun q=>⟨[(13,iv ((a+q:Nat):Int)),(10,iv ((m+u:Nat):Int)),(0,.v s.v),(1,iv (a:Int)),(2,iv (m:Int)),(3,iv (b:Int)),(4,cv)],.row s.v 3 178 ((P++(R.take q++x::(R.drop q++Z))).map zbu):: [],[]⟩) trivial es ?_
   intro q lq _
   refine w6 ?_;refine w6 (y6 ?_)
   refine q1 ?_;refine q1 ?_;refine qq rfl rfl (za7 (k7 rfl rfl rfl (by omega)) (show iv _=iv ((a+u:Nat):Int) from congrArg iv (by simp at hm;omega))) ?_
   refine rn ?_;refine z8 rfl (fun hc58=> ?_) (fun hc58=> ?_)
   ·have hq:q < u:=by have q0:((a+q:Nat):Int) < ((a+u:Nat):Int):=oT hc58;omega
    have hx:=yjc (S:=R) (Z:=Z) (x:=x) hP (Nat.le_of_lt (Nat.lt_of_lt_of_le hq hu))
    have hy:=yog (S:=R) (Z:=Z) (x:=x) hP (Nat.lt_of_lt_of_le hq hu) zdd
    obtain ⟨v2,hv2⟩:∃v,R.getD q zdd=v:=⟨_,rfl⟩
    rw [hv2] at hy
    have hxy:a+q≠a+q+1:=by omega
    refine zad ?_;refine rn0 ?_;refine w6 ?_;refine zae ?_;refine zju 16 [15] [] [8,9,12,13,14] (fun he=>True) rfl rfl rfl trivial ?_
    refine jq rfl (fun he hC=>by replace hC:=hC.2;exact qrA) ?_
    refine jq rfl (fun he hC=>by replace hC:=hC.2;exact qrA) ?_
    refine jq rfl (fun he hC=>by replace hC:=hC.2;exact qrA) ?_
    refine jq rfl (fun he hC=>by replace hC:=hC.2;exact qrA) ?_
    refine jq rfl (fun he hC=>by replace hC:=hC.2;exact za7 (k7 rfl rfl rfl (by omega)) (show iv _=iv ((a+q+1:Nat):Int) from congrArg iv (by omega))) ?_
    refine jq rfl (fun he hC=>by replace hC:=hC.2;exact qrA) ?_
    refine jq rfl (fun he hC=>by replace hC:=hC.2;exact qrA) ?_
    refine jq rfl (fun he hC=>by replace hC:=hC.2;exact za7 (k7 rfl rfl rfl (by omega)) (show iv _=iv ((a+q+1:Nat):Int) from congrArg iv (by omega))) ?_
    refine jq rfl (fun he hC=>by obtain rfl:=hC.1 rfl;exact w9 (k:=(a+q+1)) rfl rfl (by rw [oM];exact (zdr hy))) ?_
    refine jq rfl (fun he hC=>by obtain rfl:=hC.1 rfl;exact u4 (row:=zbu v2) rfl (zbz hy) rfl) ?_
    refine jq rfl (fun he hC=>by replace hC:=hC.2;exact qrA) ?_
    refine jq rfl (fun he hC=>by replace hC:=hC.2;exact qrA) ?_
    refine jq rfl (fun he hC=>by obtain rfl:=hC.1 rfl;exact w9 (k:=(a+q)) rfl rfl (by rw [oM];exact (zdr hx))) ?_
    refine jq rfl (fun he hC=>by obtain rfl:=hC.1 rfl;exact u4 (row:=zbu x) rfl (zbz hx) rfl) ?_
    refine jq rfl (fun he hC=>by obtain rfl:=hC.1 rfl;exact w9 (k:=(a+q)) rfl rfl (by rw [oM];exact (zdr hx))) ?_
    refine je rfl ?_;refine zyu ?_;refine jce rfl fun u=> ?_
    refine zag (k:=(a+q)) rfl rfl rfl (zbz hx) rfl (Nat.le_of_ble_eq_true rfl) ⟨.any,_,rfl,trivial,?_⟩
    refine jcn ?_;refine ln ?_;refine qq rfl rfl (w9 (k:=(a+q+1)) rfl rfl (by rw [List.length_set,oM];exact zdr hy)) ?_
    refine z7 rfl (zag (k:=(a+q+1)) rfl rfl rfl (row:=zbu v2) (by rw [List.getElem?_set_ne hxy];exact zbz hy) rfl (Nat.le_of_ble_eq_true rfl) ?_)
    have hsw:=zi9 (f:=zbu) hx hy
    refine u3 ?_;refine zks ?_;refine k6 ?_;refine y6 ?_;refine q1 ?_;refine qq rfl rfl (za7 (k7 rfl rfl rfl (by omega)) (show iv _=iv ((a+(q+1):Nat):Int) from congrArg iv (by omega))) ?_
    refine rn ?_;exact ⟨hq,trivial,by rw [←ymn hP (Nat.lt_of_lt_of_le hq hu),←hsw];exact eA⟩
   ·have hq:q=u:=by have q0:¬((a+q:Nat):Int) < ((a+u:Nat):Int):=oF hc58;omega
    subst hq
    refine rn ?_;refine rqz ?_;rw [yab zk6 hR hu h1 h2];exact ⟨rfl,rfl⟩
 ·first|cases hc28|exact absurd hc28 (by decide)|(exfalso;simp_all;done)
theorem ynx (s:SV) (P L Z:List zi2) (y:zi2) (a m b:Nat) (cv:AV) (hc:yc4 cv) (hP:P.length=a) (hm:a+L.length=m) (hb:m+ [y].length=b) (h1L:L.length≠1) (hL:L.Pairwise (LeC zce)) (hl:(P++(L++([y]++Z))).length≤1000000000):y9 Tryz.prog 216 [.v s.v,iv (a:Int),iv (m:Int),iv (b:Int),cv] [.row s.v 3 178 ((P++(L++([y]++Z))).map zbu)] (fun r h'=>h'= [.row s.v 3 178 ((P++(mrg zce L [y]++Z)).map zbu)]∧r= .tup []):=by
 refine z6 Tryz.func216 rfl rfl rfl ?_
 simp only [List.length_append] at hl
 refine w6 ?_;refine w6 (y6 ?_)
 refine q1 ?_;refine q1 ?_;refine q1 ?_;refine qq rfl rfl (zio (c:=false) rfl rfl (congrArg some (beq_eq_false_iff_ne.2 (by omega)))) ?_
 refine rn ?_;refine z8 rfl (fun hc28=> ?_) (fun hc28=> ?_)
 ·first|cases hc28|exact absurd hc28 (by decide)|(exfalso;simp_all;done)
 ·refine zad ?_;refine k6 ?_;refine w6 ?_;refine w6 (y6 ?_)
  refine q1 ?_;refine q1 ?_;refine q1 ?_;refine qq rfl rfl (zio (c:=true) rfl rfl (congrArg some (beq_iff_eq.2 (by simp at hb;omega)))) ?_
  refine rn ?_;refine z8 rfl (fun hc80=> ?_) (fun hc80=> ?_)
  ·refine rn ?_;refine zdc (fun z:Nat×Nat=>z.1≤z.2∧z.2≤L.length∧(1≤z.1→¬zce y (L.getD (z.1 - 1) zdd) < 0)∧(z.2 < L.length→zce y (L.getD z.2 zdd) < 0)) (fun z=>⟨[(14,iv ((a+z.1:Nat):Int)),(15,iv ((a+z.2:Nat):Int)),(0,.v s.v),(1,iv (a:Int)),(2,iv (m:Int)),(3,iv (b:Int)),(4,cv)],.row s.v 3 178 ((P++(L++([y]++Z))).map zbu):: [],[]⟩) (fun z=>z.2 - z.1) (0,L.length) ⟨Nat.zero_le _,Nat.le_refl _,fun h=>absurd h (by simp),fun h=>absurd h (by simp)⟩ (by simp only [Nat.add_zero,hm];exact es) ?_
   rintro ⟨u,v⟩ ⟨huv0,hu0,h1,h2⟩
   simp only at huv0 hu0 h1 h2
   show aw _ _ _ _ _ ⟨[(14,iv ((a+u:Nat):Int)),(15,iv ((a+v:Nat):Int)),(0,.v s.v),(1,iv (a:Int)),(2,iv (m:Int)),(3,iv (b:Int)),(4,cv)],.row s.v 3 178 ((P++(L++([y]++Z))).map zbu):: [],[]⟩
   refine rn ?_;refine z8 rfl (fun hc85=> ?_) (fun hc85=> ?_)
   ·have huv:u < v:=by have q:((a+u:Nat):Int) < ((a+v:Nat):Int):=oT hc85;omega
    refine zad ?_;refine k6 ?_;refine zae ?_;refine w6 (y6 ?_)
    refine q1 ?_;refine q1 ?_;refine qq rfl rfl (za7 (k7 rfl rfl rfl (by omega)) (show iv _=iv (((a+u)+(a+v):Nat):Int) from congrArg iv (by omega))) ?_
    refine qq rfl rfl (zb6 (m:=(((a+u)+(a+v):Nat):Int)) rfl (zi7 (by omega))) ?_
    refine qq rfl rfl (ze1 (c:=((((a+u)+(a+v)) / 2:Nat):Int)) rfl rfl (zi8 (by omega)) (by decide)) ?_
    refine qq rfl rfl (zb6 (m:=((((a+u)+(a+v)) / 2:Nat):Int)) rfl (zjk (by omega))) ?_
    refine rn0 ?_;refine w6 ?_;rw [show (a+u+(a+v)) / 2=a+((u+v) / 2) by omega]
    refine j4 9 rfl ?_
    refine dq rfl rfl qrA ?_;refine dq rfl rfl qrA ?_;refine dq rfl rfl qrA ?_;refine dq rfl rfl (w9 (k:=m) rfl rfl (by rw [oM];exact (zdr (ygw (L:=L) (R:= [y]) (Z:=Z) hP hm zdd (Nat.le_refl m) (by simp))))) ?_
    refine dq rfl rfl (u4 (row:=zbu ([y].getD (m - m) zdd)) rfl (zbz (ygw (L:=L) (R:= [y]) (Z:=Z) hP hm zdd (Nat.le_refl m) (by simp))) rfl) ?_
    refine dq rfl rfl qrA ?_;refine dq rfl rfl qrA ?_;refine dq rfl rfl (w9 (k:=(a+((u+v) / 2))) rfl rfl (by rw [oM];exact (zdr (ygx (L:=L) (R:= [y]) (Z:=Z) hP zdd (by omega) (by omega))))) ?_
    refine dq rfl rfl (u4 (row:=zbu (L.getD (a+((u+v) / 2) - a) zdd)) rfl (zbz (ygx (L:=L) (R:= [y]) (Z:=Z) hP zdd (by omega) (by omega))) rfl) ?_
    refine rn ?_;refine qv rfl rfl (y4 rfl rfl (y3.pure (R:=fun r=>r=iv (zce ([y].getD (m - m) zdd) (L.getD (a+((u+v) / 2) - a) zdd))) (hc ([y].getD (m - m) zdd) (L.getD (a+((u+v) / 2) - a) zdd)))) ?_
    refine rn ?_;refine z8 rfl (fun hc103=> ?_) (fun hc103=> ?_)
    ·have hlt:¬zce ([y].getD (m - m) zdd) (L.getD (a+((u+v) / 2) - a) zdd) < 0:=oF (by simpa using hc103)
     rw [show a+((u+v) / 2) - a=((u+v) / 2) by omega,show [y].getD (m - m) zdd=y by rw [Nat.sub_self];rfl] at hlt
     refine y6 ?_;refine q1 ?_;refine qq rfl rfl (za7 (k7 rfl rfl rfl (by omega)) (show iv _=iv ((a+(((u+v) / 2)+1):Nat):Int) from congrArg iv (by omega))) ?_
     refine rn ?_;exact ⟨(((u+v) / 2)+1,v),⟨by simp only;omega,hu0,fun _=>by simp only;rw [Nat.add_sub_cancel];exact hlt,h2⟩,eA,by simp only;omega⟩
    ·have hlt:zce ([y].getD (m - m) zdd) (L.getD (a+((u+v) / 2) - a) zdd) < 0:=oT (by simpa using hc103)
     rw [show a+((u+v) / 2) - a=((u+v) / 2) by omega,show [y].getD (m - m) zdd=y by rw [Nat.sub_self];rfl] at hlt
     refine rn ?_;exact ⟨(u,((u+v) / 2)),⟨by simp only;omega,by simp only;omega,h1,fun _=>hlt⟩,eA,by simp only;omega⟩
   ·have huv:u=v:=by have q:¬((a+u:Nat):Int) < ((a+v:Nat):Int):=oF hc85;omega
    subst huv
    refine rn ?_;have hu:u≤L.length:=hu0
    refine zdc (fun q:Nat=>u≤q∧q≤L.length) (fun q=>⟨[(17,iv ((a+q:Nat):Int)),(14,iv ((a+u:Nat):Int)),(0,.v s.v),(1,iv (a:Int)),(2,iv (m:Int)),(3,iv (b:Int)),(4,cv)],.row s.v 3 178 ((P++(L.take q++y::(L.drop q++Z))).map zbu):: [],[]⟩) (fun q=>q) L.length ⟨hu,Nat.le_refl _⟩ (by rw [List.take_length,List.drop_length,hm];exact es) ?_
    rintro q ⟨hq1,hq2⟩
    refine rn ?_;refine z8 rfl (fun hc110=> ?_) (fun hc110=> ?_)
    ·have hq:u < q:=by have q0:((a+q:Nat):Int) > ((a+u:Nat):Int):=oT hc110;omega
     have hx:=yjc (S:=L) (Z:=Z) (x:=y) hP hq2
     have hy:=yld (S:=L) (Z:=Z) (x:=y) hP hq2 (by omega)
     obtain ⟨v2,hv2⟩:∃v,L.getD (q - 1) y=v:=⟨_,rfl⟩
     rw [hv2] at hy
     have hxy:a+q≠a+q - 1:=by omega
     refine zad ?_;refine rn0 ?_;refine w6 ?_;refine zae ?_;refine zju 16 [15] [] [8,9,12,13,14] (fun he=>True) rfl rfl rfl trivial ?_
     refine jq rfl (fun he hC=>by replace hC:=hC.2;exact qrA) ?_
     refine jq rfl (fun he hC=>by replace hC:=hC.2;exact qrA) ?_
     refine jq rfl (fun he hC=>by replace hC:=hC.2;exact qrA) ?_
     refine jq rfl (fun he hC=>by replace hC:=hC.2;exact qrA) ?_
     refine jq rfl (fun he hC=>by replace hC:=hC.2;exact za7 (k7 rfl rfl rfl (by omega)) (show iv _=iv ((a+q - 1:Nat):Int) from congrArg iv (by omega))) ?_
     refine jq rfl (fun he hC=>by replace hC:=hC.2;exact qrA) ?_
     refine jq rfl (fun he hC=>by replace hC:=hC.2;exact qrA) ?_
     refine jq rfl (fun he hC=>by replace hC:=hC.2;exact za7 (k7 rfl rfl rfl (by omega)) (show iv _=iv ((a+q - 1:Nat):Int) from congrArg iv (by omega))) ?_
     refine jq rfl (fun he hC=>by obtain rfl:=hC.1 rfl;exact w9 (k:=(a+q - 1)) rfl rfl (by rw [oM];exact (zdr hy))) ?_
     refine jq rfl (fun he hC=>by obtain rfl:=hC.1 rfl;exact u4 (row:=zbu v2) rfl (zbz hy) rfl) ?_
     refine jq rfl (fun he hC=>by replace hC:=hC.2;exact qrA) ?_
     refine jq rfl (fun he hC=>by replace hC:=hC.2;exact qrA) ?_
     refine jq rfl (fun he hC=>by obtain rfl:=hC.1 rfl;exact w9 (k:=(a+q)) rfl rfl (by rw [oM];exact (zdr hx))) ?_
     refine jq rfl (fun he hC=>by obtain rfl:=hC.1 rfl;exact u4 (row:=zbu y) rfl (zbz hx) rfl) ?_
     refine jq rfl (fun he hC=>by obtain rfl:=hC.1 rfl;exact w9 (k:=(a+q)) rfl rfl (by rw [oM];exact (zdr hx))) ?_
     refine je rfl ?_;refine zyu ?_;refine jce rfl fun u=> ?_
     refine zag (k:=(a+q)) rfl rfl rfl (zbz hx) rfl (Nat.le_of_ble_eq_true rfl) ⟨.any,_,rfl,trivial,?_⟩
     refine jcn ?_;refine ln ?_;refine qq rfl rfl (w9 (k:=(a+q - 1)) rfl rfl (by rw [List.length_set,oM];exact zdr hy)) ?_
     refine z7 rfl (zag (k:=(a+q - 1)) rfl rfl rfl (row:=zbu v2) (by rw [List.getElem?_set_ne hxy];exact zbz hy) rfl (Nat.le_of_ble_eq_true rfl) ?_)
     have hsw:=zi9 (f:=zbu) hx hy
     refine u3 ?_;refine zks ?_;refine k6 ?_;refine y6 ?_;refine q1 ?_;refine qq rfl rfl (za7 (k7 rfl rfl rfl (by omega)) (show iv _=iv ((a+(q - 1):Nat):Int) from congrArg iv (by omega))) ?_
     refine rn ?_;exact ⟨q - 1,⟨by omega,by omega⟩,by rw [←zw9 hP hq2 (by omega),←hsw];exact eA,by omega⟩
    ·have hq:q=u:=by have q0:¬((a+q:Nat):Int) > ((a+u:Nat):Int):=oF hc110;omega
     subst hq
     refine rn ?_;refine rqz ?_;rw [zw1 zk6 hL hu h1 h2];exact ⟨rfl,rfl⟩
  ·first|cases hc80|exact absurd hc80 (by decide)|(exfalso;simp_all;done)
set_option maxHeartbeats 8000000 in
theorem ynw (s:SV) (n:Nat) (P L R Z:List zi2) (a m b:Nat) (cv:AV) (hc:yc4 cv) (hn:L.length+R.length=n) (hP:P.length=a) (hm:a+L.length=m) (hb:m+R.length=b) (hL1:1≤L.length) (hR1:1≤R.length) (h1L:L.length≠1) (h1R:R.length≠1) (hL:L.Pairwise (LeC zce)) (hR:R.Pairwise (LeC zce)) (hl:(P++(L++(R++Z))).length≤1000000000) (ih:∀(P L R Z:List zi2) (a m b:Nat),L.length+R.length < n→P.length=a→a+L.length=m→m+R.length=b→1≤L.length→1≤R.length→L.Pairwise (LeC zce)→R.Pairwise (LeC zce)→(P++(L++(R++Z))).length≤1000000000→
 y9 Tryz.prog 216 [.v s.v,iv (a:Int),iv (m:Int),iv (b:Int),cv] [.row s.v 3 178 ((P++(L++(R++Z))).map zbu)] (fun r h'=>h'= [.row s.v 3 178 ((P++(mrg zce L R++Z)).map zbu)]∧r= .tup [])):y9 Tryz.prog 216 [.v s.v,iv (a:Int),iv (m:Int),iv (b:Int),cv] [.row s.v 3 178 ((P++(L++(R++Z))).map zbu)] (fun r h'=>h'= [.row s.v 3 178 ((P++(mrg zce L R++Z)).map zbu)]∧r= .tup []):=by
 refine z6 Tryz.func216 rfl rfl rfl ?_
 simp only [List.length_append] at hl
 refine w6 ?_;refine w6 (y6 ?_)
 refine q1 ?_;refine q1 ?_;refine q1 ?_;refine qq rfl rfl (zio (c:=false) rfl rfl (congrArg some (beq_eq_false_iff_ne.2 (by omega)))) ?_
 refine rn ?_;refine z8 rfl (fun hc28=> ?_) (fun hc28=> ?_)
 ·first|cases hc28|exact absurd hc28 (by decide)|(exfalso;simp_all;done)
 ·refine zad ?_;refine k6 ?_;refine w6 ?_;refine w6 (y6 ?_)
  refine q1 ?_;refine q1 ?_;refine q1 ?_;refine qq rfl rfl (zio (c:=false) rfl rfl (congrArg some (beq_eq_false_iff_ne.2 (by omega)))) ?_
  refine rn ?_;refine z8 rfl (fun hc80=> ?_) (fun hc80=> ?_)
  ·first|cases hc80|exact absurd hc80 (by decide)|(exfalso;simp_all;done)
  ·refine zad ?_;refine k6 ?_;refine w6 (y6 ?_)
   refine q1 ?_;refine q1 ?_;refine qq rfl rfl (za7 (k7 rfl rfl rfl (by omega)) (show iv _=iv ((a+b:Nat):Int) from congrArg iv (by omega))) ?_
   refine qq rfl rfl (zb6 (m:=((a+b:Nat):Int)) rfl (zi7 (by omega))) ?_
   refine qq rfl rfl (ze1 (c:=(((a+b) / 2:Nat):Int)) rfl rfl (zi8 (by omega)) (by decide)) ?_
   refine qq rfl rfl (zb6 (m:=(((a+b) / 2:Nat):Int)) rfl (zjk (by omega))) ?_
   refine q1 ?_;refine u3 (k6 ?_)
   refine w6 (y6 ?_)
   refine q1 ?_;refine q1 ?_;refine qq rfl rfl (za7 (k7 rfl rfl rfl (by omega)) (show iv _=iv ((((a+b) / 2)+m:Nat):Int) from congrArg iv (by omega))) ?_
   refine rn0 ?_;refine w6 (y6 ?_)
   refine rn0 ?_;refine zih (fun z:Nat×Nat=>SmS L R a m b ((a+b) / 2) z.1 z.2) (fun z=>⟨[(20,iv (z.1:Int)),(21,iv (z.2:Int)),(18,iv ((((a+b) / 2):Nat):Int)),(19,iv ((((a+b) / 2)+m:Nat):Int)),(0,.v s.v),(1,iv (a:Int)),(2,iv (m:Int)),(3,iv (b:Int)),(4,cv)],.row s.v 3 178 ((P++(L++(R++Z))).map zbu):: [],[]⟩) ?_ ?_
   ·refine rn ?_;refine z8 rfl (fun hc140=> ?_) (fun hc140=> ?_)
    ·have hS0:SmS L R a m b ((a+b) / 2) (((a+b) / 2)+m - b) ((a+b) / 2):=⟨hm,hb,rfl,.inl ⟨by have q:(m:Int) > ((((a+b) / 2):Nat):Int):=oT hc140;omega,rfl,rfl⟩⟩
     refine w6 (y6 ?_)
     refine q1 ?_;refine q1 ?_;refine qq rfl rfl (za7 (k7 rfl rfl rfl (by omega)) (show iv _=iv ((((a+b) / 2)+m - b:Nat):Int) from congrArg iv (by have q:(m:Int) > ((((a+b) / 2):Nat):Int):=oT hc140;omega))) ?_
     refine rn ?_;exact ⟨(_,_),hS0,eA⟩
    ·have hS0:SmS L R a m b ((a+b) / 2) a m:=⟨hm,hb,rfl,.inr ⟨by have q:¬(m:Int) > ((((a+b) / 2):Nat):Int):=oF hc140;omega,rfl,rfl⟩⟩
     refine rn ?_;exact ⟨(_,_),hS0,eA⟩
   ·rintro ⟨s0,r0⟩ hS
    replace hS:SmS L R a m b ((a+b) / 2) s0 r0:=hS
    show aw _ _ _ _ _ ⟨[(20,iv (s0:Int)),(21,iv (r0:Int)),(18,iv ((((a+b) / 2):Nat):Int)),(19,iv ((((a+b) / 2)+m:Nat):Int)),(0,.v s.v),(1,iv (a:Int)),(2,iv (m:Int)),(3,iv (b:Int)),(4,cv)],.row s.v 3 178 ((P++(L++(R++Z))).map zbu):: [],[]⟩
    refine w6 (y6 ?_)
    refine q1 ?_;refine qq rfl rfl (za7 (k7 rfl rfl rfl (by omega)) (show iv _=iv ((((a+b) / 2)+m - 1:Nat):Int) from congrArg iv (by omega))) ?_
    refine rn ?_;refine zdc (fun z:Nat×Nat=>SmI zce L R a m b ((a+b) / 2) s0 r0 z.1 z.2) (fun z=>⟨[(20,iv (z.1:Int)),(21,iv (z.2:Int)),(22,iv (((((a+b) / 2)+m - 1):Nat):Int)),(18,iv ((((a+b) / 2):Nat):Int)),(19,iv ((((a+b) / 2)+m:Nat):Int)),(0,.v s.v),(1,iv (a:Int)),(2,iv (m:Int)),(3,iv (b:Int)),(4,cv)],.row s.v 3 178 ((P++(L++(R++Z))).map zbu):: [],[]⟩) (fun z=>z.2 - z.1) (s0,r0) (yn1 hS) es ?_
    rintro ⟨st,rr⟩ hI
    replace hI:SmI zce L R a m b ((a+b) / 2) s0 r0 st rr:=hI
    show aw _ _ _ _ _ ⟨[(20,iv (st:Int)),(21,iv (rr:Int)),(22,iv (((((a+b) / 2)+m - 1):Nat):Int)),(18,iv ((((a+b) / 2):Nat):Int)),(19,iv ((((a+b) / 2)+m:Nat):Int)),(0,.v s.v),(1,iv (a:Int)),(2,iv (m:Int)),(3,iv (b:Int)),(4,cv)],.row s.v 3 178 ((P++(L++(R++Z))).map zbu):: [],[]⟩
    refine rn ?_;refine z8 rfl (fun hc151=> ?_) (fun hc151=> ?_)
    ·have hsr:st < rr:=by have q:(st:Int) < (rr:Int):=oT hc151;omega
     obtain ⟨b1,b2,b3,b4,b5,b6,b7,b8,b9,b10⟩:=ylu hS hI hsr
     have hu:=getD_some b6 zdd
     have hv:=getD_some b5 zdd
     rw [b7] at hu
     refine zad ?_;refine k6 ?_;refine zae ?_;refine w6 (y6 ?_)
     refine q1 ?_;refine q1 ?_;refine qq rfl rfl (za7 (k7 rfl rfl rfl (by omega)) (show iv _=iv ((st+rr:Nat):Int) from congrArg iv (by omega))) ?_
     refine qq rfl rfl (zb6 (m:=((st+rr:Nat):Int)) rfl (zi7 (by omega))) ?_
     refine qq rfl rfl (ze1 (c:=(((st+rr) / 2:Nat):Int)) rfl rfl (zi8 (by omega)) (by decide)) ?_
     refine qq rfl rfl (zb6 (m:=(((st+rr) / 2:Nat):Int)) rfl (zjk (by omega))) ?_
     refine rn ?_;refine j4 11 rfl ?_
     refine dq rfl rfl qrA ?_;refine dq rfl rfl qrA ?_;refine dq rfl rfl qrA ?_;refine dq rfl rfl qrA ?_;refine dq rfl rfl (za7 (k7 rfl rfl rfl (by omega)) (show iv _=iv (((((a+b) / 2)+m - 1 - ((st+rr) / 2)):Nat):Int) from congrArg iv (by omega))) ?_
     refine dq rfl rfl (w9 (k:=(((a+b) / 2)+m - 1 - ((st+rr) / 2))) rfl rfl (by rw [oM];exact (zdr (ygw (L:=L) (R:=R) (Z:=Z) hP hm zdd b3 (by omega))))) ?_
     refine dq rfl rfl (u4 (row:=zbu (R.getD ((((a+b) / 2)+m - 1 - ((st+rr) / 2)) - m) zdd)) rfl (zbz (ygw (L:=L) (R:=R) (Z:=Z) hP hm zdd b3 (by omega))) rfl) ?_
     refine dq rfl rfl qrA ?_;refine dq rfl rfl qrA ?_;refine dq rfl rfl (w9 (k:=((st+rr) / 2)) rfl rfl (by rw [oM];exact (zdr (ygx (L:=L) (R:=R) (Z:=Z) hP zdd b1 (by omega))))) ?_
     refine dq rfl rfl (u4 (row:=zbu (L.getD (((st+rr) / 2) - a) zdd)) rfl (zbz (ygx (L:=L) (R:=R) (Z:=Z) hP zdd b1 (by omega))) rfl) ?_
     refine rn ?_;refine qv rfl rfl (y4 rfl rfl (y3.pure (R:=fun r=>r=iv (zce (R.getD ((((a+b) / 2)+m - 1 - ((st+rr) / 2)) - m) zdd) (L.getD (((st+rr) / 2) - a) zdd))) (hc (R.getD ((((a+b) / 2)+m - 1 - ((st+rr) / 2)) - m) zdd) (L.getD (((st+rr) / 2) - a) zdd)))) ?_
     refine rn ?_;refine z8 rfl (fun hc171=> ?_) (fun hc171=> ?_)
     ·have hn:¬zce (R.getD ((((a+b) / 2)+m - 1 - ((st+rr) / 2)) - m) zdd) (L.getD (((st+rr) / 2) - a) zdd) < 0:=oF (by simpa using hc171)
      rw [b7] at hn
      refine y6 ?_;refine q1 ?_;refine qq rfl rfl (za7 (k7 rfl rfl rfl (by omega)) (show iv _=iv ((((st+rr) / 2)+1:Nat):Int) from congrArg iv (by omega))) ?_
      refine rn ?_;exact ⟨(((st+rr) / 2)+1,rr),ynz hS hI hsr rfl hu hv hn,eA,by simp only;omega⟩
     ·have hn:zce (R.getD ((((a+b) / 2)+m - 1 - ((st+rr) / 2)) - m) zdd) (L.getD (((st+rr) / 2) - a) zdd) < 0:=oT (by simpa using hc171)
      rw [b7] at hn
      refine rn ?_;exact ⟨(st,((st+rr) / 2)),yn0 hS hI hsr rfl hu hv hn,eA,by simp only;omega⟩
    ·have hsr:st=rr:=by
      have q:¬(st:Int) < (rr:Int):=oF hc151
      have:=hI.2.1
      omega
     subst hsr
     obtain ⟨x,y,hs,hmid,hx,hy,hmg⟩:=yhp zk6 hL hR hS hI
     subst hs
     rw [hmid]
     refine zg4 ?_;refine zgv ?_;refine zgv ?_;refine zdk ?_;refine k6 ?_;refine w6 (y6 ?_)
     refine q1 ?_;refine q1 ?_;refine qq rfl rfl (za7 (k7 rfl rfl rfl (by omega)) (show iv _=iv ((m+y:Nat):Int) from congrArg iv (by omega))) ?_
     refine rn0 ?_;refine zgt (⟨[(20,iv (((a+x):Nat):Int)),(18,iv (((a+x+y):Nat):Int)),(24,iv (((m+y):Nat):Int)),(0,.v s.v),(1,iv (a:Int)),(2,iv (m:Int)),(3,iv (b:Int)),(4,cv)],.row s.v 3 178 ((P++((L.take x)++((R.take y)++((L.drop x)++((R.drop y)++Z))))).map zbu):: [],[]⟩) ?_ ?_
     ·refine zgt (⟨[(185,bv (decide (((((a+x):Nat):Int)) < ((((m):Nat):Int))) && decide (((((m):Nat):Int)) < ((((m+y):Nat):Int))))),(20,iv (((a+x):Nat):Int)),(18,iv (((a+x+y):Nat):Int)),(24,iv (((m+y):Nat):Int)),(0,.v s.v),(1,iv (a:Int)),(2,iv (m:Int)),(3,iv (b:Int)),(4,cv)],.row s.v 3 178 ((P++(L++(R++Z))).map zbu):: [],[]⟩) ?_ ?_
      ·refine rn ?_;refine q8 (fun hg39_3=> ?_) (fun hg39_3=> ?_)
       ·refine rn ?_;first|(rw [hg39_3,Bool.true_and];exact eA)|(rw [hg39_3,Bool.false_and];exact eA)
       ·refine rn ?_;first|(rw [hg39_3,Bool.true_and];exact eA)|(rw [hg39_3,Bool.false_and];exact eA)
      ·refine z8 rfl (fun hc185=> ?_) (fun hc185=> ?_)
       ·have hg:=hc185
        rw [Bool.and_eq_true,decide_eq_true_iff,decide_eq_true_iff] at hg
        refine rn ?_;refine z7 rfl (w8 rfl rfl (y3.of_fun (yd7 s _ _ (a+x) m (m+y) cv (by rw [show m - (a+x)=L.length - x by omega,show m+y - m=y by omega];exact yho hP hm hx hy) (by omega) (by omega) (by simp only [List.length_append];omega) (by simp only [List.length_append];omega))) rfl ?_)
        rintro _ _ ⟨rfl,rfl⟩
        refine rn ?_;exact eA
       ·have hg:=hc185
        rw [Bool.and_eq_false_iff,decide_eq_false_iff_not,decide_eq_false_iff_not] at hg
        have hxy:x=L.length∨y=0:=by omega
        rw [ydt (P:=P) (Z:=Z) hxy]
        refine rn ?_;exact eA
     ·refine zgt (⟨[(20,iv (((a+x):Nat):Int)),(18,iv (((a+x+y):Nat):Int)),(24,iv (((m+y):Nat):Int)),(0,.v s.v),(1,iv (a:Int)),(2,iv (m:Int)),(3,iv (b:Int)),(4,cv)],.row s.v 3 178 ((P++(mrg zce (L.take x) (R.take y)++((L.drop x)++((R.drop y)++Z)))).map zbu):: [],[]⟩) ?_ ?_
      ·refine zgt (⟨[(199,bv (decide (((((a):Nat):Int)) < ((((a+x):Nat):Int))) && decide (((((a+x):Nat):Int)) < ((((a+x+y):Nat):Int))))),(20,iv (((a+x):Nat):Int)),(18,iv (((a+x+y):Nat):Int)),(24,iv (((m+y):Nat):Int)),(0,.v s.v),(1,iv (a:Int)),(2,iv (m:Int)),(3,iv (b:Int)),(4,cv)],.row s.v 3 178 ((P++((L.take x)++((R.take y)++((L.drop x)++((R.drop y)++Z))))).map zbu):: [],[]⟩) ?_ ?_
       ·refine rn ?_;refine q8 (fun hg41_3=> ?_) (fun hg41_3=> ?_)
        ·refine rn ?_;first|(rw [hg41_3,Bool.true_and];exact eA)|(rw [hg41_3,Bool.false_and];exact eA)
        ·refine rn ?_;first|(rw [hg41_3,Bool.true_and];exact eA)|(rw [hg41_3,Bool.false_and];exact eA)
       ·refine z8 rfl (fun hc199=> ?_) (fun hc199=> ?_)
        ·have hg:=hc199
         rw [Bool.and_eq_true,decide_eq_true_iff,decide_eq_true_iff] at hg
         refine rn ?_;refine z7 rfl (w8 rfl rfl (y3.of_fun (ih P (L.take x) (R.take y) ((L.drop x)++((R.drop y)++Z)) a (a+x) (a+x+y) (by simp only [List.length_take];omega) hP (by simp only [List.length_take];omega) (by simp only [List.length_take];omega) (by simp only [List.length_take];omega) (by simp only [List.length_take];omega) (zr9 hL x) (zr9 hR y) (by simp only [List.length_append,List.length_take,List.length_drop];omega))) rfl ?_)
         rintro _ _ ⟨rfl,rfl⟩
         refine rn ?_;exact eA
        ·have hg:=hc199
         rw [Bool.and_eq_false_iff,decide_eq_false_iff_not,decide_eq_false_iff_not] at hg
         have hxy:(L.take x)= []∨(R.take y)= []:=by
          by_cases h0:1≤x
          ·exact .inr (zsa (by omega))
          ·exact .inl (zsa h0)
         rw [zvt (cmp:=zce) (P:=P) hxy]
         refine rn ?_;exact eA
      ·refine zgt (⟨[(213,bv (decide (((((a+x+y):Nat):Int)) < ((((m+y):Nat):Int))) && decide (((((m+y):Nat):Int)) < ((((b):Nat):Int))))),(20,iv (((a+x):Nat):Int)),(18,iv (((a+x+y):Nat):Int)),(24,iv (((m+y):Nat):Int)),(0,.v s.v),(1,iv (a:Int)),(2,iv (m:Int)),(3,iv (b:Int)),(4,cv)],.row s.v 3 178 ((P++(mrg zce (L.take x) (R.take y)++((L.drop x)++((R.drop y)++Z)))).map zbu):: [],[]⟩) ?_ ?_
       ·refine rn ?_;refine q8 (fun hg43_3=> ?_) (fun hg43_3=> ?_)
        ·refine rn ?_;first|(rw [hg43_3,Bool.true_and];exact eA)|(rw [hg43_3,Bool.false_and];exact eA)
        ·refine rn ?_;first|(rw [hg43_3,Bool.true_and];exact eA)|(rw [hg43_3,Bool.false_and];exact eA)
       ·refine z8 rfl (fun hc213=> ?_) (fun hc213=> ?_)
        ·have hg:=hc213
         rw [Bool.and_eq_true,decide_eq_true_iff,decide_eq_true_iff] at hg
         rw [←List.append_assoc P (mrg zce (L.take x) (R.take y)) ((L.drop x)++((R.drop y)++Z))]
         refine rn ?_;refine z7 rfl (w8 rfl rfl (y3.of_fun (ih (P++mrg zce (L.take x) (R.take y)) (L.drop x) (R.drop y) Z (a+x+y) (m+y) b (by simp only [List.length_drop];omega) (by simp only [List.length_append,zef,List.length_take];omega) (by simp only [List.length_drop];omega) (by simp only [List.length_drop];omega) (by simp only [List.length_drop];omega) (by simp only [List.length_drop];omega) (ztg hL x) (ztg hR y) (by simp only [List.length_append,zef,List.length_take,List.length_drop];omega))) rfl ?_)
         rintro _ _ ⟨rfl,rfl⟩
         refine rn ?_;refine yd6 ?_;exact ⟨by simp only [hmg,List.append_assoc],rfl⟩
        ·have hg:=hc213
         rw [Bool.and_eq_false_iff,decide_eq_false_iff_not,decide_eq_false_iff_not] at hg
         have hxy:(L.drop x)= []∨(R.drop y)= []:=by
          by_cases h0:x < L.length
          ·exact .inr (zpj (by omega))
          ·exact .inl (zpj h0)
         rw [←List.append_assoc P (mrg zce (L.take x) (R.take y)) ((L.drop x)++((R.drop y)++Z)),zvt (cmp:=zce) (P:=P++mrg zce (L.take x) (R.take y)) hxy]
         refine rn ?_;refine yd6 ?_;exact ⟨by simp only [hmg,List.append_assoc],rfl⟩
theorem ylq (s:SV) (cv:AV) (hc:yc4 cv):∀(n:Nat) (P L R Z:List zi2) (a m b:Nat),L.length+R.length < n→P.length=a→a+L.length=m→m+R.length=b→1≤L.length→1≤R.length→L.Pairwise (LeC zce)→R.Pairwise (LeC zce)→(P++(L++(R++Z))).length≤1000000000→
 y9 Tryz.prog 216 [.v s.v,iv (a:Int),iv (m:Int),iv (b:Int),cv] [.row s.v 3 178 ((P++(L++(R++Z))).map zbu)] (fun r h'=>h'= [.row s.v 3 178 ((P++(mrg zce L R++Z)).map zbu)]∧r= .tup [])
 |0,_,_,_,_,_,_,_,h,_,_,_,_,_,_,_,_=>absurd h (by omega)
 |n+1,P,L,R,Z,a,m,b,h,hP,hm,hb,hL1,hR1,hL,hR,hl=>by
  by_cases e1:L.length=1
  ·obtain ⟨x,rfl⟩:=List.length_eq_one_iff.1 e1
   exact yny s P R Z x a m b cv hc hP hm hb hR hl
  ·by_cases e2:R.length=1
   ·obtain ⟨y,rfl⟩:=List.length_eq_one_iff.1 e2
    exact ynx s P L Z y a m b cv hc hP hm hb e1 hL hl
   ·exact ynw s (L.length+R.length) P L R Z a m b cv hc rfl hP hm hb hL1 hR1 e1 e2 hL hR hl fun P' L' R' Z' a' m' b' q=>ylq s cv hc n P' L' R' Z' a' m' b' (by omega)
end Go.Proofs
