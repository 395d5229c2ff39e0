/- The abstract logic, part 28: slices.Sort and slices.Compact at []int, as contracts over a row of one's own (the kit's shelf has walked them). .. -/
import Derived.Test.YtcaijocpofcbdaaGreatDoorGTeE
import Derived.Shelf.Sort.Plain
import Derived.Shelf.Slices.In.SortNone
import Derived.Shelf.Slices.CompactI
set_option maxHeartbeats 4000000
set_option linter.unusedSectionVars false
set_option linter.unusedSimpArgs false
set_option linter.unusedVariables false
namespace Go.Ab
open Go Go.Shelf Go.Sort Go.Proofs
def numR (n:Int):List AV:= [.v (.int .i64 n)]
theorem zv9 {X:Nat→Prop} {w:World} {a:Addr} {cap:Nat} {T:TypeId} {xs ys zs:List Int} (hh:HRel X w [.row (.slice (some a) xs.length cap) 1 T (xs.map numR)]) (hl:ys.length=xs.length) (hz:zs=ys.take zs.length) (n:Nat) (os:Array Obj):
 HRel X (grow (putRow (Value.int .i64) (Sort.ahead w n) a.block a.off ys.toArray) os) [.row (.slice (some a) zs.length cap) 1 T (zs.map numR)]∧
 Keep [a.block] w [a.block] (grow (putRow (Value.int .i64) (Sort.ahead w n) a.block a.off ys.toArray) os):=by
 obtain ⟨h1,h2,h3,h4,c,h5,h6,h7⟩:=hh.holds _ (List.mem_singleton.2 rfl)
 have hb:a.block < w.heap.size:=(hh.lt a.block (by simp [j3,Res.own])).1
 have hX:¬X a.block:=(hh.lt a.block (by simp [j3,Res.own])).2
 obtain ⟨w',hw'⟩:∃w',w'=grow (putRow (Value.int .i64) (Sort.ahead w n) a.block a.off ys.toArray) os:=⟨_,rfl⟩
 rw [←hw']
 have hheap:w'.heap=(w.heap.modify a.block (onCells (putCells (Value.int .i64) a.off ys.toArray)))++os:=by rw [hw'];rfl
 have hos:zi4 w w':=by rw [hw'];exact ⟨⟨rfl,rfl⟩,rfl,trivial⟩
 have hsize:w.heap.size≤w'.heap.size:=by rw [hheap];simp
 have hold:∀b,b < w.heap.size→b≠a.block→w'.heap[b]? =w.heap[b]? :=fun b hb hne=>by
  rw [hheap,Array.getElem?_append_left (by simpa using hb),Array.getElem?_modify,if_neg (Ne.symm hne)]
 have hnew:w'.heap[a.block]? =some (.cells (putCells (Value.int .i64) a.off ys.toArray c) T (0,0)):=by
  rw [hheap,Array.getElem?_append_left (by simpa using hb),Array.getElem?_modify,if_pos rfl,h5];rfl
 have hlen:zs.length≤ys.length:=by
  have:=congrArg List.length hz
  rw [List.length_take] at this;omega
 refine ⟨⟨by simp [j3,Res.own],fun b hb2=> ?_,fun b hb2=>Nat.lt_of_lt_of_le (hh.xlt b hb2) hsize,fun r hr=> ?_⟩,⟨hsize,fun b hb2 hne=> ?_,hos⟩⟩
 ·have:b=a.block:=by simpa [j3,Res.own] using hb2
  subst this;exact ⟨Nat.lt_of_lt_of_le hb hsize,hX⟩
 ·rw [List.mem_singleton] at hr
  subst hr
  refine ⟨h1,by simp,by simp at h2 h3;omega,fun i hi=>by simp [numR],_,hnew,by simpa [putCells] using h6,fun i hi j hj=> ?_⟩
  have hi2:i < zs.length:=by simpa using hi
  have hj0:j=0:=by simp [numR] at hj;omega
  subst hj0
  have hc:a.off+i < c.size:=by simp at h2 h3;omega
  refine ⟨.int .i64 (zs[i]),?_,?_⟩
  ·have hz2:zs[i]=ys[i]'(by omega):=by
    have:zs[i]? =(ys.take zs.length)[i]? :=by rw [←hz]
    rw [List.getElem?_take_of_lt hi2,List.getElem?_eq_getElem hi2,List.getElem?_eq_getElem (by omega)] at this
    exact Option.some.inj this
   have e:a.off+i * 1+0=a.off+i:=by omega
   rw [e]
   simp only [putCells,Array.getElem?_mapIdx]
   rw [Array.getElem?_eq_getElem hc]
   simp only [Option.map_some]
   rw [if_pos ⟨by omega,by simp;omega⟩,hz2]
   have e2:a.off+i - a.off=i:=by omega
   rw [e2]
   congr 2
   exact getElem!_pos _ _ (by simp;omega)
  ·simp only [List.getElem_map,numR]
   exact .v _
 ·have hne2:b≠a.block:=by simpa using hne
  exact ⟨hold b hb2 hne2,hne⟩
theorem zwa {X:Nat→Prop} {w:World} {a:Addr} {cap:Nat} {T:TypeId} {xs:List Int} (hh:HRel X w [.row (.slice (some a) xs.length cap) 1 T (xs.map numR)]):Holds (Value.int .i64) w a.block a.off xs.toArray∧a.block < w.heap.size∧xs.length≤cap∧a.spot=none:=by
 obtain ⟨h1,h2,h3,h4,c,h5,h6,h7⟩:=hh.holds _ (List.mem_singleton.2 rfl)
 refine ⟨fun j hj=> ?_,(hh.lt a.block (by simp [j3,Res.own])).1,h3,h1⟩
 have hj2:j < xs.length:=by simpa using hj
 obtain ⟨v,e,r⟩:=h7 j (by simpa using hj2) 0 (by simp [numR])
 simp only [List.getElem_map,numR] at r
 have hv:v= .int .i64 xs[j]:=r.v_eq
 subst hv
 have e0:a.off+j * 1+0=a.off+j:=by omega
 rw [e0] at e
 refine ⟨?_,?_⟩
 ·have e2:w.cell? ⟨a.block,a.off+j,none⟩=some (.int .i64 xs[j]):=by simp [World.cell?,h5,e]
  have e3:xs.toArray[j]! =xs[j]:=getElem!_pos xs.toArray j hj
  rw [e2,e3]
 ·simp [World.frozen?,h5]
theorem yal {X:Nat→Prop} {w:World} {n cap:Nat} {T:TypeId} {xs:List Int} (hh:HRel X w [.row (.slice none n cap) 1 T (xs.map numR)]):xs= []∧n=0∧cap=0:=by
 obtain ⟨h1,h2,h3⟩:=hh.holds _ (List.mem_singleton.2 rfl)
 exact ⟨by simpa using h1,h2,h3⟩
section
variable {P:Program} {ρ:Ren}
theorem zzc (Ly:Lays.n189 P ρ) (s:SV) (T:TypeId) (xs:List Int) (hs:xs.length < 4611686018427387904):
 y8 P (ρ.f 189) [.v s.v] [.row s.v 1 T (xs.map numR)] (fun r h'=>h'= [.row s.v 1 T ((xs.mergeSort fun x y=>decide (x≤y)).map numR)]∧r= .v (.tuple #[])):=by
 intro X w vs hh ha
 match vs,ha with
 | [v],⟨hv,_⟩=>
   obtain rfl:=hv.v_eq
   obtain ⟨a,n,cap⟩:=s
   cases a with
   |none=>
    obtain ⟨rfl,rfl,rfl⟩:=yal hh
    refine callsIn_wide.2 ((Any.slices_Sort_int_none Ly none 0 w).mono ?_)
    rintro e w' ⟨rfl,rfl⟩
    exact ⟨_,_,_,rfl,⟨rfl,rfl⟩,.v _,by simpa using hh,.refl _ _⟩
   |some a=>
    have hn:n=xs.length:=by
     have:=(hh.holds _ (List.mem_singleton.2 rfl)).2.1
     simpa using this
    subst hn
    obtain ⟨g1,g2,g3,g4⟩:=zwa hh
    obtain ⟨b,off,sp⟩:=a
    simp only at g1 g2 g4
    subst g4
    refine callsIn_wide.2 ((Any.slices_Sort_int Ly b off cap xs w g1 g2 hs).mono ?_)
    rintro e w' ⟨rfl,n,os,rfl⟩
    have hlen:(xs.mergeSort fun x y=>decide (x≤y)).length=xs.length:=List.length_mergeSort _
    obtain ⟨k1,k2⟩:=zv9 (zs:=xs.mergeSort fun x y=>decide (x≤y)) hh hlen (List.take_length).symm n os
    rw [hlen] at k1
    exact ⟨_,_,_,rfl,⟨rfl,rfl⟩,.v _,k1,k2⟩
theorem zqx (Ly:Lays2.n20 P ρ) (s:SV) (T:TypeId) (xs:List Int) (hs:xs.length≤4611686018427387904):
 y8 P (ρ.f 20) [.v s.v] [.row s.v 1 T (xs.map numR)] (fun r h'=>∃s':SV,h'= [.row s'.v 1 T ((Lib.compact xs).map numR)]∧r= .v s'.v):=by
 intro X w vs hh ha
 match vs,ha with
 | [v],⟨hv,_⟩=>
   obtain rfl:=hv.v_eq
   obtain ⟨a,n,cap⟩:=s
   cases a with
   |none=>
    obtain ⟨rfl,rfl,rfl⟩:=yal hh
    refine callsIn_wide.2 ((Any.slices_Compact_int_empty Ly none 0 w).mono ?_)
    rintro e w' ⟨rfl,rfl⟩
    exact ⟨_,_,_,rfl,⟨⟨none,0,0⟩,rfl,rfl⟩,.v _,hh,.refl _ _⟩
   |some a=>
    have hn:n=xs.length:=by
     have:=(hh.holds _ (List.mem_singleton.2 rfl)).2.1
     simpa using this
    subst hn
    obtain ⟨g1,g2,g3,g4⟩:=zwa hh
    obtain ⟨b,off,sp⟩:=a
    simp only at g1 g2 g4
    subst g4
    refine callsIn_wide.2 ((Any.slices_Compact_int Ly b off cap xs w g1 (by omega) g3).mono ?_)
    rintro e w' ⟨rfl,q,rfl⟩
    have hle:(Lib.compact xs).length≤xs.length:=by
     unfold Lib.compact Lib.compactUpTo
     rw [oM]
     exact Nat.le_trans (List.length_filter_le _ _) (by simp)
    obtain ⟨k1,k2⟩:=zv9 (ys:=Lib.compact xs++List.replicate (xs.length - (Lib.compact xs).length) 0) (zs:=Lib.compact xs) hh (by simp;omega) (by rw [List.take_left'];rfl) q #[]
    rw [grow_empty] at k1 k2
    exact ⟨_,_,_,rfl,⟨⟨some ⟨b,off,none⟩,(Lib.compact xs).length,cap⟩,rfl,rfl⟩,.v _,k1,k2⟩
end
end Go.Ab
namespace Go.H
open Go Go.Ab
theorem zoy (y:Int):∀l:List Int,zbv (l++ [y])=zbv l++(if l.getLast? =some y then [] else [y])
 | []=>by simp [zbv]
 | [x]=>by
   by_cases h:x=y
   ·subst h;simp [zbv]
   ·simp [zbv,h]
 |x::z::r=>by
  have ih:=zoy y (z::r)
  simp only [List.cons_append] at ih ⊢
  have hl:(x::z::r).getLast? =(z::r).getLast? :=by simp [List.getLast?_cons]
  rw [hl,zbv,zbv]
  by_cases h:x=z
  ·rw [if_pos h,if_pos h];exact ih
  ·rw [if_neg h,if_neg h,ih];rfl
theorem zy7 (xs:List Int):Lib.compact xs=zbv xs:=by
 have key:∀m,m≤xs.length→Lib.compactUpTo xs.toArray m=zbv (xs.take m):=by
  intro m
  induction m with
  |zero=>intro _;rfl
  |succ m ih=>
   intro hm
   have hlt:m < xs.length:=hm
   rw [Lib.compactUpTo_succ,ih (by omega),List.take_succ_eq_append_getElem hlt,zoy]
   congr 1
   have e1:xs.toArray[m]! =xs[m]:=by simp [hlt]
   by_cases h0:m=0
   ·subst h0
    simp [Lib.keeps,hlt]
   ·have hlt':m - 1 < xs.length:=by omega
    have e2:xs.toArray[m - 1]! =xs[m - 1]:=by simp [hlt']
    have e3:(xs.take m).getLast? =some xs[m - 1]:=by
     rw [List.getLast?_eq_getElem?,List.length_take,Nat.min_eq_left (by omega),List.getElem?_take_of_lt (by omega)]
     simp [hlt']
    rw [e3]
    unfold Lib.keeps
    rw [e1,e2]
    by_cases he:xs[m]=xs[m - 1]
    ·rw [if_neg (by simp [h0,he]),if_pos (by rw [he])]
    ·rw [if_pos (by simp [he]),if_neg (fun q=>he (Option.some.inj q).symm)]
 have:=key xs.length (Nat.le_refl _)
 rw [List.take_length] at this
 exact this
def yjv (l:List Ev):List (Int×Bool):=l.foldl (fun m e=>zfn e.t ((zb6 e.t m).getD false||e.kind==5) m) []
theorem yc6 (t:Int):∀(l:List Ev) (m:List (Int×Bool)),(zb6 t (l.foldl (fun m e=>zfn e.t ((zb6 e.t m).getD false||e.kind==5) m) m)).getD false=((zb6 t m).getD false||l.any fun y=>y.t==t && y.kind==5)
 | [],m=>by simp
 |e::l,m=>by
  rw [List.foldl_cons,yc6 t l,List.any_cons,zcp]
  by_cases h:e.t=t
  ·subst h;simp [Bool.or_assoc]
  ·have:(e.t==t)=false:=by simpa using h
   rw [if_neg h,this,Bool.false_and,Bool.false_or]
theorem zl4 (l:List Ev) (t:Int):(zb6 t (yjv l)).getD false=l.any fun y=>y.t==t && y.kind==5:=by
 rw [yjv,yc6];simp [zb6]
theorem zjx {l:List Ev} {k:Nat} (hk:k < l.length):yjv (l.take (k+1))=zfn l[k].t ((zb6 l[k].t (yjv (l.take k))).getD false||l[k].kind==5) (yjv (l.take k)):=by
 rw [List.take_succ_eq_append_getElem hk,yjv,List.foldl_append];rfl
section
variable {α:Type} {l:List α} {k:Nat} {p:α→Bool}
theorem yvn (hk:k < l.length) (h:p l[k]=true):(l.take (k+1)).filter p=(l.take k).filter p++ [l[k]]:=by
 rw [List.take_succ_eq_append_getElem hk,List.filter_append];simp [h]
theorem yn6 (hk:k < l.length) (h:p l[k]=false):(l.take (k+1)).filter p=(l.take k).filter p:=by
 rw [List.take_succ_eq_append_getElem hk,List.filter_append];simp [h]
theorem ycs:((l.take k).filter p).length≤l.length:=Nat.le_trans (List.length_filter_le _ _) (by simp;omega)
end
def wrB (l:List Ev) (x:Int) (e:Ev):Bool:=e.kind==2 && e.o==x && l.any fun y=>y.t==e.t && y.kind==5
theorem zte (l:List Ev) (x:Int):zaq l x=zbv (srt ((l.filter (wrB l x)).map Ev.t)):=rfl
theorem zss (l:List Int) (n:Int):(l.any fun a=>a==n)=l.contains n:=by
 rw [Bool.eq_iff_iff];simp
theorem zj4 (l:List Ev) (x:Int):(zaq l x).length≤l.length:=by
 rw [zte]
 refine Nat.le_trans (znc _) ?_
 rw [(zez _).length_eq,oM]
 exact List.length_filter_le _ _
theorem zki (a b:Nat):((a:Int) !=(b:Int))= !decide (a=b):=by
 rw [Bool.eq_iff_iff];simp;omega
theorem y3.new {P:Program} {fv:AV} {args:List AV} {h:List Res} {R:AV→List Res→Prop} (hc:y3 P fv args [] R):y3 P fv args h (fun r h'=>∃h1,R r h1∧h'=h1++h):=
 (hc.frame h).mono fun _ _ ⟨h1,e,q⟩=>⟨h1,q,e⟩
def zkr (h:Hist) (n many:Int):Int:=if v8 h=0 then (if 0≤n∧n < many then 0 else 2) else v8 h
def onE (e:Int) (l:List Int):List Int:=if e=0 then l else []
theorem yik {h:Hist} {n many:Int} (he:zkr h n many=0):zb3 h=true∧0≤n∧n < many:=by
 unfold zkr at he
 split at he
 ·rename_i hc
  split at he
  ·rename_i hn;exact ⟨zd3.1 hc,hn⟩
  ·cases he
 ·rename_i hc;exact absurd he hc
theorem ytg {h:Hist} {n many:Int} (hc:v8 h≠0):zkr h n many=v8 h:=by rw [zkr,if_neg hc]
theorem yij {h:Hist} {n many:Int} (hc:v8 h=0) (hn:¬(0≤n∧n < many)):zkr h n many=2:=by rw [zkr,if_pos hc,if_neg hn]
theorem ydz {h:Hist} {n many:Int} (hc:v8 h=0) (hn:0≤n∧n < many):zkr h n many=0:=by rw [zkr,if_pos hc,if_pos hn]
def zl3 (l:List Ev):List (Int×Bool):=zv8 (fun e:Ev=>e.kind==5) Ev.t [] l
theorem zxb (l:List Ev) (t:Int):(zb6 t (zl3 l)).getD false=zsb l t 5:=by
 rw [zl3,zh1,zgw]
 have:(l.any fun e=>e.kind==5 && decide (e.t=t))=l.any fun y=>y.t==t && y.kind==5:=by
  congr 1;funext e;rw [Bool.and_comm];rfl
 rw [this]
 cases l.any fun y=>y.t==t && y.kind==5 <;> rfl
theorem ysy {l:List Ev} {k:Nat} (hk:k < l.length) (h5:(l[k].kind==5)=true):zl3 (l.take (k+1))=zfn l[k].t true (zl3 (l.take k)):=by
 rw [List.take_succ_eq_append_getElem hk,zl3,zv8,List.foldl_append,List.foldl_cons,List.foldl_nil,if_pos h5];rfl
theorem ysz {l:List Ev} {k:Nat} (hk:k < l.length) (h5:(l[k].kind==5)=false):zl3 (l.take (k+1))=zl3 (l.take k):=by
 rw [List.take_succ_eq_append_getElem hk,zl3,zv8,List.foldl_append,List.foldl_cons,List.foldl_nil,if_neg (by rw [h5];decide)];rfl
section
variable {α:Type} (cmp:α→α→Int)
def mrg:List α→List α→List α
 | [],b=>b
 |x::a,[]=>x::a
 |x::a,y::b=>if cmp y x < 0 then y::mrg (x::a) b else x::mrg a (y::b)
termination_by a b=>a.length+b.length
theorem zgt (a:List α):mrg cmp a []=a:=by cases a <;> simp [mrg]
theorem zlr:∀(a b:List α),(mrg cmp a b).Perm (a++b)
 | [],b=>by simp [mrg]
 |x::a,[]=>by simp [mrg]
 |x::a,y::b=>by
  rw [mrg]
  split
  ·exact ((zlr (x::a) b).cons y).trans (List.perm_middle (l₁:=x::a)).symm
  ·exact (zlr a (y::b)).cons x
termination_by a b=>a.length+b.length
def LeC (a b:α):Prop:=cmp a b≤0
structure CmpOk:Prop where
 trans:∀a b c,cmp a b≤0→cmp b c≤0→cmp a c≤0
 anti:∀a b,cmp b a= - cmp a b
variable {cmp}
theorem zkf (ok:CmpOk cmp):∀(a b:List α),a.Pairwise (LeC cmp)→b.Pairwise (LeC cmp)→(mrg cmp a b).Pairwise (LeC cmp)
 | [],b,_,hb=>by simpa [mrg] using hb
 |x::a,[],ha,_=>by simpa [mrg] using ha
 |x::a,y::b,ha,hb=>by
  rw [mrg]
  have ha':=List.pairwise_cons.1 ha
  have hb':=List.pairwise_cons.1 hb
  split
  ·rename_i h
   refine List.pairwise_cons.2 ⟨fun z hz=> ?_,zkf ok (x::a) b ha hb'.2⟩
   have hz':=(zlr cmp (x::a) b).mem_iff.1 hz
   rcases List.mem_append.1 hz' with hz'|hz'
   ·have hyx:LeC cmp y x:=Int.le_of_lt h
    rcases List.mem_cons.1 hz' with rfl|hz'
    ·exact hyx
    ·exact ok.trans _ _ _ hyx (ha'.1 z hz')
   ·exact hb'.1 z hz'
  ·rename_i h
   have hxy:LeC cmp x y:=by have:=ok.anti x y;show cmp x y≤0;omega
   refine List.pairwise_cons.2 ⟨fun z hz=> ?_,zkf ok a (y::b) ha'.2 hb⟩
   have hz':=(zlr cmp a (y::b)).mem_iff.1 hz
   rcases List.mem_append.1 hz' with hz'|hz'
   ·exact ha'.1 z hz'
   ·rcases List.mem_cons.1 hz' with rfl|hz'
    ·exact hxy
    ·exact ok.trans _ _ _ hxy (hb'.1 z hz')
termination_by a b=>a.length+b.length
variable (cmp)
variable {cmp}
end
section
variable {α:Type} [DecidableEq α] (cmp:α→α→Int)
variable {cmp}
end
section
variable {α:Type}
end
def yw0 (p o:Int) (r:Mat):Bool:=r.p==p && r.o==o
def yw1 (h:Hist) (p o:Int):Option Mat:=h.mats.find? (yw0 p o)
def yw3:Mat:=⟨0,0,false,[]⟩
def yw2 (h:Hist) (p o:Int):Mat:=(yw1 h p o).getD yw3
def yub (m:Mat) (ts:List Int):List Bool:=m.first::ts.map (fun t=>m.ts.contains t)
def ywi (h:Hist) (p o:Int):List Bool:=yub (yw2 h p o) (zf1 h o)
theorem ye4 (m:Mat) (ts:List Int):(yub m ts).length=ts.length+1:=by simp [yub]
theorem tab_len (h:Hist) (p o:Int):(ywi h p o).length=(zf1 h o).length+1:=ye4 _ _
structure Conf where
 f:Int
 t:Int
 k:Int
 a:Int
 b:Int
 o:Int
 p:Int
 deriving DecidableEq
abbrev RkM:=List ((Int×Int×Int)×Int)
def zs7 (x:Int) (v:Ver):Int×Int×Int:=(x,v.t,v.k)
theorem zi9 {x y:Int} {v w:Ver}:zs7 x v=zs7 y w ↔ x=y∧v=w:=by
 cases v;cases w;simp [zs7]
def zlf (h:Hist) (x t:Int):Ver:=ykr (zw7 h.evs t x)
def zh9 (h:Hist) (x:Int):Nat→List Int→RkM→RkM
 |_,[],m=>m
 |i,t::r,m=>zh9 h x (i+1) r (zfn (zs7 x (zlf h x t)) ((i:Int)+1) m)
def yfs (h:Hist) (x:Int) (m:RkM):RkM:=zh9 h x 0 (zf1 h x) (zfn (zs7 x ⟨0,0⟩) 0 m)
def rkM (h:Hist):Nat→RkM
 |0=> []
 |n+1=>yfs h n (rkM h n)
theorem zof (h:Hist) (x:Int):∀(l:List Int) (i:Nat) (t:Int) (m:RkM),zh9 h x i (l++ [t]) m=zfn (zs7 x (zlf h x t)) (((i+l.length:Nat):Int)+1) (zh9 h x i l m)
 | [],i,t,m=>by simp [zh9]
 |a::r,i,t,m=>by
  rw [List.cons_append,zh9,zof h x r (i+1) t,zh9,List.length_cons,show i+1+r.length=i+(r.length+1) by omega]
theorem ylu {h:Hist} {x:Int} {l:List Int} {k:Nat} (hk:k < l.length) (m:RkM):zh9 h x 0 (l.take (k+1)) m=zfn (zs7 x (zlf h x l[k])) ((k:Int)+1) (zh9 h x 0 (l.take k) m):=by
 rw [List.take_succ_eq_append_getElem hk,zof,List.length_take,Nat.min_eq_left (by omega),Nat.zero_add]
theorem zis (h:Hist) {x y:Int} (hxy:y≠x) (v:Ver):∀(l:List Int) (i:Nat) (m:RkM),zb6 (zs7 y v) (zh9 h x i l m)=zb6 (zs7 y v) m
 | [],_,_=>rfl
 |t::r,i,m=>by
  rw [zh9,zis h hxy v r (i+1),zcp,if_neg]
  intro e;exact hxy ((zi9.1 e).1).symm
theorem zrm (h:Hist) (x:Int) (v:Ver):∀(l:List Int) (i:Nat) (m:RkM),(l.map (zlf h x)).Nodup→zb6 (zs7 x v) (zh9 h x i l m)=if za9 (fun t=>zlf h x t==v) i l ≥ 0 then some (za9 (fun t=>zlf h x t==v) i l+1) else zb6 (zs7 x v) m
 | [],i,m,_=>by rw [zh9,za9,if_neg (by decide)]
 |t::r,i,m,hn=>by
  rw [List.map_cons,List.nodup_cons] at hn
  rw [zh9,zrm h x v r (i+1) _ hn.2]
  by_cases e:zlf h x t=v
  ·have hno:decide (za9 (fun t=>zlf h x t==v) (i+1) r ≥ 0)=false:=by
    rw [zeq,List.any_eq_false]
    intro z hz q
    exact hn.1 (by rw [e,←eq_of_beq q];exact List.mem_map_of_mem hz)
   have e1:za9 (fun t=>zlf h x t==v) i (t::r)=(i:Int):=by rw [za9,if_pos (by simpa using e)]
   rw [e1,if_neg (oF hno),if_pos (by omega),zcp,if_pos (by rw [e])]
  ·have e1:za9 (fun t=>zlf h x t==v) i (t::r)=za9 (fun t=>zlf h x t==v) (i+1) r:=by rw [za9,if_neg (by simpa using e)]
   rw [e1]
   by_cases q:za9 (fun t=>zlf h x t==v) (i+1) r ≥ 0
   ·rw [if_pos q,if_pos q]
   ·rw [if_neg q,if_neg q,zcp,if_neg]
    intro e2;exact e ((zi9.1 e2).2)
theorem ycy {h:Hist} (hs:zb3 h=true) {x:Int} (h0:0≤x) (h1:x < h.os.length):((zf1 h x).map (zlf h x)).Nodup∧∀t∈zf1 h x,zlf h x t≠⟨0,0⟩:=by
 obtain ⟨hn,_,hm⟩:=zm2 hs h0 h1
 have hv:∀t∈zf1 h x,(zlf h x t).t=t∧0 < (zlf h x t).k:=fun t ht=>by
  obtain ⟨w1,_⟩:=ztd.1 ((hm t).1 ht)
  obtain ⟨v,i,hf⟩:=ysp w1
  obtain ⟨_,_,_,vt,vk,_⟩:=ycx hs hf
  rw [zlf,hf];exact ⟨vt,vk⟩
 constructor
 ·rw [List.Nodup,List.pairwise_map]
  refine (List.pairwise_iff_getElem).2 fun i j hi hj hij e=> ?_
  have a:=(hv _ (List.getElem_mem hi)).1
  have b:=(hv _ (List.getElem_mem hj)).1
  rw [e] at a
  exact (List.pairwise_iff_getElem.1 hn) i j hi hj hij (a.symm.trans b)
 ·intro t ht e
  have:=(hv t ht).2
  rw [e] at this;exact absurd this (by decide)
theorem ztt (h:Hist) (x:Int) (v:Ver):∀n:Nat,(n:Int)≤x∨x < 0→zb6 (zs7 x v) (rkM h n)=none
 |0,_=>rfl
 |n+1,hx=>by
  have hne:x≠(n:Int):=by omega
  rw [rkM,yfs,zis h hne,zcp,if_neg,ztt h x v n (by omega)]
  intro e;exact hne ((zi9.1 e).1).symm
theorem yam {h:Hist} (hs:zb3 h=true) {x:Int} (v:Ver) (h0:0≤x) (h1:x < h.os.length):∀n:Nat,n≤h.os.length→x < n→zb6 (zs7 x v) (rkM h n)=if v=⟨0,0⟩ then some 0 else if zph h x v ≥ 0 then some (zph h x v+1) else none
 |0,_,hx=>absurd hx (by omega)
 |n+1,hn,hx=>by
  by_cases e:x=(n:Int)
  ·subst e
   obtain ⟨a,b⟩:=ycy hs h0 h1
   rw [rkM,yfs,zrm h _ v _ _ _ a,zcp]
   have hr:za9 (fun t=>zlf h (n:Int) t==v) 0 (zf1 h n)=zph h n v:=rfl
   rw [hr]
   by_cases hv:v=⟨0,0⟩
   ·subst hv
    have:decide (zph h n ⟨0,0⟩ ≥ 0)=false:=by
     rw [zph,zeq,List.any_eq_false]
     intro t ht q
     exact b t ht (eq_of_beq q)
    rw [if_neg (oF this),if_pos rfl,if_pos rfl]
   ·rw [if_neg hv,if_neg (fun e=>hv ((zi9.1 e).2).symm),ztt h _ v n (.inl (Int.le_refl _))]
  ·rw [rkM,yfs,zis h e,zcp,if_neg (fun q=>e ((zi9.1 q).1).symm)]
   exact yam hs v h0 h1 n (by omega) (by omega)
def zs8 (h:Hist) (x:Int) (v:Ver):Option Int:=zb6 (zs7 x v) (rkM h h.os.length)
theorem zqc {α β:Type} {f g:α→Option β}:∀{l:List α},(∀a∈l,f a=g a)→l.filterMap f=l.filterMap g
 | [],_=>rfl
 |a::r,h=>by rw [List.filterMap_cons,List.filterMap_cons,h a (by simp),zqc fun b hb=>h b (by simp [hb])]
section
variable {α:Type} {cmp:α→α→Int}
theorem zhl:∀(A1 B1 A2 B2:List α),(∀a∈A1,∀b∈B2,¬cmp b a < 0)→(∀b∈B1,∀a∈A2,cmp b a < 0)→mrg cmp (A1++A2) (B1++B2)=mrg cmp A1 B1++mrg cmp A2 B2
 | [],[],A2,B2,_,_=>by simp [mrg]
 | [],b::B,A2,B2,h1,h2=>by
   have ih:=zhl [] B A2 B2 (by simp) (fun b hb a ha=>h2 b (by simp [hb]) a ha)
   simp only [List.nil_append,mrg] at ih ⊢
   cases A2 with
   |nil=>rw [List.cons_append,mrg,←List.cons_append];simp [mrg]
   |cons a r=>rw [List.cons_append,mrg,if_pos (h2 b (by simp) a (by simp)),ih];rfl
 |a::A,[],A2,B2,h1,h2=>by
  have ih:=zhl A [] A2 B2 (fun a ha b hb=>h1 a (by simp [ha]) b hb) (by simp)
  rw [zgt] at ih ⊢
  simp only [List.nil_append] at ih ⊢
  cases B2 with
  |nil=>rw [zgt,zgt]
  |cons b r=>rw [List.cons_append,mrg,if_neg (h1 a (by simp) b (by simp)),ih];rfl
 |a::A,b::B,A2,B2,h1,h2=>by
  rw [List.cons_append,List.cons_append,mrg,mrg]
  by_cases q:cmp b a < 0
  ·rw [if_pos q,if_pos q]
   have ih:=zhl (a::A) B A2 B2 h1 (fun b hb a ha=>h2 b (by simp [hb]) a ha)
   rw [List.cons_append] at ih
   rw [ih];rfl
  ·rw [if_neg q,if_neg q]
   have ih:=zhl A (b::B) A2 B2 (fun a ha b hb=>h1 a (by simp [ha]) b hb) h2
   rw [List.cons_append] at ih
   rw [ih];rfl
termination_by A1 B1=>A1.length+B1.length
theorem zls (ok:CmpOk cmp) {L R:List α} (hL:L.Pairwise (LeC cmp)) (hR:R.Pairwise (LeC cmp)) {x y:Nat} (hx:x≤L.length) (hy:y≤R.length)
 (h1:∀_:1≤x,∀hy:y < R.length,¬cmp R[y] (L[x - 1]'(by omega)) < 0) (h2:∀hx:x < L.length,∀_:1≤y,cmp (R[y - 1]'(by omega)) L[x] < 0):
 mrg cmp L R=mrg cmp (L.take x) (R.take y)++mrg cmp (L.drop x) (R.drop y):=by
 have le:∀{l:List α},l.Pairwise (LeC cmp)→∀i j,(hi:i < l.length)→(hj:j < l.length)→i≤j→cmp l[i] l[j]≤0:=fun {l} hl i j hi hj hij=>by
  rcases Nat.lt_or_eq_of_le hij with q|q
  ·exact (List.pairwise_iff_getElem.1 hl) i j hi hj q
  ·subst q;have:=ok.anti l[i] l[i];omega
 rw [←zhl,List.take_append_drop,List.take_append_drop]
 ·intro a ha b hb hlt
  obtain ⟨i,hi,rfl⟩:=List.mem_iff_getElem.1 ha
  obtain ⟨j,hj,rfl⟩:=List.mem_iff_getElem.1 hb
  simp only [List.length_take,List.length_drop] at hi hj
  rw [List.getElem_take,List.getElem_drop] at hlt
  have e:=h1 (by omega) (by omega)
  have q1:=le hL i (x - 1) (by omega) (by omega) (by omega)
  have q2:=le hR y (y+j) (by omega) (by omega) (by omega)
  have q3:=ok.anti R[y] (L[x - 1]'(by omega))
  have q4:=ok.trans _ _ _ q1 (show cmp (L[x - 1]'(by omega)) R[y]≤0 by omega)
  have q5:=ok.trans _ _ _ q4 q2
  have q6:=ok.anti (R[y+j]'(by omega)) (L[i]'(by omega))
  omega
 ·intro b hb a ha
  obtain ⟨j,hj,rfl⟩:=List.mem_iff_getElem.1 hb
  obtain ⟨i,hi,rfl⟩:=List.mem_iff_getElem.1 ha
  simp only [List.length_take,List.length_drop] at hi hj
  rw [List.getElem_take,List.getElem_drop]
  have e:=h2 (by omega) (by omega)
  have q1:=le hR j (y - 1) (by omega) (by omega) (by omega)
  have q2:=le hL x (x+i) (by omega) (by omega) (by omega)
  have q4:=ok.trans _ _ _ q1 (Int.le_of_lt e)
  have q5:=ok.trans _ _ _ q4 q2
  rcases Int.lt_or_eq_of_le q5 with z|z
  ·exact z
  ·exfalso
   have a1:=ok.anti (R[j]'(by omega)) (L[x+i]'(by omega))
   have a2:=ok.trans _ _ _ q2 (show cmp (L[x+i]'(by omega)) (R[j]'(by omega))≤0 by omega)
   have a3:=ok.trans _ _ _ a2 q1
   have a4:=ok.anti L[x] (R[y - 1]'(by omega))
   omega
end
section
variable {α:Type} (key:α→Int)
def zbt (a b:α):Int:=key a - key b
theorem zst:CmpOk (zbt key):=⟨fun a b c h k=>by simp only [zbt] at *;omega,fun a b=>by simp only [zbt];omega⟩
def zq5 (l m:List α):Prop:=m.Pairwise (LeC (zbt key))∧∀x,(m.filter fun a=>key a==x)=l.filter fun a=>key a==x
theorem zkg (x:Int):∀(A B:List α),A.Pairwise (LeC (zbt key))→B.Pairwise (LeC (zbt key))→((mrg (zbt key) A B).filter fun a=>key a==x)=(A.filter fun a=>key a==x)++B.filter fun a=>key a==x
 | [],B,_,_=>by simp [mrg]
 |a::A,[],_,_=>by simp [mrg]
 |a::A,b::B,hA,hB=>by
  have hA':=List.pairwise_cons.1 hA
  have hB':=List.pairwise_cons.1 hB
  rw [mrg]
  split
  ·rename_i q
   have q:key b < key a:=by simp only [zbt] at q;omega
   rw [List.filter_cons,zkg x (a::A) B hA hB'.2,List.filter_cons (x:=b)]
   by_cases e:key b=x
   ·have hn:(a::A).filter (fun a=>key a==x)= []:=by
     rw [List.filter_eq_nil_iff]
     intro z hz
     have:key a≤key z:=by
      rcases List.mem_cons.1 hz with rfl|hz
      ·exact Int.le_refl _
      ·have h0:key a - key z≤0:=hA'.1 z hz
       omega
     simp;omega
    rw [hn];simp [e]
   ·simp [e]
  ·rw [List.filter_cons,zkg x A (b::B) hA'.2 hB,List.filter_cons (x:=a)]
   split <;> simp
termination_by A B=>A.length+B.length
theorem zvz {l1 l2 m1 m2:List α} (h1:zq5 key l1 m1) (h2:zq5 key l2 m2):zq5 key (l1++l2) (mrg (zbt key) m1 m2):=
 ⟨zkf (zst key) _ _ h1.1 h2.1,fun x=>by rw [zkg key x _ _ h1.1 h2.1,h1.2,h2.2,List.filter_append]⟩
theorem yfa (a:α):zq5 key [a] [a]:=⟨by simp,fun _=>rfl⟩
theorem zvy:zq5 key ([]:List α) []:=⟨.nil,fun _=>rfl⟩
theorem zfy {β:Type} {f g:Int→List β}:∀{l:List Int},(∀a∈l,f a=g a)→l.flatMap f=l.flatMap g
 | [],_=>rfl
 |a::r,h=>by rw [List.flatMap_cons,List.flatMap_cons,h a (by simp),zfy fun b hb=>h b (by simp [hb])]
theorem ykt (n:Nat) {x:Int} (h:x∈upR n):0≤x∧x < n:=by
 rw [upR,List.mem_map] at h
 obtain ⟨k,hk,rfl⟩:=h
 have:=List.mem_range.1 hk
 omega
theorem zmd:∀(n:Nat) (l:List α),l.Pairwise (LeC (zbt key))→(∀a∈l,0≤key a∧key a < n)→l=(upR n).flatMap fun x=>l.filter fun a=>key a==x
 |0,l,_,h=>by
  have:l= []:=by
   cases l with
   |nil=>rfl
   |cons a r=>have:=h a (by simp);omega
  subst this;rfl
 |n+1,l,hs,h=>by
  have e:∀l:List α,l.Pairwise (LeC (zbt key))→(∀a∈l,0≤key a∧key a < (n+1:Nat))→l=(l.filter fun a=>decide (key a < n))++l.filter fun a=>key a==(n:Int):=by
   intro l
   induction l with
   |nil=>intro _ _;rfl
   |cons a r ih=>
    intro hs h
    have hs':=List.pairwise_cons.1 hs
    have ihr:=ih hs'.2 fun z hz=>h z (by simp [hz])
    have ha:=h a (by simp)
    rw [List.filter_cons,List.filter_cons]
    by_cases q:key a < n
    ·rw [if_pos (by simpa using q),if_neg (by simp;omega),List.cons_append,←ihr]
    ·have hr:r.filter (fun a=>decide (key a < n))= []:=by
      rw [List.filter_eq_nil_iff]
      intro z hz
      have h0:key a - key z≤0:=hs'.1 z hz
      simp;omega
     rw [hr,List.nil_append] at ihr
     rw [if_neg (by simpa using q),hr,List.nil_append,if_pos (by simp;omega),←ihr]
  have h1:=e l hs h
  have hs1:(l.filter fun a=>decide (key a < n)).Pairwise (LeC (zbt key)):=hs.filter _
  have ih:=zmd n (l.filter fun a=>decide (key a < n)) hs1 fun a ha=>by
   obtain ⟨m1,m2⟩:=List.mem_filter.1 ha
   exact ⟨(h a m1).1,by simpa using m2⟩
  rw [zzx,List.flatMap_append]
  conv=>lhs;rw [h1,ih]
  congr 1
  ·refine zfy fun x hx=> ?_
   rw [List.filter_filter]
   refine List.filter_congr fun a _=> ?_
   have:=ykt n hx
   by_cases q:key a=x
   ·simp [q];omega
   ·simp [q]
  ·simp
theorem zz5 {n:Nat} {l m:List α} (h:zq5 key l m) (hk:∀a∈l,0≤key a∧key a < n):m=(upR n).flatMap fun x=>l.filter fun a=>key a==x:=by
 have hm:∀a∈m,a∈l:=fun a ha=>by
  have:a∈m.filter fun b=>key b==key a:=List.mem_filter.2 ⟨ha,by simp⟩
  rw [h.2] at this
  exact (List.mem_filter.1 this).1
 conv=>lhs;rw [zmd key n m h.1 fun a ha=>hk a (hm a ha)]
 exact zfy fun x _=>h.2 x
end
section
variable {α:Type}
def swp (l:List α) (i j:Nat):List α:=match l[i]?,l[j]? with
 |some x,some y=>(l.set i y).set j x
 |_,_=>l
theorem zvs {l:List α} {i j:Nat} {x y:α} (hi:l[i]? =some x) (hj:l[j]? =some y):swp l i j=(l.set i y).set j x:=by
 rw [swp,hi,hj]
theorem yk2 (l:List α) (i j:Nat):(swp l i j).length=l.length:=by
 unfold swp;split <;> simp
theorem ztl (A B C:List α) (x y:α):swp (A++x::(B++y::C)) A.length (A.length+1+B.length)=A++y::(B++x::C):=by
 have h1:(A++x::(B++y::C))[A.length]? =some x:=by simp
 have h2:(A++x::(B++y::C))[A.length+1+B.length]? =some y:=by
  rw [List.getElem?_append_right (by omega),show A.length+1+B.length - A.length=B.length+1 by omega,List.getElem?_cons_succ];simp
 rw [zvs h1 h2,List.set_append_right _ _ (Nat.le_refl _),Nat.sub_self,List.set_cons_zero,List.set_append_right _ _ (by omega),show A.length+1+B.length - A.length=B.length+1 by omega,List.set_cons_succ,List.set_append_right _ _ (Nat.le_refl _),Nat.sub_self,List.set_cons_zero]
def swN (l:List α) (a b:Nat):Nat→List α
 |0=>l
 |n+1=>swp (swN l a b n) (a+n) (b+n)
theorem zmc (l:List α) (a b:Nat):∀n,(swN l a b n).length=l.length
 |0=>rfl
 |n+1=>by rw [swN,yk2,zmc]
theorem yix {P X W Y Z:List α} (hXY:X.length=Y.length):∀n,n≤X.length→swN (P++(X++(W++(Y++Z)))) P.length (P.length+X.length+W.length) n=P++(Y.take n++(X.drop n++(W++(X.take n++(Y.drop n++Z)))))
 |0,_=>by simp [swN]
 |n+1,hn=>by
  have hx:n < X.length:=hn
  have hy:n < Y.length:=by omega
  rw [swN,yix hXY n (by omega),List.drop_eq_getElem_cons hx,List.drop_eq_getElem_cons hy]
  have key:=ztl (P++Y.take n) (X.drop (n+1)++(W++X.take n)) (Y.drop (n+1)++Z) X[n] Y[n]
  have e1:(P++Y.take n).length=P.length+n:=by simp;omega
  have e2:(P++Y.take n).length+1+(X.drop (n+1)++(W++X.take n)).length=P.length+X.length+W.length+n:=by simp;omega
  rw [e2,e1] at key
  have e3:P++(Y.take n++(X[n]::X.drop (n+1)++(W++(X.take n++(Y[n]::Y.drop (n+1)++Z)))))=P++Y.take n++X[n]::(X.drop (n+1)++(W++X.take n)++Y[n]::(Y.drop (n+1)++Z)):=by simp only [List.append_assoc,List.cons_append]
  rw [e3,key,List.take_succ_eq_append_getElem hx,List.take_succ_eq_append_getElem hy]
  simp only [List.append_assoc,List.cons_append,List.nil_append]
theorem zpc {P X W Y Z:List α} (hXY:X.length=Y.length):swN (P++(X++(W++(Y++Z)))) P.length (P.length+X.length+W.length) X.length=P++(Y++(W++(X++Z))):=by
 rw [yix hXY _ (Nat.le_refl _),List.take_length,List.drop_length,hXY,List.take_length,List.drop_length];simp
def Rot (m i j:Nat) (cur T:List α):Prop:=∃P I J Z,cur=P++(I++(J++Z))∧P.length+i=m∧I.length=i∧J.length=j∧P++(J++(I++Z))=T
theorem yp8 {m i j:Nat} {cur T:List α} (h:Rot m i j cur T) (hij:j < i):Rot m (i - j) j (swN cur (m - i) m j) T:=by
 obtain ⟨P,I,J,Z,rfl,hp,hi,hj,rfl⟩:=h
 have e:I=I.take j++I.drop j:=(List.take_append_drop j I).symm
 have hX:(I.take j).length=J.length:=by rw [List.length_take];omega
 have key:=zpc (P:=P) (X:=I.take j) (W:=I.drop j) (Y:=J) (Z:=Z) hX
 have e1:P.length+(I.take j).length+(I.drop j).length=m:=by simp;omega
 rw [e1,show (I.take j).length=j by omega] at key
 refine ⟨P++J,I.drop j,I.take j,Z,?_,by simp;omega,by simp;omega,by omega,?_⟩
 ·conv=>lhs;rw [e]
  rw [show m - i=P.length by omega,List.append_assoc (I.take j),key,List.append_assoc]
 ·rw [←List.append_assoc (I.take j) (I.drop j) Z,List.take_append_drop,List.append_assoc]
theorem yp7 {m i j:Nat} {cur T:List α} (h:Rot m i j cur T) (hij:i < j):Rot m i (j - i) (swN cur (m - i) (m+j - i) i) T:=by
 obtain ⟨P,I,J,Z,rfl,hp,hi,hj,rfl⟩:=h
 have e:J=J.take (j - i)++J.drop (j - i):=(List.take_append_drop _ J).symm
 have hX:I.length=(J.drop (j - i)).length:=by rw [List.length_drop];omega
 have key:=zpc (P:=P) (X:=I) (W:=J.take (j - i)) (Y:=J.drop (j - i)) (Z:=Z) hX
 have e1:P.length+I.length+(J.take (j - i)).length=m+j - i:=by simp;omega
 rw [e1,hi] at key
 refine ⟨P,J.drop (j - i),J.take (j - i),I++Z,?_,hp,by omega,by rw [List.length_take];omega,?_⟩
 ·conv=>lhs;rw [e]
  rw [show m - i=P.length by omega,List.append_assoc (J.take (j - i)),key]
 ·rw [←List.append_assoc (J.take (j - i)) (J.drop (j - i)) (I++Z),List.take_append_drop]
theorem yp9 {m i:Nat} {cur T:List α} (h:Rot m i i cur T):swN cur (m - i) m i=T:=by
 obtain ⟨P,I,J,Z,rfl,hp,hi,hj,rfl⟩:=h
 have key:=zpc (P:=P) (X:=I) (W:= []) (Y:=J) (Z:=Z) (by omega)
 simp only [List.nil_append,List.length_nil,Nat.add_zero] at key
 rw [hi,hp] at key
 rw [show m - i=P.length by omega];exact key
end
section
variable {α:Type} {cmp:α→α→Int}
def isL (cmp:α→α→Int) (l:List α):List α:=l.foldl (fun s x=>mrg cmp s [x]) []
theorem yrx (l:List α) (x:α):isL cmp (l++ [x])=mrg cmp (isL cmp l) [x]:=by rw [isL,List.foldl_append];rfl
theorem zfu:∀A B:List α,(mrg cmp A B).length=A.length+B.length
 | [],B=>by simp [mrg]
 |a::A,[]=>by simp [mrg]
 |a::A,b::B=>by
  rw [mrg];split
  ·rw [List.length_cons,zfu (a::A) B];simp;omega
  ·rw [List.length_cons,zfu A (b::B)];simp;omega
termination_by A B=>A.length+B.length
theorem zix (l:List α):(isL cmp l).length=l.length:=by
 suffices ∀(l s:List α),(l.foldl (fun s x=>mrg cmp s [x]) s).length=s.length+l.length by simpa [isL] using this l []
 intro l
 induction l with
 |nil=>intro s;simp
 |cons a l ih=>intro s;rw [List.foldl_cons,ih,zfu];simp;omega
theorem ygq {A:List α} {x:α} (h:∀a∈A,cmp x a < 0):mrg cmp A [x]=x::A:=by
 cases A with
 |nil=>simp [mrg]
 |cons a r=>rw [mrg,if_pos (h a (by simp)),zgt]
theorem yng (ok:CmpOk cmp) {S:List α} (hS:S.Pairwise (LeC cmp)) {x:α} {k:Nat} (hk:k≤S.length) (h1:∀a∈S.drop k,cmp x a < 0) (h2:∀_:1≤k,¬cmp x (S[k - 1]'(by omega)) < 0):mrg cmp S [x]=S.take k++x::S.drop k:=by
 rw [zls ok hS (R:= [x]) (by simp) hk (Nat.zero_le _) (fun hk1 _=>h2 hk1) (fun _ h=>by omega)]
 simp only [List.take_zero,List.drop_zero,zgt]
 rw [ygq h1]
end
section
variable {α:Type} (key:α→Int)
theorem zpe (l:List α):zq5 key l (isL (zbt key) l):=by
 suffices ∀n,n≤l.length→zq5 key (l.take n) (isL (zbt key) (l.take n)) by simpa using this l.length (Nat.le_refl _)
 intro n
 induction n with
 |zero=>intro _;simpa [isL] using zvy key
 |succ n ih=>
  intro hn
  rw [List.take_succ_eq_append_getElem hn,yrx]
  exact zvz key (ih (by omega)) (yfa key _)
def zn1 (D:List (List α×List α)):Nat:=(D.map fun p=>p.2.length).sum
def zvg (D:List (List α×List α)):Prop:=∀p∈D,zq5 key p.1 p.2∧p.2.length=p.1.length
def Bl (bs:Nat):List (List α×List α)→Prop
 | []=>True
 | [p]=>p.2.length≤bs
 |p::q::r=>p.2.length=bs∧Bl bs (q::r)
def Fst (D:List (List α×List α)):List α:=(D.map Prod.fst).flatten
def Snd (D:List (List α×List α)):List α:=(D.map Prod.snd).flatten
theorem zfs (D:List (List α×List α)):(Snd D).length=zn1 D:=by simp [Snd,zn1,List.length_flatten,Function.comp_def]
theorem zm4 (D E:List (List α×List α)):Fst (D++E)=Fst D++Fst E:=by simp [Fst]
theorem zme (D E:List (List α×List α)):Snd (D++E)=Snd D++Snd E:=by simp [Snd]
theorem zwh {x y:List α×List α} (hx:zq5 key x.1 x.2∧x.2.length=x.1.length) (hy:zq5 key y.1 y.2∧y.2.length=y.1.length):zq5 key (x.1++y.1) (mrg (zbt key) x.2 y.2)∧(mrg (zbt key) x.2 y.2).length=(x.1++y.1).length:=
 ⟨zvz key hx.1 hy.1,by rw [zfu,List.length_append,hx.2,hy.2]⟩
theorem ys6 {bs:Nat} (h0:1≤bs) {D:List (List α×List α)} (hB:Bl bs D) (ht:2 * bs≤zn1 D):∃x y r,D=x::y::r∧x.2.length=bs∧y.2.length=bs∧Bl bs r:=by
 match D,hB,ht with
 | [],_,ht=>simp [zn1] at ht;omega
 | [p],hB,ht=>have hB:p.2.length≤bs:=hB;simp [zn1] at ht;omega
 | [x,y],hB,ht=>
   obtain ⟨h1,h2⟩:=hB
   have h2:y.2.length≤bs:=h2
   refine ⟨x,y,[],rfl,h1,?_,trivial⟩
   simp [zn1] at ht;omega
 |x::y::z::r,hB,ht=>exact ⟨x,y,z::r,rfl,hB.1,hB.2.1,hB.2.2⟩
theorem yj0 {bs:Nat} {D:List (List α×List α)} (hB:Bl bs D) (hP:zvg key D) (ht:zn1 D < 2 * bs):(zn1 D≤bs∧zq5 key (Fst D) (Snd D)∧(Snd D).length=(Fst D).length)∨(bs < zn1 D∧∃x y,D= [x,y]∧x.2.length=bs):=by
 match D,hB,hP,ht with
 | [],_,_,_=>exact .inl ⟨by simp [zn1],zvy key,rfl⟩
 | [p],hB,hP,_=>
   have h:=hP p (by simp)
   exact .inl ⟨by simpa [zn1,Bl] using hB,by simpa [Fst,Snd] using h.1,by simpa [Fst,Snd] using h.2⟩
 | [x,y],hB,hP,ht=>
   obtain ⟨h1,h2⟩:=hB
   have hx:=hP x (by simp)
   have hy:=hP y (by simp)
   by_cases q:y.2= []
   ·have q1:y.1= []:=by
     have:=hy.2
     rw [q] at this
     exact List.eq_nil_of_length_eq_zero this.symm
    exact .inl ⟨by simp [zn1,q,h1],by simpa [Fst,Snd,q,q1] using hx.1,by simpa [Fst,Snd,q,q1] using hx.2⟩
   ·refine .inr ⟨?_,x,y,rfl,h1⟩
    have:0 < y.2.length:=List.length_pos_iff.2 q
    simp [zn1,h1];omega
 |x::y::z::r,hB,hP,ht=>
  obtain ⟨h1,h2,_⟩:=hB
  simp [zn1] at ht;omega
end
section
variable {α:Type} (key:α→Int)
def St1 (bs:Nat) (l cur:List α) (a:Nat):Prop:=∃D R,zvg key D∧(∀p∈D,p.2.length=bs)∧l=Fst D++R∧cur=Snd D++R∧a=bs * D.length
def St2 (bs:Nat) (l cur:List α):Prop:=∃D,zvg key D∧Bl bs D∧l=Fst D∧cur=Snd D
def St3 (bs:Nat) (l cur:List α) (a:Nat):Prop:=∃E D,zvg key E∧zvg key D∧(∀p∈E,p.2.length=2 * bs)∧Bl bs D∧l=Fst E++Fst D∧cur=Snd E++Snd D∧a=2 * bs * E.length
theorem zhz {bs:Nat}:∀{D:List (List α×List α)},(∀p∈D,p.2.length=bs)→zn1 D=bs * D.length
 | [],_=>by simp [zn1]
 |p::D,h=>by
  have h1:=zhz (D:=D) fun q hq=>h q (by simp [hq])
  have h2:=h p (by simp)
  have e:zn1 (p::D)=p.2.length+zn1 D:=by simp [zn1]
  rw [e,h1,h2,List.length_cons,Nat.mul_succ];omega
theorem zqo {bs:Nat}:∀{D:List (List α×List α)} {p:List α×List α},(∀q∈D,q.2.length=bs)→p.2.length≤bs→Bl bs (D++ [p])
 | [],p,_,hp=>hp
 | [q],p,h,hp=>⟨h q (by simp),hp⟩
 |q::r::D,p,h,hp=>⟨h q (by simp),zqo (D:=r::D) (fun z hz=>h z (by simp [hz])) hp⟩
variable {key}
theorem zga {D:List (List α×List α)} {p:List α×List α} (hD:zvg key D) (hp:zq5 key p.1 p.2∧p.2.length=p.1.length):zvg key (D++ [p]):=fun q hq=>by
 rcases List.mem_append.1 hq with h|h
 ·exact hD q h
 ·rw [List.mem_singleton.1 h];exact hp
theorem yue (bs:Nat) (l:List α):St1 key bs l l 0:=⟨[],l,fun p hp=>by simp at hp,fun p hp=>by simp at hp,by simp [Fst],by simp [Snd],by simp⟩
theorem yfd {bs a:Nat} {l cur:List α} (h:St1 key bs l cur a) (hb:a+bs≤cur.length):∃P M Z,cur=P++(M++Z)∧P.length=a∧M.length=bs∧St1 key bs l (P++(isL (zbt key) M++Z)) (a+bs):=by
 obtain ⟨D,R,h1,h2,rfl,rfl,rfl⟩:=h
 have e:(Snd D).length=bs * D.length:=by rw [zfs,zhz h2]
 rw [List.length_append,e] at hb
 have eR:R=R.take bs++R.drop bs:=(List.take_append_drop bs R).symm
 have hm:(R.take bs).length=bs:=by rw [List.length_take];omega
 refine ⟨Snd D,R.take bs,R.drop bs,by rw [List.take_append_drop],e,hm,D++ [(R.take bs,isL (zbt key) (R.take bs))],R.drop bs,zga h1 ⟨zpe key _,zix _⟩,fun p hp=> ?_,?_,?_,by rw [List.length_append,List.length_singleton,Nat.mul_add];omega⟩
 ·rcases List.mem_append.1 hp with h|h
  ·exact h2 p h
  ·rw [List.mem_singleton.1 h,zix,hm]
 ·rw [zm4];simp [Fst]
 ·rw [zme];simp [Snd]
theorem yk7 {bs a:Nat} {l cur:List α} (h:St1 key bs l cur a) (hb:cur.length < a+bs):∃P M,cur=P++M∧P.length=a∧St2 key bs l (P++isL (zbt key) M):=by
 obtain ⟨D,R,h1,h2,rfl,rfl,rfl⟩:=h
 have e:(Snd D).length=bs * D.length:=by rw [zfs,zhz h2]
 rw [List.length_append,e] at hb
 refine ⟨Snd D,R,rfl,e,D++ [(R,isL (zbt key) R)],zga h1 ⟨zpe key _,zix _⟩,zqo h2 (by rw [zix];omega),?_,?_⟩
 ·rw [zm4];simp [Fst]
 ·rw [zme];simp [Snd]
theorem yud {bs:Nat} {l cur:List α} (h:St2 key bs l cur):St3 key bs l cur 0:=by
 obtain ⟨D,h1,h2,rfl,rfl⟩:=h
 exact ⟨[],D,fun p hp=>by simp at hp,h1,fun p hp=>by simp at hp,h2,by simp [Fst],by simp [Snd],by simp⟩
theorem yk4 {bs a:Nat} {l cur:List α} (h:St3 key bs l cur a):a≤cur.length:=by
 obtain ⟨E,D,h1,h2,h3,h4,rfl,rfl,rfl⟩:=h
 rw [List.length_append,zfs,zhz h3];omega
theorem yfc {bs a:Nat} (h0:1≤bs) {l cur:List α} (h:St3 key bs l cur a) (hb:a+2 * bs≤cur.length):∃P L R Z,cur=P++(L++(R++Z))∧P.length=a∧L.length=bs∧R.length=bs∧L.Pairwise (LeC (zbt key))∧R.Pairwise (LeC (zbt key))∧St3 key bs l (P++(mrg (zbt key) L R++Z)) (a+2 * bs):=by
 obtain ⟨E,D,h1,h2,h3,h4,rfl,rfl,rfl⟩:=h
 have e:(Snd E).length=2 * bs * E.length:=by rw [zfs,zhz h3]
 rw [List.length_append,e,zfs] at hb
 obtain ⟨x,y,r,rfl,hx,hy,hr⟩:=ys6 h0 h4 (by omega)
 have px:=h2 x (by simp)
 have py:=h2 y (by simp)
 refine ⟨Snd E,x.2,y.2,Snd r,by simp [Snd],e,hx,hy,px.1.1,py.1.1,E++ [(x.1++y.1,mrg (zbt key) x.2 y.2)],r,zga h1 (zwh key px py),fun p hp=>h2 p (by simp [hp]),fun p hp=> ?_,hr,?_,?_,by rw [List.length_append,List.length_singleton,Nat.mul_add];omega⟩
 ·rcases List.mem_append.1 hp with h|h
  ·exact h3 p h
  ·rw [List.mem_singleton.1 h,zfu];omega
 ·rw [zm4];simp [Fst]
 ·rw [zme];simp [Snd]
theorem yk5 {bs a:Nat} {l cur:List α} (h:St3 key bs l cur a) (hb:cur.length < a+2 * bs):(cur.length≤a+bs∧St2 key (2 * bs) l cur)∨(a+bs < cur.length∧∃P L R,cur=P++(L++R)∧P.length=a∧L.length=bs∧L.Pairwise (LeC (zbt key))∧R.Pairwise (LeC (zbt key))∧St2 key (2 * bs) l (P++mrg (zbt key) L R)):=by
 obtain ⟨E,D,h1,h2,h3,h4,rfl,rfl,rfl⟩:=h
 have e:(Snd E).length=2 * bs * E.length:=by rw [zfs,zhz h3]
 rw [List.length_append,e,zfs] at hb
 rw [List.length_append,e,zfs]
 rcases yj0 key h4 h2 (by omega) with ⟨q1,q2,q3⟩|⟨q1,x,y,rfl,hx⟩
 ·refine .inl ⟨by omega,E++ [(Fst D,Snd D)],zga h1 ⟨q2,q3⟩,zqo h3 (by rw [zfs];omega),?_,?_⟩
  ·rw [zm4];simp [Fst]
  ·rw [zme];simp [Snd]
 ·have px:=h2 x (by simp)
  have py:=h2 y (by simp)
  have ht:zn1 [x,y]=x.2.length+y.2.length:=by simp [zn1]
  refine .inr ⟨by omega,Snd E,x.2,y.2,by simp [Snd],e,hx,px.1.1,py.1.1,E++ [(x.1++y.1,mrg (zbt key) x.2 y.2)],zga h1 (zwh key px py),zqo h3 (by rw [zfu];omega),?_,?_⟩
  ·rw [zm4];simp [Fst]
  ·rw [zme];simp [Snd]
theorem yk6 {bs:Nat} (h0:1≤bs) {l cur:List α} (h:St2 key bs l cur) (hb:cur.length≤bs):zq5 key l cur:=by
 obtain ⟨D,h1,h2,rfl,rfl⟩:=h
 rw [zfs] at hb
 rcases yj0 key h2 h1 (by omega) with ⟨_,q2,_⟩|⟨q1,_⟩
 ·exact q2
 ·omega
end
section
variable {α:Type} {cmp:α→α→Int}
theorem ymr (ok:CmpOk cmp) {x:α} {R:List α} (hR:R.Pairwise (LeC cmp)) {y:Nat} (hy:y≤R.length) (h1:∀_:1≤y,cmp (R[y - 1]'(by omega)) x < 0) (h2:∀h:y < R.length,¬cmp R[y] x < 0):mrg cmp [x] R=R.take y++x::R.drop y:=by
 rw [zls ok (L:= [x]) (by simp) hR (x:=0) (Nat.zero_le _) hy (fun h _=>by omega) (fun _ hy=>h1 hy)]
 simp only [List.take_zero,List.drop_zero,List.nil_append]
 rw [show mrg cmp [] (R.take y)=R.take y by simp [mrg]]
 congr 1
 cases hd:R.drop y with
 |nil=>rw [zgt]
 |cons b r=>
  have hlt:y < R.length:=by
   have:=congrArg List.length hd
   simp at this;omega
  rw [List.drop_eq_getElem_cons hlt] at hd
  injection hd with e1 e2
  have h3:=h2 hlt
  rw [e1] at h3
  rw [mrg,if_neg h3];simp [mrg]
theorem ygp (ok:CmpOk cmp) {y:α} {L:List α} (hL:L.Pairwise (LeC cmp)) {x:Nat} (hx:x≤L.length) (h1:∀_:1≤x,¬cmp y (L[x - 1]'(by omega)) < 0) (h2:∀h:x < L.length,cmp y L[x] < 0):mrg cmp L [y]=L.take x++y::L.drop x:=by
 rw [zls ok hL (R:= [y]) (by simp) hx (y:=0) (Nat.zero_le _) (fun h _=>h1 h) (fun _ h=>by omega)]
 simp only [List.take_zero,List.drop_zero,zgt]
 congr 1
 cases hd:L.drop x with
 |nil=>simp [mrg]
 |cons b r=>
  have hlt:x < L.length:=by
   have:=congrArg List.length hd
   simp at this;omega
  rw [List.drop_eq_getElem_cons hlt] at hd
  injection hd with e1 e2
  have h3:=h2 hlt
  rw [e1] at h3
  rw [mrg,if_pos h3,zgt]
theorem yu2 {P Z:List α} {x:α} {R:List α} {k:Nat} (hk:k < R.length):swp (P++(R.take k++x::(R.drop k++Z))) (P.length+k) (P.length+k+1)=P++(R.take (k+1)++x::(R.drop (k+1)++Z)):=by
 have key:=ztl (P++R.take k) [] (R.drop (k+1)++Z) x R[k]
 have e1:(P++R.take k).length=P.length+k:=by simp;omega
 rw [e1,List.length_nil,Nat.add_zero,List.nil_append,List.nil_append] at key
 rw [List.drop_eq_getElem_cons hk,List.take_succ_eq_append_getElem hk]
 simp only [List.append_assoc,List.cons_append,List.nil_append] at key ⊢
 exact key
theorem yu3 {P Z:List α} {y:α} {L:List α} {k:Nat} (hk:k < L.length):swp (P++(L.take (k+1)++y::(L.drop (k+1)++Z))) (P.length+k) (P.length+k+1)=P++(L.take k++y::(L.drop k++Z)):=by
 have key:=ztl (P++L.take k) [] (L.drop (k+1)++Z) L[k] y
 have e1:(P++L.take k).length=P.length+k:=by simp;omega
 rw [e1,List.length_nil,Nat.add_zero,List.nil_append,List.nil_append] at key
 rw [List.drop_eq_getElem_cons hk,List.take_succ_eq_append_getElem hk]
 simp only [List.append_assoc,List.cons_append,List.nil_append] at key ⊢
 exact key
end
section
variable {α:Type} {cmp:α→α→Int}
def SmI (cmp:α→α→Int) (L R:List α) (a m b mid s0 r0 s r:Nat):Prop:=s0≤s∧s≤r∧r≤r0∧
 (s0 < s→∀u v,R[mid - s]? =some u→L[s - 1 - a]? =some v→¬cmp u v < 0)∧(r < r0→∀u v,R[mid - 1 - r]? =some u→L[r - a]? =some v→cmp u v < 0)
def SmS (L R:List α) (a m b mid s0 r0:Nat):Prop:=a+L.length=m∧m+R.length=b∧mid=(a+b) / 2∧((mid < m∧s0=mid+m - b∧r0=mid)∨(m≤mid∧s0=a∧r0=m))
theorem ywo {L R:List α} {a m b mid s0 r0:Nat} (h:SmS L R a m b mid s0 r0):SmI cmp L R a m b mid s0 r0 s0 r0:=by
 obtain ⟨h1,h2,h3,h4⟩:=h
 exact ⟨Nat.le_refl _,by omega,Nat.le_refl _,fun q=>by omega,fun q=>by omega⟩
theorem yug {L R:List α} {a m b mid s0 r0 s r:Nat} (hS:SmS L R a m b mid s0 r0) (h:SmI cmp L R a m b mid s0 r0 s r) (hsr:s < r):a≤(s+r) / 2∧(s+r) / 2 < m∧m≤mid+m - 1 - (s+r) / 2∧mid+m - 1 - (s+r) / 2 < b∧(s+r) / 2 - a < L.length∧mid+m - 1 - (s+r) / 2 - m < R.length∧mid+m - 1 - (s+r) / 2 - m=mid - 1 - (s+r) / 2∧(s+r) / 2≤mid+m - 1∧s≤(s+r) / 2∧(s+r) / 2 < r:=by
 obtain ⟨h1,h2,h3,h4⟩:=hS
 obtain ⟨g1,g2,g3,_⟩:=h
 omega
theorem ywm {L R:List α} {a m b mid s0 r0 s r c:Nat} (hS:SmS L R a m b mid s0 r0) (h:SmI cmp L R a m b mid s0 r0 s r) (hsr:s < r) (hc:c=(s+r) / 2) {u v:α} (hu:R[mid - 1 - c]? =some u) (hv:L[c - a]? =some v) (hn:¬cmp u v < 0):SmI cmp L R a m b mid s0 r0 (c+1) r:=by
 have hb:=yug hS h hsr
 obtain ⟨g1,g2,g3,g4,g5⟩:=h
 subst hc
 refine ⟨by omega,by omega,g3,fun _ u' v' e1 e2=> ?_,g5⟩
 rw [show mid - ((s+r) / 2+1)=mid - 1 - (s+r) / 2 by omega,hu] at e1
 rw [show (s+r) / 2+1 - 1 - a=(s+r) / 2 - a by omega,hv] at e2
 cases e1;cases e2;exact hn
theorem ywn {L R:List α} {a m b mid s0 r0 s r c:Nat} (hS:SmS L R a m b mid s0 r0) (h:SmI cmp L R a m b mid s0 r0 s r) (hsr:s < r) (hc:c=(s+r) / 2) {u v:α} (hu:R[mid - 1 - c]? =some u) (hv:L[c - a]? =some v) (hn:cmp u v < 0):SmI cmp L R a m b mid s0 r0 s c:=by
 have hb:=yug hS h hsr
 obtain ⟨g1,g2,g3,g4,g5⟩:=h
 subst hc
 refine ⟨g1,by omega,by omega,g4,fun _ u' v' e1 e2=> ?_⟩
 rw [hu] at e1
 rw [hv] at e2
 cases e1;cases e2;exact hn
theorem ypx (ok:CmpOk cmp) {L R:List α} (hL:L.Pairwise (LeC cmp)) (hR:R.Pairwise (LeC cmp)) {a m b mid s0 r0 s:Nat} (hS:SmS L R a m b mid s0 r0) (h:SmI cmp L R a m b mid s0 r0 s s):
 ∃x y,s=a+x∧mid=a+x+y∧x≤L.length∧y≤R.length∧mrg cmp L R=mrg cmp (L.take x) (R.take y)++mrg cmp (L.drop x) (R.drop y):=by
 obtain ⟨h1,h2,h3,h4⟩:=hS
 obtain ⟨g1,g2,g3,g4,g5⟩:=h
 have hx:s - a≤L.length:=by omega
 have hy:mid - s≤R.length:=by omega
 refine ⟨s - a,mid - s,by omega,by omega,hx,hy,?_⟩
 refine zls ok hL hR hx hy (fun q1 q2=> ?_) (fun q1 q2=> ?_)
 ·by_cases q:s0 < s
  ·refine g4 q _ _ (List.getElem?_eq_getElem q2) ?_
   rw [show s - 1 - a=s - a - 1 by omega];exact List.getElem?_eq_getElem _
  ·omega
 ·by_cases q:s < r0
  ·refine g5 q _ _ ?_ (List.getElem?_eq_getElem q1)
   rw [show mid - 1 - s=mid - s - 1 by omega];exact List.getElem?_eq_getElem _
  ·omega
theorem ypw {P L R Z:List α} {a m x y:Nat} (hp:P.length=a) (hm:a+L.length=m) (hx:x≤L.length) (hy:y≤R.length):
 Rot m (L.length - x) y (P++(L++(R++Z))) (P++(L.take x++(R.take y++(L.drop x++(R.drop y++Z))))):=by
 refine ⟨P++L.take x,L.drop x,R.take y,R.drop y++Z,?_,by simp;omega,by simp,by simp;omega,by simp only [List.append_assoc]⟩
 rw [List.append_assoc,←List.append_assoc (L.take x),List.take_append_drop,←List.append_assoc (R.take y),List.take_append_drop]
theorem yld {P L R Z:List α} {x y:Nat} (h:x=L.length∨y=0):P++(L++(R++Z))=P++(L.take x++(R.take y++(L.drop x++(R.drop y++Z)))):=by
 rcases h with rfl|rfl
 ·rw [List.take_length,List.drop_length,List.nil_append,←List.append_assoc (R.take y),List.take_append_drop]
 ·rw [List.take_zero,List.drop_zero,List.nil_append,←List.append_assoc (L.take x),List.take_append_drop]
theorem ylc {A B:List α} (h:A= []∨B= []):A++B=mrg cmp A B:=by
 rcases h with rfl|rfl
 ·simp [mrg]
 ·rw [zgt,List.append_nil]
theorem zvn {L:List α} (h:L.Pairwise (LeC cmp)) (x:Nat):(L.take x).Pairwise (LeC cmp):=h.sublist (List.take_sublist _ _)
theorem zxc {L:List α} (h:L.Pairwise (LeC cmp)) (x:Nat):(L.drop x).Pairwise (LeC cmp):=h.sublist (List.drop_sublist _ _)
end
structure Brch where
 g:Int
 e:Int
 l:Int
 o:Int
 a:Int
 b:Int
 deriving DecidableEq
def zb9 (c:Brch):List AV:= [iv c.g,iv c.e,iv c.l,iv c.o,iv c.a,iv c.b]
structure Acc where
 o:Int
 r:Int
 a:Int
 deriving DecidableEq
def accR (a:Acc):List AV:= [iv a.o,iv a.r,iv a.a]
def zno (h:Hist) (t kd:Int) (k:Nat) (e:Ev):List Acc:=if (e.t==t && e.kind==kd)=true then (match zs8 h e.o e.v with|some r=> [⟨e.o,r,k⟩]|none=> []) else []
def zqv (h:Hist) (t kd:Int):Nat→List Acc
 |0=> []
 |k+1=>zqv h t kd k++(match h.evs[k]? with|some e=>zno h t kd k e|none=> [])
def zn0 (h:Hist) (t kd:Int):List Acc:=zqv h t kd h.evs.length
def zn6 (n:Nat) (l:List Acc):List Acc:=(upR n).flatMap fun x=>l.filter fun a=>a.o==x
def brk (g t1 t2:Int) (a b:Acc):Option Brch:=if (a.o==b.o && decide (b.r < a.r))=true then some ⟨g,t1,t2,a.o,a.a,b.a⟩ else none
def yic (n:Nat) (g t1 t2:Int) (A B:List Acc):List Brch:=(zn6 n A).flatMap fun a=>(zn6 n B).filterMap (brk g t1 t2 a)
def ys9 (n:Nat) (g t1 t2:Int) (A B:List Acc):List Brch:=(upR n).flatMap fun x=>(A.filter fun a=>a.o==x).flatMap fun a=>(B.filter fun b=>b.o==x).filterMap fun b=>if b.r < a.r then some ⟨g,t1,t2,x,a.a,b.a⟩ else none
theorem zm5 {α:Type} {f:Int→List α} {x:Int}:∀{l:List Int},l.Nodup→x∈l→(∀y∈l,y≠x→f y= [])→l.flatMap f=f x
 | [],_,h,_=>by cases h
 |y::r,hn,hx,hf=>by
  rw [List.nodup_cons] at hn
  rw [List.flatMap_cons]
  by_cases e:y=x
  ·subst e
   have:r.flatMap f= []:=by
    rw [List.flatMap_eq_nil_iff]
    intro z hz
    exact hf z (by simp [hz]) fun e=>hn.1 (e ▸ hz)
   rw [this,List.append_nil]
  ·rw [hf y (by simp) e,List.nil_append]
   rcases List.mem_cons.1 hx with q|q
   ·exact absurd q.symm e
   ·exact zm5 hn.2 q fun z hz=>hf z (by simp [hz])
theorem zzy (n:Nat):(upR n).Nodup:=(yiu n).imp fun h e=>by omega
theorem zcm {α β:Type} {f g:α→List β}:∀{l:List α},(∀a∈l,f a=g a)→l.flatMap f=l.flatMap g
 | [],_=>rfl
 |a::r,h=>by rw [List.flatMap_cons,List.flatMap_cons,h a (by simp),zcm fun b hb=>h b (by simp [hb])]
theorem zgd {α β γ:Type} {f:α→List β} {g:β→Option γ}:∀{l:List α},(l.flatMap f).filterMap g=l.flatMap fun a=>(f a).filterMap g
 | []=>rfl
 |a::r=>by rw [List.flatMap_cons,List.filterMap_append,zgd,List.flatMap_cons]
theorem ys8 (n:Nat) (g t1 t2:Int) (A B:List Acc):yic n g t1 t2 A B=ys9 n g t1 t2 A B:=by
 rw [yic,ys9,show zn6 n A=(upR n).flatMap (fun x=>A.filter fun a=>a.o==x) from rfl,List.flatMap_assoc]
 refine zcm fun x hx=>zcm fun a ha=> ?_
 have ha:a.o=x:=by simpa using (List.mem_filter.1 ha).2
 rw [zn6,zgd,zm5 (x:=x) (zzy n) hx]
 ·refine zqc fun b hb=> ?_
  have hb:b.o=x:=by simpa using (List.mem_filter.1 hb).2
  rw [brk,ha,hb]
  by_cases q:b.r < a.r <;> simp [q]
 ·intro y _ hy
  rw [List.filterMap_eq_nil_iff]
  intro b hb
  have hb:b.o=y:=by simpa using (List.mem_filter.1 hb).2
  rw [brk,ha,hb,if_neg]
  simp [Ne.symm hy]
structure Doi where
 t:Int
 A:List Acc
 B:List Acc
def brL (n:Nat) (g:Int) (ds:List Doi):Nat→List Brch
 |0=> []
 |k+1=>brL n g ds k++(match ds[k]? with|some d=>(ds.take k).filterMap (fun e=>(yic n g e.t d.t e.A d.B).head?)|none=> [])
def blk (n:Nat) (g:Int) (ds:List Doi):Nat→List (List Brch)
 |0=> []
 |k+1=>blk n g ds k++(match ds[k]? with|some d=>(ds.take k).map (fun e=>yic n g e.t d.t e.A d.B)|none=> [])
theorem ydr (n:Nat) (g:Int) (ds:List Doi):∀k,brL n g ds k=(blk n g ds k).filterMap List.head?
 |0=>rfl
 |k+1=>by
  rw [brL,blk,List.filterMap_append,ydr n g ds k]
  cases ds[k]? with
  |none=>rfl
  |some d=>simp only [List.filterMap_map];rfl
def zqh (n:Nat) (g:Int) (ds:List Doi):Nat→List Brch
 |0=> []
 |k+1=>zqh n g ds k++(match ds[k]? with|some d=>(ds.take k).flatMap (fun e=>ys9 n g e.t d.t e.A d.B)|none=> [])
theorem zm9 (n:Nat) (g:Int) (ds:List Doi):∀k,zqh n g ds k=(blk n g ds k).flatten
 |0=>rfl
 |k+1=>by
  rw [zqh,blk,List.flatten_append,zm9 n g ds k]
  cases ds[k]? with
  |none=>rfl
  |some d=>simp only [List.flatMap_def,←ys8]
theorem zsa {α:Type}:∀L:List (List α),(L.filterMap List.head?).head? =L.flatten.head?
 | []=>rfl
 | []::r=>by rw [List.filterMap_cons,List.flatten_cons,List.nil_append];exact zsa r
 |(a::l)::r=>rfl
theorem zou (n:Nat) (g:Int) (ds:List Doi) (k:Nat):(brL n g ds k).head? =(zqh n g ds k).head? :=by rw [ydr,zm9,zsa]
theorem ybi (n:Nat) (g:Int) (ds:List Doi) (k:Nat):brL n g ds k= [] ↔ zqh n g ds k= []:=by
 rw [←List.head?_eq_none_iff,←List.head?_eq_none_iff,zou]
theorem zu8 {n:Nat} {g:Int} {ds:List Doi} {X:List Brch}:∀{k:Nat},X∈blk n g ds k ↔ ∃i j,∃hj:j < ds.length,∃hij:i < j,j < k∧X=yic n g (ds[i]'(by omega)).t ds[j].t (ds[i]'(by omega)).A ds[j].B
 |0=>by simp [blk]
 |k+1=>by
  rw [blk,List.mem_append,zu8]
  constructor
  ·rintro (⟨i,j,hj,hij,hk,e⟩|h)
   ·exact ⟨i,j,hj,hij,by omega,e⟩
   ·by_cases hk:k < ds.length
    ·rw [List.getElem?_eq_getElem hk] at h
     obtain ⟨e,he,rfl⟩:=List.mem_map.1 h
     obtain ⟨i,hi,rfl⟩:=List.mem_iff_getElem.1 he
     simp only [List.length_take] at hi
     exact ⟨i,k,hk,by omega,by omega,by rw [List.getElem_take]⟩
    ·rw [List.getElem?_eq_none (by omega)] at h;cases h
  ·rintro ⟨i,j,hj,hij,hk,rfl⟩
   by_cases e:j=k
   ·subst e
    refine .inr ?_;rw [List.getElem?_eq_getElem hj]
    exact List.mem_map.2 ⟨ds[i]'(by omega),List.mem_iff_getElem.2 ⟨i,by rw [List.length_take];omega,by rw [List.getElem_take]⟩,rfl⟩
   ·exact .inl ⟨i,j,hj,hij,by omega,rfl⟩
theorem yhz {n:Nat} {g:Int} {ds:List Doi} {k:Nat} {z:Brch}:z∈zqh n g ds k ↔ ∃i j,∃hj:j < ds.length,∃hij:i < j,j < k∧z∈yic n g (ds[i]'(by omega)).t ds[j].t (ds[i]'(by omega)).A ds[j].B:=by
 rw [zm9,List.mem_flatten]
 constructor
 ·rintro ⟨X,hX,hz⟩
  obtain ⟨i,j,hj,hij,hk,rfl⟩:=zu8.1 hX
  exact ⟨i,j,hj,hij,hk,hz⟩
 ·rintro ⟨i,j,hj,hij,hk,hz⟩
  exact ⟨_,zu8.2 ⟨i,j,hj,hij,hk,rfl⟩,hz⟩
theorem zxr {h:Hist} {t kd:Int} {k:Nat} {e:Ev} {a:Acc} (ha:a∈zno h t kd k e):e.t=t∧e.kind=kd∧a.o=e.o∧a.a=(k:Int)∧zs8 h e.o e.v=some a.r:=by
 rw [zno] at ha
 split at ha
 ·rename_i q
  rw [Bool.and_eq_true,beq_iff_eq,beq_iff_eq] at q
  cases hr:zs8 h e.o e.v with
  |none=>rw [hr] at ha;cases ha
  |some r=>
   rw [hr] at ha
   have ha:a=⟨e.o,r,k⟩:=by simpa using ha
   subst ha
   exact ⟨q.1,q.2,rfl,rfl,rfl⟩
 ·cases ha
theorem zxp {h:Hist} {t kd:Int} {a:Acc}:∀{n:Nat},n≤h.evs.length→(a∈zqv h t kd n ↔ ∃k,∃hk:k < h.evs.length,k < n∧a∈zno h t kd k h.evs[k])
 |0,_=>by simp [zqv]
 |n+1,hn=>by
  rw [zqv,List.mem_append,zxp (by omega),List.getElem?_eq_getElem (show n < h.evs.length by omega)]
  constructor
  ·rintro (⟨k,hk,hkn,q⟩|q)
   ·exact ⟨k,hk,by omega,q⟩
   ·exact ⟨n,by omega,by omega,q⟩
  ·rintro ⟨k,hk,hkn,q⟩
   by_cases e:k=n
   ·subst e;exact .inr q
   ·exact .inl ⟨k,hk,by omega,q⟩
theorem yed {h:Hist} {t kd:Int} {a:Acc} (ha:a∈zn0 h t kd):∃k,∃hk:k < h.evs.length,h.evs[k].t=t∧h.evs[k].kind=kd∧a.o=h.evs[k].o∧a.a=(k:Int)∧zs8 h h.evs[k].o h.evs[k].v=some a.r:=by
 obtain ⟨k,hk,_,q⟩:=(zxp (Nat.le_refl _)).1 ha
 exact ⟨k,hk,zxr q⟩
theorem yol {n:Nat} {g t1 t2:Int} {A B:List Acc} {z:Brch} (hz:z∈yic n g t1 t2 A B):∃a∈A,∃b∈B,a.o=z.o∧b.o=z.o∧b.r < a.r∧a.a=z.a∧b.a=z.b∧z.g=g∧z.e=t1∧z.l=t2:=by
 rw [yic,List.mem_flatMap] at hz
 obtain ⟨a,ha,hz⟩:=hz
 obtain ⟨b,hb,hz⟩:=List.mem_filterMap.1 hz
 have ma:a∈A:=by
  rw [zn6,List.mem_flatMap] at ha
  obtain ⟨x,_,hx⟩:=ha
  exact (List.mem_filter.1 hx).1
 have mb:b∈B:=by
  rw [zn6,List.mem_flatMap] at hb
  obtain ⟨x,_,hx⟩:=hb
  exact (List.mem_filter.1 hx).1
 rw [brk] at hz
 split at hz
 ·rename_i q
  rw [Bool.and_eq_true,beq_iff_eq,decide_eq_true_iff] at q
  injection hz with hz;subst hz
  exact ⟨a,ma,b,mb,rfl,q.1.symm,q.2,rfl,rfl,rfl,rfl,rfl⟩
 ·cases hz
def kdA (g:Int):Int:=if g=2∨g=8 then 3 else 2
def kdB (g:Int):Int:=if g=1∨g=2 then 3 else 2
def doi (h:Hist) (g t:Int):Doi:=⟨t,zn0 h t (kdA g),zn0 h t (kdB g)⟩
def zy4 (h:Hist) (s g:Int):List Doi:=(za0 h.evs s).map (doi h g)
def brS (h:Hist) (s g:Int):List Brch:=brL h.os.length g (zy4 h s g) (zy4 h s g).length
def eaS (h:Hist) (s g:Int):List Brch:=zqh h.os.length g (zy4 h s g) (zy4 h s g).length
theorem yc7 {h:Hist} {s g:Int} {i:Nat} (hi:i < (zy4 h s g).length):(zy4 h s g)[i]=doi h g ((za0 h.evs s)[i]'(by simpa [zy4] using hi)):=by simp [zy4]
theorem yh0 {h:Hist} {s g:Int} {z:Brch} (hz:z∈eaS h s g):z.g=g∧(∃i j,∃hj:j < (za0 h.evs s).length,∃hij:i < j,z.e=(za0 h.evs s)[i]'(by omega)∧z.l=(za0 h.evs s)[j])∧
 ∃p q,∃hp:p < h.evs.length,∃hq:q < h.evs.length,z.a=(p:Int)∧z.b=(q:Int)∧h.evs[p].t=z.e∧h.evs[q].t=z.l∧h.evs[p].o=z.o∧h.evs[q].o=z.o∧h.evs[p].kind=kdA g∧h.evs[q].kind=kdB g∧
  ∃r1 r2,zs8 h z.o h.evs[p].v=some r1∧zs8 h z.o h.evs[q].v=some r2∧r2 < r1:=by
 obtain ⟨i,j,hj,hij,_,hb⟩:=yhz.1 hz
 rw [yc7,yc7] at hb
 obtain ⟨a,ha,b,hb',o1,o2,hr,e1,e2,g1,g2,g3⟩:=yol hb
 obtain ⟨p,hp,p1,p2,p3,p4,p5⟩:=yed (show a∈zn0 h _ (kdA g) from ha)
 obtain ⟨q,hq,q1,q2,q3,q4,q5⟩:=yed (show b∈zn0 h _ (kdB g) from hb')
 have hj':j < (za0 h.evs s).length:=by simpa [zy4] using hj
 refine ⟨g1,⟨i,j,hj',hij,g2,g3⟩,p,q,hp,hq,by rw [←e1,p4],by rw [←e2,q4],by rw [p1,g2];rfl,by rw [q1,g3];rfl,by rw [←p3,o1],by rw [←q3,o2],p2,q2,a.r,b.r,?_,?_,hr⟩
 ·rw [←o1,p3];exact p5
 ·rw [←o2,q3];exact q5
theorem ydq {h:Hist} (s g:Int):(brS h s g).head? =(eaS h s g).head? :=zou _ _ _ _
theorem yia {h:Hist} (s g:Int):brS h s g= [] ↔ eaS h s g= []:=ybi _ _ _ _
def yo9 (h:Hist) (s:Int):Int:=([1,2,4,8]:List Int).foldl (fun n g=>if brS h s g= [] then n+g else n) 0
def zzi (h:Hist) (s:Int):Int:=([1,2,4,8]:List Int).foldl (fun n g=>if eaS h s g= [] then n+g else n) 0
theorem yr4 (h:Hist) (s:Int):yo9 h s=zzi h s:=by
 simp only [yo9,zzi,yia]
section
variable {α β:Type}
theorem yte {P A B:List α} {x:α}:(P++(A++x::B))[P.length+A.length]? =some x:=by
 rw [List.getElem?_append_right (by omega),Nat.add_sub_cancel_left,List.getElem?_append_right (Nat.le_refl _),Nat.sub_self];rfl
theorem yop {P B L:List α} {q n:Nat} (hq:q < n) (hl:q < L.length):(P++(L.take n++B))[P.length+q]? =some L[q]:=by
 rw [List.getElem?_append_right (by omega),Nat.add_sub_cancel_left,List.getElem?_append_left (by rw [List.length_take];omega),List.getElem?_take_of_lt hq,List.getElem?_eq_getElem hl]
theorem zln {f:α→β} {l:List α} {i j:Nat} {x y:α} (hi:l[i]? =some x) (hj:l[j]? =some y):((l.map f).set i (f y)).set j (f x)=(swp l i j).map f:=by
 rw [zvs hi hj,List.map_set,List.map_set]
theorem ye5 {l:List α} {i j:Nat} (h:i≠j):swp l i j=swp l j i:=by
 unfold swp
 cases hi:l[i]? with
 |none=>cases hj:l[j]? <;> rfl
 |some x=>
  cases hj:l[j]? with
  |none=>rfl
  |some y=>simp only;rw [List.set_comm _ _ h]
theorem zct {f:α→β} {l:List α} {i:Nat} {x:α} (h:l[i]? =some x):(l.map f)[i]? =some (f x):=by rw [List.getElem?_map,h];rfl
theorem ze3 {l:List α} {i:Nat} {x:α} (h:l[i]? =some x):i < l.length:=(List.getElem?_eq_some_iff.1 h).1
theorem yls {m i j:Nat} {c tg:List α} (h:Rot m i j c tg):i≤m∧m+j≤c.length:=by
 obtain ⟨P,I,J,Z,rfl,hp,hi,hj,rfl⟩:=h
 simp only [List.length_append];omega
theorem yrw {P S Z:List α} {x:α} {a q:Nat} (hP:P.length=a) (hq:q≤S.length):(P++(S.take q++x::(S.drop q++Z)))[a+q]? =some x:=by
 have:=yte (P:=P) (A:=S.take q) (B:=S.drop q++Z) (x:=x)
 rwa [hP,List.length_take,Nat.min_eq_left hq] at this
theorem yt0 {P S Z:List α} {x:α} {a q:Nat} (hP:P.length=a) (hq:q≤S.length) (h1:1≤q):(P++(S.take q++x::(S.drop q++Z)))[a+q - 1]? =some (S.getD (q - 1) x):=by
 have:=yop (P:=P) (L:=S) (B:=x::(S.drop q++Z)) (q:=q - 1) (n:=q) (by omega) (by omega)
 rw [hP,show a+(q - 1)=a+q - 1 by omega] at this
 rw [this,List.getD_eq_getElem?_getD,List.getElem?_eq_getElem (by omega)];rfl
theorem ycb {P S Z:List α} {x:α} {a q:Nat} (hP:P.length=a) (hq:q≤S.length) (h1:1≤q):swp (P++(S.take q++x::(S.drop q++Z))) (a+q) (a+q - 1)=P++(S.take (q - 1)++x::(S.drop (q - 1)++Z)):=by
 obtain ⟨k,rfl⟩:∃k,q=k+1:=⟨q - 1,by omega⟩
 rw [ye5 (by omega)]
 have:=yu3 (P:=P) (Z:=Z) (y:=x) (L:=S) (k:=k) (by omega)
 rw [hP] at this
 rw [show a+(k+1) - 1=a+k by omega,show a+(k+1)=a+k+1 by omega,show k+1 - 1=k by omega]
 exact this
variable {cmp:α→α→Int}
theorem ynf {S:List α} {x:α} {q:Nat} (hq:q≤S.length) (h1:1≤q) (hlt:cmp x (S.getD (q - 1) x) < 0) (hz:∀z∈S.drop q,cmp x z < 0):∀z∈S.drop (q - 1),cmp x z < 0:=by
 intro z hm
 rw [List.drop_eq_getElem_cons (by omega)] at hm
 rcases List.mem_cons.1 hm with rfl|hm
 ·rw [List.getD_eq_getElem?_getD,List.getElem?_eq_getElem (by omega)] at hlt;exact hlt
 ·rw [show q - 1+1=q by omega] at hm;exact hz z hm
theorem yne {P M Z:List α}:P++(isL cmp (M.take (0+1))++(M.drop (0+1)++Z))=P++(M++Z):=by
 cases M with
 |nil=>rfl
 |cons a r=>simp [isL,mrg]
theorem yhf {P M Z:List α} {k:Nat} (hS:(isL cmp (M.take (k+1))).length=k+1) (hk:k+1 < M.length):P++(isL cmp (M.take (k+1))++(M.drop (k+1)++Z))=P++((isL cmp (M.take (k+1))).take (k+1)++M[k+1]::((isL cmp (M.take (k+1))).drop (k+1)++(M.drop (k+1+1)++Z))):=by
 rw [List.take_of_length_le (l:=isL cmp (M.take (k+1))) (by omega),List.drop_eq_nil_of_le (by omega:(isL cmp (M.take (k+1))).length≤k+1),List.drop_eq_getElem_cons hk,List.nil_append,List.cons_append]
theorem yji (ok:CmpOk cmp) {P M Z:List α} {k q:Nat} (hS:(isL cmp (M.take (k+1))).Pairwise (LeC cmp)) (hk:k+1 < M.length) (hq:q≤(isL cmp (M.take (k+1))).length) (hz:∀z∈(isL cmp (M.take (k+1))).drop q,cmp M[k+1] z < 0)
 (hst:1≤q→¬cmp M[k+1] ((isL cmp (M.take (k+1))).getD (q - 1) M[k+1]) < 0):
 P++((isL cmp (M.take (k+1))).take q++M[k+1]::((isL cmp (M.take (k+1))).drop q++(M.drop (k+1+1)++Z)))=P++(isL cmp (M.take (k+1+1))++(M.drop (k+1+1)++Z)):=by
 have h:=yng ok hS (x:=M[k+1]) hq hz fun h1=>by
  have:=hst h1
  rw [List.getD_eq_getElem?_getD,List.getElem?_eq_getElem (by omega)] at this;exact this
 rw [List.take_succ_eq_append_getElem hk,yrx,h];simp
theorem getD_some {l:List α} {k:Nat} (h:k < l.length) (d:α):l[k]? =some (l.getD k d):=by
 rw [List.getD_eq_getElem?_getD,List.getElem?_eq_getElem h];rfl
theorem yo5 {P L R Z:List α} {a k:Nat} (hP:P.length=a) (d:α) (h1:a≤k) (h2:k < a+L.length):(P++(L++(R++Z)))[k]? =some (L.getD (k - a) d):=by
 rw [←getD_some (by omega) d]
 rw [List.getElem?_append_right (by omega),List.getElem?_append_left (by omega),hP]
theorem yo4 {P L R Z:List α} {a m k:Nat} (hP:P.length=a) (hm:a+L.length=m) (d:α) (h1:m≤k) (h2:k < m+R.length):(P++(L++(R++Z)))[k]? =some (R.getD (k - m) d):=by
 rw [←getD_some (by omega) d]
 rw [List.getElem?_append_right (by omega),List.getElem?_append_right (by omega),List.getElem?_append_left (by omega)]
 congr 1;omega
theorem yw4 {P S Z:List α} {x:α} {a q:Nat} (hP:P.length=a) (hq:q < S.length) (d:α):(P++(S.take q++x::(S.drop q++Z)))[a+q+1]? =some (S.getD q d):=by
 rw [←getD_some hq d]
 rw [List.getElem?_append_right (by omega),List.getElem?_append_right (by rw [List.length_take];omega),List.length_take,Nat.min_eq_left (by omega),show a+q+1 - P.length - q=0+1 by omega,List.getElem?_cons_succ,List.getElem?_append_left (by rw [List.length_drop];omega),List.getElem?_drop]
 congr 1
theorem yvb {P S Z:List α} {x:α} {a q:Nat} (hP:P.length=a) (hq:q < S.length):swp (P++(S.take q++x::(S.drop q++Z))) (a+q) (a+q+1)=P++(S.take (q+1)++x::(S.drop (q+1)++Z)):=by
 have:=yu2 (P:=P) (Z:=Z) (x:=x) (R:=S) (k:=q) hq
 rwa [hP] at this
theorem ygm (ok:CmpOk cmp) {P R Z:List α} {x d:α} (hR:R.Pairwise (LeC cmp)) {y:Nat} (hy:y≤R.length) (h1:1≤y→cmp (R.getD (y - 1) d) x < 0) (h2:y < R.length→¬cmp (R.getD y d) x < 0):P++(R.take y++x::(R.drop y++Z))=P++(mrg cmp [x] R++Z):=by
 rw [ymr ok hR hy (fun h=>by
  have:=h1 h
  rw [List.getD_eq_getElem?_getD,List.getElem?_eq_getElem (by omega)] at this;exact this) fun h=>by
  have:=h2 h
  rw [List.getD_eq_getElem?_getD,List.getElem?_eq_getElem h] at this;exact this]
 simp
theorem yb2 (ok:CmpOk cmp) {P L Z:List α} {y d:α} (hL:L.Pairwise (LeC cmp)) {x:Nat} (hx:x≤L.length) (h1:1≤x→¬cmp y (L.getD (x - 1) d) < 0) (h2:x < L.length→cmp y (L.getD x d) < 0):P++(L.take x++y::(L.drop x++Z))=P++(mrg cmp L [y]++Z):=by
 rw [ygp ok hL hx (fun h=>by
  have:=h1 h
  rw [List.getD_eq_getElem?_getD,List.getElem?_eq_getElem (by omega)] at this;exact this) fun h=>by
  have:=h2 h
  rw [List.getD_eq_getElem?_getD,List.getElem?_eq_getElem h] at this;exact this]
 simp
theorem zz8 {P A B W:List α} (h:A= []∨B= []):P++(A++(B++W))=P++(mrg cmp A B++W):=by
 rw [←ylc h,List.append_assoc]
theorem zvo {l:List α} {x:Nat} (h:¬1≤x):l.take x= []:=by rw [show x=0 by omega];rfl
theorem zsk {l:List α} {x:Nat} (h:¬x < l.length):l.drop x= []:=List.drop_eq_nil_of_le (by omega)
end
theorem zll {n:Nat} (h:n≤4611686018427387904):IntKind.u64.wrap (n:Int)=(n:Int):=by
 show (n:Int) % 18446744073709551616=n
 omega
theorem zlm {n:Nat} (h:n≤4611686018427387904):zn9 .shr .u64 (n:Int) 1=some ((n / 2:Nat):Int):=by
 have e:Int.fdiv (n:Int) 2=((n / 2:Nat):Int):=by rw [Int.fdiv_eq_ediv_of_nonneg _ (by decide)];omega
 show some (Int.fdiv (n:Int) 2)=_
 rw [e]
theorem zlz {n:Nat} (h:n≤4611686018427387904):IntKind.i64.wrap (n:Int)=(n:Int):=IntWalk.i64_in _ ⟨by omega,by omega⟩
abbrev zlh:={a:Acc // 0≤a.o∧a.o < 1000000}
abbrev zcn (a:zlh):List AV:=accR a.1
def yen (a:zlh):Int:=a.1.o
abbrev zda:zlh→zlh→Int:=zbt yen
def zei:zlh:=⟨⟨0,0,0⟩,by decide⟩
theorem yfb {n:Nat} {l:List Acc} {lB m:List zlh} (e:lB.map (·.1)=l) (h:zq5 yen lB m) (hk:∀a∈l,0≤a.o∧a.o < n):m.map (·.1)=zn6 n l:=by
 have h1:=zz5 yen (n:=n) h fun a ha=>hk a.1 (by rw [←e];exact List.mem_map_of_mem ha)
 rw [h1,zn6,List.map_flatMap]
 refine zcm fun x _=> ?_
 rw [←e,List.filter_map];rfl
theorem yec {n:Nat} (hn:n≤1000000):∀{l:List Acc},(∀a∈l,0≤a.o∧a.o < n)→∃lB:List zlh,lB.map (·.1)=l
 | [],_=>⟨[],rfl⟩
 |a::l,h=>by
  obtain ⟨lB,e⟩:=yec hn (l:=l) fun x hx=>h x (by simp [hx])
  have:=h a (by simp)
  exact ⟨⟨a,by omega,by omega⟩::lB,by rw [List.map_cons,e]⟩
theorem zne:CmpOk zda:=zst yen
structure Grd where
 s:Int
 q:Int
 a:Int
 deriving DecidableEq
def zj3 (g:Grd):List AV:= [iv g.s,iv g.q,iv g.a]
def zc9 (l:List Grd):AV:= .list false 3 (l.map zj3)
def yil (l:List Wan):List (Int×Int):=l.foldl (fun m w=>zfn w.s w.bits m) []
theorem yth {l:List Wan} {k:Nat} (hk:k < l.length):yil (l.take (k+1))=zfn l[k].s l[k].bits (yil (l.take k)):=by
 rw [yil,List.take_succ_eq_append_getElem hk,List.foldl_append];rfl
def zza (l:List Wan) (s:Int):Int:=match l.find? fun w=>w.s==s with|some w=>w.bits|none=>0
def yow (l:List Wan) (s:Int):Int:=(zb6 s (yil l)).getD 0
theorem yj5 (s:Int):∀(l:List Wan) (m:List (Int×Int)),(l.map Wan.s).Nodup→zb6 s (l.foldl (fun m w=>zfn w.s w.bits m) m)=match l.find? (fun w=>w.s==s) with|some w=>some w.bits|none=>zb6 s m
 | [],m,_=>rfl
 |w::l,m,hn=>by
  rw [List.map_cons,List.nodup_cons] at hn
  rw [List.foldl_cons,yj5 s l _ hn.2,List.find?_cons]
  by_cases e:w.s=s
  ·have h0:l.find? (fun w=>w.s==s)=none:=by
    rw [List.find?_eq_none]
    intro v hv q
    exact hn.1 (by rw [e,←eq_of_beq q];exact List.mem_map_of_mem hv)
   rw [h0,show (w.s==s)=true by simpa using e]
   simp only;rw [zcp,if_pos e]
  ·rw [show (w.s==s)=false by simpa using e]
   simp only
   cases l.find? (fun w=>w.s==s) with
   |some v=>rfl
   |none=>simp only;rw [zcp,if_neg e]
theorem ytf {l:List Wan} (hn:(l.map Wan.s).Nodup) (s:Int):yow l s=zza l s:=by
 rw [yow,yil,yj5 s l [] hn,zza]
 cases l.find? (fun w=>w.s==s) <;> rfl
theorem you {l:List Wan} {s:Int} (h:∀w∈l,w.s≠s):zza l s=0:=by
 have:l.find? (fun w=>w.s==s)=none:=by
  rw [List.find?_eq_none];intro w hw;simpa using h w hw
 rw [zza,this]
def zi6 (l:List Wan) (s b:Int):List Wan:=if za9 (fun w=>w.s==s) 0 l < 0 then l++ [⟨s,b⟩] else l.set (za9 (fun w=>w.s==s) 0 l).toNat ⟨s,b⟩
theorem zsg {α:Type} {p:α→Bool}:∀{l:List α} {i:Nat},za9 p i l≠ -1→∃k,∃hk:k < l.length,za9 p i l=((i+k:Nat):Int)∧p l[k]=true
 | [],_,h=>absurd rfl h
 |x::r,i,h=>by
  by_cases e:p x=true
  ·exact ⟨0,by simp,by rw [za9,if_pos e];simp,e⟩
  ·rw [za9,if_neg e] at h ⊢
   obtain ⟨k,hk,h1,h2⟩:=zsg h
   exact ⟨k+1,by simpa using hk,by rw [h1];congr 1;omega,h2⟩
theorem zy1 {σ α:Type} {step:σ→α→Option σ} {x:α} {l:List α} {s m:σ} (h:goes step (some s) (x::l)=some m):∃s',step s x=some s'∧goes step (some s') l=some m:=by
 rw [goes] at h
 cases e:step s x with
 |none=>rw [show ((some s).bind fun s=>step s x)=none from e,zjt] at h;cases h
 |some s'=>exact ⟨s',rfl,by rw [show ((some s).bind fun s=>step s x)=some s' from e] at h;exact h⟩
theorem zyt {s s':List Int} {x:Nat×Int} (h:zac s x=some s') (hl:s.length=4) (hx:x.1 < 4):s'.length=4∧x.2≤s.getD x.1 0∧s'.getD x.1 0=max (s.getD x.1 0) (x.2+1)∧∀k,k≠x.1→s'.getD k 0=s.getD k 0:=by
 rw [zac] at h
 split at h
 ·cases h
 ·rename_i q
  injection h with h
  subst h
  refine ⟨by rw [List.length_set];exact hl,by omega,?_,fun k hk=> ?_⟩
  ·rw [List.getD_eq_getElem?_getD,List.getElem?_set_self (by omega)];rfl
  ·rw [List.getD_eq_getElem?_getD,List.getElem?_set_ne (by omega),←List.getD_eq_getElem?_getD]
theorem zol:∀{l:List (Nat×Int)} {s m:List Int},goes zac (some s) l=some m→s.length=4→(∀x∈l,x.1 < 4)→m.length=4∧(∀k,s.getD k 0≤m.getD k 0)∧(∀x∈l,x.2+1≤m.getD x.1 0)∧∀n,s.getD 1 0≤n→n < m.getD 1 0→(1,n)∈l
 | [],s,m,h,hl,_=>by
   have h:some s=some m:=h
   injection h with h;subst h
   exact ⟨hl,fun k=>Int.le_refl _,fun x hx=>by simp at hx,fun n h1 h2=>by omega⟩
 |x::l,s,m,h,hl,hx=>by
  obtain ⟨s',h1,h2⟩:=zy1 h
  obtain ⟨a1,a2,a3,a4⟩:=zyt h1 hl (hx x (by simp))
  obtain ⟨b1,b2,b3,b4⟩:=zol h2 a1 fun y hy=>hx y (by simp [hy])
  refine ⟨b1,fun k=> ?_,fun y hy=> ?_,fun n n1 n2=> ?_⟩
  ·have:=b2 k
   by_cases e:k=x.1
   ·subst e;omega
   ·have:=a4 k e;omega
  ·rcases List.mem_cons.1 hy with rfl|hy
   ·have:=b2 y.1;omega
   ·exact b3 y hy
  ·by_cases e:x.1=1
   ·rw [e] at a2 a3
    by_cases q:s'.getD 1 0≤n
    ·exact List.mem_cons_of_mem _ (b4 n q n2)
    ·have:x=(1,n):=Prod.ext e (by simp only;omega)
     rw [this];exact List.mem_cons_self ..
   ·have:=a4 1 (fun q=>e q.symm)
    exact List.mem_cons_of_mem _ (b4 n (by omega) n2)
theorem zok {s:List Int} (hl:s.length=4):∀{l:List (Nat×Int)},(∀x∈l,x.1 < 4∧x.2 < s.getD x.1 0)→goes zac (some s) l=some s
 | [],_=>rfl
 |x::l,h=>by
  obtain ⟨h1,h2⟩:=h x (by simp)
  have e:zac s x=some s:=by
   rw [zac]
   rw [if_neg (by omega),show max (s.getD x.1 0) (x.2+1)=s.getD x.1 0 by omega]
   congr 1
   refine List.ext_getElem (by simp) fun i q1 q2=> ?_
   rw [List.getElem_set]
   split
   ·rename_i e;subst e;rw [List.getD_eq_getElem?_getD,List.getElem?_eq_getElem q2];rfl
   ·rfl
  rw [goes,show ((some s).bind fun s=>zac s x)=some s from e]
  exact zok hl fun y hy=>h y (by simp [hy])
def zfr (h:Hist):List (Nat×Int):=h.evs.flatMap evL++(h.ords.flatMap yem++h.mats.flatMap zzh)
theorem yfe (h:Hist):zcc h=zfr h++h.wants.flatMap ztg:=by simp [zcc,zfr]
theorem yje {v:Ver} {x:Nat×Int} (hx:x∈zfv v):x.1=0:=by
 rw [zfv] at hx;split at hx
 ·rw [List.mem_singleton] at hx;rw [hx]
 ·cases hx
theorem yvp {e:Ev} {x:Nat×Int} (hx:x∈evL e):x.1 < 4∧(x.1=1→e.kind=1∧x.2=e.s):=by
 rw [evL,List.mem_cons,List.mem_append] at hx
 rcases hx with rfl|hx|hx
 ·exact ⟨by simp,fun q=>by cases q⟩
 ·unfold zgb at hx
  split at hx
  ·rename_i q;rw [List.mem_singleton] at hx;subst hx;exact ⟨by simp,fun _=>⟨q,rfl⟩⟩
  ·split at hx
   ·rcases List.mem_cons.1 hx with rfl|hx
    ·exact ⟨by simp,fun q=>by cases q⟩
    ·rw [yje hx];exact ⟨by simp,fun q=>by cases q⟩
   ·split at hx
    ·rw [List.mem_singleton] at hx;subst hx;exact ⟨by simp,fun q=>by cases q⟩
    ·cases hx
 ·obtain ⟨s,_,hx⟩:=List.mem_flatMap.1 hx
  rw [zri,List.mem_cons] at hx
  rcases hx with rfl|hx
  ·exact ⟨by simp,fun q=>by cases q⟩
  ·rw [yje hx];exact ⟨by simp,fun q=>by cases q⟩
theorem ypl {l:List Int} {x:Nat×Int} (hx:x∈tsL l):x.1=0:=by
 obtain ⟨_,_,rfl⟩:=List.mem_map.1 hx;rfl
theorem zv1 {h:Hist} {x:Nat×Int} (hx:x∈zfr h):x.1 < 4∧(x.1=1→∃e∈h.evs,e.kind=1∧e.s=x.2):=by
 rw [zfr,List.mem_append,List.mem_append] at hx
 rcases hx with hx|hx|hx
 ·obtain ⟨e,he,hx⟩:=List.mem_flatMap.1 hx
  obtain ⟨h1,h2⟩:=yvp hx
  exact ⟨h1,fun q=>⟨e,he,(h2 q).1,(h2 q).2.symm⟩⟩
 ·obtain ⟨r,_,hx⟩:=List.mem_flatMap.1 hx
  rw [yem,List.mem_cons] at hx
  rcases hx with rfl|hx
  ·exact ⟨by simp,fun q=>by cases q⟩
  ·rw [ypl hx];exact ⟨by simp,fun q=>by cases q⟩
 ·obtain ⟨r,_,hx⟩:=List.mem_flatMap.1 hx
  rw [zzh,List.mem_cons,List.mem_cons] at hx
  rcases hx with rfl|rfl|hx
  ·exact ⟨by simp,fun q=>by cases q⟩
  ·exact ⟨by simp,fun q=>by cases q⟩
  ·rw [ypl hx];exact ⟨by simp,fun q=>by cases q⟩
theorem zxy {h:Hist} (hs:zb3 h=true):zfj h=true∧∀r,1≤r→r≤10→zcs h r=none:=by
 rw [zb3,Bool.and_eq_true] at hs
 refine ⟨hs.1,fun r h1 h2=>zkl (Option.isNone_iff_eq_none.1 hs.2) r ?_⟩
 rcases (by omega:r=1∨r=2∨r=3∨r=4∨r=5∨r=6∨r=7∨r=8∨r=9∨r=10) with e|e|e|e|e|e|e|e|e|e <;> subst e <;> decide
theorem zvj {h:Hist} (hs:zb3 h=true):(h.wants.map Wan.s).Nodup∧(∀w∈h.wants,(0≤w.s∧w.s < h.ss.length)∧0≤w.bits∧w.bits≤15)∧h.ss.length≤60∧(∀s:Int,0≤s→s < h.ss.length→∃e∈h.evs,e.kind=1∧e.s=s)∧goes zac (some [0,0,0,0]) (zfr h)=some (zjq h):=by
 obtain ⟨hm,hp⟩:=zxy hs
 have h10:=(zf7 _ _).1 (show zdc (ziq h) 0 h.wants=none from hp 10 (by decide) (by decide))
 rw [zfj,Bool.and_eq_true] at hm
 obtain ⟨hsh,hmany⟩:=hm
 obtain ⟨hok,hev,hor,hma,hwa⟩:=zcw hsh
 have hw:∀j (hj:j < h.wants.length),(∀i (hi:i < j),h.wants[i].s≠h.wants[j].s)∧∃e∈h.evs,e.kind=1∧e.s=h.wants[j].s:=fun j hj=>by
  have q:=h10 j hj
  rw [Nat.zero_add,ziq,Bool.or_eq_false_iff] at q
  refine ⟨fun i hi e=> ?_,?_⟩
  ·have:=List.any_eq_false.1 q.1 h.wants[i] (List.mem_iff_getElem.2 ⟨i,by rw [List.length_take];omega,by rw [List.getElem_take]⟩)
   simp [e] at this
  ·have q2:(h.evs.any fun e=>e.kind==1 && e.s==h.wants[j].s)=true:=by simpa using q.2
   obtain ⟨e,he,h1⟩:=List.any_eq_true.1 q2
   rw [Bool.and_eq_true,beq_iff_eq,beq_iff_eq] at h1
   exact ⟨e,he,h1.1,h1.2⟩
 have hn:(h.wants.map Wan.s).Nodup:=by
  rw [List.Nodup,List.pairwise_map]
  exact List.pairwise_iff_getElem.2 fun i j hi hj hij=>(hw j hj).1 i hij
 have hr:∀w∈h.wants,(0≤w.s∧w.s < h.ss.length)∧0≤w.bits∧w.bits≤15:=fun w hw=>by
  have:=hwa w hw
  unfold zti at this
  simp only [zbx,Bool.and_eq_true,decide_eq_true_eq] at this
  omega
 have hl:h.ss.length≤60:=by
  have q:okK h 2=true:=by
   have:=hok
   simp only [okK,Bool.and_eq_true] at this ⊢
   exact this.1.1
  simp only [okK,zci,Bool.and_eq_true,decide_eq_true_eq] at q
  have:=q.2.1
  have e:(yo7 1:Int)=60:=by decide
  rw [e] at this
  exact_mod_cast this
 have hsp:∀x∈zfr h,x.1 < 4:=fun x hx=>(zv1 hx).1
 have hmany:goes zac (some [0,0,0,0]) (zfr h++h.wants.flatMap ztg)=some (zjq h):=by
  rw [←yfe];simpa [zmy] using hmany
 rw [ziy] at hmany
 cases hg:goes zac (some [0,0,0,0]) (zfr h) with
 |none=>rw [hg,zjt] at hmany;cases hmany
 |some m=>
  rw [hg] at hmany
  obtain ⟨m1,m2,m3,m4⟩:=zol hg rfl hsp
  have hsame:=zok (s:=m) m1 (l:=h.wants.flatMap ztg) fun x hx=>by
   obtain ⟨w,hwm,hx⟩:=List.mem_flatMap.1 hx
   rw [ztg,List.mem_singleton] at hx
   subst hx
   refine ⟨by simp,?_⟩
   obtain ⟨j,hj,rfl⟩:=List.mem_iff_getElem.1 hwm
   obtain ⟨e,he,k1,k2⟩:=(hw j hj).2
   have:(1,e.s)∈zfr h:=by
    rw [zfr,List.mem_append]
    refine .inl (List.mem_flatMap.2 ⟨e,he,?_⟩)
    rw [evL,zur k1];simp
   have:=m3 _ this
   simp only at this ⊢
   rw [k2] at this;omega
  rw [hsame] at hmany
  injection hmany with hmany
  subst hmany
  refine ⟨hn,hr,hl,fun s s0 s1=> ?_,rfl⟩
  have:=m4 s (by simpa using s0) (by simpa [zjq] using s1)
  exact (zv1 this).2 rfl
def zdb (h:Hist):List Grd:=if v8 h=0 then (upR h.ss.length).map fun s=>⟨s,yow h.wants s,yo9 h s⟩ else []
def zd5 (h:Hist):List Grd:=(upR h.ss.length).map fun s=>⟨s,zza h.wants s,zzi h s⟩
theorem zmb {h:Hist} (hc:v8 h=0):zdb h=zd5 h:=by
 have hn:=(zvj (zd3.1 hc)).1
 rw [zdb,if_pos hc,zd5]
 exact List.map_congr_left fun s _=>by rw [ytf hn,yr4]
theorem ynm (h:Hist) (s:Int):0≤zzi h s∧zzi h s≤15:=by
 simp only [zzi,List.foldl_cons,List.foldl_nil]
 repeat' split
 all_goals omega
theorem yov {h:Hist} (hs:zb3 h=true) (s:Int):0≤zza h.wants s∧zza h.wants s≤15:=by
 obtain ⟨_,hr,_⟩:=zvj hs
 rw [zza]
 split
 ·rename_i w hw
  exact (hr w (List.mem_of_find?_eq_some hw)).2
 ·decide
def zen:List Int:= [1,2,4,8]
def zm0 (g:Grd) (b:Int):Bool:=bI .and .i64 (bI .andNot .i64 g.q g.a) b !=0
def zha (g:Grd) (b:Int):Bool:=decide (g.q / b % 2=1) && decide (g.a / b % 2=0)
theorem yhb:∀q:Fin 16,∀a:Fin 16,∀b∈zen,(bI .and .i64 (bI .andNot .i64 (q.val:Int) (a.val:Int)) b !=0)=(decide ((q.val:Int) / b % 2=1) && decide ((a.val:Int) / b % 2=0)):=by decide+kernel
theorem ym6 {g:Grd} (h1:0≤g.q∧g.q≤15) (h2:0≤g.a∧g.a≤15) {b:Int} (hb:b∈zen):zm0 g b=zha g b:=by
 have:=yhb ⟨g.q.toNat,by omega⟩ ⟨g.a.toNat,by omega⟩ b hb
 simp only [Int.toNat_of_nonneg h1.1,Int.toNat_of_nonneg h2.1] at this
 exact this
def zau (l:List Grd):List (Int×Int):=l.flatMap fun g=>(zen.filter (zm0 g)).map fun b=>(g.s,b)
def zgv (l:List Grd):List (Int×Int):=l.flatMap fun g=>(zen.filter (zha g)).map fun b=>(g.s,b)
theorem zww {l:List Grd} (h:∀g∈l,(0≤g.q∧g.q≤15)∧0≤g.a∧g.a≤15):zau l=zgv l:=by
 refine zcm fun g hg=> ?_
 congr 1
 exact List.filter_congr fun b hb=>ym6 (h g hg).1 (h g hg).2 hb
theorem zjb {h:Hist} (hc:v8 h=0):∀g∈zdb h,((0≤g.q∧g.q≤15)∧0≤g.a∧g.a≤15)∧0≤g.s∧g.s < h.ss.length:=fun g hg=>by
 rw [zmb hc,zd5] at hg
 obtain ⟨s,hs,rfl⟩:=List.mem_map.1 hg
 have h1:=yov (zd3.1 hc) s
 have h2:=ynm h s
 have h3:0≤s∧s < h.ss.length:=by
  rw [upR,List.mem_map] at hs
  obtain ⟨k,hk,rfl⟩:=hs
  have:=List.mem_range.1 hk
  omega
 exact ⟨⟨h1,h2⟩,h3⟩
theorem ynl {h:Hist} {s b:Int} (hb:b∈zen):decide (zzi h s / b % 2=0)= !decide (eaS h s b= []):=by
 have e:∀x y z w:Bool,∀b∈zen,decide ((([1,2,4,8]:List Int).foldl (fun n g=>if (if g=1 then x else if g=2 then y else if g=4 then z else w)=true then n+g else n) 0) / b % 2=0)= !(if b=1 then x else if b=2 then y else if b=4 then z else w):=by decide+kernel
 have:=e (decide (eaS h s 1= [])) (decide (eaS h s 2= [])) (decide (eaS h s 4= [])) (decide (eaS h s 8= [])) b hb
 have e2:zzi h s=(([1,2,4,8]:List Int).foldl (fun n g=>if (if g=1 then decide (eaS h s 1= []) else if g=2 then decide (eaS h s 2= []) else if g=4 then decide (eaS h s 4= []) else decide (eaS h s 8= []))=true then n+g else n) 0):=by
  simp [zzi]
 rw [e2,this]
 congr 1
 simp only [zen,List.mem_cons,List.not_mem_nil,or_false] at hb
 rcases hb with rfl|rfl|rfl|rfl <;> simp
theorem zuq {h:Hist} (hc:v8 h=0) {p:Int×Int} (hp:p∈zau (zdb h)):p.2∈zen∧(0≤p.1∧p.1 < h.ss.length)∧eaS h p.1 p.2≠ []:=by
 rw [zww fun g hg=>(zjb hc g hg).1] at hp
 obtain ⟨g,hg,hp⟩:=List.mem_flatMap.1 hp
 obtain ⟨b,hb0,rfl⟩:=List.mem_map.1 hp
 obtain ⟨hb,hq⟩:=List.mem_filter.1 hb0
 have hr:=(zjb hc g hg).2
 rw [zmb hc,zd5] at hg
 obtain ⟨s,hs,rfl⟩:=List.mem_map.1 hg
 rw [zha,Bool.and_eq_true] at hq
 have:=hq.2
 simp only at this
 rw [ynl hb] at this
 exact ⟨hb,hr,by simpa using this⟩
def ydy (h:Hist) (w:List Wan):Hist:={h with wants:=w}
def yt5 (t:Int):Ev:=⟨1,t,0,1,0,⟨0,0⟩,0,[]⟩
def yt4 (t:Int):Ev:=⟨5,t,0,0,0,⟨0,0⟩,0,[]⟩
def yjy:ByteArray:=⟨#[115]⟩
def bxx:ByteArray:=⟨#[120]⟩
def seW (t k:Int):Ev:=⟨2,0,0,0,0,⟨t,k⟩,0,[]⟩
section
variable {α:Type} {q:α→α→Bool}
end
theorem zt8 (G:List Res) (n:NV) (sE sO sM:Value) (h:Hist) (E:List (SV×Ev)) (O:List (SV×H.Ord)) (M:List (SV×Mat)) (T9 T40 T54 T57 T52 T3:TypeId) (H:List Res) (hE:E.map (·.2)=h.evs) (hO:O.map (·.2)=h.ords) (hM:M.map (·.2)=h.mats)
 (h1: .row n.vT.v 1 T9 (h.ts.map za2)∈H) (h2: .row n.vS.v 1 T9 (h.ss.map za2)∈H) (h3: .row n.vO.v 1 T9 (h.os.map za2)∈H) (h4: .row n.vP.v 1 T9 (h.ps.map za2)∈H)
 (h5: .row sE 9 T40 (E.map yjo)∈H) (h6: .row sO 2 T54 (O.map zt9)∈H) (h7: .row sM 4 T57 (M.map zys)∈H) (h9:∀r∈scR T52 E,r∈H) (h10:∀r∈otR T3 O,r∈H) (h11:∀r∈mtR T3 M,r∈H):
 zid (G++H) (.agg [.v n.vT.v,.v n.vS.v,.v n.vO.v,.v n.vP.v,.v sE,.v sO,.v sM,zg9 h.wants]) G (.agg (x3 h)):=by
 refine ⟨fun x hx=>by rw [w8];exact List.mem_append_left _ hx,fun X w v hh hr=> ?_⟩
 have hG:HRel X w G:=HRel.drop (h:=H) (hh.perm List.perm_append_comm)
 refine ⟨hG,?_⟩
 have hmem:∀r∈H,r∈G++H:=fun r hr=>List.mem_append_right _ hr
 have hout:∀r∈H,∀x∈r.own,¬OO G X x:=fun r hr x hx q=>by
  have hxH:x∈j3 H:=k7.2 ⟨r,hr,hx⟩
  have hn:=hh.nodup
  rw [w8,List.nodup_append] at hn
  rcases q with q|q
  ·exact hn.2.2 x q x hxH rfl
  ·exact (hh.lt x (by rw [w8];exact List.mem_append_right _ hxH)).2 q
 have lo:∀av u,Rel w (OO (G++H) X) av u→Rel w (OO G X) av u:=fun av u r=>r.loose fun x hx=>hx.imp (fun q=>by rw [w8];exact List.mem_append_left _ q) id
 have S:∀{α:Type} {s:Value} {sz:Nat} {T:TypeId} {f g:α→List AV} {l:List α},.row s sz T (l.map f)∈H→(∀a∈l,CT w (OO (G++H) X) (OO G X) (f a) (g a))→Rel w (OO G X) (.list false sz (l.map g)) s:=
  fun hm hc=>yky hh (hmem _ hm) (hout _ hm) hc
 have str:∀{s:Value} {l:List ByteArray},.row s 1 T9 (l.map za2)∈H→Rel w (OO G X) (zcf l) s:=fun hm=>S (f:=za2) (g:=za2) hm fun a _=>⟨sc _,trivial⟩
 have evs:Rel w (OO G X) (zlg h.evs) sE:=by
  have:=S (g:=fun p=>evR p.2) h5 fun p hp=>⟨sc _,sc _,sc _,sc _,sc _,sc _,sc _,sc _,sn (S (f:=zar) (g:=zar) (h9 _ (List.mem_map.2 ⟨p,hp,rfl⟩)) fun a _=>⟨sc _,sc _,sc _,trivial⟩),trivial⟩
  rw [←hE]
  show Rel w (OO G X) (.list false 9 ((E.map (·.2)).map evR)) sE
  rw [List.map_map];exact this
 have ords:Rel w (OO G X) (zpl h.ords) sO:=by
  have:=S (g:=fun p=>zcy p.2) h6 fun p hp=>⟨sc _,sn (S (f:=j8) (g:=j8) (h10 _ (List.mem_map.2 ⟨p,hp,rfl⟩)) fun a _=>⟨sc _,trivial⟩),trivial⟩
  rw [←hO]
  show Rel w (OO G X) (.list false 2 ((O.map (·.2)).map zcy)) sO
  rw [List.map_map];exact this
 have mats:Rel w (OO G X) (zpx h.mats) sM:=by
  have:=S (g:=fun p=>zc7 p.2) h7 fun p hp=>⟨sc _,sc _,sc _,sn (S (f:=j8) (g:=j8) (h11 _ (List.mem_map.2 ⟨p,hp,rfl⟩)) fun a _=>⟨sc _,trivial⟩),trivial⟩
  rw [←hM]
  show Rel w (OO G X) (.list false 4 ((M.map (·.2)).map zc7)) sM
  rw [List.map_map];exact this
 have hcells:CT w (OO (G++H) X) (OO G X) [.v n.vT.v,.v n.vS.v,.v n.vO.v,.v n.vP.v,.v sE,.v sO,.v sM,zg9 h.wants] (x3 h):=⟨sn (str h1),sn (str h2),sn (str h3),sn (str h4),sn evs,sn ords,sn mats,lo _,trivial⟩
 cases hr with
 |agg _ ds hl2 hc2=>exact .agg _ ds (by rw [hcells.len];exact hl2) fun j a b=>hcells.get j (by rw [←hcells.len];exact a) a _ (hc2 j (by rw [←hcells.len];exact a) b)
end Go.H
set_option maxRecDepth 10000
namespace Go.Proofs
open Go Go.Ab
attribute [local irreducible] QR QV OE zcz aw zdg zbs zbh za1 thn zfx
open Go.H
theorem zxg {f:Bool} (rows:List (List AV)) (hl:rows.length≤1099511627776):y8 Tryz.prog 55 [.list f 1 rows] [] (fun r h'=>h'= []∧r= .list false 1 rows):=by
 refine z6 Tryz.func55 rfl rfl rfl ?_
 refine rn ?_;refine z8 rfl (ze2 rfl rfl rfl fun b4 hb4=> ?_)
 refine rn ?_;refine z7 rfl (fun hc4=> ?_) (fun hc4=> ?_)
 ·refine rn ?_;have h0:=hb4 hc4
  subst h0
  exact u9 rfl (.le (Sb.nil _ _).le) ⟨rfl,rfl⟩
 ·refine rn ?_;refine qv rfl rfl (q8 rfl rfl) ?_
  refine rn ?_;refine qv rfl rfl (zmp rfl rfl (by simpa using hl)) ?_
  refine rn ?_;exact u9 rfl (.refl _ _) ⟨rfl,by rw [List.nil_append];rfl⟩
theorem zsy {f:Bool} (rows:List (List AV)) (hl:rows.length * 8≤140737488355328) (hone:∀r∈rows,r.all AV.one=true):y8 Tryz.prog 55 [.list f 1 rows] [] (fun r h'=>∃s,h'= [.row s 1 3 rows]∧r= .v s):=by
 refine z6 Tryz.func55 rfl rfl rfl ?_
 refine rn ?_;refine z8 rfl (ze2 rfl rfl rfl fun b4 hb4=> ?_)
 refine rn ?_;refine z7 rfl (fun hc4=> ?_) (fun hc4=> ?_)
 ·refine rn ?_;have h0:=hb4 hc4
  subst h0
  exact u9 rfl (zam 1 3 _) ⟨_,rfl,rfl⟩
 ·refine rn ?_;refine z8 rfl (zec rfl rfl rfl fun s5=> ?_)
  refine rn ?_;refine z8 rfl (zcl rfl rfl (by simp only [List.length_nil];omega) rfl (fun s7=> ?_) hone (by simpa using hl))
  refine rn ?_;exact u9 rfl (.refl _ _) ⟨_,by rw [List.nil_append],rfl⟩
theorem zg0 {f:Bool} (rows:List (List AV)) (hl:rows.length≤1099511627776) (hone:∀r∈rows,r.all AV.one=true):y8 Tryz.prog 55 [.list f 1 rows] [] (fun r h'=>∃s,h'= [.row s 1 3 rows]∧r= .v s):=zsy rows (by omega) hone
theorem zsu {f:Bool} (rows:List (List AV)) (hl:rows.length * 16≤140737488355328) (hone:∀r∈rows,r.all AV.one=true):y8 Tryz.prog 124 [.list f 1 rows] [] (fun r h'=>∃s,h'= [.row s 1 9 rows]∧r= .v s):=by
 refine z6 Tryz.func124 rfl rfl rfl ?_
 refine rn ?_;refine z8 rfl (ze2 rfl rfl rfl fun b4 hb4=> ?_)
 refine rn ?_;refine z7 rfl (fun hc4=> ?_) (fun hc4=> ?_)
 ·refine rn ?_;have h0:=hb4 hc4
  subst h0
  exact u9 rfl (zam 1 9 _) ⟨_,rfl,rfl⟩
 ·refine rn ?_;refine z8 rfl (zec rfl rfl rfl fun s5=> ?_)
  refine rn ?_;refine z8 rfl (zcl rfl rfl (by simp only [List.length_nil];omega) rfl (fun s7=> ?_) hone (by simpa using hl))
  refine rn ?_;exact u9 rfl (.refl _ _) ⟨_,by rw [List.nil_append],rfl⟩
theorem zfh {f:Bool} (rows:List (List AV)) (hl:rows.length≤1099511627776) (hone:∀r∈rows,r.all AV.one=true):y8 Tryz.prog 124 [.list f 1 rows] [] (fun r h'=>∃s,h'= [.row s 1 9 rows]∧r= .v s):=zsu rows (by omega) hone
theorem ydh {f:Bool} (rows:List (List AV)) (hl:rows.length≤1099511627776):y8 Tryz.prog 81 [.list f 3 rows] [] (fun r h'=>h'= []∧r= .list false 3 rows):=by
 refine z6 Tryz.func81 rfl rfl rfl ?_
 refine rn ?_;refine z8 rfl (ze2 rfl rfl rfl fun b4 hb4=> ?_)
 refine rn ?_;refine z7 rfl (fun hc4=> ?_) (fun hc4=> ?_)
 ·refine rn ?_;have h0:=hb4 hc4
  subst h0
  exact u9 rfl (.le (Sb.nil _ _).le) ⟨rfl,rfl⟩
 ·refine rn ?_;refine qv rfl rfl (q8 rfl rfl) ?_
  refine rn ?_;refine qv rfl rfl (zmp rfl rfl (by simpa using hl)) ?_
  refine rn ?_;exact u9 rfl (.refl _ _) ⟨rfl,by rw [List.nil_append];rfl⟩
theorem zqm {f:Bool} (rows:List (List AV)) (hl:rows.length * 24≤140737488355328) (hone:∀r∈rows,r.all AV.one=true):y8 Tryz.prog 81 [.list f 3 rows] [] (fun r h'=>∃s,h'= [.row s 3 139 rows]∧r= .v s):=by
 refine z6 Tryz.func81 rfl rfl rfl ?_
 refine rn ?_;refine z8 rfl (ze2 rfl rfl rfl fun b4 hb4=> ?_)
 refine rn ?_;refine z7 rfl (fun hc4=> ?_) (fun hc4=> ?_)
 ·refine rn ?_;have h0:=hb4 hc4
  subst h0
  exact u9 rfl (zam 3 139 _) ⟨_,rfl,rfl⟩
 ·refine rn ?_;refine z8 rfl (zec rfl rfl rfl fun s5=> ?_)
  refine rn ?_;refine z8 rfl (zcl rfl rfl (by simp only [List.length_nil];omega) rfl (fun s7=> ?_) hone (by simpa using hl))
  refine rn ?_;exact u9 rfl (.refl _ _) ⟨_,by rw [List.nil_append],rfl⟩
theorem zsv {f:Bool} (rows:List (List AV)) (hl:rows.length≤1099511627776) (hone:∀r∈rows,r.all AV.one=true):y8 Tryz.prog 81 [.list f 3 rows] [] (fun r h'=>∃s,h'= [.row s 3 139 rows]∧r= .v s):=zqm rows (by omega) hone
theorem zy8 {f:Bool} (rows:List (List AV)) (hl:rows.length≤1099511627776) (hone:∀r∈rows,r.all AV.one=true):y8 Tryz.prog 53 [.list f 9 rows] [] (fun r h'=>∃s,h'= [.row s 9 66 rows]∧r= .v s):=by
 refine z6 Tryz.func53 rfl rfl rfl ?_
 refine rn ?_;refine z8 rfl (ze2 rfl rfl rfl fun b4 hb4=> ?_)
 refine rn ?_;refine z7 rfl (fun hc4=> ?_) (fun hc4=> ?_)
 ·refine rn ?_;have h0:=hb4 hc4
  subst h0
  exact u9 rfl (zam 9 66 _) ⟨_,rfl,rfl⟩
 ·refine rn ?_;refine z8 rfl (zec rfl rfl rfl fun s5=> ?_)
  refine rn ?_;refine z8 rfl (u6 rfl rfl (by simpa using hl) rfl (fun s7=> ?_) hone)
  refine rn ?_;exact u9 rfl (.refl _ _) ⟨_,by rw [List.nil_append],rfl⟩
theorem zsw {f:Bool} (rows:List (List AV)) (hl:rows.length * 32≤140737488355328) (hone:∀r∈rows,r.all AV.one=true):y8 Tryz.prog 54 [.list f 2 rows] [] (fun r h'=>∃s,h'= [.row s 2 99 rows]∧r= .v s):=by
 refine z6 Tryz.func54 rfl rfl rfl ?_
 refine rn ?_;refine z8 rfl (ze2 rfl rfl rfl fun b4 hb4=> ?_)
 refine rn ?_;refine z7 rfl (fun hc4=> ?_) (fun hc4=> ?_)
 ·refine rn ?_;have h0:=hb4 hc4
  subst h0
  exact u9 rfl (zam 2 99 _) ⟨_,rfl,rfl⟩
 ·refine rn ?_;refine z8 rfl (zec rfl rfl rfl fun s5=> ?_)
  refine rn ?_;refine z8 rfl (zcl rfl rfl (by simp only [List.length_nil];omega) rfl (fun s7=> ?_) hone (by simpa using hl))
  refine rn ?_;exact u9 rfl (.refl _ _) ⟨_,by rw [List.nil_append],rfl⟩
theorem zu6 {f:Bool} (rows:List (List AV)) (hl:rows.length≤1099511627776) (hone:∀r∈rows,r.all AV.one=true):y8 Tryz.prog 54 [.list f 2 rows] [] (fun r h'=>∃s,h'= [.row s 2 99 rows]∧r= .v s):=zsw rows (by omega) hone
theorem zsx {f:Bool} (rows:List (List AV)) (hl:rows.length * 48≤140737488355328) (hone:∀r∈rows,r.all AV.one=true):y8 Tryz.prog 128 [.list f 4 rows] [] (fun r h'=>∃s,h'= [.row s 4 112 rows]∧r= .v s):=by
 refine z6 Tryz.func128 rfl rfl rfl ?_
 refine rn ?_;refine z8 rfl (ze2 rfl rfl rfl fun b4 hb4=> ?_)
 refine rn ?_;refine z7 rfl (fun hc4=> ?_) (fun hc4=> ?_)
 ·refine rn ?_;have h0:=hb4 hc4
  subst h0
  exact u9 rfl (zam 4 112 _) ⟨_,rfl,rfl⟩
 ·refine rn ?_;refine z8 rfl (zec rfl rfl rfl fun s5=> ?_)
  refine rn ?_;refine z8 rfl (zcl rfl rfl (by simp only [List.length_nil];omega) rfl (fun s7=> ?_) hone (by simpa using hl))
  refine rn ?_;exact u9 rfl (.refl _ _) ⟨_,by rw [List.nil_append],rfl⟩
theorem zu7 {f:Bool} (rows:List (List AV)) (hl:rows.length≤1099511627776) (hone:∀r∈rows,r.all AV.one=true):y8 Tryz.prog 128 [.list f 4 rows] [] (fun r h'=>∃s,h'= [.row s 4 112 rows]∧r= .v s):=zsx rows (by omega) hone
theorem yh5 {f:Bool} (rows:List (List AV)) (hl:rows.length≤1099511627776):y8 Tryz.prog 82 [.list f 2 rows] [] (fun r h'=>h'= []∧r= .list false 2 rows):=by
 refine z6 Tryz.func82 rfl rfl rfl ?_
 refine rn ?_;refine z8 rfl (ze2 rfl rfl rfl fun b4 hb4=> ?_)
 refine rn ?_;refine z7 rfl (fun hc4=> ?_) (fun hc4=> ?_)
 ·refine rn ?_;have h0:=hb4 hc4
  subst h0
  exact u9 rfl (.le (Sb.nil _ _).le) ⟨rfl,rfl⟩
 ·refine rn ?_;refine qv rfl rfl (q8 rfl rfl) ?_
  refine rn ?_;refine qv rfl rfl (zmp rfl rfl (by simpa using hl)) ?_
  refine rn ?_;exact u9 rfl (.refl _ _) ⟨rfl,by rw [List.nil_append];rfl⟩
attribute [local irreducible] zed jch zfd
theorem yh3 {full:Bool} (l:List ByteArray) (most:Nat) (hm:most≤1000):y8 Tryz.prog 80 [.list full 1 (l.map za2),iv most] [] (fun r h'=>h'= []∧r=zcf (znn most l)):=by
 refine z6 Tryz.func80 rfl rfl rfl ?_
 refine x8 (y5 ?_)
 refine q1 ?_;refine u0 (j7 ?_)
 refine x8 (y5 ?_)
 refine q1 ?_;refine q1 ?_;refine q1 ?_;refine q1 ?_;refine qq rfl rfl (zkb (l.map za2).length most rfl rfl) ?_
 refine qq rfl rfl (zfb (rows':=(l.take most).map za2) rfl rfl (by omega) (by rw [oM];exact take_min za2 l most)) ?_
 refine z8 rfl (q7 rfl rfl (y3.rowS (y3.of_fun (zfh _ (by simp;omega) (zmt _)))) rfl ?_)
 rintro _ _ ⟨s,rfl,rfl⟩
 refine rn ?_;refine u5 (fun k:Nat=>k≤(l.take most).length) (fun k=>⟨[(17,iv k),(16,iv ((l.take most).map za2).length),(15,.v s.v),(5,.v s.v)],[.row s.v 1 9 ((((l.take most).take k).map cutS).map za2++((l.take most).drop k).map za2)],[]⟩) (fun k=>(l.take most).length - k) 0 (by omega)
  (by simp only [List.take_zero,List.map_nil,List.nil_append,List.drop_zero];exact (w6 (.cons _ _ _ rfl (.cons _ _ _ rfl (.cons _ _ _ rfl (.cons _ _ _ rfl (.nil))))))) ?_
 intro k hk
 refine rn ?_;refine z7 rfl (fun hc18=> ?_) (fun hc18=> ?_)
 ·have hk2:k < (l.take most).length:=by simpa using hc18
  obtain ⟨b,hb⟩:∃b,b=(l.take most)[k]:=⟨_,rfl⟩
  have hd:=List.drop_eq_getElem_cons hk2
  rw [←hb] at hd
  have hL:=List.length_take_le most l
  have hkl:(((l.take most).take k).map cutS).length=k:=by rw [oM,List.length_take];omega
  have hrow:=zpu (f:=za2) (g:=za2) (xs:=((l.take most).take k).map cutS) (k:=k) hkl hd
  have hk3:k < ((((l.take most).take k).map cutS).map za2++((l.take most).drop k).map za2).length:=by rw [zpt hkl hk];exact hk2
  refine zad ?_;refine j7 ?_;refine x8 ?_;refine zaj ?_;refine x8 (y5 ?_)
  refine q1 ?_;refine q1 ?_;refine qq rfl rfl (zdf rfl hrow rfl) ?_
  refine q1 ?_;refine q1 ?_;refine u0 (j7 ?_)
  refine y5 ?_;refine q1 ?_;refine q1 ?_;refine q1 ?_;refine q1 ?_;refine q1 ?_;refine qq rfl rfl (zkb b.size 40 rfl rfl) ?_
  refine qq rfl rfl (zeb rfl rfl (by omega)) ?_
  refine rn ?_;refine z8 rfl (zaz rfl rfl rfl hrow rfl (Nat.le_of_ble_eq_true rfl) ?_)
  refine rn ?_;have hset:=zpr (f:=za2) (g:=za2) (l:=(l.take most)) (xs:=((l.take most).take k).map cutS) (a:=cutS b) (r:=(za2 b).take 0++ [sv (cutS b)]++(za2 b).drop (0+1)) hkl hd rfl
  have hx:((l.take most).take k).map cutS++ [cutS b]=((l.take most).take (k+1)).map cutS:=by rw [List.take_succ_eq_append_getElem hk2,hb];simp
  rw [hx] at hset
  exact ⟨k+1,by omega,(by rw [←hset];exact (w6 (.cons _ _ _ rfl (.cons _ _ _ rfl (.cons _ _ _ rfl (.cons _ _ _ rfl (.nil))))))),by omega⟩
 ·obtain rfl:k=(l.take most).length:=by
   have:¬k < (l.take most).length:=by simpa using hc18
   omega
  rw [List.take_length,List.drop_length,List.map_nil,List.append_nil]
  refine rn ?_;exact u9 rfl zcv ⟨rfl,rfl⟩
theorem yhx (h:Hist) (la:Lim 4611686018427387904 h):y8 Tryz.prog 32 [.agg (x3 h)] [] (fun r h'=>h'= []∧r= .agg (x3 (zge h))):=by
 refine z6 Tryz.func32 rfl rfl rfl ?_
 refine rn ?_;refine z8 rfl (x9 rfl rfl rfl fun b1=> ?_)
 refine z8 rfl (y6 rfl fun b2=> ?_)
 refine rn0 ?_;refine zi2 (fun _:Nat=>True) (fun b3=>⟨[(1,pZ b1),(2,pZ b2),(3,pZ b3)],[.box b3 28 [zcf (znn 12 h.ts),zcf (znn 8 h.ss),zcf (znn 10 h.os),zcf (znn 6 h.ps),zq1,zq1,zq1,zq1],.box b2 28 zgc,.box b1 28 (x3 h)],[]⟩) ?_ ?_
 ·refine j4 14 rfl ?_
  refine rn ?_;refine dv rfl rfl (by exact y4 rfl rfl (v6 (yh3 h.ts 12 (by decide)) (Sbs.refl _))) ?_
  refine rn ?_;refine dv rfl rfl (by exact y4 rfl rfl (v6 (yh3 h.ss 8 (by decide)) (Sbs.refl _))) ?_
  refine rn ?_;refine dv rfl rfl (by exact y4 rfl rfl (v6 (yh3 h.os 10 (by decide)) (Sbs.refl _))) ?_
  refine rn ?_;refine dv rfl rfl (by exact y4 rfl rfl (v6 (yh3 h.ps 6 (by decide)) (Sbs.refl _))) ?_
  refine rn ?_;refine yh2 rfl fun b3=> ?_
  refine rn ?_;exact ⟨b3,trivial,(w6 (.cons _ _ _ rfl (.cons _ _ _ rfl (.cons _ _ _ rfl (.nil)))))⟩
 ·intro b3 _
  refine rn ?_;refine u5 (fun x:Nat×SV=>x.1≤h.evs.length) (fun x=>⟨[(26,iv x.1),(25,iv (h.evs.map evR).length),(24,zlg h.evs),(1,pZ b1),(2,pZ b2),(3,pZ b3)],[.row x.2.v 9 66 (((h.evs.take (min x.1 70)).map zql).map evR),.box b3 28 [zcf (znn 12 h.ts),zcf (znn 8 h.ss),zcf (znn 10 h.os),zcf (znn 6 h.ps),.v x.2.v,zq1,zq1,zq1],.box b2 28 zgc,.box b1 28 (x3 h)],[]⟩) (fun x=>h.evs.length - x.1) (0,yu0) (by simp)
   (w9 (k6 9 66) (w6 (.cons _ _ _ rfl (.cons _ _ _ rfl (.cons _ _ _ rfl (.cons _ _ _ rfl (.cons _ _ _ rfl (.cons _ _ _ rfl (.nil))))))))) ?_
  rintro ⟨k,s⟩ hk
  simp only at hk
  refine rn ?_;refine z7 rfl (fun hc27=> ?_) (fun hc27=> ?_)
  ·have hk2:k < h.evs.length:=by simpa using hc27
   obtain ⟨e,he⟩:∃e,e=h.evs[k]:=⟨_,rfl⟩
   have hrow:(h.evs.map evR)[k]? =some (evR e):=by rw [he];simp [hk2]
   have hle:=la.evs
   refine rn ?_;refine z8 rfl (y6 rfl fun b5=> ?_)
   refine rn ?_;refine z7 rfl (fun hc32=> ?_) (fun hc32=> ?_)
   ·have hlt:k < 70:=by have:=hc32;simp at this;omega
    refine x8 (y5 ?_)
    refine q1 ?_;refine q1 ?_;refine q1 ?_;refine q1 ?_;refine q1 ?_;refine qq rfl rfl (zkb (e.scan.map zar).length 12 rfl rfl) ?_
    refine qq rfl rfl (zfb (rows':=(e.scan.take 12).map zar) rfl rfl (by omega) (by rw [oM];exact take_min zar e.scan 12)) ?_
    refine qv rfl rfl (y4 rfl rfl (v6 (ydh ((e.scan.take 12).map zar) (by simp;omega)) (Sbs.refl _))) ?_
    refine rn ?_;refine qv rfl rfl (q8 rfl rfl) ?_
    refine z8 rfl (u6 rfl rfl (by have:=zz1 h.evs k 70;simp at this ⊢;omega) rfl (fun s46=> ?_) (fun r hr=>by simp at hr;subst hr;rfl))
    refine zaa s46 fun sv hsv=> ?_
    subst hsv
    refine rn ?_;have hx:((h.evs.take (min (k+1) 70)).map zql).map evR=((h.evs.take (min k 70)).map zql).map evR++ [evR (zql e)]:=by rw [yk0 hk2 hlt he];simp
    exact ⟨(k+1,sv),by simp only;omega,(by rw [hx];exact (w9 (zba (h1:= [_])) (w6 (.cons _ _ _ rfl (.cons _ _ _ rfl (.cons _ _ _ rfl (.cons _ _ _ rfl (.cons _ _ _ rfl (.cons _ _ _ rfl (.nil)))))))))),by simp only;omega⟩
   ·have hlt:¬k < 70:=by have:=hc32;simp at this;omega
    refine rn ?_;exact ⟨(k+1,s),by simp only;omega,(by rw [ykz hlt];exact (w9 (zba (h1:= [_])) (w6 (.cons _ _ _ rfl (.cons _ _ _ rfl (.cons _ _ _ rfl (.cons _ _ _ rfl (.cons _ _ _ rfl (.cons _ _ _ rfl (.nil)))))))))),by simp only;omega⟩
  ·obtain rfl:k=h.evs.length:=by
    have:¬k < h.evs.length:=by simpa using hc27
    omega
   obtain ⟨sE,hsE⟩:∃sE:SV,sE=s:=⟨_,rfl⟩
   simp only [zz2,←hsE]
   refine rn ?_;refine u5 (fun x:Nat×SV=>x.1≤h.ords.length) (fun x=>⟨[(52,iv x.1),(51,iv (h.ords.map zcy).length),(50,zpl h.ords),(1,pZ b1),(2,pZ b2),(3,pZ b3)],[.row x.2.v 2 99 (((h.ords.take (min x.1 14)).map zu5).map zcy),.row sE.v 9 66 (((h.evs.take 70).map zql).map evR),.box b3 28 [zcf (znn 12 h.ts),zcf (znn 8 h.ss),zcf (znn 10 h.os),zcf (znn 6 h.ps),.v sE.v,.v x.2.v,zq1,zq1],.box b2 28 zgc,.box b1 28 (x3 h)],[]⟩) (fun x=>h.ords.length - x.1) (0,yu0) (by simp)
    (w9 (k6 2 99) (w6 (.cons _ _ _ rfl (.cons _ _ _ rfl (.cons _ _ _ rfl (.cons _ _ _ rfl (.cons _ _ _ rfl (.cons _ _ _ rfl (.nil))))))))) ?_
   rintro ⟨k,s⟩ hk
   simp only at hk
   refine rn ?_;refine z7 rfl (fun hc53=> ?_) (fun hc53=> ?_)
   ·have hk2:k < h.ords.length:=by simpa using hc53
    obtain ⟨e,he⟩:∃e,e=h.ords[k]:=⟨_,rfl⟩
    have hrow:(h.ords.map zcy)[k]? =some (zcy e):=by rw [he];simp [hk2]
    have hle:=la.ords
    refine rn ?_;refine z8 rfl (y6 rfl fun b7=> ?_)
    refine rn ?_;refine z7 rfl (fun hc58=> ?_) (fun hc58=> ?_)
    ·have hlt:k < 14:=by have:=hc58;simp at this;omega
     refine j4 14 rfl ?_
     refine dq rfl rfl qrA ?_;refine dq rfl rfl qrA ?_;refine dq rfl rfl qrA ?_;refine dq rfl rfl qrA ?_;refine dq rfl rfl qrA ?_;refine dq rfl rfl qrA ?_;refine dq rfl rfl qrA ?_;refine dq rfl rfl qrA ?_;refine dq rfl rfl qrA ?_;refine dq rfl rfl (zkb (e.ts.map j8).length 14 rfl rfl) ?_
     refine dq rfl rfl (zfb (rows':=(e.ts.take 14).map j8) rfl rfl (by omega) (by rw [oM];exact take_min j8 e.ts 14)) ?_
     refine dv rfl rfl (by exact y4 rfl rfl (v6 (zxg ((e.ts.take 14).map j8) (by simp;omega)) (Sbs.refl _))) ?_
     refine rn ?_;refine dv rfl rfl (q8 rfl rfl) ?_
     refine rn ?_;refine z8 rfl (u6 rfl rfl (by have:=zz1 h.ords k 14;simp at this ⊢;omega) rfl (fun s73=> ?_) (fun r hr=>by simp at hr;subst hr;rfl))
     refine zaa s73 fun sv hsv=> ?_
     subst hsv
     refine rn ?_;have hx:((h.ords.take (min (k+1) 14)).map zu5).map zcy=((h.ords.take (min k 14)).map zu5).map zcy++ [zcy (zu5 e)]:=by rw [yk0 hk2 hlt he];simp
     exact ⟨(k+1,sv),by simp only;omega,(by rw [hx];exact (w9 (zba (h1:= [_])) (w6 (.cons _ _ _ rfl (.cons _ _ _ rfl (.cons _ _ _ rfl (.cons _ _ _ rfl (.cons _ _ _ rfl (.cons _ _ _ rfl (.nil)))))))))),by simp only;omega⟩
    ·have hlt:¬k < 14:=by have:=hc58;simp at this;omega
     refine rn ?_;exact ⟨(k+1,s),by simp only;omega,(by rw [ykz hlt];exact (w9 (zba (h1:= [_])) (w6 (.cons _ _ _ rfl (.cons _ _ _ rfl (.cons _ _ _ rfl (.cons _ _ _ rfl (.cons _ _ _ rfl (.cons _ _ _ rfl (.nil)))))))))),by simp only;omega⟩
   ·obtain rfl:k=h.ords.length:=by
     have:¬k < h.ords.length:=by simpa using hc53
     omega
    obtain ⟨sO,hsO⟩:∃sO:SV,sO=s:=⟨_,rfl⟩
    simp only [zz2,←hsO]
    refine rn ?_;refine u5 (fun x:Nat×SV=>x.1≤h.mats.length) (fun x=>⟨[(79,iv x.1),(78,iv (h.mats.map zc7).length),(77,zpx h.mats),(1,pZ b1),(2,pZ b2),(3,pZ b3)],[.row x.2.v 4 112 (((h.mats.take (min x.1 20)).map zy6).map zc7),.row sO.v 2 99 (((h.ords.take 14).map zu5).map zcy),.row sE.v 9 66 (((h.evs.take 70).map zql).map evR),.box b3 28 [zcf (znn 12 h.ts),zcf (znn 8 h.ss),zcf (znn 10 h.os),zcf (znn 6 h.ps),.v sE.v,.v sO.v,.v x.2.v,zq1],.box b2 28 zgc,.box b1 28 (x3 h)],[]⟩) (fun x=>h.mats.length - x.1) (0,yu0) (by simp)
     (w9 (k6 4 112) (w6 (.cons _ _ _ rfl (.cons _ _ _ rfl (.cons _ _ _ rfl (.cons _ _ _ rfl (.cons _ _ _ rfl (.cons _ _ _ rfl (.nil))))))))) ?_
    rintro ⟨k,s⟩ hk
    simp only at hk
    refine rn ?_;refine z7 rfl (fun hc80=> ?_) (fun hc80=> ?_)
    ·have hk2:k < h.mats.length:=by simpa using hc80
     obtain ⟨e,he⟩:∃e,e=h.mats[k]:=⟨_,rfl⟩
     have hrow:(h.mats.map zc7)[k]? =some (zc7 e):=by rw [he];simp [hk2]
     have hle:=la.mats
     refine rn ?_;refine z8 rfl (y6 rfl fun b9=> ?_)
     refine rn ?_;refine z7 rfl (fun hc85=> ?_) (fun hc85=> ?_)
     ·have hlt:k < 20:=by have:=hc85;simp at this;omega
      refine x8 (y5 ?_)
      refine q1 ?_;refine q1 ?_;refine q1 ?_;refine q1 ?_;refine q1 ?_;refine qq rfl rfl (zkb (e.ts.map j8).length 14 rfl rfl) ?_
      refine qq rfl rfl (zfb (rows':=(e.ts.take 14).map j8) rfl rfl (by omega) (by rw [oM];exact take_min j8 e.ts 14)) ?_
      refine qv rfl rfl (y4 rfl rfl (v6 (zxg ((e.ts.take 14).map j8) (by simp;omega)) (Sbs.refl _))) ?_
      refine rn ?_;refine qv rfl rfl (q8 rfl rfl) ?_
      refine z8 rfl (u6 rfl rfl (by have:=zz1 h.mats k 20;simp at this ⊢;omega) rfl (fun s99=> ?_) (fun r hr=>by simp at hr;subst hr;rfl))
      refine zaa s99 fun sv hsv=> ?_
      subst hsv
      refine rn ?_;have hx:((h.mats.take (min (k+1) 20)).map zy6).map zc7=((h.mats.take (min k 20)).map zy6).map zc7++ [zc7 (zy6 e)]:=by rw [yk0 hk2 hlt he];simp
      exact ⟨(k+1,sv),by simp only;omega,(by rw [hx];exact (w9 (zba (h1:= [_])) (w6 (.cons _ _ _ rfl (.cons _ _ _ rfl (.cons _ _ _ rfl (.cons _ _ _ rfl (.cons _ _ _ rfl (.cons _ _ _ rfl (.nil)))))))))),by simp only;omega⟩
     ·have hlt:¬k < 20:=by have:=hc85;simp at this;omega
      refine rn ?_;exact ⟨(k+1,s),by simp only;omega,(by rw [ykz hlt];exact (w9 (zba (h1:= [_])) (w6 (.cons _ _ _ rfl (.cons _ _ _ rfl (.cons _ _ _ rfl (.cons _ _ _ rfl (.cons _ _ _ rfl (.cons _ _ _ rfl (.nil)))))))))),by simp only;omega⟩
    ·obtain rfl:k=h.mats.length:=by
      have:¬k < h.mats.length:=by simpa using hc80
      omega
     obtain ⟨sM,hsM⟩:∃sM:SV,sM=s:=⟨_,rfl⟩
     simp only [zz2,←hsM]
     refine zhv ?_;refine zhf ?_;refine zhf ?_;refine zd1 ?_;refine j7 ?_;refine x8 (y5 ?_)
     refine q1 ?_;refine q1 ?_;refine q1 ?_;refine q1 ?_;refine q1 ?_;refine qq rfl rfl (zkb (h.wants.map zco).length 12 rfl rfl) ?_
     refine qq rfl rfl (zfb (rows':=(h.wants.take 12).map zco) rfl rfl (by omega) (by rw [oM];exact take_min zco h.wants 12)) ?_
     refine qv rfl rfl (y4 rfl rfl (v6 (yh5 ((h.wants.take 12).map zco) (by simp;omega)) (Sbs.refl _))) ?_
     refine rn ?_;exact ze0 (.cons _ _ _ _ (.agg _ _ _ _ _ _ _ rfl inferInstance inferInstance inferInstance rfl) .nil) (.trans (zav [_,_,_,_,_,_] _) (.trans (zav [_,_,_,_,_] _) (.trans (zav [_,_,_,_] _) (.drop [_,_,_] _ _)))) ⟨rfl,rfl⟩
end Go.Proofs
namespace Go.Ab
open Go
class HasMapE (h:List Res) (r:Nat) (i:outParam Nat) (es:outParam (List (Value×AV))) (j st:outParam Nat):Prop where
 h:h[i]? =some (.mape r es j st)
instance HasMapE.head {r:Nat} {es:List (Value×AV)} {j st:Nat} {h:List Res}:HasMapE (.mape r es j st::h) r 0 es j st:=⟨rfl⟩
instance HasMapE.tail {r i:Nat} {es:List (Value×AV)} {j st:Nat} {x:Res} {h:List Res} [k:HasMapE h r i es j st]:HasMapE (x::h) r (i+1) es j st:=⟨by simpa using k.h⟩
def zk7 {K:Type} [DecidableEq K] (k:K) (z:AV) (es:List (K×AV)):List (K×AV):=match zdy k es with
 |some _=>es
 |none=>es++ [(k,z)]
theorem zr1 {K:Type} [DecidableEq K] (k:K) (z:AV):∀es:List (K×AV),zdy k es=none→zdy k (es++ [(k,z)])=some z
 | [],_=>by simp [zdy]
 |p::es,h=>by
  simp only [zdy,List.cons_append] at h ⊢
  split at h
  ·cases h
  ·rename_i hn;rw [if_neg hn];exact zr1 k z es h
theorem ybv {K:Type} [DecidableEq K] (k:K) (z:AV) (es:List (K×AV)):(zdy k (zk7 k z es)).getD z=(zdy k es).getD z:=by
 unfold zk7
 cases h:zdy k es with
 |some a=>simp [h]
 |none=>simp [zr1 k z es h]
section
variable {P:Program} {ro:Option Nat} {nt:Nat} {dst:Option Tmp} {ty:TypeId} {pos:String} {after:Array Edge} {guard:Option (Nat×Bool)} {x y z:Operand} {t:Fr} {h:List Res} {ds:List Nat} {next:St→Prop} {f:Operand→Option AV}
 {K:Type} [DecidableEq K] {enc:K→Value} {es:List (K×AV)} {kt et T:TypeId} {r i:Nat} {k:K} {av:AV}
theorem zud {d:Tmp} {kv:AV} {zv:Value} {h':Res→List Res} (hlt:dok nt (some d)=true) (hx:ev t x=some (.v (.map (some r)))) (hy:ev t y=some kv) [hkv:KeyV kv (enc k)] [hm:HasMap h r i (zah enc es)] [hu:Und P T (.map kt et)] [hkt:KeyT P kt enc] [hz:ZerV P et zv]
 [hset:∀y,SetAt h i y (h' y)] (hk:∀(j st:Nat),(∀a,(zah enc (zk7 k (.v zv) es)).modify j (fun p=>(p.1,a))=zah enc (zn4 k a es))→
  next ⟨(d,.tup [(zdy k es).getD (.v zv),.v (.int .i64 st)])::t,h' (.mape r (zah enc (zk7 k (.v zv) es)) j st),ds⟩):
 OE P ro nt ⟨some d,.mapEntry T x y,ty,pos,after,guard⟩ ⟨t,h,ds⟩ next:=by
 intro X a w Kc Q hs hK
 refine ⟨zae,?_⟩
 obtain ⟨ents,clock,h1,h2,h3,h4,h5⟩:=hs.heap.holds _ (List.mem_of_getElem? hm.h)
 have hks:=keys_of_holds h2 h3
 have hl':es.length=ents.toList.length:=by simpa [zah] using h2
 have hle:es.length=ents.size:=by simpa using hl'
 have hfind:=hkt.find w k ents.toList (es.map (·.1)) hks
 have hrun:∃ents' clock' j st v,(Instr.mapEntry T (a.eval x) (a.eval y)).run P w= .ok (.tuple #[v,.int .i64 (st:Nat)]) {w with heap:=w.heap.setIfInBounds r (.map ents' clock')}∧
  Rel w (OO h X) ((zdy k es).getD (.v zv)) v∧(∀a,(zah enc (zk7 k (.v zv) es)).modify j (fun p=>(p.1,a))=zah enc (zn4 k a es))∧
  (zah enc (zk7 k (.v zv) es)).length=ents'.size∧(∀i (h1:i < (zah enc (zk7 k (.v zv) es)).length) (h2:i < ents'.size),(zah enc (zk7 k (.v zv) es))[i].1=ents'[i].key∧Rel w (OO h X) (zah enc (zk7 k (.v zv) es))[i].2 ents'[i].val)∧
  (∀i (h:i < ents'.size),ents'[i].born < clock')∧(∀i j (hi:i < ents'.size) (hj:j < ents'.size),i < j→ents'[i].born < ents'[j].born)∧∃h:j < ents'.size,ents'[j].born=st:=by
  rw [(hs.env.rel x _ hx).v_eq,hkv.h w _ _ (hs.env.rel y _ hy)]
  simp only [Instr.mapEntry,Sem.run_bind,run_underlying (h:=hu),Result.andThen_ok,MapKept.run_getObj_map h1,hkt.chk,hfind]
  rcases zm8 k es ents.toList 0 hl' with ⟨g,b,c⟩|⟨j,g1,g2,g,b,c,d⟩
  ·rw [g]
   have he:zk7 k (.v zv) es=es++ [(k,.v zv)]:=by unfold zk7;rw [b]
   rw [he]
   refine ⟨ents.push {key:=enc k,val:=zv,born:=clock},clock+1,es.length,clock,zv,?_,by rw [b];exact .v _,fun a=> ?_,by simp [zah,hle],fun i a1 a2=> ?_,fun i a1=> ?_,fun i j a1 a2 a3=> ?_,by simp [hle],?_⟩
   ·simp only [Sem.run_bind,run_zeroValue hz.h,Result.andThen_ok,MapKept.run_setObj_map _ h1,Sem.run_pure,goInt]
   ·rw [c a]
    simp only [zah,List.map_append,List.map_cons,List.map_nil]
    have:es.length=(es.map fun p=>(enc p.1,p.2)).length:=by simp
    rw [this]
    have hmod:∀(l:List (Value×AV)) (p:Value×AV) (g:Value×AV→Value×AV),(l++ [p]).modify l.length g=l++ [g p]:=by
     intro l p g
     induction l with
     |nil=>rfl
     |cons q l ih=>simp [ih]
    rw [hmod]
   ·simp only [zah,List.map_append,List.map_cons,List.map_nil,List.getElem_append,Array.getElem_push]
    by_cases hi:i < ents.size
    ·have:i < (List.map (fun p:K×AV=>(enc p.1,p.2)) es).length:=by simp;omega
     simp only [hi,this,dif_pos]
     exact h3 i (by simpa [zah] using this) hi
    ·have h9:¬i < (List.map (fun p:K×AV=>(enc p.1,p.2)) es).length:=by simp;omega
     simp only [hi,h9,dif_neg,not_false_eq_true,List.getElem_singleton]
     exact ⟨trivial,.v _⟩
   ·rw [Array.getElem_push]
    split
    ·have:=h4 i (by assumption);omega
    ·simp
   ·simp only [Array.size_push] at a1 a2
    rw [Array.getElem_push,Array.getElem_push]
    split <;> split
    ·exact h5 i j _ _ a3
    ·have:=h4 i (by assumption);simpa using this
    ·omega
    ·omega
   ·simp [Array.getElem_push,hle]
  ·have hj:j < ents.size:=by simpa using g2
   have hkey:ents[j].key=enc k:=by
    have:=(h3 j (by simpa [zah] using g1) hj).1
    simp [zah] at this
    rw [←this,c]
   have he:zk7 k (.v zv) es=es:=by unfold zk7;rw [b]
   rw [g,he]
   have hgd:((ents[j]?).map (·.key)).getD (enc k)=enc k:=by
    rw [Array.getElem?_eq_getElem hj];simp [hkey]
   have hsame:(ents.modify j fun e=>{e with key:=enc k})=ents:=by
    apply Array.ext
    ·simp
    ·intro q q1 q2
     rw [Array.getElem_modify]
     split
     ·rename_i hjq;subst hjq
      have hk2:∀e:MapEntry,e.key=enc k→({e with key:=enc k}:MapEntry)=e:=fun e he=>by
       cases e;simp only at he;subst he;rfl
      exact hk2 _ hkey
     ·rfl
   refine ⟨ents,clock,j,ents[j].born,ents[j].val,?_,?_,fun a=> ?_,h2,h3,h4,h5,hj,rfl⟩
   ·simp only [Sem.run_bind,Nat.zero_add,hgd,zg6 (P:=P) (kt:=kt),Result.andThen_ok,hsame,MapKept.run_setObj_map _ h1,Sem.run_pure,goInt]
    simp only [Array.getElem?_eq_getElem hj,Option.map_some,Option.getD_some]
    rfl
   ·rw [b]
    have:=(h3 j (by simpa [zah] using g1) hj).2
    simpa [zah] using this
   ·rw [d a]
    refine List.ext_getElem (by simp [zah]) fun q q1 q2=> ?_
    simp only [zah,List.getElem_modify,List.getElem_map,List.getElem_set]
    split
    ·rename_i hq;subst hq;rw [c]
    ·rfl
 obtain ⟨ents',clock',j,st,v,e,hv,hmod,e1,e2,e3,e4,e5,e6⟩:=hrun
 rw [za7 rfl]
 have e':(execOp a.eval (⟨some d,.mapEntry T x y,ty,pos,after,guard⟩:Oper)).run P w= .ok (.value (.tuple #[v,.int .i64 (st:Nat)])) {w with heap:=w.heap.setIfInBounds r (.map ents' clock')}:=run_v _ e
 rw [e']
 have hlt':r < w.heap.size:=(Array.getElem?_eq_some_iff.1 h1).1
 have hoth:∀b,b≠r→(w.heap.setIfInBounds r (.map ents' clock'))[b]? =w.heap[b]? :=fun b hb=>by rw [Array.getElem?_setIfInBounds_ne (Ne.symm hb)]
 have hrown:OO h X r:= .inl (k7.2 ⟨_,List.mem_of_getElem? hm.h,by simp [Res.own]⟩)
 have hkk:∀b,¬OO h X b→b < w.heap.size→(w.heap.setIfInBounds r (.map ents' clock'))[b]? =w.heap[b]? ∧¬OO h X b:=fun b hb hl=>⟨hoth b (fun q=>hb (q ▸ hrown)),hb⟩
 have hholds:(Res.mape r (zah enc (zk7 k (.v zv) es)) j st).holds {w with heap:=w.heap.setIfInBounds r (.map ents' clock')} (OO h X):=
  ⟨ents',clock',by simp [hlt'],e1,fun i a1 a2=>⟨(e2 i a1 a2).1,(e2 i a1 a2).2.keep (by simp) hkk⟩,e3,e4,e5,e6⟩
 have hh2:=hs.heap.set (w':={w with heap:=w.heap.setIfInBounds r (.map ents' clock')}) hm.h (y:= .mape r (zah enc (zk7 k (.v zv) es)) j st) rfl (by simp) (fun b hb hne=>hoth b (by simpa [Res.own] using hne)) hholds
 rw [(hset _).h] at hh2
 have hown:j3 (h' (.mape r (zah enc (zk7 k (.v zv) es)) j st))=j3 h:=by rw [←(hset _).h];exact zdl hm.h rfl
 have hkeep:Keep (j3 h) w (j3 (h' (.mape r (zah enc (zk7 k (.v zv) es)) j st))) {w with heap:=w.heap.setIfInBounds r (.map ents' clock')}:=⟨by simp,fun b hb ho=>⟨hoth b (fun q=>ho (q ▸ k7.2 ⟨_,List.mem_of_getElem? hm.h,by simp [Res.own]⟩)),by rw [hown];exact ho⟩,zi4.eq rfl rfl rfl (by first|exact Nat.le_refl _|exact Nat.le_succ _)⟩
 have hkoo:=fun b hb hl=>hkeep.oo (X:=X) b hb hl
 refine hK _ _ _ (hk j st hmod) (Sim.put (s:=⟨t,h' (.mape r (zah enc (zk7 k (.v zv) es)) j st),ds⟩) ⟨hh2,hs.size,hs.fr.keep hkeep.size (fun b hb hl=>hkoo b hb hl),hs.defs⟩ hlt (.tup _ _ rfl fun q q1 q2=> ?_)) hkeep
 match q,q1,q2 with
 |0,_,_=>exact hv.keep hkeep.size (fun b hb hl=>hkoo b hb hl)
 |1,_,_=>exact .v _
 |q+2,q1,_=>simp at q1;omega
theorem zpm {j st:Nat} {es' es2:List (Value×AV)} {h':List Res} (hx:ev t x=some (.v (.map (some r)))) (hy:ev t y=some (.v (.int .i64 st))) (hz:ev t z=some av) [hm:HasMapE h r i es' j st] (he:es'.modify j (fun p=>(p.1,av))=es2)
 [hset:SetAt h i (.map r es2) h'] (hk:next ⟨t,h',ds⟩):OE P ro nt ⟨none,.entryStore T x y z,ty,pos,after,guard⟩ ⟨t,h,ds⟩ next:=by
 refine zgs rfl rfl (fun X a w hs=> ?_) hk
 obtain ⟨ents,clock,h1,h2,h3,h4,h5,hj,h6⟩:=hs.heap.holds _ (List.mem_of_getElem? hm.h)
 have hrv:=hs.env.rel z _ hz
 subst he
 have hidx:ents.findIdx? (fun e=>((e.born:Nat):Int)==((st:Nat):Int))=some j:=by
  rw [Array.findIdx?_eq_some_iff_getElem]
  refine ⟨hj,by simp [h6],fun q hq=> ?_⟩
  have:=h5 q j (by omega) hj hq
  simp;omega
 obtain ⟨ents',hents⟩:∃e,e=ents.modify j (fun e=>{e with val:=a.eval z}):=⟨_,rfl⟩
 have hsz:ents'.size=ents.size:=by rw [hents];simp
 have hrun:(Instr.entryStore T (a.eval x) (a.eval y) (a.eval z)).run P w= .ok () {w with heap:=w.heap.setIfInBounds r (.map ents' clock)}:=by
  rw [(hs.env.rel x _ hx).v_eq,(hs.env.rel y _ hy).v_eq]
  simp only [Instr.entryStore,Sem.run_bind,MapKept.run_getObj_map h1,Result.andThen_ok,asInt,asIntOf,Sem.run_pure,hidx,MapKept.run_setObj_map _ h1,hents]
 have hlt:r < w.heap.size:=(Array.getElem?_eq_some_iff.1 h1).1
 have hoth:∀b,b≠r→(w.heap.setIfInBounds r (.map ents' clock))[b]? =w.heap[b]? :=fun b hb=>by rw [Array.getElem?_setIfInBounds_ne (Ne.symm hb)]
 have hrown:OO h X r:= .inl (k7.2 ⟨_,List.mem_of_getElem? hm.h,by simp [Res.own]⟩)
 have hkk:∀b,¬OO h X b→b < w.heap.size→(w.heap.setIfInBounds r (.map ents' clock))[b]? =w.heap[b]? ∧¬OO h X b:=fun b hb hl=>⟨hoth b (fun q=>hb (q ▸ hrown)),hb⟩
 have hmapholds:(Res.map r (es'.modify j (fun p=>(p.1,av)))).holds {w with heap:=w.heap.setIfInBounds r (.map ents' clock)} (OO h X):=by
  refine ⟨ents',clock,by simp [hlt],by simp [hsz,h2],fun i a1 a2=> ?_,fun i a1=> ?_,fun i j' a1 a2 a3=> ?_⟩
  ·have b1:i < es'.length:=by simpa using a1
   have b2:i < ents.size:=by omega
   have:=h3 i b1 b2
   subst hents
   rw [List.getElem_modify,Array.getElem_modify]
   split
   ·exact ⟨this.1,hrv.keep (by simp) hkk⟩
   ·exact ⟨this.1,this.2.keep (by simp) hkk⟩
  ·subst hents
   rw [Array.getElem_modify]
   have b2:i < ents.size:=by simpa using a1
   split <;> exact h4 i b2
  ·subst hents
   have b1:i < ents.size:=by simpa using a1
   have b2:j' < ents.size:=by simpa using a2
   rw [Array.getElem_modify,Array.getElem_modify]
   split <;> split <;> exact h5 i j' b1 b2 a3
 have hh2:=hs.heap.set (w':={w with heap:=w.heap.setIfInBounds r (.map ents' clock)}) hm.h (y:= .map r (es'.modify j (fun p=>(p.1,av)))) rfl (by simp) (fun b hb hne=>hoth b (by simpa [Res.own] using hne)) hmapholds
 rw [hset.h] at hh2
 have hown:j3 h'=j3 h:=by rw [←hset.h];exact zdl hm.h rfl
 have hkeep:Keep (j3 h) w (j3 h') {w with heap:=w.heap.setIfInBounds r (.map ents' clock)}:=⟨by simp,fun b hb ho=>⟨hoth b (fun q=>ho (q ▸ k7.2 ⟨_,List.mem_of_getElem? hm.h,by simp [Res.own]⟩)),by rw [hown];exact ho⟩,zi4.eq rfl rfl rfl (by first|exact Nat.le_refl _|exact Nat.le_succ _)⟩
 exact ⟨_,yak hrun,⟨hh2,hs.size,hs.fr.keep hkeep.size (fun b hb hl=>hkeep.oo b hb hl),hs.defs⟩,hkeep⟩
theorem zt5 {kv:AV} {zv:Value} {j st:Nat} (hx:f x=some (.v (.map (some r)))) (hy:f y=some kv) [hkv:KeyV kv (enc k)] [hm:HasMapE h r i (zah enc (zk7 k (.v zv) es)) j st] [hu:Und P T (.map kt et)] [hkt:KeyT P kt enc] [hz:ZerV P et zv]
 (hl:(zdy k es).getD (.v zv)=av):QR P h f ⟨dst,.lookup T x y false,ty,pos,after,guard⟩ av:=fun X ρ w hev=>by
 obtain ⟨ents,clock,h1,h2,h3,h4,h5,_⟩:=hev.heap.holds _ (List.mem_of_getElem? hm.h)
 have hks:=keys_of_holds h2 h3
 have hl':(zk7 k (.v zv) es).length=ents.toList.length:=by simpa [zah] using h2
 have hfind:=hkt.find w k ents.toList ((zk7 k (.v zv) es).map (·.1)) hks
 have key:=ybv k (.v zv) es
 rw [hl] at key
 have hrun:∃v,(Instr.lookup T (ρ x) (ρ y) false).run P w= .ok v w∧Rel w (OO h X) av v:=by
  rw [(hev.rel x _ hx).v_eq,hkv.h w _ _ (hev.rel y _ hy)]
  simp only [Instr.lookup,Sem.run_bind,run_underlying (h:=hu),Result.andThen_ok,MapKept.run_getObj_map h1,Sem.run_pure,hkt.chk,hfind]
  rcases zm8 k (zk7 k (.v zv) es) ents.toList 0 hl' with ⟨a,b,c⟩|⟨j,g1,g2,a,b,c,d⟩
  ·rw [b] at key
   refine ⟨zv,?_,by rw [←key];exact .v _⟩
   rw [a];simp [run_zeroValue hz.h]
  ·rw [b] at key
   refine ⟨(ents[j]'(by simpa using g2)).val,?_,?_⟩
   ·rw [a];simp
   ·have:=(h3 j (by simpa [zah] using g1) (by simpa using g2)).2
    rw [←key];simpa [zah] using this
 obtain ⟨v,e,hr⟩:=hrun
 exact ⟨v,run_v _ e,hr⟩
end
def zfw (p:Int×Int×Int):Value:= .agg #[.int .i64 p.1,.int .i64 p.2.1,.int .i64 p.2.2]
class Chk3 (P:Program) (kt:TypeId):Prop where
 h:∀(e:Bool) (w:World) (a b c:Int),(Instr.checkKey e 10000 kt (.agg #[.int .i64 a,.int .i64 b,.int .i64 c])).run P w= .ok () w
instance KeyT.int3 {P:Program} {kt:TypeId} [he:EqInts P kt 3] [hc:Chk3 P kt] [hi:IsA P kt true]:KeyT P kt zfw where
 inj:=fun a b h=>by
  obtain ⟨a1,a2,a3⟩:=a;obtain ⟨b1,b2,b3⟩:=b
  simpa [zfw] using h
 stays:=fun a=>by simp [zfw,Instr.sameBits]
 chk:=fun e w k=>hc.h e w k.1 k.2.1 k.2.2
 find:=fun w k l ks h=>by
  obtain ⟨d,hd,hb⟩:=hi.h
  refine (congrArg (fun r=>r) (run_findKey_eq (P:=P) (w:=w) (k:=kt) (by rw [hd];cases d <;> simp [yv2] at hb ⊢) _ l)).trans ?_
  refine zgy (fun w a b=> ?_) k w l ks 0 h
  have:=zod (P:=P) (T:=kt) w (xs:= [a.1,a.2.1,a.2.2]) (ys:= [b.1,b.2.1,b.2.2]) rfl rfl
  simp only [zfw]
  refine this.trans ?_;obtain ⟨a1,a2,a3⟩:=a;obtain ⟨b1,b2,b3⟩:=b
  congr 1
  by_cases h1:a1=b1 <;> by_cases h2:a2=b2 <;> by_cases h3:a3=b3 <;> simp [h1,h2,h3]
instance KeyV.int3 {a b c:Int}:KeyV (.agg [.v (.int .i64 a),.v (.int .i64 b),.v (.int .i64 c)]) (zfw (a,b,c)):=⟨fun w O u r=>by
 cases r with
 |agg _ cs hl hr=>
  simp at hl
  have h0:=(hr 0 (by simp) (by omega)).v_eq
  have h1:=(hr 1 (by simp) (by omega)).v_eq
  have h2:=(hr 2 (by simp) (by omega)).v_eq
  simp only [zfw]
  congr 1
  apply Array.ext
  ·simp [←hl]
  ·intro i hi hi2
   match i,hi,hi2 with
   |0,_,_=>exact h0
   |1,_,_=>exact h1
   |2,_,_=>exact h2
   |i+3,hi,hi2=>simp at hi2;omega⟩
class ZV (z:Value) (a:AV):Prop where
 h:∀w O u,Rel w O (.v z) u→Rel w O a u
instance ZV.v {z:Value}:ZV z (.v z):=⟨fun _ _ _ h=>h⟩
instance ZV.agg2 {a b:Value}:ZV (.agg #[a,b]) (.agg [.v a,.v b]):=⟨fun w O u h=>by
 rw [h.v_eq]
 refine .agg _ _ rfl fun j h1 h2=> ?_
 match j,h1,h2 with
 |0,_,_=>exact .v _
 |1,_,_=>exact .v _
 |j+2,h1,_=>simp at h1;omega⟩
theorem zt0 {P:Program} {h:List Res} {f:Operand→Option AV} {o:Oper} {a b:AV} (hw:∀w O v,Rel w O a v→Rel w O b v) (q:QR P h f o a):QR P h f o b:=fun X ρ w he=>
 let ⟨v,e,r⟩:=q X ρ w he;⟨v,e,hw _ _ _ r⟩
theorem zby {P:Program} {h:List Res} {f:Operand→Option AV} {o:Oper} {a b:AV} (q:QR P h f o a) (e:a=b):QR P h f o b:=e ▸ q
section
variable {P:Program} {ro:Option Nat} {nt:Nat} {dst:Option Tmp} {ty:TypeId} {pos:String} {after:Array Edge} {guard:Option (Nat×Bool)} {x y z:Operand} {t:Fr} {h h':List Res} {ds:List Nat} {next:St→Prop} {f:Operand→Option AV}
 {K V:Type} [DecidableEq K] {enc:K→Value} {g:V→AV} {m:List (K×V)} {kt et T:TypeId} {r i:Nat} {k:K} {kv:AV}
theorem zpz {zv:Value} {d:V} [hz:ZV zv (g d)] {w:World} {O:Nat→Prop} {u:Value} (h:Rel w O ((zdy k (zb4 g m)).getD (.v zv)) u):Rel w O (g ((zb6 k m).getD d)) u:=by
 rw [zkh] at h
 cases hg:zb6 k m with
 |some a=>rw [hg] at h;exact h
 |none=>rw [hg] at h;exact hz.h w O u h
theorem zcr (d:V) {zv:Value} (hx:f x=some (.v (.map (some r)))) (hy:f y=some kv) [hkv:KeyV kv (enc k)] [hm:HasMap h r i (zah enc (zb4 g m))] [hu:Und P T (.map kt et)] [hkt:KeyT P kt enc] [hz:ZerV P et zv] [hd:ZV zv (g d)]:
 QR P h f ⟨dst,.lookup T x y false,ty,pos,after,guard⟩ (g ((zb6 k m).getD d)):=
 zt0 (fun w O v hr=>zpz hr) (zrq hx hy rfl)
theorem zrr (d:V) {zv:Value} {b:Bool} (hx:f x=some (.v (.map (some r)))) (hy:f y=some kv) [hkv:KeyV kv (enc k)] [hm:HasMap h r i (zah enc (zb4 g m))] [hu:Und P T (.map kt et)] [hkt:KeyT P kt enc] [hz:ZerV P et zv] [hd:ZV zv (g d)]
 (hb:(zb6 k m).isSome=b):QR P h f ⟨dst,.lookup T x y true,ty,pos,after,guard⟩ (.tup [g ((zb6 k m).getD d),.v (.bool b)]):=
 zt0 (fun w O v hr=>by
  cases hr with
  |tup _ cs hl hr=>
   refine .tup _ _ (by simpa using hl) fun j h1 h2=> ?_
   match j,h1,h2 with
   |0,_,h2=>exact zpz (hr 0 (by simp) h2)
   |1,_,h2=>exact hr 1 (by simp) h2
   |j+2,h1,_=>simp at h1;omega) (zyl hx hy rfl (b:=b) (by rw [zkh,Option.isSome_map];exact hb))
theorem ya7 (d:V) {zv:Value} {j st:Nat} (hx:f x=some (.v (.map (some r)))) (hy:f y=some kv) [hkv:KeyV kv (enc k)] [hm:HasMapE h r i (zah enc (zk7 k (.v zv) (zb4 g m))) j st] [hu:Und P T (.map kt et)] [hkt:KeyT P kt enc] [hz:ZerV P et zv] [hd:ZV zv (g d)]:
 QR P h f ⟨dst,.lookup T x y false,ty,pos,after,guard⟩ (g ((zb6 k m).getD d)):=
 zt0 (fun w O v hr=>zpz hr) (zt5 hx hy rfl)
theorem zbp {v:V} (hx:ev t x=some (.v (.map (some r)))) (hy:ev t y=some kv) (hz:ev t z=some (g v)) [hkv:KeyV kv (enc k)] [hm:HasMap h r i (zah enc (zb4 g m))] [hu:Und P T (.map kt et)] [hkt:KeyT P kt enc]
 [hset:SetAt h i (.map r (zah enc (zb4 g (zfn k v m)))) h'] (hk:next ⟨t,h',ds⟩):OE P ro nt ⟨none,.mapUpdate T x y z,ty,pos,after,guard⟩ ⟨t,h,ds⟩ next:=by
 have:SetAt h i (.map r (zah enc (zn4 k (g v) (zb4 g m)))) h':=by rw [zma];exact hset
 exact zk0 hx hy hz hk
theorem zke {d:Tmp} {zv:Value} {h':Res→List Res} (hlt:dok nt (some d)=true) (hx:ev t x=some (.v (.map (some r)))) (hy:ev t y=some kv) [hkv:KeyV kv (enc k)] [hm:HasMap h r i (zah enc (zb4 g m))] [hu:Und P T (.map kt et)] [hkt:KeyT P kt enc] [hz:ZerV P et zv]
 [hset:∀y,SetAt h i y (h' y)] (hk:∀(j st:Nat),(∀v,(zah enc (zk7 k (.v zv) (zb4 g m))).modify j (fun p=>(p.1,g v))=zah enc (zb4 g (zfn k v m)))→
  next ⟨(d,.tup [(zdy k (zb4 g m)).getD (.v zv),.v (.int .i64 st)])::t,h' (.mape r (zah enc (zk7 k (.v zv) (zb4 g m))) j st),ds⟩):
 OE P ro nt ⟨some d,.mapEntry T x y,ty,pos,after,guard⟩ ⟨t,h,ds⟩ next:=
 zud hlt hx hy fun j st hj=>hk j st fun v=>by rw [hj (g v),zma]
theorem zmw {v:V} {j st:Nat} {es':List (Value×AV)} (hx:ev t x=some (.v (.map (some r)))) (hy:ev t y=some (.v (.int .i64 st))) (hz:ev t z=some (g v)) [hm:HasMapE h r i es' j st] (he:es'.modify j (fun p=>(p.1,g v))=zah enc (zb4 g (zfn k v m)))
 [hset:SetAt h i (.map r (zah enc (zb4 g (zfn k v m)))) h'] (hk:next ⟨t,h',ds⟩):OE P ro nt ⟨none,.entryStore T x y z,ty,pos,after,guard⟩ ⟨t,h,ds⟩ next:=
 zpm hx hy hz he hk
theorem ywy {d:Tmp} {op:Op} {av:AV} (hq:QR P h (ev t) ⟨some d,op,ty,pos,after,guard⟩ av) (hk:next ⟨(d,av)::t,h,ds⟩) (hd:dok nt (some d)=true:=by rfl) (hn:zbl ⟨some d,op,ty,pos,after,guard⟩=true:=by rfl):
 OE P ro nt ⟨some d,op,ty,pos,after,guard⟩ ⟨t,h,ds⟩ next:=fun X a w K Q hs hK=>
 zgo hq hn X a w K Q hs.env fun v w' hr hh hkp=>hK _ _ _ hk (Sim.put (s:=⟨t,h,ds⟩) ⟨hh,hs.size,hs.fr.keep hkp.size (fun b hb hl=>hkp.oo b hb hl),hs.defs⟩ hd hr) hkp
theorem zoi {tys:List TypeId} (hx:f x=some (.v (.map (some r)))) [hm:HasMap h r i (zah enc (zb4 g m))] [hu:Und P T (.map kt et)]:QR P h f ⟨dst,.call ⟨.builtin .len,[x].toArray,(T::tys).toArray⟩,ty,pos,after,guard⟩ (.v (.int .i64 m.length)):=fun X ρ w he=>by
 obtain ⟨ents,clock,h1,h2,_⟩:=he.heap.holds _ (List.mem_of_getElem? hm.h)
 refine ⟨.int .i64 m.length,?_,.v _⟩
 have hl:m.length=ents.size:=by simpa [zah,zb4] using h2
 simp only [execOp,resolve,List.map_toArray,List.map_cons,List.map_nil,(he.rel x _ hx).v_eq,Sem.run_bind,Sem.run_pure,Result.andThen_ok,invoke,builtin,Builtin.len_,List.getElem?_toArray,List.getElem?_cons_zero,run_underlying (h:=hu),MapKept.run_getObj_map h1,hl]
 rfl
end
end Go.Ab
set_option maxRecDepth 10000
namespace Go.Proofs
open Go Go.Ab
attribute [local irreducible] QR QV OE zcz aw zdg zbs zbh za1 thn zfx zed jch zfd
open Go.H
def yke (cv:AV):Prop:=∀x y:zlh,y3 Tryz.prog cv [.agg (zcn x),.agg (zcn y)] [] (fun r h'=>h'= []∧r=iv (zda x y))
theorem zj7 (s:SV) (l:List zlh) (a b n:Nat) (cv:AV) (h1:a+n≤b) (h2:b+n≤l.length) (hl:l.length≤1000000000):y8 Tryz.prog 228 [.v s.v,iv (a:Int),iv (b:Int),iv (n:Int),cv] [.row s.v 3 178 ((l).map zcn)] (fun r h'=>h'= [.row s.v 3 178 ((swN l a b n).map zcn)]∧r= .tup []):=by
 refine z6 Tryz.func228 rfl rfl rfl ?_
 refine rn ?_;refine zbu n (fun _=>True) (fun k=>⟨[(10,iv (k:Int)),(0,.v s.v),(1,iv (a:Int)),(2,iv (b:Int)),(3,iv (n:Int))],.row s.v 3 178 ((swN l a b k).map zcn):: [],[]⟩) trivial es ?_
 intro k lk _
 refine rn ?_;refine z7 rfl (fun hc13=> ?_) (fun hc13=> ?_)
 ·have hk:k < n:=by simpa using hc13
  obtain ⟨vx,hx⟩:∃v,(swN l a b k)[a+k]? =some v:=⟨_,List.getElem?_eq_getElem (by rw [zmc];omega)⟩
  obtain ⟨vy,hy⟩:∃v,(swN l a b k)[b+k]? =some v:=⟨_,List.getElem?_eq_getElem (by rw [zmc];omega)⟩
  have hxy:a+k≠b+k:=by omega
  refine zad ?_;refine rn0 ?_;refine x8 ?_;refine zaj ?_;refine zl6 22 [21] [] [12,13,18,19,20] (fun he=>True) rfl rfl rfl trivial ?_
  refine jq rfl (fun he hC=>by replace hC:=hC.2;exact qrA) ?_
  refine jq rfl (fun he hC=>by replace hC:=hC.2;exact qrA) ?_
  refine jq rfl (fun he hC=>by replace hC:=hC.2;exact qrA) ?_
  refine jq rfl (fun he hC=>by replace hC:=hC.2;exact qrA) ?_
  refine jq rfl (fun he hC=>by replace hC:=hC.2;exact qrA) ?_
  refine jq rfl (fun he hC=>by replace hC:=hC.2;exact qrA) ?_
  refine jq rfl (fun he hC=>by replace hC:=hC.2;exact qrA) ?_
  refine jq rfl (fun he hC=>by replace hC:=hC.2;exact qrA) ?_
  refine jq rfl (fun he hC=>by replace hC:=hC.2;exact qrA) ?_
  refine jq rfl (fun he hC=>by replace hC:=hC.2;exact qrA) ?_
  refine jq rfl (fun he hC=>by replace hC:=hC.2;exact qrA) ?_
  refine jq rfl (fun he hC=>by replace hC:=hC.2;exact qrA) ?_
  refine jq rfl (fun he hC=>by obtain rfl:=hC.1 rfl;exact q9 (k:=(b+k)) rfl rfl (by rw [oM];exact (ze3 hy))) ?_
  refine jq rfl (fun he hC=>by obtain rfl:=hC.1 rfl;exact j5 (row:=zcn vy) rfl (zct hy) rfl) ?_
  refine jq rfl (fun he hC=>by replace hC:=hC.2;exact qrA) ?_
  refine jq rfl (fun he hC=>by replace hC:=hC.2;exact qrA) ?_
  refine jq rfl (fun he hC=>by replace hC:=hC.2;exact qrA) ?_
  refine jq rfl (fun he hC=>by replace hC:=hC.2;exact qrA) ?_
  refine jq rfl (fun he hC=>by obtain rfl:=hC.1 rfl;exact q9 (k:=(a+k)) rfl rfl (by rw [oM];exact (ze3 hx))) ?_
  refine jq rfl (fun he hC=>by obtain rfl:=hC.1 rfl;exact j5 (row:=zcn vx) rfl (zct hx) rfl) ?_
  refine jq rfl (fun he hC=>by obtain rfl:=hC.1 rfl;exact q9 (k:=(a+k)) rfl rfl (by rw [oM];exact (ze3 hx))) ?_
  refine je rfl ?_;refine yhe ?_;refine jce rfl fun u=> ?_
  refine zaz (k:=(a+k)) rfl rfl rfl (zct hx) rfl (Nat.le_of_ble_eq_true rfl) ⟨.any,_,rfl,trivial,?_⟩
  refine jcn ?_;refine ln ?_;refine qq rfl rfl (q9 (k:=(b+k)) rfl rfl (by rw [List.length_set,oM];exact ze3 hy)) ?_
  refine z8 rfl (zaz (k:=(b+k)) rfl rfl rfl (row:=zcn vy) (by rw [List.getElem?_set_ne hxy];exact zct hy) rfl (Nat.le_of_ble_eq_true rfl) ?_)
  have hsw:=zln (f:=zcn) hx hy
  refine rn ?_;exact ⟨hk,trivial,by rw [show (swN l a b (k+1)).map zcn=_ from hsw.symm];exact eA⟩
 ·have qk:k=n:=by have q:¬(k:Int) < n:=(by simpa using hc13);omega
  refine rn ?_;refine ylq ?_;rw [qk];exact ⟨rfl,rfl⟩
theorem ylr (s:SV) (l tg:List zlh) (a m b:Nat) (cv:AV) (hR:Rot m (m - a) (b - m) l tg) (h1:a < m) (h2:m < b) (hb:b≤l.length) (hl:l.length≤1000000000):y8 Tryz.prog 226 [.v s.v,iv (a:Int),iv (m:Int),iv (b:Int),cv] [.row s.v 3 178 ((l).map zcn)] (fun r h'=>h'= [.row s.v 3 178 ((tg).map zcn)]∧r= .tup []):=by
 refine z6 Tryz.func226 rfl rfl rfl ?_
 refine x8 (y5 ?_)
 refine q1 ?_;refine q1 ?_;refine qq rfl rfl (zby (k9 rfl rfl rfl (by omega)) (show iv _=iv ((m - a:Nat):Int) from congrArg iv (by omega))) ?_
 refine q1 ?_;refine u0 (j7 ?_)
 refine x8 (y5 ?_)
 refine q1 ?_;refine q1 ?_;refine qq rfl rfl (zby (k9 rfl rfl rfl (by omega)) (show iv _=iv ((b - m:Nat):Int) from congrArg iv (by omega))) ?_
 refine rn ?_;refine zc4 (fun x:Nat×Nat×List zlh=>Rot m x.1 x.2.1 x.2.2 tg∧1≤x.1∧1≤x.2.1∧x.2.2.length=l.length) (fun x=>⟨[(10,iv (x.1:Int)),(11,iv (x.2.1:Int)),(0,.v s.v),(2,iv (m:Int)),(4,cv)],.row s.v 3 178 ((x.2.2).map zcn):: [],[]⟩) (fun x=>x.1+x.2.1) (m - a,b - m,l) ⟨hR,by show 1≤m - a;omega,by show 1≤b - m;omega,rfl⟩ es ?_
 rintro ⟨i,j,c⟩ ⟨hr,hi,hj,hcl⟩
 simp only at hr hi hj hcl
 have hrl:=yls hr
 show aw _ _ _ _ _ ⟨[(10,iv (i:Int)),(11,iv (j:Int)),(0,.v s.v),(2,iv (m:Int)),(4,cv)],.row s.v 3 178 ((c).map zcn):: [],[]⟩
 refine rn ?_;refine z7 rfl (fun hc20=> ?_) (fun hc20=> ?_)
 ·have hne:i≠j:=by have q:¬(i:Int)=j:=(by simpa using hc20);omega
  refine rn ?_;refine z7 rfl (fun hc23=> ?_) (fun hc23=> ?_)
  ·have hlt:j < i:=by have q:(i:Int) > j:=(by simpa using hc23);omega
   refine x8 (y5 ?_)
   refine q1 ?_;refine q1 ?_;refine q1 ?_;refine qq rfl rfl (zby (k9 rfl rfl rfl (by omega)) (show iv _=iv ((m - i:Nat):Int) from congrArg iv (by omega))) ?_
   refine rn ?_;refine z8 rfl (q7 rfl rfl (y3.of_fun (zj7 s c (m - i) m j cv (by omega) (by omega) (by omega))) rfl ?_)
   rintro _ _ ⟨rfl,rfl⟩
   refine u0 (j7 ?_)
   refine y5 ?_;refine q1 ?_;refine q1 ?_;refine qq rfl rfl (zby (k9 rfl rfl rfl (by omega)) (show iv _=iv ((i - j:Nat):Int) from congrArg iv (by omega))) ?_
   refine rn ?_;exact ⟨(i - j,j,swN c (m - i) m j),⟨yp8 hr hlt,by simp only;omega,hj,by rw [zmc];exact hcl⟩,eA,by simp only;omega⟩
  ·have hlt:i < j:=by have q:¬(i:Int) > j:=(by simpa using hc23);omega
   refine x8 (y5 ?_)
   refine q1 ?_;refine q1 ?_;refine q1 ?_;refine qq rfl rfl (zby (k9 rfl rfl rfl (by omega)) (show iv _=iv ((m - i:Nat):Int) from congrArg iv (by omega))) ?_
   refine q1 ?_;refine q1 ?_;refine q1 ?_;refine q1 ?_;refine qq rfl rfl (zby (k9 rfl rfl rfl (by omega)) (show iv _=iv ((m+j - i:Nat):Int) from congrArg iv (by omega))) ?_
   refine rn ?_;refine z8 rfl (q7 rfl rfl (y3.of_fun (zj7 s c (m - i) (m+j - i) i cv (by omega) (by omega) (by omega))) rfl ?_)
   rintro _ _ ⟨rfl,rfl⟩
   refine u0 (j7 ?_)
   refine y5 ?_;refine q1 ?_;refine q1 ?_;refine qq rfl rfl (zby (k9 rfl rfl rfl (by omega)) (show iv _=iv ((j - i:Nat):Int) from congrArg iv (by omega))) ?_
   refine rn ?_;exact ⟨(i,j - i,swN c (m - i) (m+j - i) i),⟨yp7 hr hlt,hi,by simp only;omega,by rw [zmc];exact hcl⟩,eA,by simp only;omega⟩
 ·have hij:i=j:=by have q:(i:Int)=j:=(by simpa using hc20);omega
  subst hij
  refine zhv ?_;refine zhf ?_;refine zhf ?_;refine zd1 ?_;refine j7 ?_;refine y5 ?_;refine q1 ?_;refine q1 ?_;refine q1 ?_;refine qq rfl rfl (zby (k9 rfl rfl rfl (by omega)) (show iv _=iv ((m - i:Nat):Int) from congrArg iv (by omega))) ?_
  refine rn ?_;refine z8 rfl (q7 rfl rfl (y3.of_fun (zj7 s c (m - i) m i cv (by omega) (by omega) (by omega))) rfl ?_)
  rintro _ _ ⟨rfl,rfl⟩
  refine rn ?_;refine ylq ?_;rw [yp9 hr];exact ⟨rfl,rfl⟩
theorem ycc (s:SV) (P M Z:List zlh) (a b:Nat) (cv:AV) (hc:yke cv) (hP:P.length=a) (hM:a+M.length=b) (hl:(P++(M++Z)).length≤1000000000):y8 Tryz.prog 215 [.v s.v,iv (a:Int),iv (b:Int),cv] [.row s.v 3 178 ((P++(M++Z)).map zcn)] (fun r h'=>h'= [.row s.v 3 178 ((P++(isL zda M++Z)).map zcn)]∧r= .tup []):=by
 refine z6 Tryz.func215 rfl rfl rfl ?_
 simp only [List.length_append] at hl
 refine rn ?_;refine zbu M.length (fun _=>True) (fun k=>⟨[(8,iv ((a+1+k:Nat):Int)),(0,.v s.v),(1,iv (a:Int)),(2,iv (b:Int)),(3,cv)],.row s.v 3 178 ((P++(isL zda (M.take (k+1))++(M.drop (k+1)++Z))).map zcn):: [],[]⟩) trivial (by rw [yne];exact es) ?_
 intro k lk _
 refine rn ?_;refine z7 rfl (fun hc14=> ?_) (fun hc14=> ?_)
 ·have hk:k+1 < M.length:=by have q:((a+1+k:Nat):Int) < b:=(by simpa using hc14);omega
  have hS:(isL zda (M.take (k+1))).Pairwise (LeC zda):=(zpe yen _).1
  have hSl:(isL zda (M.take (k+1))).length=k+1:=by rw [zix,List.length_take];omega
  have e0:P++((isL zda (M.take (k+1)))++(M.drop (k+1)++Z))=P++((isL zda (M.take (k+1))).take (k+1)++M[k+1]::((isL zda (M.take (k+1))).drop (k+1)++(M.drop (k+1+1)++Z))):=yhf hSl hk
  obtain ⟨x,hxm⟩:∃x,M[k+1]'hk=x:=⟨_,rfl⟩
  rw [e0,hxm]
  refine rn ?_;refine zc4 (fun q:Nat=>q≤(isL zda (M.take (k+1))).length∧∀z∈(isL zda (M.take (k+1))).drop q,zda x z < 0) (fun q=>⟨[(9,iv ((a+q:Nat):Int)),(8,iv ((a+1+k:Nat):Int)),(0,.v s.v),(1,iv (a:Int)),(2,iv (b:Int)),(3,cv)],.row s.v 3 178 ((P++((isL zda (M.take (k+1))).take q++x::((isL zda (M.take (k+1))).drop q++(M.drop (k+1+1)++Z)))).map zcn):: [],[]⟩) (fun q=>q) (k+1) ⟨by omega,fun z hz=>absurd hz (by rw [List.drop_eq_nil_of_le (Nat.le_of_eq hSl)];simp)⟩ (by rw [show a+(k+1)=a+1+k by omega];exact es) ?_
  rintro q ⟨hq,hz⟩
  refine rn ?_;refine j4 14 rfl ?_
  refine rn ?_;refine zex (fun hg4_3=> ?_) (fun hg4_3=> ?_)
  ·refine dq rfl rfl qrA ?_;refine dq rfl rfl qrA ?_;refine dq rfl rfl qrA ?_;refine dq rfl rfl (q9 (k:=a+q) rfl rfl (by rw [oM];exact ze3 (yrw hP hq))) ?_
   refine dq rfl rfl (j5 (row:=zcn x) rfl (zct (yrw hP hq)) rfl) ?_
   refine dq rfl rfl qrA ?_;refine dq rfl rfl qrA ?_;refine dq rfl rfl (zby (k9 rfl rfl rfl (by omega)) (show iv _=iv ((a+q - 1:Nat):Int) from congrArg iv (by have h0:=oT hg4_3;omega))) ?_
   refine dq rfl rfl (q9 (k:=a+q - 1) rfl rfl (by rw [oM];exact ze3 (yt0 hP hq (by have h0:=oT hg4_3;omega)))) ?_
   refine dq rfl rfl (j5 (row:=zcn ((isL zda (M.take (k+1))).getD (q - 1) x)) rfl (zct (yt0 hP hq (by have h0:=oT hg4_3;omega))) rfl) ?_
   refine rn ?_;refine qv rfl rfl (y4 rfl rfl (y3.pure (R:=fun r=>r=iv (zda x ((isL zda (M.take (k+1))).getD (q - 1) x))) (hc x ((isL zda (M.take (k+1))).getD (q - 1) x)))) ?_
   refine rn ?_;refine z7 rfl (fun hc34=> ?_) (fun hc34=> ?_)
   ·have hq1:1≤q:=(by have h0:=oT hg4_3;omega)
    have hlt:zda x ((isL zda (M.take (k+1))).getD (q - 1) x) < 0:=oT hc34
    have hx:=yrw (Z:=(M.drop (k+1+1)++Z)) (x:=x) hP hq
    have hy:=yt0 (Z:=(M.drop (k+1+1)++Z)) (x:=x) hP hq hq1
    obtain ⟨v,hv⟩:∃v,((isL zda (M.take (k+1))).getD (q - 1) x)=v:=⟨_,rfl⟩
    rw [hv] at hy
    have hxy:a+q≠a+q - 1:=by omega
    refine zad ?_;refine rn0 ?_;refine x8 ?_;refine zaj ?_;refine zl6 16 [15] [] [8,9,12,13,14] (fun he=>True) rfl rfl rfl trivial ?_
    refine jq rfl (fun he hC=>by replace hC:=hC.2;exact qrA) ?_
    refine jq rfl (fun he hC=>by replace hC:=hC.2;exact qrA) ?_
    refine jq rfl (fun he hC=>by replace hC:=hC.2;exact qrA) ?_
    refine jq rfl (fun he hC=>by replace hC:=hC.2;exact qrA) ?_
    refine jq rfl (fun he hC=>by replace hC:=hC.2;exact zby (k9 rfl rfl rfl (by omega)) (show iv _=iv ((a+q - 1:Nat):Int) from congrArg iv (by omega))) ?_
    refine jq rfl (fun he hC=>by replace hC:=hC.2;exact qrA) ?_
    refine jq rfl (fun he hC=>by replace hC:=hC.2;exact qrA) ?_
    refine jq rfl (fun he hC=>by replace hC:=hC.2;exact zby (k9 rfl rfl rfl (by omega)) (show iv _=iv ((a+q - 1:Nat):Int) from congrArg iv (by omega))) ?_
    refine jq rfl (fun he hC=>by obtain rfl:=hC.1 rfl;exact q9 (k:=(a+q - 1)) rfl rfl (by rw [oM];exact (ze3 hy))) ?_
    refine jq rfl (fun he hC=>by obtain rfl:=hC.1 rfl;exact j5 (row:=zcn v) rfl (zct hy) rfl) ?_
    refine jq rfl (fun he hC=>by replace hC:=hC.2;exact qrA) ?_
    refine jq rfl (fun he hC=>by replace hC:=hC.2;exact qrA) ?_
    refine jq rfl (fun he hC=>by obtain rfl:=hC.1 rfl;exact q9 (k:=(a+q)) rfl rfl (by rw [oM];exact (ze3 hx))) ?_
    refine jq rfl (fun he hC=>by obtain rfl:=hC.1 rfl;exact j5 (row:=zcn x) rfl (zct hx) rfl) ?_
    refine jq rfl (fun he hC=>by obtain rfl:=hC.1 rfl;exact q9 (k:=(a+q)) rfl rfl (by rw [oM];exact (ze3 hx))) ?_
    refine je rfl ?_;refine yhe ?_;refine jce rfl fun u=> ?_
    refine zaz (k:=(a+q)) rfl rfl rfl (zct hx) rfl (Nat.le_of_ble_eq_true rfl) ⟨.any,_,rfl,trivial,?_⟩
    refine jcn ?_;refine ln ?_;refine qq rfl rfl (q9 (k:=(a+q - 1)) rfl rfl (by rw [List.length_set,oM];exact ze3 hy)) ?_
    refine z8 rfl (zaz (k:=(a+q - 1)) rfl rfl rfl (row:=zcn v) (by rw [List.getElem?_set_ne hxy];exact zct hy) rfl (Nat.le_of_ble_eq_true rfl) ?_)
    have hsw:=zln (f:=zcn) hx hy
    refine u0 ?_;refine zho ?_;refine j7 ?_;refine y5 ?_;refine q1 ?_;refine qq rfl rfl (zby (k9 rfl rfl rfl (by omega)) (show iv _=iv ((a+(q - 1):Nat):Int) from congrArg iv (by omega))) ?_
    refine rn ?_;exact ⟨q - 1,⟨by omega,ynf hq hq1 hlt hz⟩,by rw [←ycb hP hq hq1,←hsw];exact eA,by omega⟩
   ·have hst:1≤q→¬zda x ((isL zda (M.take (k+1))).getD (q - 1) x) < 0:=by first|exact fun _=>oF hc34|exact fun h1=>absurd (oF hg4_3) (by omega)
    refine rn ?_;subst hxm
    exact ⟨by omega,trivial,by rw [←yji zne hS hk hq hz hst];exact eA⟩
  ·refine rn ?_;refine zeu rfl ?_;have hst:1≤q→¬zda x ((isL zda (M.take (k+1))).getD (q - 1) x) < 0:=by first|exact fun _=>oF hc34|exact fun h1=>absurd (oF hg4_3) (by omega)
   refine rn ?_;subst hxm
   exact ⟨by omega,trivial,by rw [←yji zne hS hk hq hz hst];exact eA⟩
 ·have hk:M.length≤k+1:=by have q:¬((a+1+k:Nat):Int) < b:=(by simpa using hc14);omega
  refine rn ?_;refine ylq ?_;rw [List.take_of_length_le hk,List.drop_eq_nil_of_le hk];exact ⟨rfl,rfl⟩
end Go.Proofs
