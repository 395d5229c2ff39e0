/- The abstract logic, part 28: slices.Sort and slices.Compact at []int, as contracts over a row of one's own (the kit's shelf has walked them). .. -/
import Derived.Test.YtfmcbdjnmlcacaaGreatDoorRItE
import Derived.Shelf.Sort.Plain
import Derived.Shelf.Slices.In.SortNone
import Derived.Shelf.Slices.CompactI
set_option linter.unusedSectionVars false
set_option linter.unusedSimpArgs false
set_option linter.unusedVariables false
namespace Go.Ab
open Go Go.Shelf Go.Sort Go.Proofs
def numR (n:Int):List AV:= [.v (.int .i64 n)]
theorem ztj {X:Nat→Prop} {w:World} {a:Addr} {cap:Nat} {T:TypeId} {xs ys zs:List Int} (hh:HRel X w [.row (.slice (some a) xs.length cap) 1 T (xs.map numR)]) (hl:ys.length=xs.length) (hz:zs=ys.take zs.length) (n:Nat) (os:Array Obj):
 HRel X (grow (putRow (Value.int .i64) (Sort.ahead w n) a.block a.off ys.toArray) os) [.row (.slice (some a) zs.length cap) 1 T (zs.map numR)]∧
 Keep [a.block] w [a.block] (grow (putRow (Value.int .i64) (Sort.ahead w n) a.block a.off ys.toArray) os):=by
 obtain ⟨h1,h2,h3,h4,c,h5,h6,h7⟩:=hh.holds _ (List.mem_singleton.2 rfl)
 have hb:a.block < w.heap.size:=(hh.lt a.block (by simp [u9,Res.own])).1
 have hX:¬X a.block:=(hh.lt a.block (by simp [u9,Res.own])).2
 obtain ⟨w',hw'⟩:∃w',w'=grow (putRow (Value.int .i64) (Sort.ahead w n) a.block a.off ys.toArray) os:=⟨_,rfl⟩
 rw [←hw']
 have hheap:w'.heap=(w.heap.modify a.block (onCells (putCells (Value.int .i64) a.off ys.toArray)))++os:=by rw [hw'];rfl
 have hos:zhd w w':=by rw [hw'];exact ⟨⟨rfl,rfl⟩,rfl,Nat.le_add_right _ _⟩
 have hsize:w.heap.size≤w'.heap.size:=by rw [hheap];simp
 have hold:∀b,b < w.heap.size→b≠a.block→w'.heap[b]? =w.heap[b]? :=fun b hb hne=>by
  rw [hheap,Array.getElem?_append_left (by simpa using hb),Array.getElem?_modify,if_neg (Ne.symm hne)]
 have hnew:w'.heap[a.block]? =some (.cells (putCells (Value.int .i64) a.off ys.toArray c) T (0,0)):=by
  rw [hheap,Array.getElem?_append_left (by simpa using hb),Array.getElem?_modify,if_pos rfl,h5];rfl
 have hlen:zs.length≤ys.length:=by
  have:=congrArg List.length hz
  rw [List.length_take] at this;omega
 refine ⟨⟨by simp [u9,Res.own],fun b hb2=> ?_,fun b hb2=>Nat.lt_of_lt_of_le (hh.xlt b hb2) hsize,fun r hr=> ?_⟩,⟨hsize,fun b hb2 hne=> ?_,hos⟩⟩
 ·have:b=a.block:=by simpa [u9,Res.own] using hb2
  subst this;exact ⟨Nat.lt_of_lt_of_le hb hsize,hX⟩
 ·rw [List.mem_singleton] at hr
  subst hr
  refine ⟨h1,by simp,by simp at h2 h3;omega,fun i hi=>by simp [numR],_,hnew,by simpa [putCells] using h6,fun i hi j hj=> ?_⟩
  have hi2:i < zs.length:=by simpa using hi
  have hj0:j=0:=by simp [numR] at hj;omega
  subst hj0
  have hc:a.off+i < c.size:=by simp at h2 h3;omega
  refine ⟨.int .i64 (zs[i]),?_,?_⟩
  ·have hz2:zs[i]=ys[i]'(by omega):=by
    have:zs[i]? =(ys.take zs.length)[i]? :=by rw [←hz]
    rw [List.getElem?_take_of_lt hi2,List.getElem?_eq_getElem hi2,List.getElem?_eq_getElem (by omega)] at this
    exact Option.some.inj this
   have e:a.off+i * 1+0=a.off+i:=by omega
   rw [e]
   simp only [putCells,Array.getElem?_mapIdx]
   rw [Array.getElem?_eq_getElem hc]
   simp only [Option.map_some]
   rw [if_pos ⟨by omega,by simp;omega⟩,hz2]
   have e2:a.off+i - a.off=i:=by omega
   rw [e2]
   congr 2
   exact getElem!_pos _ _ (by simp;omega)
  ·simp only [List.getElem_map,numR]
   exact .v _
 ·have hne2:b≠a.block:=by simpa using hne
  exact ⟨hold b hb2 hne2,hne⟩
theorem ztk {X:Nat→Prop} {w:World} {a:Addr} {cap:Nat} {T:TypeId} {xs:List Int} (hh:HRel X w [.row (.slice (some a) xs.length cap) 1 T (xs.map numR)]):Holds (Value.int .i64) w a.block a.off xs.toArray∧a.block < w.heap.size∧xs.length≤cap∧a.spot=none:=by
 obtain ⟨h1,h2,h3,h4,c,h5,h6,h7⟩:=hh.holds _ (List.mem_singleton.2 rfl)
 refine ⟨fun j hj=> ?_,(hh.lt a.block (by simp [u9,Res.own])).1,h3,h1⟩
 have hj2:j < xs.length:=by simpa using hj
 obtain ⟨v,e,r⟩:=h7 j (by simpa using hj2) 0 (by simp [numR])
 simp only [List.getElem_map,numR] at r
 have hv:v= .int .i64 xs[j]:=r.v_eq
 subst hv
 have e0:a.off+j * 1+0=a.off+j:=by omega
 rw [e0] at e
 refine ⟨?_,?_⟩
 ·have e2:w.cell? ⟨a.block,a.off+j,none⟩=some (.int .i64 xs[j]):=by simp [World.cell?,h5,e]
  have e3:xs.toArray[j]! =xs[j]:=getElem!_pos xs.toArray j hj
  rw [e2,e3]
 ·simp [World.frozen?,h5]
theorem zxk {X:Nat→Prop} {w:World} {n cap:Nat} {T:TypeId} {xs:List Int} (hh:HRel X w [.row (.slice none n cap) 1 T (xs.map numR)]):xs= []∧n=0∧cap=0:=by
 obtain ⟨h1,h2,h3⟩:=hh.holds _ (List.mem_singleton.2 rfl)
 exact ⟨by simpa using h1,h2,h3⟩
section
variable {P:Program} {ρ:Ren}
theorem zwd (Ly:Lays.n189 P ρ) (s:SV) (T:TypeId) (xs:List Int) (hs:xs.length < 4611686018427387904):
 y8 P (ρ.f 189) [.v s.v] [.row s.v 1 T (xs.map numR)] (fun r h'=>h'= [.row s.v 1 T ((xs.mergeSort fun x y=>decide (x≤y)).map numR)]∧r= .v (.tuple #[])):=by
 intro X w vs hh ha
 match vs,ha with
 | [v],⟨hv,_⟩=>
   obtain rfl:=hv.v_eq
   obtain ⟨a,n,cap⟩:=s
   cases a with
   |none=>
    obtain ⟨rfl,rfl,rfl⟩:=zxk hh
    refine callsIn_wide.2 ((Any.slices_Sort_int_none Ly none 0 w).mono ?_)
    rintro e w' ⟨rfl,rfl⟩
    exact ⟨_,_,_,rfl,⟨rfl,rfl⟩,.v _,by simpa using hh,.refl _ _⟩
   |some a=>
    have hn:n=xs.length:=by
     have:=(hh.holds _ (List.mem_singleton.2 rfl)).2.1
     simpa using this
    subst hn
    obtain ⟨g1,g2,g3,g4⟩:=ztk hh
    obtain ⟨b,off,sp⟩:=a
    simp only at g1 g2 g4
    subst g4
    refine callsIn_wide.2 ((Any.slices_Sort_int Ly b off cap xs w g1 g2 hs).mono ?_)
    rintro e w' ⟨rfl,n,os,rfl⟩
    have hlen:(xs.mergeSort fun x y=>decide (x≤y)).length=xs.length:=List.length_mergeSort _
    obtain ⟨k1,k2⟩:=ztj (zs:=xs.mergeSort fun x y=>decide (x≤y)) hh hlen (List.take_length).symm n os
    rw [hlen] at k1
    exact ⟨_,_,_,rfl,⟨rfl,rfl⟩,.v _,k1,k2⟩
theorem zo0 (Ly:Lays2.n20 P ρ) (s:SV) (T:TypeId) (xs:List Int) (hs:xs.length≤4611686018427387904):
 y8 P (ρ.f 20) [.v s.v] [.row s.v 1 T (xs.map numR)] (fun r h'=>∃s':SV,h'= [.row s'.v 1 T ((Lib.compact xs).map numR)]∧r= .v s'.v):=by
 intro X w vs hh ha
 match vs,ha with
 | [v],⟨hv,_⟩=>
   obtain rfl:=hv.v_eq
   obtain ⟨a,n,cap⟩:=s
   cases a with
   |none=>
    obtain ⟨rfl,rfl,rfl⟩:=zxk hh
    refine callsIn_wide.2 ((Any.slices_Compact_int_empty Ly none 0 w).mono ?_)
    rintro e w' ⟨rfl,rfl⟩
    exact ⟨_,_,_,rfl,⟨⟨none,0,0⟩,rfl,rfl⟩,.v _,hh,.refl _ _⟩
   |some a=>
    have hn:n=xs.length:=by
     have:=(hh.holds _ (List.mem_singleton.2 rfl)).2.1
     simpa using this
    subst hn
    obtain ⟨g1,g2,g3,g4⟩:=ztk hh
    obtain ⟨b,off,sp⟩:=a
    simp only at g1 g2 g4
    subst g4
    refine callsIn_wide.2 ((Any.slices_Compact_int Ly b off cap xs w g1 (by omega) g3).mono ?_)
    rintro e w' ⟨rfl,q,rfl⟩
    have hle:(Lib.compact xs).length≤xs.length:=by
     unfold Lib.compact Lib.compactUpTo
     rw [oM]
     exact Nat.le_trans (List.length_filter_le _ _) (by simp)
    obtain ⟨k1,k2⟩:=ztj (ys:=Lib.compact xs++List.replicate (xs.length - (Lib.compact xs).length) 0) (zs:=Lib.compact xs) hh (by simp;omega) (by rw [List.take_left'];rfl) q #[]
    rw [grow_empty] at k1 k2
    exact ⟨_,_,_,rfl,⟨⟨some ⟨b,off,none⟩,(Lib.compact xs).length,cap⟩,rfl,rfl⟩,.v _,k1,k2⟩
end
end Go.Ab
namespace Go.H
open Go Go.Ab
theorem zne (y:Int):∀l:List Int,zbn (l++ [y])=zbn l++(if l.getLast? =some y then [] else [y])
 | []=>by simp [zbn]
 | [x]=>by
   by_cases h:x=y
   ·subst h;simp [zbn]
   ·simp [zbn,h]
 |x::z::r=>by
  have ih:=zne y (z::r)
  simp only [List.cons_append] at ih ⊢
  have hl:(x::z::r).getLast? =(z::r).getLast? :=by simp [List.getLast?_cons]
  rw [hl,zbn,zbn]
  by_cases h:x=z
  ·rw [if_pos h,if_pos h];exact ih
  ·rw [if_neg h,if_neg h,ih];rfl
theorem zv2 (xs:List Int):Lib.compact xs=zbn xs:=by
 have key:∀m,m≤xs.length→Lib.compactUpTo xs.toArray m=zbn (xs.take m):=by
  intro m
  induction m with
  |zero=>intro _;rfl
  |succ m ih=>
   intro hm
   have hlt:m < xs.length:=hm
   rw [Lib.compactUpTo_succ,ih (by omega),List.take_succ_eq_append_getElem hlt,zne]
   congr 1
   have e1:xs.toArray[m]! =xs[m]:=by simp [hlt]
   by_cases h0:m=0
   ·subst h0
    simp [Lib.keeps,hlt]
   ·have hlt':m - 1 < xs.length:=by omega
    have e2:xs.toArray[m - 1]! =xs[m - 1]:=by simp [hlt']
    have e3:(xs.take m).getLast? =some xs[m - 1]:=by
     rw [List.getLast?_eq_getElem?,List.length_take,Nat.min_eq_left (by omega),List.getElem?_take_of_lt (by omega)]
     simp [hlt']
    rw [e3]
    unfold Lib.keeps
    rw [e1,e2]
    by_cases he:xs[m]=xs[m - 1]
    ·rw [if_neg (by simp [h0,he]),if_pos (by rw [he])]
    ·rw [if_pos (by simp [he]),if_neg (fun q=>he (Option.some.inj q).symm)]
 have:=key xs.length (Nat.le_refl _)
 rw [List.take_length] at this
 exact this
def ye0 (l:List Ev):List (Int×Bool):=l.foldl (fun m e=>zdr e.t ((za7 e.t m).getD false||e.kind==5) m) []
theorem zzn (t:Int):∀(l:List Ev) (m:List (Int×Bool)),(za7 t (l.foldl (fun m e=>zdr e.t ((za7 e.t m).getD false||e.kind==5) m) m)).getD false=((za7 t m).getD false||l.any fun y=>y.t==t && y.kind==5)
 | [],m=>by simp
 |e::l,m=>by
  rw [List.foldl_cons,zzn t l,List.any_cons,zcf]
  by_cases h:e.t=t
  ·subst h;simp [Bool.or_assoc]
  ·have:(e.t==t)=false:=by simpa using h
   rw [if_neg h,this,Bool.false_and,Bool.false_or]
theorem zkm (l:List Ev) (t:Int):(za7 t (ye0 l)).getD false=l.any fun y=>y.t==t && y.kind==5:=by
 rw [ye0,zzn];simp [za7]
theorem zid {l:List Ev} {k:Nat} (hk:k < l.length):ye0 (l.take (k+1))=zdr l[k].t ((za7 l[k].t (ye0 (l.take k))).getD false||l[k].kind==5) (ye0 (l.take k)):=by
 rw [List.take_succ_eq_append_getElem hk,ye0,List.foldl_append];rfl
section
variable {α:Type} {l:List α} {k:Nat} {p:α→Bool}
theorem yom (hk:k < l.length) (h:p l[k]=true):(l.take (k+1)).filter p=(l.take k).filter p++ [l[k]]:=by
 rw [List.take_succ_eq_append_getElem hk,List.filter_append];simp [h]
theorem yic (hk:k < l.length) (h:p l[k]=false):(l.take (k+1)).filter p=(l.take k).filter p:=by
 rw [List.take_succ_eq_append_getElem hk,List.filter_append];simp [h]
theorem zy9:((l.take k).filter p).length≤l.length:=Nat.le_trans (List.length_filter_le _ _) (by simp;omega)
end
def wrB (l:List Ev) (x:Int) (e:Ev):Bool:=e.kind==2 && e.o==x && l.any fun y=>y.t==e.t && y.kind==5
theorem zrd (l:List Ev) (x:Int):zam l x=zbn (srt ((l.filter (wrB l x)).map Ev.t)):=rfl
theorem zqp (l:List Int) (n:Int):(l.any fun a=>a==n)=l.contains n:=by
 rw [Bool.eq_iff_iff];simp
theorem zin (l:List Ev) (x:Int):(zam l x).length≤l.length:=by
 rw [zrd]
 refine Nat.le_trans (zgf _) ?_
 rw [(zbr _).length_eq,oM]
 exact List.length_filter_le _ _
theorem zi2 (a b:Nat):((a:Int) !=(b:Int))= !decide (a=b):=by
 rw [Bool.eq_iff_iff];simp;omega
theorem y0.new {P:Program} {fv:AV} {args:List AV} {h:List Res} {R:AV→List Res→Prop} (hc:y0 P fv args [] R):y0 P fv args h (fun r h'=>∃h1,R r h1∧h'=h1++h):=
 (hc.frame h).mono fun _ _ ⟨h1,e,q⟩=>⟨h1,q,e⟩
def zd6 (h:Hist) (n many:Int):Int:=if u3 h=0 then (if 0≤n∧n < many then 0 else 2) else u3 h
def onE (e:Int) (l:List Int):List Int:=if e=0 then l else []
theorem zwb {h:Hist} {n many:Int} (he:zd6 h n many=0):zaq h=true∧0≤n∧n < many:=by
 unfold zd6 at he
 split at he
 ·rename_i hc
  split at he
  ·rename_i hn;exact ⟨zaw.1 hc,hn⟩
  ·cases he
 ·rename_i hc;exact absurd he hc
theorem ask_c {h:Hist} {n many:Int} (hc:u3 h≠0):zd6 h n many=u3 h:=by rw [zd6,if_neg hc]
theorem zwa {h:Hist} {n many:Int} (hc:u3 h=0) (hn:¬(0≤n∧n < many)):zd6 h n many=2:=by rw [zd6,if_pos hc,if_neg hn]
theorem zoz {h:Hist} {n many:Int} (hc:u3 h=0) (hn:0≤n∧n < many):zd6 h n many=0:=by rw [zd6,if_pos hc,if_pos hn]
theorem ye7 (h:Hist):zd6 h 0 1=u3 h:=by
 unfold zd6;split
 ·rename_i h0;rw [h0];rfl
 ·rfl
def zna (l:List Ev):List (Int×Bool):=zpg (fun e:Ev=>e.kind==5) Ev.t [] l
theorem ydn (l:List Ev) (t:Int):(za7 t (zna l)).getD false=zhs l t 5:=by
 rw [zna,zfa,zfh]
 have:(l.any fun e=>e.kind==5 && decide (e.t=t))=l.any fun y=>y.t==t && y.kind==5:=by
  congr 1;funext e;rw [Bool.and_comm];rfl
 rw [this]
 cases l.any fun y=>y.t==t && y.kind==5 <;> rfl
theorem ymh {l:List Ev} {k:Nat} (hk:k < l.length) (h5:(l[k].kind==5)=true):zna (l.take (k+1))=zdr l[k].t true (zna (l.take k)):=by
 rw [List.take_succ_eq_append_getElem hk,zna,zpg,List.foldl_append,List.foldl_cons,List.foldl_nil,if_pos h5];rfl
theorem ymi {l:List Ev} {k:Nat} (hk:k < l.length) (h5:(l[k].kind==5)=false):zna (l.take (k+1))=zna (l.take k):=by
 rw [List.take_succ_eq_append_getElem hk,zna,zpg,List.foldl_append,List.foldl_cons,List.foldl_nil,if_neg (by rw [h5];decide)];rfl
section
variable {α:Type} (cmp:α→α→Int)
def mrg:List α→List α→List α
 | [],b=>b
 |x::a,[]=>x::a
 |x::a,y::b=>if cmp y x < 0 then y::mrg (x::a) b else x::mrg a (y::b)
termination_by a b=>a.length+b.length
theorem yhe (a:List α):mrg cmp a []=a:=by cases a <;> simp [mrg]
theorem zh9:∀(a b:List α),(mrg cmp a b).Perm (a++b)
 | [],b=>by simp [mrg]
 |x::a,[]=>by simp [mrg]
 |x::a,y::b=>by
  rw [mrg]
  split
  ·exact ((zh9 (x::a) b).cons y).trans (List.perm_middle (l₁:=x::a)).symm
  ·exact (zh9 a (y::b)).cons x
termination_by a b=>a.length+b.length
def LeC (a b:α):Prop:=cmp a b≤0
structure CmpOk:Prop where
 trans:∀a b c,cmp a b≤0→cmp b c≤0→cmp a c≤0
 anti:∀a b,cmp b a= - cmp a b
variable {cmp}
theorem zi0 (ok:CmpOk cmp):∀(a b:List α),a.Pairwise (LeC cmp)→b.Pairwise (LeC cmp)→(mrg cmp a b).Pairwise (LeC cmp)
 | [],b,_,hb=>by simpa [mrg] using hb
 |x::a,[],ha,_=>by simpa [mrg] using ha
 |x::a,y::b,ha,hb=>by
  rw [mrg]
  have ha':=List.pairwise_cons.1 ha
  have hb':=List.pairwise_cons.1 hb
  split
  ·rename_i h
   refine List.pairwise_cons.2 ⟨fun z hz=> ?_,zi0 ok (x::a) b ha hb'.2⟩
   have hz':=(zh9 cmp (x::a) b).mem_iff.1 hz
   rcases List.mem_append.1 hz' with hz'|hz'
   ·have hyx:LeC cmp y x:=Int.le_of_lt h
    rcases List.mem_cons.1 hz' with rfl|hz'
    ·exact hyx
    ·exact ok.trans _ _ _ hyx (ha'.1 z hz')
   ·exact hb'.1 z hz'
  ·rename_i h
   have hxy:LeC cmp x y:=by have:=ok.anti x y;show cmp x y≤0;omega
   refine List.pairwise_cons.2 ⟨fun z hz=> ?_,zi0 ok a (y::b) ha'.2 hb⟩
   have hz':=(zh9 cmp a (y::b)).mem_iff.1 hz
   rcases List.mem_append.1 hz' with hz'|hz'
   ·exact ha'.1 z hz'
   ·rcases List.mem_cons.1 hz' with rfl|hz'
    ·exact hxy
    ·exact ok.trans _ _ _ hxy (hb'.1 z hz')
termination_by a b=>a.length+b.length
variable (cmp)
def zbe:List (List α)→List (List α)
 |a::b::r=>mrg cmp a b::zbe r
 |l=>l
theorem zca:∀l:List (List α),(zbe cmp l).length=(l.length+1) / 2
 | []=>by simp [zbe]
 | [a]=>by simp [zbe]
 |a::b::r=>by rw [zbe,List.length_cons,zca r,List.length_cons,List.length_cons];omega
theorem zhj:∀l:List (List α),(zbe cmp l).flatten.Perm l.flatten
 | []=> .refl _
 | [a]=> .refl _
 |a::b::r=>by
  rw [zbe,List.flatten_cons,List.flatten_cons,List.flatten_cons,←List.append_assoc]
  exact (zh9 cmp a b).append (zhj r)
def zov (l:List (List α)) (k:Nat):List α:=if k+1=l.length then (l[k]?).getD [] else mrg cmp ((l[k]?).getD []) ((l[k+1]?).getD [])
theorem zm2:∀(l:List (List α)) (i:Nat),i < (zbe cmp l).length→(zbe cmp l)[i]? =some (zov cmp l (2 * i))
 | [],i,h=>by simp [zbe] at h
 | [a],i,h=>by
   have:i=0:=by simpa [zbe] using h
   subst this;rfl
 |a::b::r,0,h=>by
  rw [zbe,zov,if_neg (by simp)];rfl
 |a::b::r,i+1,h=>by
  have h':i < (zbe cmp r).length:=by simpa [zbe] using h
  rw [zbe,List.getElem?_cons_succ,zm2 r i h',zov,zov,show 2 * (i+1)=2 * i+1+1 by omega]
  simp only [List.length_cons,List.getElem?_cons_succ]
  by_cases e:2 * i+1=r.length
  ·rw [if_pos e,if_pos (by omega)]
  ·rw [if_neg e,if_neg (by omega)]
def zpb (l:List (List α)):List (List α):=if h:1 < l.length then zpb (zbe cmp l) else l
termination_by l.length
decreasing_by rw [zca];omega
theorem znt {l:List (List α)} (h:1 < l.length):zpb cmp l=zpb cmp (zbe cmp l):=by rw [zpb,dif_pos h]
theorem zhx {l:List (List α)} (h:¬1 < l.length):zpb cmp l=l:=by rw [zpb,dif_neg h]
theorem zpa (l:List (List α)):(zpb cmp l).flatten.Perm l.flatten:=by
 by_cases h:1 < l.length
 ·rw [znt cmp h]
  have:(zbe cmp l).length < l.length:=by rw [zca];omega
  exact (zpa (zbe cmp l)).trans (zhj cmp l)
 ·rw [zhx cmp h]
termination_by l.length
theorem zns (l:List (List α)):(zpb cmp l).length≤1:=by
 by_cases h:1 < l.length
 ·rw [znt cmp h]
  have:(zbe cmp l).length < l.length:=by rw [zca];omega
  exact zns (zbe cmp l)
 ·rw [zhx cmp h];omega
termination_by l.length
def zhy (l:List α):List α:=((zpb cmp (l.map fun x=> [x]))[0]?).getD []
theorem zvw (l:List (List α)) (h:l.length≤1):(l[0]?).getD []=l.flatten:=by
 match l,h with
 | [],_=>rfl
 | [a],_=>simp
theorem zza (l:List α):(l.map fun x=> [x]).flatten=l:=by
 induction l with
 |nil=>rfl
 |cons a r ih=>rw [List.map_cons,List.flatten_cons,ih];rfl
theorem zee (l:List α):(zhy cmp l).Perm l:=by
 rw [zhy,zvw _ (zns cmp _)]
 have:=zpa cmp (l.map fun x=> [x])
 rwa [zza] at this
variable {cmp}
theorem zh5 (ok:CmpOk cmp):∀l:List (List α),(∀r∈l,r.Pairwise (LeC cmp))→∀r∈zbe cmp l,r.Pairwise (LeC cmp)
 | [],_,r,h=>by cases h
 | [a],hl,r,h=>hl r h
 |a::b::q,hl,r,h=>by
  rw [zbe] at h
  rcases List.mem_cons.1 h with rfl|h
  ·exact zi0 ok a b (hl a (by simp)) (hl b (by simp))
  ·exact zh5 ok q (fun r hr=>hl r (by simp [hr])) r h
theorem zkx (ok:CmpOk cmp) (l:List (List α)) (hl:∀r∈l,r.Pairwise (LeC cmp)):∀r∈zpb cmp l,r.Pairwise (LeC cmp):=by
 by_cases h:1 < l.length
 ·rw [znt cmp h]
  have:(zbe cmp l).length < l.length:=by rw [zca];omega
  exact zkx ok (zbe cmp l) (zh5 ok l hl)
 ·rw [zhx cmp h];exact hl
termination_by l.length
theorem zjf (ok:CmpOk cmp) (l:List α):(zhy cmp l).Pairwise (LeC cmp):=by
 have h:=zkx ok (l.map fun x=> [x]) (fun r hr=>by obtain ⟨x,_,rfl⟩:=List.mem_map.1 hr;exact List.pairwise_singleton _ _)
 have hl:=zns cmp (l.map fun x=> [x])
 rw [zhy]
 match hs:zpb cmp (l.map fun x=> [x]),hl with
 | [],_=>exact .nil
 | [a],_=>exact h a (by rw [hs];simp)
def LtC (cmp:α→α→Int) (a b:α):Prop:=cmp a b < 0
theorem ztw (hz:∀a b,cmp a b=0→a=b):∀{l:List α},l.Pairwise (LeC cmp)→l.Nodup→l.Pairwise (LtC cmp):=by
 intro l h hn
 induction l with
 |nil=>exact .nil
 |cons a r ih=>
  rw [List.nodup_cons] at hn
  rw [List.pairwise_cons] at h ⊢
  refine ⟨fun b hb=> ?_,ih h.2 hn.2⟩
  have h1:=h.1 b hb
  have h2:cmp a b≠0:=fun e=>hn.1 (by rw [hz a b e];exact hb)
  show cmp a b < 0
  have:cmp a b≤0:=h1
  omega
theorem zym (ok:CmpOk cmp):∀(l m:List α),l.Pairwise (LtC cmp)→m.Pairwise (LtC cmp)→(∀z,z∈l ↔ z∈m)→l=m
 | [],[],_,_,_=>rfl
 | [],b::m,_,_,h=>by have:=(h b).2 (by simp);cases this
 |a::l,[],_,_,h=>by have:=(h a).1 (by simp);cases this
 |a::l,b::m,hl,hm,h=>by
  have hl':=List.pairwise_cons.1 hl
  have hm':=List.pairwise_cons.1 hm
  have irr:∀z,¬LtC cmp z z:=fun z hz=>by have:=ok.anti z z;have:cmp z z < 0:=hz;omega
  have e:a=b:=by
   rcases List.mem_cons.1 ((h a).1 (by simp)) with e|h1
   ·exact e
   ·rcases List.mem_cons.1 ((h b).2 (by simp)) with e|h2
    ·exact e.symm
    ·have h3:cmp b a < 0:=hm'.1 a h1
     have h4:cmp a b < 0:=hl'.1 b h2
     have:=ok.anti a b;omega
  subst e
  congr 1
  refine zym ok l m hl'.2 hm'.2 fun z=> ?_
  have hz:=h z
  simp only [List.mem_cons] at hz
  constructor
  ·intro q
   rcases hz.1 (.inr q) with rfl|q'
   ·exact absurd (hl'.1 _ q) (irr _)
   ·exact q'
  ·intro q
   rcases hz.2 (.inr q) with rfl|q'
   ·exact absurd (hm'.1 _ q) (irr _)
   ·exact q'
end
section
variable {α:Type} [DecidableEq α] (cmp:α→α→Int)
def yb6:List α→α→List α
 | [],c=> [c]
 |x::r,c=>if cmp x c < 0 then x::yb6 r c else if x=c then x::r else c::x::r
variable {cmp}
theorem zn2 {c z:α}:∀{l:List α},z∈yb6 cmp l c ↔ z=c∨z∈l
 | []=>by simp [yb6]
 |x::r=>by
  rw [yb6]
  split
  ·rw [List.mem_cons,zn2,List.mem_cons];constructor <;> (rintro (h|h|h) <;> simp [h])
  ·split
   ·rename_i e;subst e;simp
   ·simp
theorem zla (ok:CmpOk cmp) (hz:∀a b,cmp a b=0→a=b) {c:α}:∀{l:List α},l.Pairwise (LtC cmp)→(yb6 cmp l c).Pairwise (LtC cmp)
 | [],_=>List.pairwise_singleton _ _
 |x::r,h=>by
  have h':=List.pairwise_cons.1 h
  rw [yb6]
  split
  ·rename_i hx
   refine List.pairwise_cons.2 ⟨fun z q=> ?_,zla ok hz h'.2⟩
   rcases zn2.1 q with rfl|q
   ·exact hx
   ·exact h'.1 z q
  ·split
   ·exact h
   ·rename_i hx he
    have hne:cmp x c≠0:=fun e=>he (hz x c e)
    have hcx:cmp c x < 0:=by have:=ok.anti x c;omega
    refine List.pairwise_cons.2 ⟨fun z q=> ?_,h⟩
    rcases List.mem_cons.1 q with rfl|q
    ·exact hcx
    ·have h1:cmp x z < 0:=h'.1 z q
     show cmp c z < 0
     have h2:cmp c z≤0:=ok.trans _ _ _ (Int.le_of_lt hcx) (Int.le_of_lt h1)
     by_cases e:cmp c z=0
     ·have:=hz _ _ e;subst this
      have:=ok.anti x c;omega
     ·omega
end
section
variable {α:Type}
def zja (q:α→α→Bool):α→List α→List α
 |_,[]=> []
 |p,y::r=>if q y p=true then zja q y r else y::zja q y r
def zjb (q:α→α→Bool):List α→List α
 | []=> []
 |x::r=>x::zja q x r
def zoa (q:α→α→Bool):α→List α→List α
 |_,[]=> []
 |k,y::r=>if q y k=true then zoa q k r else y::zoa q y r
def zyv (q:α→α→Bool):List α→List α
 | []=> []
 |x::r=>x::zoa q x r
theorem zlp {κ:Type} [DecidableEq κ] {key:α→κ} {q:α→α→Bool} (hq:∀a b,q a b=decide (key a=key b)):∀(l:List α) (p k:α),key p=key k→zja q p l=zoa q k l
 | [],_,_,_=>rfl
 |y::r,p,k,h=>by
  rw [zja,zoa,hq,hq,h]
  by_cases e:key y=key k
  ·rw [if_pos (by simpa using e),if_pos (by simpa using e)];exact zlp hq r y k e
  ·rw [if_neg (by simpa using e),if_neg (by simpa using e),zlp hq r y y rfl]
theorem zst {κ:Type} [DecidableEq κ] {key:α→κ} {q:α→α→Bool} (hq:∀a b,q a b=decide (key a=key b)):∀l:List α,zjb q l=zyv q l
 | []=>rfl
 |x::r=>by rw [zjb,zyv,zlp hq r x x rfl]
theorem zlq (q:α→α→Bool):∀(l:List α) (p:α),(zja q p l).Sublist l
 | [],_=> .slnil
 |y::r,p=>by
  rw [zja];split
  ·exact (zlq q r y).cons y
  ·exact (zlq q r y).cons_cons y
theorem zlr (q:α→α→Bool):∀l:List α,(zjb q l).Sublist l
 | []=> .slnil
 |x::r=>(zlq q r x).cons_cons x
end
variable {α:Type} (cmp:α→α→Int)
theorem yn6 {a b:List α} {i j:Nat} (hi:i < a.length) (hj:j < b.length) (h:cmp b[j] a[i] < 0):mrg cmp (a.drop i) (b.drop j)=b[j]::mrg cmp (a.drop i) (b.drop (j+1)):=by
 rw [List.drop_eq_getElem_cons hi,List.drop_eq_getElem_cons hj,mrg,if_pos h]
theorem yn7 {a b:List α} {i j:Nat} (hi:i < a.length) (hj:j < b.length) (h:¬cmp b[j] a[i] < 0):mrg cmp (a.drop i) (b.drop j)=a[i]::mrg cmp (a.drop (i+1)) (b.drop j):=by
 rw [List.drop_eq_getElem_cons hi,List.drop_eq_getElem_cons hj,mrg,if_neg h]
theorem ztt {a b:List α} (h:a= []∨b= []):mrg cmp a b=a++b:=by
 rcases h with rfl|rfl
 ·simp [mrg]
 ·rw [yhe,List.append_nil]
theorem ydj {L:List (List α)} {r:List α} (h:r∈L):r.length≤L.flatten.length:=by
 induction L with
 |nil=>cases h
 |cons a L ih=>
  rw [List.flatten_cons,List.length_append]
  rcases List.mem_cons.1 h with rfl|h
  ·omega
  ·have:=ih h;omega
theorem yca {L:List (List α)} {i:Nat} (h:2 * i+1=L.length):zov cmp L (2 * i)=L[2 * i]'(by omega):=by
 rw [zov,if_pos h,List.getElem?_eq_getElem (by omega)];rfl
theorem yb9 {L:List (List α)} {i:Nat} (h:2 * i+1 < L.length):zov cmp L (2 * i)=mrg cmp (L[2 * i]'(by omega)) L[2 * i+1]:=by
 rw [zov,if_neg (by omega),List.getElem?_eq_getElem (by omega),List.getElem?_eq_getElem h];rfl
theorem zpx {L:List (List α)} {i:Nat} (h:i < (L.length+1) / 2):(zbe cmp L).take (i+1)=(zbe cmp L).take i++ [zov cmp L (2 * i)]:=by
 have hl:i < (zbe cmp L).length:=by rw [zca];exact h
 rw [List.take_succ_eq_append_getElem hl]
 congr 2
 have:=zm2 cmp L i hl
 rw [List.getElem?_eq_getElem hl] at this
 exact Option.some.inj this
theorem zkb {L:List (List α)} {i:Nat} (h:i=(L.length+1) / 2):(zbe cmp L).take i=zbe cmp L:=by
 rw [List.take_of_length_le];rw [zca];omega
theorem ya7 {L:List (List α)} {l:List α} (h:zpb cmp L=zpb cmp (l.map fun a=> [a])) (h0:L.length=0):zhy cmp l= []:=by
 rw [zhy,←h,zhx cmp (by omega),List.length_eq_zero_iff.1 h0];rfl
theorem ya6 {r l:List α} (h:zpb cmp [r]=zpb cmp (l.map fun a=> [a])):zhy cmp l=r:=by
 rw [zhy,←h,zhx cmp (by simp)];rfl
theorem ycj (l:List α):(l.map fun a=> [a]).flatten=l:=by induction l <;> simp_all
structure Conf where
 f:Int
 t:Int
 k:Int
 a:Int
 b:Int
 o:Int
 p:Int
 deriving DecidableEq
def j5 (c:Conf):List AV:= [iv c.f,iv c.t,iv c.k,iv c.a,iv c.b,iv c.o,iv c.p]
def zif (l:List Conf):AV:= .list false 7 (l.map j5)
theorem zer (l:List Conf):∀r∈l.map j5,r.all AV.one=true:=by
 intro r hr;obtain ⟨a,_,rfl⟩:=List.mem_map.1 hr;rfl
def zwi (c:Conf):List Int:= [c.f,c.t,c.k,c.a,c.b,c.o,c.p]
def zfj:List Int→List Int→Int
 | [],[]=>0
 | [],_::_=> -1
 |_::_,[]=>1
 |x::a,y::b=>if x < y then -1 else if y < x then 1 else zfj a b
def zet (a b:Conf):Int:=zfj (zwi a) (zwi b)
theorem zlw:∀a b:List Int,zfj b a= - zfj a b
 | [],[]=>rfl
 | [],_::_=>rfl
 |_::_,[]=>rfl
 |x::a,y::b=>by
  rw [zfj,zfj]
  by_cases h:x < y
  ·rw [if_neg (show ¬y < x by omega),if_pos h,if_pos h];rfl
  ·by_cases h':y < x
   ·rw [if_pos h',if_neg h,if_pos h']
   ·rw [if_neg h',if_neg h,if_neg h,if_neg h',zlw a b]
theorem zlv:∀a:List Int,zfj a a=0
 | []=>rfl
 |x::a=>by rw [zfj,if_neg (by omega),if_neg (by omega),zlv a]
theorem zlu:∀a b:List Int,zfj a b=0→a=b
 | [],[],_=>rfl
 | [],_::_,h=>by simp [zfj] at h
 |_::_,[],h=>by simp [zfj] at h
 |x::a,y::b,h=>by
  rw [zfj] at h
  split at h
  ·omega
  ·split at h
   ·omega
   ·rw [zlu a b h,show x=y by omega]
theorem zjc:∀a b c:List Int,zfj a b≤0→zfj b c≤0→zfj a c≤0
 | [],[],c,_,h=>h
 | [],_::_,[],_,_=>by simp [zfj]
 | [],_::_,_::_,_,_=>by simp [zfj]
 |_::_,[],c,h,_=>by simp [zfj] at h
 |_::_,_::_,[],_,h=>by simp [zfj] at h
 |x::a,y::b,z::c,h1,h2=>by
  rw [zfj] at h1 h2 ⊢
  split at h1
  ·split at h2
   ·rw [if_pos (by omega)];omega
   ·split at h2
    ·omega
    ·rw [if_pos (by omega)];omega
  ·split at h1
   ·omega
   ·split at h2
    ·rw [if_pos (by omega)];omega
    ·split at h2
     ·omega
     ·rw [if_neg (by omega),if_neg (by omega)];exact zjc a b c h1 h2
theorem ydi {a b:Conf} (h:zwi a=zwi b):a=b:=by
 cases a;cases b;simp only [zwi,List.cons.injEq,and_true] at h;simp only [Conf.mk.injEq];exact h
theorem zhn:CmpOk zet:=⟨fun a b c h k=>zjc _ _ _ h k,fun a b=>zlw _ _⟩
theorem zij (a b:Conf) (h:zet a b=0):a=b:=ydi (zlu _ _ h)
theorem zik (a:Conf):zet a a=0:=zlv _
def zg8 (h:Hist) (t x:Int):Int:=atO (zol h.evs t x)
def zeg (a b:Conf):Bool:=a.f==b.f && a.t==b.t
def zm1 (out l:List Conf):List Conf:=l.foldl (yb6 zet) out
theorem zh4:∀(l out:List Conf),out.Pairwise (LtC zet)→(zm1 out l).Pairwise (LtC zet)
 | [],_,h=>h
 |c::r,out,h=>zh4 r (yb6 zet out c) (zla zhn zij h)
theorem zix {z:Conf}:∀(l out:List Conf),z∈zm1 out l ↔ z∈out∨z∈l
 | [],out=>by simp [zm1]
 |c::r,out=>by
  rw [show zm1 out (c::r)=zm1 (yb6 zet out c) r from rfl,zix r,zn2,List.mem_cons]
  constructor
  ·rintro ((h|h)|h) <;> simp [h]
  ·rintro (h|h|h) <;> simp [h]
def zxa (a b:Conf):Bool:=a.f==b.f && a.t==b.t && a.k==b.k
def ypc (l:List Conf):List Conf:=zyv zxa l
theorem zhl {α:Type} {q r:α→α→Bool}:∀(l:List α) (k:α),(∀a∈l,∀b∈k::l,q a b=r a b)→zoa q k l=zoa r k l
 | [],_,_=>rfl
 |y::l,k,h=>by
  rw [zoa,zoa,h y (by simp) k (by simp),zhl l k (fun a ha b hb=>h a (by simp [ha]) b (by rcases List.mem_cons.1 hb with rfl|hb <;> simp [*])),zhl l y (fun a ha b hb=>h a (by simp [ha]) b (by rcases List.mem_cons.1 hb with rfl|hb <;> simp [*]))]
def zd3 (c:Conf):Int×Int:=(c.f,c.t)
def zsu (a b:Conf):Int:=zfj [a.f,a.t] [b.f,b.t]
theorem yik {a b:Conf} (h:zet a b≤0):zsu a b≤0:=by
 simp only [zet,zwi,zfj] at h
 simp only [zsu,zfj]
 split
 ·omega
 ·rename_i h1
  rw [if_neg h1] at h
  split
  ·rename_i h2;rw [if_pos h2] at h;omega
  ·rename_i h2
   rw [if_neg h2] at h
   split
   ·omega
   ·rename_i h3
    rw [if_neg h3] at h
    split
    ·rename_i h4;rw [if_pos h4] at h;omega
    ·omega
theorem zen {a b:Conf}:zsu a b=0 ↔ zd3 a=zd3 b:=by
 constructor
 ·intro h
  have:=zlu _ _ h
  simp only [List.cons.injEq,and_true] at this
  rw [zd3,zd3,this.1,this.2]
 ·intro h
  simp only [zd3,Prod.mk.injEq] at h
  rw [zsu,h.1,h.2,zlv]
theorem zng {a b c:Conf} (h:zsu a b≤0) (k:zsu b c≤0):zsu a c≤0:=zjc _ _ _ h k
theorem zu4 (a b:Conf):zeg a b=decide (zd3 a=zd3 b):=by rw [zeg,Bool.eq_iff_iff];simp [zd3]
theorem zqs:∀(l:List Conf) (p:Conf),(p::l).Pairwise (LeC zet)→(∀y∈zja zeg p l,zsu p y < 0)∧(zja zeg p l).Pairwise (fun a b=>zsu a b < 0)∧∀c∈l,zd3 c=zd3 p∨∃a∈zja zeg p l,zd3 a=zd3 c∧zet a c≤0
 | [],p,_=>⟨by simp [zja],by simp [zja],by simp⟩
 |y::r,p,h=>by
  have h':=List.pairwise_cons.1 h
  have hy:=List.pairwise_cons.1 h'.2
  obtain ⟨i1,i2,i3⟩:=zqs r y h'.2
  have hpy:zsu p y≤0:=yik (h'.1 y (by simp))
  rw [zja,zu4]
  by_cases e:zd3 y=zd3 p
  ·rw [if_pos (by simpa using e)]
   have e0:=zen.2 e
   refine ⟨fun z hz=> ?_,i2,fun c hc=> ?_⟩
   ·have a1:=i1 z hz
    have a2:=zng hpy (Int.le_of_lt a1)
    rcases Int.lt_or_eq_of_le a2 with q|q
    ·exact q
    ·have:=zen.1 q
     rw [←e] at this
     have:=zen.2 this;omega
   ·rcases List.mem_cons.1 hc with rfl|hc
    ·exact .inl e
    ·rcases i3 c hc with q|q
     ·exact .inl (q.trans e)
     ·exact .inr q
  ·rw [if_neg (by simpa using e)]
   have lt:zsu p y < 0:=by
    rcases Int.lt_or_eq_of_le hpy with q|q
    ·exact q
    ·exact absurd (zen.1 q).symm e
   refine ⟨fun z hz=> ?_,List.pairwise_cons.2 ⟨i1,i2⟩,fun c hc=> ?_⟩
   ·rcases List.mem_cons.1 hz with rfl|hz
    ·exact lt
    ·have a1:=i1 z hz
     have a2:=zng hpy (Int.le_of_lt a1)
     rcases Int.lt_or_eq_of_le a2 with q|q
     ·exact q
     ·have hk:=zen.1 q
      have a3:zsu y z < 0:=a1
      have a4:zfj [z.f,z.t] [y.f,y.t]= - zfj [y.f,y.t] [z.f,z.t]:=zlw _ _
      have a5:zfj [p.f,p.t] [y.f,y.t]=zfj [z.f,z.t] [y.f,y.t]:=by
       simp only [zd3,Prod.mk.injEq] at hk;rw [hk.1,hk.2]
      simp only [zsu] at lt a3
      omega
   ·rcases List.mem_cons.1 hc with rfl|hc
    ·exact .inr ⟨c,by simp,rfl,by rw [zik];exact Int.le_refl _⟩
    ·rcases i3 c hc with q|⟨a,ha,q1,q2⟩
     ·exact .inr ⟨y,by simp,q.symm,hy.1 c hc⟩
     ·exact .inr ⟨a,by simp [ha],q1,q2⟩
theorem zzu (l:List Conf) (h:l.Pairwise (LeC zet)):(zjb zeg l).Pairwise (fun a b=>zsu a b < 0)∧∀c∈l,∃a∈zjb zeg l,zd3 a=zd3 c∧zet a c≤0:=by
 cases l with
 |nil=>exact ⟨.nil,by simp⟩
 |cons x r=>
  obtain ⟨i1,i2,i3⟩:=zqs r x h
  have h':=List.pairwise_cons.1 h
  refine ⟨List.pairwise_cons.2 ⟨i1,i2⟩,fun c hc=> ?_⟩
  rcases List.mem_cons.1 hc with rfl|hc
  ·exact ⟨c,by simp [zjb],rfl,by rw [zik];exact Int.le_refl _⟩
  ·rcases i3 c hc with q|⟨a,ha,q1,q2⟩
   ·exact ⟨x,by simp [zjb],q.symm,h'.1 c hc⟩
   ·exact ⟨a,by simp [zjb,ha],q1,q2⟩
theorem ziw {K V:Type} [DecidableEq K] (k:K) (v:V):∀m:List (K×V),(m.map Prod.fst).Nodup→((zdr k v m).map Prod.fst).Nodup∧∀z,z∈(zdr k v m).map Prod.fst ↔ z=k∨z∈m.map Prod.fst
 | [],_=>⟨by simp [zdr],by simp [zdr]⟩
 |p::r,h=>by
  rw [List.map_cons,List.nodup_cons] at h
  obtain ⟨i1,i2⟩:=ziw k v r h.2
  rw [zdr]
  by_cases e:p.1=k
  ·rw [if_pos e]
   exact ⟨by rw [List.map_cons,List.nodup_cons];exact h,fun z=>by simp [e]⟩
  ·rw [if_neg e]
   have hnm:p.1 ∉ (zdr k v r).map Prod.fst:=fun q=>by
    rcases (i2 _).1 q with q|q
    ·exact e q
    ·exact h.1 q
   refine ⟨by rw [List.map_cons,List.nodup_cons];exact ⟨hnm,i1⟩,fun z=> ?_⟩
   ·rw [List.map_cons,List.mem_cons,i2,List.map_cons,List.mem_cons]
    constructor
    ·rintro (q|q|q) <;> simp [q]
    ·rintro (q|q|q) <;> simp [q]
def yja (t:Int):Ev:=⟨1,t,0,1,0,⟨0,0⟩,0,[]⟩
def ynd (t o:Int):Ev:=⟨2,t,0,0,o,⟨t,1⟩,0,[]⟩
def yi9 (t:Int):Ev:=⟨5,t,0,0,0,⟨0,0⟩,0,[]⟩
def wT (n:UInt8):ByteArray:=⟨#[84,n]⟩
def zuj:ByteArray:=⟨#[115]⟩
def bxx:ByteArray:=⟨#[120]⟩
def zra (l:List Conf) (z:Conf):Prop:=z∈l∧∀c∈l,zd3 c=zd3 z→zet z c≤0
theorem zj0 {a b:Conf} (h:zet a b≤0) (k:zet b a≤0):a=b:=by
 have:=zhn.anti a b
 exact zij a b (by omega)
theorem zv3 {l:List Conf} (h:(zjb zeg l).Pairwise (fun a b=>zsu a b < 0)) {a z:Conf} (ha:a∈zjb zeg l) (hz:z∈zjb zeg l) (e:zd3 a=zd3 z):a=z:=by
 obtain ⟨i,hi,rfl⟩:=List.mem_iff_getElem.1 ha
 obtain ⟨j,hj,rfl⟩:=List.mem_iff_getElem.1 hz
 have e1:=zen.2 e
 have e2:=zen.2 e.symm
 by_cases hij:i=j
 ·subst hij;rfl
 ·rcases Nat.lt_or_gt_of_ne hij with q|q
  ·have:=(List.pairwise_iff_getElem.1 h) i j hi hj q;omega
  ·have:=(List.pairwise_iff_getElem.1 h) j i hj hi q;omega
theorem zzt {l:List Conf} (h:l.Pairwise (LeC zet)) (z:Conf):z∈zjb zeg l ↔ zra l z:=by
 obtain ⟨hp,hq⟩:=zzu l h
 constructor
 ·intro hz
  refine ⟨(zlr _ _).subset hz,fun c hc e=> ?_⟩
  obtain ⟨a,ha,e1,e2⟩:=hq c hc
  have:=zv3 hp ha hz (e1.trans e)
  rw [this] at e2;exact e2
 ·rintro ⟨hz,hm⟩
  obtain ⟨a,ha,e1,e2⟩:=hq z hz
  have:=zj0 e2 (hm a ((zlr _ _).subset ha) e1)
  rw [←this];exact ha
def zg1 (m:List ((Int×Int)×Conf)) (c:Conf):List ((Int×Int)×Conf):=match za7 (zd3 c) m with
 |none=>zdr (zd3 c) c m
 |some b=>if zet c b < 0 then zdr (zd3 c) c m else m
def zbi (l:List Conf):List ((Int×Int)×Conf):=l.foldl zg1 []
theorem zsx {l:List Conf} {c:Conf}:zbi (l++ [c])=zg1 (zbi l) c:=by rw [zbi,List.foldl_append];rfl
def zma (l:List Conf) (m:List ((Int×Int)×Conf)):Prop:=∀k,match za7 k m with
 |none=>∀c∈l,zd3 c≠k
 |some z=>zd3 z=k∧zra l z
theorem znj {l:List Conf} {m:List ((Int×Int)×Conf)} {c:Conf} (h:zma l m) (hc:∀d∈l,zd3 d=zd3 c→zet c d≤0):zma (l++ [c]) (zdr (zd3 c) c m):=by
 intro k
 rw [zcf]
 by_cases e:zd3 c=k
 ·rw [if_pos e]
  refine ⟨e,by simp,fun d hd ed=> ?_⟩
  rcases List.mem_append.1 hd with hd|hd
  ·exact hc d hd ed
  ·rw [List.mem_singleton] at hd;rw [hd,zik];exact Int.le_refl _
 ·rw [if_neg e]
  have:=h k
  cases hg:za7 k m with
  |none=>
   rw [hg] at this
   intro d hd
   rcases List.mem_append.1 hd with hd|hd
   ·exact this d hd
   ·rw [List.mem_singleton] at hd;rw [hd];exact e
  |some z=>
   rw [hg] at this
   obtain ⟨h1,h2,h3⟩:=this
   refine ⟨h1,List.mem_append_left _ h2,fun d hd ed=> ?_⟩
   rcases List.mem_append.1 hd with hd|hd
   ·exact h3 d hd ed
   ·rw [List.mem_singleton] at hd;rw [hd,h1] at ed;exact absurd ed e
theorem ydw {l:List Conf} {m:List ((Int×Int)×Conf)} (h:zma l m) (c:Conf):zma (l++ [c]) (zg1 m c):=by
 unfold zg1
 have hk:=h (zd3 c)
 cases hg:za7 (zd3 c) m with
 |none=>
  rw [hg] at hk
  simp only
  exact znj h fun d hd e=>absurd e (hk d hd)
 |some b=>
  rw [hg] at hk
  obtain ⟨h1,h2,h3⟩:=hk
  simp only
  by_cases hlt:zet c b < 0
  ·rw [if_pos hlt]
   exact znj h fun d hd e=>zhn.trans _ _ _ (Int.le_of_lt hlt) (h3 d hd (e.trans h1.symm))
  ·rw [if_neg hlt]
   intro k
   have hq:=h k
   cases hg2:za7 k m with
   |none=>
    rw [hg2] at hq
    intro d hd
    rcases List.mem_append.1 hd with hd|hd
    ·exact hq d hd
    ·rw [List.mem_singleton] at hd;rw [hd]
     intro e;rw [e,hg2] at hg;cases hg
   |some z=>
    rw [hg2] at hq
    obtain ⟨q1,q2,q3⟩:=hq
    refine ⟨q1,List.mem_append_left _ q2,fun d hd ed=> ?_⟩
    rcases List.mem_append.1 hd with hd|hd
    ·exact q3 d hd ed
    ·rw [List.mem_singleton] at hd
     rw [hd] at ed ⊢
     have e2:k=zd3 c:=q1.symm.trans ed.symm
     rw [e2,hg] at hg2
     injection hg2 with hg2
     rw [←hg2]
     have:=zhn.anti c b;omega
theorem znk (l:List Conf):zma l (zbi l):=by
 suffices h:∀(l p:List Conf) (m:List ((Int×Int)×Conf)),zma p m→zma (p++l) (l.foldl zg1 m) by
  have:=h l [] [] (fun k=>by simp [za7])
  simpa [zbi] using this
 intro l
 induction l with
 |nil=>intro p m h;simpa using h
 |cons c r ih=>
  intro p m h
  have:=ih (p++ [c]) (zg1 m c) (ydw h c)
  simpa using this
theorem zsw {m:List ((Int×Int)×Conf)} (h:(m.map Prod.fst).Nodup) (c:Conf):((zg1 m c).map Prod.fst).Nodup:=by
 unfold zg1
 split
 ·exact (ziw _ _ _ h).1
 ·split
  ·exact (ziw _ _ _ h).1
  ·exact h
theorem zc2 (l:List Conf):((zbi l).map Prod.fst).Nodup:=by
 suffices h:∀(l:List Conf) (m:List ((Int×Int)×Conf)),(m.map Prod.fst).Nodup→((l.foldl zg1 m).map Prod.fst).Nodup by exact h l [] .nil
 intro l
 induction l with
 |nil=>intro m h;exact h
 |cons c r ih=>intro m h;exact ih _ (zsw h c)
theorem zgr {K V:Type} [DecidableEq K] {k:K} {v:V}:∀{m:List (K×V)},(m.map Prod.fst).Nodup→(za7 k m=some v ↔ (k,v)∈m)
 | [],_=>by simp [za7]
 |p::r,h=>by
  rw [List.map_cons,List.nodup_cons] at h
  rw [za7,List.mem_cons]
  by_cases e:p.1=k
  ·rw [if_pos e]
   constructor
   ·intro q;injection q with q;left;rw [←e,←q]
   ·rintro (q|q)
    ·rw [←q]
    ·exact absurd (List.mem_map.2 ⟨_,q,e.symm⟩) h.1
  ·rw [if_neg e,zgr h.2]
   constructor
   ·exact .inr
   ·rintro (q|q)
    ·exact absurd (by rw [←q]) e
    ·exact q
theorem zq0 {l:List Conf} {z:Conf}:z∈(zbi l).map Prod.snd ↔ zra l z:=by
 have hn:=zc2 l
 constructor
 ·intro h
  obtain ⟨p,hp,rfl⟩:=List.mem_map.1 h
  have hg:=(zgr (k:=p.1) (v:=p.2) hn).2 hp
  have:=znk l p.1
  rw [hg] at this
  exact this.2
 ·intro h
  have:=znk l (zd3 z)
  cases hg:za7 (zd3 z) (zbi l) with
  |none=>rw [hg] at this;exact absurd rfl (this z h.1)
  |some y=>
   rw [hg] at this
   obtain ⟨h1,h2,h3⟩:=this
   have:y=z:=zj0 (h3 z h.1 h1.symm) (h.2 y h2 h1)
   subst this
   exact List.mem_map.2 ⟨_,(zgr hn).1 hg,rfl⟩
theorem zz3 {l out:List Conf} (hp:out.Perm ((zbi l).map Prod.snd)) {L:List Conf} (hL:L.Pairwise (LtC zet)) (hm:∀z,z∈L ↔ z∈l):zhy zet out=zjb zeg L:=by
 have hLe:L.Pairwise (LeC zet):=hL.imp fun h=>Int.le_of_lt h
 have hnd:out.Nodup:=by
  rw [hp.nodup_iff,List.Nodup,List.pairwise_map]
  have hn:=zc2 l
  rw [List.Nodup,List.pairwise_map] at hn
  rw [List.pairwise_iff_getElem] at hn ⊢
  intro i j hi hj hij e
  have k1:∀p∈zbi l,zd3 p.2=p.1:=fun p hp=>by
   have hg:=(zgr (k:=p.1) (v:=p.2) (zc2 l)).2 hp
   have:=znk l p.1
   rw [hg] at this
   exact this.1
  have:=hn i j hi hj hij
  rw [←k1 _ (List.getElem_mem hi),←k1 _ (List.getElem_mem hj),e] at this
  exact this rfl
 refine zym zhn _ _ (ztw zij (zjf zhn _) ((zee _ _).nodup_iff.2 hnd)) (hL.sublist (zlr _ _)) fun z=> ?_
 rw [(zee zet _).mem_iff,hp.mem_iff,zq0,zzt hLe]
 unfold zra
 rw [hm]
 exact ⟨fun h=>⟨h.1,fun c hc=>h.2 c ((hm c).1 hc)⟩,fun h=>⟨h.1,fun c hc=>h.2 c ((hm c).2 hc)⟩⟩
abbrev RkM:=List ((Int×Int×Int)×Int)
def zrb (x:Int) (v:Ver):Int×Int×Int:=(x,v.t,v.k)
theorem zhv {x y:Int} {v w:Ver}:zrb x v=zrb y w ↔ x=y∧v=w:=by
 cases v;cases w;simp [zrb]
def zjx (h:Hist) (x t:Int):Ver:=zwe (zol h.evs t x)
def zgw (h:Hist) (x:Int):Nat→List Int→RkM→RkM
 |_,[],m=>m
 |i,t::r,m=>zgw h x (i+1) r (zdr (zrb x (zjx h x t)) ((i:Int)+1) m)
def ybp (h:Hist) (x:Int) (m:RkM):RkM:=zgw h x 0 (za4 h x) (zdr (zrb x ⟨0,0⟩) 0 m)
def rkM (h:Hist):Nat→RkM
 |0=> []
 |n+1=>ybp h n (rkM h n)
theorem zmy (h:Hist) (x:Int):∀(l:List Int) (i:Nat) (t:Int) (m:RkM),zgw h x i (l++ [t]) m=zdr (zrb x (zjx h x t)) (((i+l.length:Nat):Int)+1) (zgw h x i l m)
 | [],i,t,m=>by simp [zgw]
 |a::r,i,t,m=>by
  rw [List.cons_append,zgw,zmy h x r (i+1) t,zgw,List.length_cons,show i+1+r.length=i+(r.length+1) by omega]
theorem ygi {h:Hist} {x:Int} {l:List Int} {k:Nat} (hk:k < l.length) (m:RkM):zgw h x 0 (l.take (k+1)) m=zdr (zrb x (zjx h x l[k])) ((k:Int)+1) (zgw h x 0 (l.take k) m):=by
 rw [List.take_succ_eq_append_getElem hk,zmy,List.length_take,Nat.min_eq_left (by omega),Nat.zero_add]
theorem zhh (h:Hist) {x y:Int} (hxy:y≠x) (v:Ver):∀(l:List Int) (i:Nat) (m:RkM),za7 (zrb y v) (zgw h x i l m)=za7 (zrb y v) m
 | [],_,_=>rfl
 |t::r,i,m=>by
  rw [zgw,zhh h hxy v r (i+1),zcf,if_neg]
  intro e;exact hxy ((zhv.1 e).1).symm
theorem zpn (h:Hist) (x:Int) (v:Ver):∀(l:List Int) (i:Nat) (m:RkM),(l.map (zjx h x)).Nodup→za7 (zrb x v) (zgw h x i l m)=if za9 (fun t=>zjx h x t==v) i l ≥ 0 then some (za9 (fun t=>zjx h x t==v) i l+1) else za7 (zrb x v) m
 | [],i,m,_=>by rw [zgw,za9,if_neg (by decide)]
 |t::r,i,m,hn=>by
  rw [List.map_cons,List.nodup_cons] at hn
  rw [zgw,zpn h x v r (i+1) _ hn.2]
  by_cases e:zjx h x t=v
  ·have hno:decide (za9 (fun t=>zjx h x t==v) (i+1) r ≥ 0)=false:=by
    rw [zds,List.any_eq_false]
    intro z hz q
    exact hn.1 (by rw [e,←eq_of_beq q];exact List.mem_map_of_mem hz)
   have e1:za9 (fun t=>zjx h x t==v) i (t::r)=(i:Int):=by rw [za9,if_pos (by simpa using e)]
   rw [e1,if_neg (oF hno),if_pos (by omega),zcf,if_pos (by rw [e])]
  ·have e1:za9 (fun t=>zjx h x t==v) i (t::r)=za9 (fun t=>zjx h x t==v) (i+1) r:=by rw [za9,if_neg (by simpa using e)]
   rw [e1]
   by_cases q:za9 (fun t=>zjx h x t==v) (i+1) r ≥ 0
   ·rw [if_pos q,if_pos q]
   ·rw [if_neg q,if_neg q,zcf,if_neg]
    intro e2;exact e ((zhv.1 e2).2)
theorem zzc {h:Hist} (hs:zaq h=true) {x:Int} (h0:0≤x) (h1:x < h.os.length):((za4 h x).map (zjx h x)).Nodup∧∀t∈za4 h x,zjx h x t≠⟨0,0⟩:=by
 obtain ⟨hn,_,hm⟩:=zfg hs h0 h1
 have hv:∀t∈za4 h x,(zjx h x t).t=t∧0 < (zjx h x t).k:=fun t ht=>by
  obtain ⟨w1,_⟩:=zhe.1 ((hm t).1 ht)
  obtain ⟨v,i,hf⟩:=zzd w1
  obtain ⟨_,_,_,vt,vk,_⟩:=zic hs hf
  rw [zjx,hf];exact ⟨vt,vk⟩
 constructor
 ·rw [List.Nodup,List.pairwise_map]
  refine (List.pairwise_iff_getElem).2 fun i j hi hj hij e=> ?_
  have a:=(hv _ (List.getElem_mem hi)).1
  have b:=(hv _ (List.getElem_mem hj)).1
  rw [e] at a
  exact (List.pairwise_iff_getElem.1 hn) i j hi hj hij (a.symm.trans b)
 ·intro t ht e
  have:=(hv t ht).2
  rw [e] at this;exact absurd this (by decide)
theorem zxm (h:Hist) (x:Int) (v:Ver):∀n:Nat,(n:Int)≤x∨x < 0→za7 (zrb x v) (rkM h n)=none
 |0,_=>rfl
 |n+1,hx=>by
  have hne:x≠(n:Int):=by omega
  rw [rkM,ybp,zhh h hne,zcf,if_neg,zxm h x v n (by omega)]
  intro e;exact hne ((zhv.1 e).1).symm
theorem zk5 {h:Hist} (hs:zaq h=true) {x:Int} (v:Ver) (h0:0≤x) (h1:x < h.os.length):∀n:Nat,n≤h.os.length→x < n→za7 (zrb x v) (rkM h n)=if v=⟨0,0⟩ then some 0 else if zh3 h x v ≥ 0 then some (zh3 h x v+1) else none
 |0,_,hx=>absurd hx (by omega)
 |n+1,hn,hx=>by
  by_cases e:x=(n:Int)
  ·subst e
   obtain ⟨a,b⟩:=zzc hs h0 h1
   rw [rkM,ybp,zpn h _ v _ _ _ a,zcf]
   have hr:za9 (fun t=>zjx h (n:Int) t==v) 0 (za4 h n)=zh3 h n v:=rfl
   rw [hr]
   by_cases hv:v=⟨0,0⟩
   ·subst hv
    have:decide (zh3 h n ⟨0,0⟩ ≥ 0)=false:=by
     rw [zh3,zds,List.any_eq_false]
     intro t ht q
     exact b t ht (eq_of_beq q)
    rw [if_neg (oF this),if_pos rfl,if_pos rfl]
   ·rw [if_neg hv,if_neg (fun e=>hv ((zhv.1 e).2).symm),zxm h _ v n (.inl (Int.le_refl _))]
  ·rw [rkM,ybp,zhh h e,zcf,if_neg (fun q=>e ((zhv.1 q).1).symm)]
   exact zk5 hs v h0 h1 n (by omega) (by omega)
def yi5 (p o:Int) (r:Mat):Bool:=r.p==p && r.o==o
def ym9 (h:Hist) (p o:Int):Option Mat:=h.mats.find? (yi5 p o)
def yi6:Mat:=⟨0,0,false,[]⟩
def yao (h:Hist) (p o:Int):Mat:=(ym9 h p o).getD yi6
def yd7 (m:Mat) (ts:List Int):List Bool:=m.first::ts.map (fun t=>m.ts.contains t)
def zs9 (h:Hist) (p o:Int):List Bool:=yd7 (yao h p o) (za4 h o)
def zl1 (l:List Bool):AV:= .list false 1 (l.map zl2)
theorem yck (l:List Bool):∀r∈l.map zl2,r.all AV.one=true:=by
 intro r hr;obtain ⟨a,_,rfl⟩:=List.mem_map.1 hr;rfl
theorem zs8 (m:Mat) (ts:List Int):(yd7 m ts).length=ts.length+1:=by simp [yd7]
def yar (h:Hist) (o:Int):Int:=zd6 h o h.os.length
def zhr (h:Hist) (p o:Int):Int:=if yar h o=0 then (if 0≤p∧p < h.ps.length then 0 else 2) else yar h o
def mtE (h:Hist) (p o r:Int):Int:=if zhr h p o=0 then (if 0≤r∧r < (zs9 h p o).length then 0 else 2) else zhr h p o
def mtB (h:Hist) (p o r:Int):Bool:=if mtE h p o r=0 then ((zs9 h p o)[r.toNat]?).getD false else false
def zqx (l:List Bool):Nat→List Int
 |0=> []
 |k+1=>zqx l k++(if 0 < k∧l[k]? ≠l[k - 1]? then [(k:Int)] else [])
def yjb (l:List Bool):List Int:=zqx l l.length
def chL (h:Hist) (p o:Int):List Int:=if zhr h p o=0 then yjb (zs9 h p o) else []
theorem zkn (l:List Bool):∀(n:Nat) (z:Int),z∈zqx l n ↔ ∃k:Nat,z=k∧0 < k∧k < n∧l[k]? ≠l[k - 1]?
 |0,z=>by simp [zqx]
 |n+1,z=>by
  rw [zqx,List.mem_append,zkn l n z]
  constructor
  ·rintro (⟨k,h1,h2,h3,h4⟩|h)
   ·exact ⟨k,h1,h2,by omega,h4⟩
   ·split at h
    ·rename_i hc
     rw [List.mem_singleton] at h
     exact ⟨n,h,hc.1,by omega,hc.2⟩
    ·cases h
  ·rintro ⟨k,h1,h2,h3,h4⟩
   by_cases e:k=n
   ·subst e;right;rw [if_pos ⟨h2,h4⟩,h1];simp
   ·left;exact ⟨k,h1,h2,by omega,h4⟩
theorem zsv (l:List Bool):∀n:Nat,(zqx l n).Pairwise (· < ·)
 |0=> .nil
 |n+1=>by
  rw [zqx,List.pairwise_append]
  refine ⟨zsv l n,by split <;> simp,fun a ha b hb=> ?_⟩
  obtain ⟨k,rfl,_,h3,_⟩:=(zkn l n a).1 ha
  split at hb
  ·rw [List.mem_singleton] at hb;subst hb;omega
  ·cases hb
theorem zue (l:List Bool):∀n:Nat,(zqx l n).length≤n
 |0=>by simp [zqx]
 |n+1=>by
  have:=zue l n
  rw [zqx,List.length_append]
  split <;> simp <;> omega
theorem ymm {l:List Bool} {k:Nat} (h:k=0):zqx l (k+1)=zqx l k:=by rw [zqx,if_neg (by omega)];simp
def mtM (m:Option Mat) (ts:List Int) (r:Int):Bool:=match m with
 |none=>false
 |some m=>if r=0 then m.first else m.ts.contains ((ts[(r - 1).toNat]?).getD 0)
def yk4 (h:Hist) (p x r:Int):Bool:=mtM (ym9 h p x) (zli h x) r
def chR (f:Nat→Bool):Nat→List Int
 |0=> []
 |k+1=>chR f k++(if f (k+1)≠f k then [((k+1:Nat):Int)] else [])
theorem zuf {l:List Bool} {f:Nat→Bool} (hf:∀k,(h:k < l.length)→l[k]=f k):∀k,k < l.length→zqx l (k+1)=chR f k
 |0,h=>ymm rfl
 |k+1,h=>by
  rw [zqx,zuf hf k (by omega),chR]
  congr 1
  rw [List.getElem?_eq_getElem h,show k+1 - 1=k by omega,List.getElem?_eq_getElem (show k < l.length by omega),hf _ h,hf k (by omega)]
  by_cases e:f (k+1)=f k
  ·rw [if_neg (by rw [e];simp),if_neg (by simpa using e)]
  ·rw [if_pos ⟨by omega,by simpa using e⟩,if_pos e]
theorem zkw (h:Hist) (p o:Int):(zs9 h p o).length=(za4 h o).length+1:=zs8 _ _
theorem ya3 (m:Option Mat) (ts:List Int) {k:Nat} (hk:k < (yd7 (m.getD yi6) ts).length):(yd7 (m.getD yi6) ts)[k]=mtM m ts k:=by
 unfold mtM
 have hl:=zs8 (m.getD yi6) ts
 cases m with
 |none=>cases k with
  |zero=>rfl
  |succ k=>simp only [yd7,List.getElem_cons_succ,List.getElem_map];rfl
 |some m=>cases k with
  |zero=>rfl
  |succ k=>
   have hk':k < ts.length:=by omega
   simp only [yd7,List.getElem_cons_succ,List.getElem_map]
   rw [if_neg (by omega),show (((k+1:Nat):Int) - 1).toNat=k by omega,List.getElem?_eq_getElem hk'];rfl
theorem yfo {h:Hist} {p x:Int} (hi:za4 h x=zli h x) {k:Nat} (hk:k < (zs9 h p x).length):(zs9 h p x)[k]=yk4 h p x k:=by
 rw [yk4,←hi];exact ya3 (ym9 h p x) (za4 h x) hk
theorem zyz {h:Hist} {x:Int}:yar h x=0 ↔ u3 h=0∧0≤x∧x < h.os.length:=by
 constructor
 ·intro e
  obtain ⟨a,b⟩:=zwb e
  exact ⟨zaw.2 a,b⟩
 ·rintro ⟨a,b⟩;exact zoz a b
theorem zu0 {h:Hist} {p x:Int}:zhr h p x=0 ↔ u3 h=0∧(0≤x∧x < h.os.length)∧0≤p∧p < h.ps.length:=by
 unfold zhr
 by_cases e:yar h x=0
 ·rw [if_pos e]
  obtain ⟨a,b⟩:=zyz.1 e
  by_cases hp:0≤p∧p < h.ps.length
  ·rw [if_pos hp];exact ⟨fun _=>⟨a,b,hp⟩,fun _=>rfl⟩
  ·rw [if_neg hp];exact ⟨fun q=>(by cases q),fun q=>absurd q.2.2 hp⟩
 ·rw [if_neg e];exact ⟨fun q=>absurd q e,fun q=>absurd (zyz.2 ⟨q.1,q.2.1⟩) e⟩
theorem yp4 {h:Hist} {p x r:Int} (he:zhr h p x≠0):mtE h p x r=zhr h p x∧mtB h p x r=false∧chL h p x= []:=by
 have e:mtE h p x r=zhr h p x:=by rw [mtE,if_neg he]
 exact ⟨e,by rw [mtB,e,if_neg he],by rw [chL,if_neg he]⟩
theorem znr {h:Hist} {p x:Int} (he:zhr h p x=0):za4 h x=zli h x:=by
 obtain ⟨a,⟨b,c⟩,_⟩:=zu0.1 he
 exact zp8 (zaw.1 a) b c
theorem yp6 {h:Hist} {p x:Int} (he:zhr h p x=0):chL h p x=chR (fun k=>yk4 h p x k) (zli h x).length:=by
 have hi:=znr he
 have hl:=zkw h p x
 rw [chL,if_pos he,yjb,hl,←hi]
 exact zuf (f:=fun k=>yk4 h p x k) (fun k hk=>yfo hi hk) _ (by omega)
def yjs (scan:List Seen) (x:Int):Option Ver:=(scan.filter fun s=>s.o==x).getLast?.map Seen.v
def ykp (l:List Ev) (t:Int) (n:Nat) (scan:List Seen) (x:Int):Ver:=match yjs scan x with
 |some v=>v
 |none=>zwe (zec l t x n)
def zwg (l:List Ev) (t:Int):List (Int×Ver):=yap (fun e:Ev=>e.t==t && e.kind==2) Ev.o Ev.v [] l
def yf3 (m:List (Int×Ver)) (scan:List Seen):List (Int×Ver):=yap (fun _:Seen=>true) Seen.o Seen.v m scan
theorem zx1 {l:List Ev} {t:Int} {k:Nat} (hk:k < l.length) (h:(l[k].t==t && l[k].kind==2)=true):zwg (l.take (k+1)) t=zdr l[k].o l[k].v (zwg (l.take k) t):=by
 rw [List.take_succ_eq_append_getElem hk,zwg,yap,List.foldl_append,List.foldl_cons,List.foldl_nil,if_pos h];rfl
theorem zx2 {l:List Ev} {t:Int} {k:Nat} (hk:k < l.length) (h:(l[k].t==t && l[k].kind==2)=false):zwg (l.take (k+1)) t=zwg (l.take k) t:=by
 rw [List.take_succ_eq_append_getElem hk,zwg,yap,List.foldl_append,List.foldl_cons,List.foldl_nil,if_neg (by rw [h];decide)];rfl
theorem yjr {m:List (Int×Ver)} {l:List Seen} {k:Nat} (hk:k < l.length):yf3 m (l.take (k+1))=zdr l[k].o l[k].v (yf3 m (l.take k)):=by
 rw [List.take_succ_eq_append_getElem hk,yf3,yap,List.foldl_append,List.foldl_cons,List.foldl_nil,if_pos rfl];rfl
theorem zjr (l:List Ev) (t x:Int):∀n,n≤l.length→(zec l t x n).map Prod.fst=(((l.take n).filter (zbv t x)).getLast?).map Ev.v
 |0,_=>by simp [zec]
 |n+1,hn=>by
  have hk:n < l.length:=hn
  rw [zec,List.getElem?_eq_getElem hk,List.take_succ_eq_append_getElem hk,List.filter_append]
  simp only
  by_cases hw:zbv t x l[n]=true
  ·rw [if_pos hw,List.filter_cons_of_pos hw];simp
  ·rw [if_neg hw,List.filter_cons_of_neg hw,zjr l t x n (by omega)];simp
theorem yg1 {l:List Ev} {t x:Int} {n:Nat} (scan:List Seen) (hn:n≤l.length):(za7 x (yf3 (zwg (l.take n) t) scan)).getD ⟨0,0⟩=ykp l t n scan x:=by
 have h1:za7 x (zwg (l.take n) t)=(zec l t x n).map Prod.fst:=by
  rw [zjr l t x n hn,zwg,zkj]
  have:((l.take n).filter fun e=>(e.t==t && e.kind==2) && decide (e.o=x))=(l.take n).filter (zbv t x):=by
   refine List.filter_congr fun e _=> ?_
   rw [zbv,Bool.eq_iff_iff];simp only [Bool.and_eq_true,beq_iff_eq,decide_eq_true_eq]
   exact ⟨fun ⟨⟨a,b⟩,c⟩=>⟨⟨b,a⟩,c⟩,fun ⟨⟨a,b⟩,c⟩=>⟨⟨b,a⟩,c⟩⟩
  rw [this]
  cases (((l.take n).filter (zbv t x)).getLast?).map Ev.v <;> rfl
 have h2:(scan.filter fun e=>true && decide (e.o=x))=scan.filter fun s=>s.o==x:=by
  refine List.filter_congr fun e _=> ?_
  rw [Bool.true_and];rfl
 rw [yf3,zkj,h1,h2,ykp,yjs]
 cases ((scan.filter fun s=>s.o==x).getLast?).map Seen.v with
 |some v=>rfl
 |none=>cases zec l t x n <;> rfl
def zcc (h:Hist) (e:Ev) (n:Nat):List Seen:=(upR h.os.length).map fun x=>⟨x,ykp h.evs e.t n e.scan x⟩
theorem ynk {h:Hist} {e:Ev} {n m:Nat} (hm:m < (zcc h e n).length):(zcc h e n)[m].o=m:=by
 simp only [zcc,List.getElem_map];simp [upR]
theorem zrn (h:Hist) (e:Ev) (n:Nat):(zcc h e n).length=h.os.length:=by rw [zcc,oM,upR,oM,List.length_range]
def zdn (h:Hist) (e:Ev) (c:Int) (a:Nat) (x r:Int):Option Conf:=
 if r > ((za4 h x).length:Int) then none else if (((za4 h x)[(r - 1).toNat]?).getD 0==e.t)=true then none
 else some ⟨e.t,((za4 h x)[(r - 1).toNat]?).getD 0,c,a,zg8 h (((za4 h x)[(r - 1).toNat]?).getD 0) x,x,e.p⟩
def zim (h:Hist) (x:Int) (v:Ver):Option Int:=za7 (zrb x v) (rkM h h.os.length)
def zdg (h:Hist) (e:Ev):List (Int×List Int):=match zim h e.o e.v with
 |none=> []
 |some r=> [(e.o,[r+1])]
def rwOver (h:Hist) (p x r:Int):List Int:=(chL h p x).dropWhile fun k=> !decide (k > r)
def zcw (h:Hist) (e:Ev) (s:Seen):Option (Int×List Int):=match zim h s.o s.v with
 |none=>none
 |some r=>if (chL h e.p s.o).any (fun k=>decide (k > r))=true then some (s.o,rwOver h e.p s.o r) else none
def zgm (h:Hist) (e:Ev) (a:Nat):List (Int×List Int):=(zcc h e a).filterMap (zcw h e)
def v7 (h:Hist) (e:Ev) (a:Nat):List (Int×List Int):=if e.kind=3 then zdg h e else if e.kind=4 then zgm h e a else []
def zex (e:Ev):Int:=if e.kind=3 then 3 else if e.kind=4 then 4 else 0
def zbh (h:Hist) (e:Ev) (a:Nat):List Conf:=if zhs h.evs e.t 5=true then (v7 h e a).flatMap fun p=>p.2.filterMap (zdn h e (zex e) a p.1) else []
def rkR (h:Hist) (x:Int) (v:Ver):Option Int:=if v=⟨0,0⟩ then some 0 else if za9 (fun t=>zjx h x t==v) 0 (zli h x) ≥ 0 then some (za9 (fun t=>zjx h x t==v) 0 (zli h x)+1) else none
def ybr (h:Hist) (e:Ev) (a:Nat):List Conf:=match rkR h e.o e.v with
 |none=> []
 |some r=>match (zli h e.o)[r.toNat]? with
  |none=> []
  |some t=>if (t==e.t)=true then [] else [⟨e.t,t,3,a,zg8 h t e.o,e.o,0⟩]
def zu2 (h:Hist) (e:Ev) (a:Nat) (s:Seen) (k:Int):Option Conf:=match rkR h s.o s.v with
 |none=>none
 |some r=>if k≤r then none else if (((zli h s.o)[(k - 1).toNat]?).getD 0==e.t)=true then none
  else some ⟨e.t,((zli h s.o)[(k - 1).toNat]?).getD 0,4,a,zg8 h (((zli h s.o)[(k - 1).toNat]?).getD 0) s.o,s.o,e.p⟩
def yil (h:Hist) (p x:Int):List Int:=chR (fun k=>yk4 h p x (k:Nat)) (zli h x).length
def ybh (h:Hist) (e:Ev) (a:Nat):List Conf:=(zcc h e a).flatMap fun s=>(yil h e.p s.o).filterMap (zu2 h e a s)
def zsl (h:Hist) (e:Ev) (a:Nat):List Conf:=if zhs h.evs e.t 5=true then (if e.kind=3 then ybr h e a else if e.kind=4 then ybh h e a else []) else []
theorem ygh {h:Hist} (hs:zaq h=true) {x:Int} (h0:0≤x) (h1:x < h.os.length) (v:Ver):zim h x v=rkR h x v:=by
 rw [zim,zk5 hs v h0 h1 _ (Nat.le_refl _) h1,rkR,zh3,←zp8 hs h0 h1];rfl
theorem yeh {h:Hist} {x:Int} {v:Ver} {r:Int} (e:rkR h x v=some r):0≤r:=by
 unfold rkR at e
 split at e
 ·injection e with e;omega
 ·split at e
  ·rename_i q;injection e with e;omega
  ·cases e
theorem zpp {h:Hist} {e:Ev} (he:zdy h e=true) (h3:e.kind=3):(0≤e.o∧e.o < h.os.length)∧e.p=0:=by
 obtain ⟨_,_,_,hc,hq⟩:=zb3 he
 constructor
 ·rw [zhb,if_neg (by omega),if_neg (by omega),if_pos h3] at hc
  simp only [zd1,Bool.and_eq_true,za1] at hc
  exact hc.1
 ·rw [←hq];simp only [zhb];rw [if_neg (by omega),if_neg (by omega),if_pos h3]
theorem yec {h:Hist} {e:Ev} (he:zdy h e=true) (h4:e.kind=4):0≤e.p∧e.p < h.ps.length:=by
 obtain ⟨_,_,_,hc,_⟩:=zb3 he
 rw [zhb,if_neg (by omega),if_neg (by omega),if_neg (by omega),if_pos h4] at hc
 simp only [zcj,Bool.and_eq_true,za1] at hc
 exact hc.1.1
theorem zlo {l:List Int} (hl:l.Pairwise (· < ·)) (r:Int):(l.dropWhile fun k=> !decide (k > r))=l.filter fun k=>decide (k > r):=by
 induction l with
 |nil=>rfl
 |cons a l ih=>
  have h':=List.pairwise_cons.1 hl
  rw [List.dropWhile_cons,List.filter_cons]
  by_cases h:a > r
  ·rw [decide_eq_true h]
   simp only [Bool.not_true,Bool.false_eq_true,if_false,if_true]
   congr 1
   symm
   rw [List.filter_eq_self]
   intro b hb;exact decide_eq_true (by have:=h'.1 b hb;omega)
  ·rw [decide_eq_false h]
   simp only [Bool.not_false,if_true,Bool.false_eq_true,if_false]
   exact ih h'.2
theorem zt5 {α β:Type} {f g:α→Option β}:∀{l:List α},(∀a∈l,f a=g a)→l.filterMap f=l.filterMap g
 | [],_=>rfl
 |a::r,h=>by rw [List.filterMap_cons,List.filterMap_cons,h a (by simp),zt5 fun b hb=>h b (by simp [hb])]
theorem zy6 {h:Hist} (hs:zaq h=true) {e:Ev} (he:e∈h.evs) (h3:e.kind=3) (a:Nat):(zdg h e).flatMap (fun p=>p.2.filterMap (zdn h e 3 a p.1))=ybr h e a:=by
 obtain ⟨⟨o0,o1⟩,ep⟩:=zpp (zdt hs _ he) h3
 rw [zdg,ybr,ygh hs o0 o1]
 cases hr:rkR h e.o e.v with
 |none=>rfl
 |some r=>
  have r0:=yeh hr
  simp only [List.flatMap_cons,List.flatMap_nil,List.append_nil,List.filterMap_cons,List.filterMap_nil]
  rw [zdn,zp8 hs o0 o1,Int.add_sub_cancel]
  by_cases q:r+1 > ((zli h e.o).length:Int)
  ·rw [if_pos q,List.getElem?_eq_none (by omega)]
  ·rw [if_neg q,List.getElem?_eq_getElem (by omega)]
   simp only [Option.getD_some]
   by_cases z:((zli h e.o)[r.toNat]'(by omega)==e.t)=true
   ·rw [if_pos z,if_pos z]
   ·rw [if_neg z,if_neg z,ep]
theorem zy5 {h:Hist} (hs:zaq h=true) {e:Ev} (he:e∈h.evs) (h4:e.kind=4) (a:Nat):(zgm h e a).flatMap (fun p=>p.2.filterMap (zdn h e 4 a p.1))=ybh h e a:=by
 have hp:=yec (zdt hs _ he) h4
 rw [zgm,ybh]
 have key:∀s∈zcc h e a,(match zcw h e s with|none=> []|some p=>p.2.filterMap (zdn h e 4 a p.1))=(yil h e.p s.o).filterMap (zu2 h e a s):=fun s hsm=>by
  have ho:0≤s.o∧s.o < h.os.length:=by
   rw [zcc,List.mem_map] at hsm
   obtain ⟨x,hx,rfl⟩:=hsm
   exact (zws _ _).1 hx
  have ht:zhr h e.p s.o=0:=zu0.2 ⟨zaw.2 hs,ho,hp⟩
  have hch:chL h e.p s.o=yil h e.p s.o:=yp6 ht
  have hlt:(chL h e.p s.o).Pairwise (· < ·):=by rw [chL,if_pos ht];exact zsv _ _
  have hin:∀k∈chL h e.p s.o,1≤k∧k≤((zli h s.o).length:Int):=fun k hk=>by
   rw [chL,if_pos ht,yjb,zkn] at hk
   obtain ⟨j,rfl,j0,j1,_⟩:=hk
   rw [zkw,znr ht] at j1
   omega
  rw [zcw,ygh hs ho.1 ho.2]
  cases hr:rkR h s.o s.v with
  |none=>
   symm
   simp only
   rw [List.filterMap_eq_nil_iff]
   intro k _;rw [zu2,hr]
  |some r=>
   simp only
   rw [hch] at hlt hin ⊢
   have e1:(yil h e.p s.o).filterMap (zu2 h e a s)=((yil h e.p s.o).filter fun k=>decide (k > r)).filterMap (zdn h e 4 a s.o):=by
    rw [List.filterMap_filter]
    refine zt5 fun k hk=> ?_
    obtain ⟨k1,k2⟩:=hin k hk
    rw [zu2,hr]
    simp only
    by_cases q:k > r
    ·rw [if_neg (show ¬k≤r by omega),if_pos (show decide (k > r)=true from decide_eq_true q),zdn,zp8 hs ho.1 ho.2,if_neg (show ¬k > ((zli h s.o).length:Int) by omega)]
    ·rw [if_pos (show k≤r by omega),if_neg (show ¬decide (k > r)=true by simpa using q)]
   by_cases q:((yil h e.p s.o).any fun k=>decide (k > r))=true
   ·rw [if_pos q]
    simp only
    rw [rwOver,hch,zlo hlt,e1]
   ·rw [if_neg q,e1]
    symm
    have:((yil h e.p s.o).filter fun k=>decide (k > r))= []:=by
     rw [List.filter_eq_nil_iff]
     intro k hk z
     exact q (List.any_eq_true.2 ⟨k,hk,z⟩)
    rw [this];rfl
 generalize zcc h e a=L at key
 induction L with
 |nil=>rfl
 |cons s r ih=>
  have k1:=key s (by simp)
  have ih':=ih fun s hs=>key s (by simp [hs])
  rw [List.flatMap_cons,←ih',←k1,List.filterMap_cons]
  cases zcw h e s with
  |none=>rfl
  |some p=>rfl
theorem yia {h:Hist} (hs:zaq h=true) {e:Ev} (he:e∈h.evs) (a:Nat):zbh h e a=zsl h e a:=by
 rw [zbh,zsl,v7,zex]
 by_cases hc:zhs h.evs e.t 5=true
 ·rw [if_pos hc,if_pos hc]
  by_cases h3:e.kind=3
  ·rw [if_pos h3,if_pos h3,if_pos h3];exact zy6 hs he h3 a
  ·rw [if_neg h3,if_neg h3,if_neg h3]
   by_cases h4:e.kind=4
   ·rw [if_pos h4,if_pos h4,if_pos h4];exact zy5 hs he h4 a
   ·rw [if_neg h4,if_neg h4,if_neg h4];rfl
 ·rw [if_neg hc,if_neg hc]
def za3 (h:Hist) (kd:Int):Nat→List Conf
 |0=> []
 |n+1=>za3 h kd n++(match h.evs[n]? with|some e=>if (e.kind==kd)=true then zbh h e n else []|none=> [])
def zfb (h:Hist) (kd:Int):List Conf:=zhy zet ((zbi (za3 h kd h.evs.length)).map Prod.snd)
def zmm (h:Hist) (c:Int):Nat→List Conf
 |0=> []
 |n+1=>zm1 (zmm h c n) (match h.evs[n]? with|some e=>(zsl h e n).filter (fun x=>x.k==c)|none=> [])
theorem zy7 {h:Hist} {e:Ev} {a:Nat} {c:Conf} (hc:c∈zsl h e a):(e.kind=3∧c.k=3)∨(e.kind=4∧c.k=4):=by
 unfold zsl at hc
 split at hc
 ·split at hc
  ·rename_i h3
   left;refine ⟨h3,?_⟩
   unfold ybr at hc
   split at hc
   ·cases hc
   ·split at hc
    ·cases hc
    ·split at hc
     ·cases hc
     ·rw [List.mem_singleton] at hc;rw [hc]
  ·split at hc
   ·rename_i h4
    right;refine ⟨h4,?_⟩
    rw [ybh,List.mem_flatMap] at hc
    obtain ⟨s,_,hc⟩:=hc
    rw [List.mem_filterMap] at hc
    obtain ⟨k,_,hc⟩:=hc
    unfold zu2 at hc
    split at hc
    ·cases hc
    ·split at hc
     ·cases hc
     ·split at hc
      ·cases hc
      ·injection hc with hc;rw [←hc]
   ·cases hc
 ·cases hc
theorem zjz (h:Hist) (c:Int):∀n,(zmm h c n).Pairwise (LtC zet)
 |0=> .nil
 |n+1=>zh4 _ _ (zjz h c n)
theorem yee {h:Hist} (hs:zaq h=true) {kd:Int} (hk:kd=3∨kd=4) (z:Conf):∀n,z∈zmm h kd n ↔ z∈za3 h kd n
 |0=>by simp [zmm,za3]
 |n+1=>by
  rw [zmm,zix,za3,List.mem_append,yee hs hk z n]
  cases hn:h.evs[n]? with
  |none=>simp
  |some e=>
   have he:e∈h.evs:=List.mem_of_getElem? hn
   simp only
   rw [yia hs he]
   have:z∈(zsl h e n).filter (fun x=>x.k==kd) ↔ z∈(if (e.kind==kd)=true then zsl h e n else []):=by
    rw [List.mem_filter]
    constructor
    ·rintro ⟨q1,q2⟩
     have q2:=eq_of_beq q2
     have:e.kind=kd:=by rcases zy7 q1 with ⟨a,b⟩|⟨a,b⟩ <;> omega
     rw [if_pos (by simpa using this)];exact q1
    ·intro q
     split at q
     ·rename_i e2
      have e2:=eq_of_beq e2
      refine ⟨q,?_⟩
      rw [beq_iff_eq]
      rcases zy7 q with ⟨a,b⟩|⟨a,b⟩ <;> omega
     ·cases q
   rw [this]
theorem zk2 {h:Hist} (hs:zaq h=true) {kd:Int} (hk:kd=3∨kd=4) {out:List Conf} (hp:out.Perm ((zbi (za3 h kd h.evs.length)).map Prod.snd)):zhy zet out=ypc (zmm h kd h.evs.length):=by
 rw [zz3 hp (zjz h kd _) (yee hs hk · _),zst (key:=fun c:Conf=>(c.f,c.t)) (q:=zeg) (fun a b=>by rw [zeg,Bool.eq_iff_iff];simp),ypc]
 have hkk:∀c∈zmm h kd h.evs.length,c.k=kd:=by
  suffices ∀n,∀c∈zmm h kd n,c.k=kd by exact this _
  intro n
  induction n with
  |zero=>intro c hc;cases hc
  |succ n ih=>
   intro c hc
   rw [zmm,zix] at hc
   rcases hc with hc|hc
   ·exact ih c hc
   ·cases hn:h.evs[n]? with
    |none=>rw [hn] at hc;cases hc
    |some e=>
     rw [hn] at hc
     exact eq_of_beq (List.mem_filter.1 hc).2
 generalize zmm h kd h.evs.length=L at hkk
 cases L with
 |nil=>rfl
 |cons x r=>
  rw [zyv,zyv,zhl r x fun a ha b hb=> ?_]
  rw [zxa,hkk a (by simp [ha]),hkk b hb];simp [zeg]
def zio (l:List Conf):List Conf:=zhy zet ((zbi l).map Prod.snd)
theorem yj2 {h:Hist} (hs:zaq h=true) {x:Int} (h0:0≤x) (h1:x < h.os.length) {k:Nat} (hk:k < (za4 h x).length):zim h x (zjx h x (za4 h x)[k])=some ((k:Int)+1):=by
 obtain ⟨v,i,hf,⟨hi,_⟩,hv,hr,_⟩:=zs5 hs h0 h1 hk
 have e:zjx h x (za4 h x)[k]=v:=by rw [zjx,hf];rfl
 rw [e,zim,zk5 hs v h0 h1 _ (Nat.le_refl _) h1,if_neg (by rintro rfl;exact absurd hv (by decide)),hr,if_pos (by omega)]
theorem zqz (l:List Conf):((zbi l).map Prod.snd).Pairwise fun a b=>zd3 a≠zd3 b:=by
 rw [List.pairwise_map]
 have hn:=zc2 l
 rw [List.Nodup,List.pairwise_map] at hn
 rw [List.pairwise_iff_getElem] at hn ⊢
 intro i j hi hj hij e
 have k1:∀p∈zbi l,zd3 p.2=p.1:=fun p hp=>by
  have hg:=(zgr (k:=p.1) (v:=p.2) (zc2 l)).2 hp
  have:=znk l p.1
  rw [hg] at this
  exact this.1
 have:=hn i j hi hj hij
 rw [←k1 _ (List.getElem_mem hi),←k1 _ (List.getElem_mem hj)] at this
 exact this e
theorem zv8 (l:List Conf):((zbi l).map Prod.snd).Nodup:=(zqz l).imp fun h e=>h (by rw [e])
theorem zhf (l:List Conf) (z:Conf):z∈zio l ↔ zra l z:=by
 rw [zio,(zee zet _).mem_iff,zq0]
theorem zrf (l:List Conf):(zio l).Pairwise (LtC zet):=ztw zij (zjf zhn _) ((zee _ _).nodup_iff.2 (zv8 l))
theorem zo6 (l:List Conf):(zio l).Pairwise fun a b=>zd3 a≠zd3 b:=((zee zet _).pairwise_iff (fun {a b} (h:zd3 a≠zd3 b)=>h.symm)).2 (zqz l)
theorem zoe {h:Hist} (hs:zaq h=true) {x:Int} (h0:0≤x) (h1:x < h.os.length) {k:Nat} (hk:k < (za4 h x).length):∃i,∃hi:i < h.evs.length,zol h.evs (za4 h x)[k] x=some (h.evs[i].v,i)∧zg8 h (za4 h x)[k] x=(i:Int)∧h.evs[i].kind=2∧h.evs[i].t=(za4 h x)[k]∧h.evs[i].o=x∧0 < h.evs[i].v.k∧h.evs[i].v.t=(za4 h x)[k]:=by
 obtain ⟨v,i,hf,_,hv,_⟩:=zs5 hs h0 h1 hk
 obtain ⟨hi,e1,e2,e3,_⟩:=zic hs hf
 obtain ⟨w1,w2,w3⟩:=zgj.1 e2
 exact ⟨i,hi,by rw [hf,e1],by rw [zg8,hf];rfl,w1,w2,w3,by rw [e1];exact hv,by rw [e1];exact e3⟩
theorem zfv {h:Hist} {kd:Int} {z:Conf}:∀{n:Nat},n≤h.evs.length→(z∈za3 h kd n ↔ ∃j,∃hj:j < h.evs.length,j < n∧h.evs[j].kind=kd∧z∈zbh h h.evs[j] j)
 |0,_=>by simp [za3]
 |n+1,hn=>by
  rw [za3,List.mem_append,zfv (n:=n) (by omega),List.getElem?_eq_getElem (by omega)]
  simp only
  constructor
  ·rintro (⟨j,hj,q,r⟩|q)
   ·exact ⟨j,hj,by omega,r⟩
   ·split at q
    ·rename_i e;exact ⟨n,by omega,by omega,eq_of_beq e,q⟩
    ·cases q
  ·rintro ⟨j,hj,q,r,w⟩
   by_cases e:j=n
   ·subst e;right;rw [if_pos (by simpa using r)];exact w
   ·left;exact ⟨j,hj,by omega,r,w⟩
theorem znw (h:Hist) (kd:Int):zfb h kd=zio (za3 h kd h.evs.length):=rfl
theorem ygg {h:Hist} (hs:zaq h=true) {x:Int} (h0:0≤x) (h1:x < h.os.length) {v:Ver} {r:Int} (hr:zim h x v=some r):(if v=⟨0,0⟩ then ((0:Int),true) else (zh3 h x v+1,decide (zh3 h x v ≥ 0)))=(r,true):=by
 rw [zim,zk5 hs v h0 h1 _ (Nat.le_refl _) h1] at hr
 by_cases q:v=⟨0,0⟩
 ·rw [if_pos q] at hr ⊢;injection hr with hr;rw [hr]
 ·rw [if_neg q] at hr ⊢
  split at hr
  ·rename_i q2;injection hr with hr;rw [hr,decide_eq_true q2]
  ·cases hr
theorem yj0 {h:Hist} (hs:zaq h=true) {x:Int} (h0:0≤x) (h1:x < h.os.length) {v:Ver} {r:Int} (hr:zim h x v=some r):0≤r:=by
 rw [ygh hs h0 h1] at hr;exact yeh hr
theorem zp7 {h:Hist} (hs:zaq h=true) {e:Ev} {c:Int} {a:Nat} {x r:Int} (h0:0≤x) (h1:x < h.os.length) (r1:1≤r) {z:Conf} (hz:zdn h e c a x r=some z):∃k,∃hk:k < (za4 h x).length,r=(k:Int)+1∧∃j,∃hj:j < h.evs.length,z=⟨e.t,(za4 h x)[k],c,a,(j:Int),x,e.p⟩∧(za4 h x)[k]≠e.t∧h.evs[j].kind=2∧h.evs[j].t=(za4 h x)[k]∧h.evs[j].o=x∧zim h x h.evs[j].v=some r:=by
 unfold zdn at hz
 split at hz
 ·cases hz
 ·split at hz
  ·cases hz
  ·rename_i q1 q2
   have hk:(r - 1).toNat < (za4 h x).length:=by omega
   rw [List.getElem?_eq_getElem hk] at hz q2
   simp only [Option.getD_some] at hz q2
   injection hz with hz
   obtain ⟨j,hj,a1,a2,a3,a4,a5,a6,a7⟩:=zoe hs h0 h1 hk
   refine ⟨(r - 1).toNat,hk,by omega,j,hj,by rw [←hz,a2],fun q=>q2 (beq_iff_eq.2 q),a3,a4,a5,?_⟩
   have:=yj2 hs h0 h1 hk
   rw [zjx,a1] at this
   rw [show h.evs[j].v=zwe (some (h.evs[j].v,j)) from rfl,this]
   congr 1;omega
theorem yeu {h:Hist} (hs:zaq h=true) {x:Int} (h0:0≤x) (h1:x < h.os.length) {t:Int} (ht:t∈za4 h x):0≤t∧t < h.ts.length:=by
 obtain ⟨k,hk,rfl⟩:=List.mem_iff_getElem.1 ht
 obtain ⟨j,hj,_,_,_,a4,_⟩:=zoe hs h0 h1 hk
 rw [←a4]
 exact yk7 (zdw hs).1 _ (List.getElem_mem hj)
theorem zfy {h:Hist} (hs:zaq h=true) {i:Nat} (hi:i < h.evs.length) (h3:h.evs[i].kind=3) {z:Conf} (hz:z∈zbh h h.evs[i] i):(0≤z.o∧z.o < h.os.length)∧z.k=3∧z.p=0∧z.f≠z.t∧z.a=(i:Int)∧z.f=h.evs[i].t∧z.o=h.evs[i].o∧zhs h.evs z.f 5=true∧∃k,∃hk:k < (za4 h z.o).length,zim h z.o h.evs[i].v=some (k:Int)∧(za4 h z.o)[k]=z.t∧∃j,∃hj:j < h.evs.length,z.b=(j:Int)∧h.evs[j].kind=2∧h.evs[j].t=z.t∧h.evs[j].o=z.o:=by
 obtain ⟨⟨o0,o1⟩,ep⟩:=zpp (zdt hs _ (List.getElem_mem hi)) h3
 unfold zbh at hz
 split at hz
 ·rename_i hc
  rw [v7,if_pos h3,List.mem_flatMap] at hz
  obtain ⟨p,hp,hz⟩:=hz
  unfold zdg at hp
  split at hp
  ·cases hp
  ·rename_i r hr
   rw [List.mem_singleton] at hp
   subst hp
   rw [zex,if_pos h3,List.mem_filterMap] at hz
   obtain ⟨q,hq,hz⟩:=hz
   rw [List.mem_singleton] at hq
   subst hq
   have r0:=yj0 hs o0 o1 hr
   obtain ⟨k,hk,ek,j,hj,ez,a1,a2,a3,a4,_⟩:=zp7 hs o0 o1 (by omega) hz
   subst ez
   refine ⟨⟨o0,o1⟩,rfl,ep,fun q=>a1 q.symm,rfl,rfl,rfl,hc,k,hk,by rw [hr];congr 1;omega,rfl,j,hj,rfl,a2,a3,a4⟩
 ·cases hz
theorem ybq {h:Hist} {e:Ev} (h3:e.kind=3) (a:Nat):(zbh h e a).length≤1:=by
 rw [zbh]
 split
 ·rw [v7,if_pos h3,zdg]
  split
  ·simp
  ·simp only [List.flatMap_cons,List.flatMap_nil,List.append_nil]
   exact List.length_filterMap_le _ _
 ·simp
theorem zw5 {h:Hist} {e:Ev} {n:Nat} {s:Seen} (hs:s∈zcc h e n):(0≤s.o∧s.o < h.os.length)∧∃hk:s.o.toNat < (zcc h e n).length,(zcc h e n)[s.o.toNat]=s:=by
 obtain ⟨k,hk,rfl⟩:=List.mem_iff_getElem.1 hs
 have e1:=ynk hk
 have e2:=zrn h e n
 refine ⟨by omega,by omega,?_⟩
 congr 1
 omega
theorem zph {h:Hist} (hs:zaq h=true) {i:Nat} (hi:i < h.evs.length) (h4:h.evs[i].kind=4) {z:Conf} (hz:z∈zbh h h.evs[i] i):(0≤z.o∧z.o < h.os.length)∧z.k=4∧z.f≠z.t∧z.a=(i:Int)∧z.f=h.evs[i].t∧z.p=h.evs[i].p∧z.t∈za4 h z.o∧(0≤z.p∧z.p < h.ps.length)∧∃r k:Int,(∃hk:z.o.toNat < (zcc h h.evs[i] i).length,zim h z.o (zcc h h.evs[i] i)[z.o.toNat].v=some r)∧r < k∧k∈chL h z.p z.o∧∃j,∃hj:j < h.evs.length,z.b=(j:Int)∧h.evs[j].kind=2∧h.evs[j].t=z.t∧h.evs[j].o=z.o∧zim h z.o h.evs[j].v=some k:=by
 have hp:=yec (zdt hs _ (List.getElem_mem hi)) h4
 unfold zbh at hz
 split at hz
 ·rw [v7,if_neg (by omega),if_pos h4,List.mem_flatMap] at hz
  obtain ⟨p,hpp,hz⟩:=hz
  rw [zgm,List.mem_filterMap] at hpp
  obtain ⟨s,hsm,hpp⟩:=hpp
  obtain ⟨⟨o0,o1⟩,hk1,hk2⟩:=zw5 hsm
  unfold zcw at hpp
  split at hpp
  ·cases hpp
  ·rename_i r hr
   split at hpp
   ·injection hpp with hpp
    subst hpp
    rw [zex,if_neg (by omega),if_pos h4,List.mem_filterMap] at hz
    obtain ⟨k,hk,hz⟩:=hz
    have ht:zhr h h.evs[i].p s.o=0:=zu0.2 ⟨zaw.2 hs,⟨o0,o1⟩,hp⟩
    have hlt:(chL h h.evs[i].p s.o).Pairwise (· < ·):=by rw [chL,if_pos ht];exact zsv _ _
    simp only at hk hz
    rw [rwOver,zlo hlt,List.mem_filter] at hk
    obtain ⟨hk,hkr⟩:=hk
    have hkr:=oT hkr
    have r0:=yj0 hs o0 o1 hr
    obtain ⟨m,hm,em,j,hj,ez,a1,a2,a3,a4,a5⟩:=zp7 hs o0 o1 (by omega) hz
    subst ez
    refine ⟨⟨o0,o1⟩,rfl,fun q=>a1 q.symm,rfl,rfl,rfl,List.getElem_mem hm,hp,r,k,⟨hk1,by rw [hk2];exact hr⟩,by omega,hk,j,hj,rfl,a2,a3,a4,a5⟩
   ·cases hpp
 ·cases hz
theorem zjm {h:Hist} {e:Ev} {a:Nat} (h3:e.kind≠3) (h4:e.kind≠4):zbh h e a= []:=by
 rw [zbh,v7,if_neg h3,if_neg h4];simp
def zn3 (h:Hist) (e:Ev) (a:Nat):List Int:=zbn (srt ((zbh h e a).map Conf.t))
theorem zu6 {h:Hist} {e:Ev} {a:Nat} {t:Int}:t∈zn3 h e a ↔ ∃c∈zbh h e a,c.t=t:=by
 rw [zn3,zem,(zbr _).mem_iff,List.mem_map]
theorem yl1 {h:Hist} (hs:zaq h=true) {i:Nat} (hi:i < h.evs.length) {z:Conf} (hz:z∈zbh h h.evs[i] i):0≤z.t∧z.t < h.ts.length:=by
 by_cases h3:h.evs[i].kind=3
 ·obtain ⟨⟨o0,o1⟩,_,_,_,_,_,_,_,k,hk,_,e,_⟩:=zfy hs hi h3 hz
  rw [←e];exact yeu hs o0 o1 (List.getElem_mem hk)
 ·by_cases h4:h.evs[i].kind=4
  ·obtain ⟨⟨o0,o1⟩,_,_,_,_,_,e,_⟩:=zph hs hi h4 hz
   exact yeu hs o0 o1 e
  ·rw [zjm h3 h4] at hz;cases hz
theorem zu5 {h:Hist} {e:Ev} (h3:e.kind=3) (a:Nat):(zn3 h e a).length≤1:=by
 refine Nat.le_trans (zgf _) ?_
 rw [(zbr _).length_eq,oM]
 exact ybq h3 a
theorem yc6 {l:List Conf} {c:Conf} (hc:c∈l):∃z∈zio l,z.f=c.f∧z.t=c.t∧zet z c≤0:=by
 have:=znk l (zd3 c)
 cases hg:za7 (zd3 c) (zbi l) with
 |none=>rw [hg] at this;exact absurd rfl (this c hc)
 |some z=>
  rw [hg] at this
  obtain ⟨e,hm⟩:=this
  have e':z.f=c.f∧z.t=c.t:=by simpa [zd3] using e
  exact ⟨z,(zhf l z).2 hm,e'.1,e'.2,hm.2 c hc e.symm⟩
theorem yml {z c:Conf} (h:zet z c≤0) (hf:z.f=c.f) (ht:z.t=c.t) (hk:z.k=c.k):z.a≤c.a:=by
 rw [zet,zwi,zwi,zfj,zfj,zfj,zfj,hf,ht,hk] at h
 simp only [Int.lt_irrefl,if_false] at h
 split at h
 ·omega
 ·split at h
  ·omega
  ·omega
theorem zvu {h:Hist} (hs:zaq h=true) {i:Nat} (hi:i < h.evs.length) (h3:h.evs[i].kind=3) {t:Int} (ht:t∈zn3 h h.evs[i] i):∃z∈zfb h 3,z.f=h.evs[i].t∧z.t=t∧z.a≤(i:Int):=by
 obtain ⟨c,hc,rfl⟩:=zu6.1 ht
 have hm:c∈za3 h 3 h.evs.length:=(zfv (Nat.le_refl _)).2 ⟨i,hi,hi,h3,hc⟩
 obtain ⟨z,hz,e1,e2,e3⟩:=yc6 hm
 obtain ⟨_,k1,_,_,ka,kf,_⟩:=zfy hs hi h3 hc
 have hz':=((zhf _ z).1 hz).1
 obtain ⟨j,hj,_,j3,hzj⟩:=(zfv (Nat.le_refl _)).1 hz'
 obtain ⟨_,k2,_⟩:=zfy hs hj j3 hzj
 exact ⟨z,hz,by rw [e1,kf],e2,by rw [←ka];exact yml e3 e1 e2 (by rw [k1,k2])⟩
def bPP:ByteArray:=⟨#[80]⟩
def sr0:List Ev:= [yja 0,⟨3,0,0,0,0,⟨0,0⟩,0,[]⟩,⟨4,0,0,0,0,⟨0,0⟩,0,[]⟩,yi9 0]
def srE:Nat→List Ev
 |0=>sr0
 |k+1=>srE k++ [yja (k+1:Nat),ynd (k+1:Nat) 0,yi9 (k+1:Nat)]
theorem yjm (k:Nat):srE (k+1)=srE k++ [yja (k+1:Nat),ynd (k+1:Nat) 0,yi9 (k+1:Nat)]:=rfl
theorem yfr (k:Nat):(srE k).length=4+3 * k:=by
 induction k with
 |zero=>rfl
 |succ k ih=>rw [yjm,List.length_append,ih];simp only [List.length_cons,List.length_nil];omega
def rwH:Hist:=⟨[wT 48,wT 49,wT 50],[zuj],[bxx],[bPP],srE 2,[⟨0,[1,2]⟩],[⟨0,0,false,[2]⟩],[]⟩
theorem zxd:zfp rwH=true:=by decide+kernel
theorem zpi:zaq rwH=true:=by
 have:zjw rwH=none:=(ydk zxd).trans (by decide+kernel)
 rw [zaq,zxd,this];rfl
theorem zfu:u3 rwH=0:=zaw.2 zpi
theorem zxe:zfb rwH 3= [⟨0,1,3,1,5,0,0⟩]:=by decide+kernel
theorem zxc:zfb rwH 4= [⟨0,2,4,2,8,0,0⟩]:=(zk2 zpi (.inr rfl) (.refl _)).trans (by decide+kernel)
theorem ybj:(⟨0,1,3,1,5,0,0⟩:Conf)∈zbh rwH (rwH.evs[1]'(by decide)) 1:=by decide+kernel
def zab (h:Hist):Hist:={h with evs:=h.evs.take 60}
theorem zc6 {h:Hist} {N:Nat} (la:Lim N h):Lim N (zab h):=
 ⟨la.ts,la.ss,la.os,la.ps,by have:=la.evs;simp only [zab,List.length_take];omega,la.ords,la.mats,la.wants,fun e he=>la.scans e (List.mem_of_mem_take he),la.ordts,la.matts⟩
theorem zvl (h:Hist):(zab h).evs.length≤60:=by simp only [zab,List.length_take];omega
end Go.H
