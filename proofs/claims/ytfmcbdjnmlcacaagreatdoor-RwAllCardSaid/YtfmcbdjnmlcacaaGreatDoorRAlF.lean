/- The abstract logic, part 28: slices.Sort and slices.Compact at []int, as contracts over a row of one's own (the kit's shelf has walked them). .. -/
import Derived.Test.YtfmcbdjnmlcacaaGreatDoorRAlE
import Derived.Shelf.Sort.Plain
import Derived.Shelf.Slices.In.SortNone
import Derived.Shelf.Slices.CompactI
set_option linter.unusedSectionVars false
set_option linter.unusedSimpArgs false
set_option linter.unusedVariables false
namespace Go.Ab
open Go Go.Shelf Go.Sort Go.Proofs
def numR (n:Int):List AV:= [.v (.int .i64 n)]
theorem zxc {X:Nat→Prop} {w:World} {a:Addr} {cap:Nat} {T:TypeId} {xs ys zs:List Int} (hh:HRel X w [.row (.slice (some a) xs.length cap) 1 T (xs.map numR)]) (hl:ys.length=xs.length) (hz:zs=ys.take zs.length) (n:Nat) (os:Array Obj):
 HRel X (grow (putRow (Value.int .i64) (Sort.ahead w n) a.block a.off ys.toArray) os) [.row (.slice (some a) zs.length cap) 1 T (zs.map numR)]∧
 Keep [a.block] w [a.block] (grow (putRow (Value.int .i64) (Sort.ahead w n) a.block a.off ys.toArray) os):=by
 obtain ⟨h1,h2,h3,h4,c,h5,h6,h7⟩:=hh.holds _ (List.mem_singleton.2 rfl)
 have hb:a.block < w.heap.size:=(hh.lt a.block (by simp [j9,Res.own])).1
 have hX:¬X a.block:=(hh.lt a.block (by simp [j9,Res.own])).2
 obtain ⟨w',hw'⟩:∃w',w'=grow (putRow (Value.int .i64) (Sort.ahead w n) a.block a.off ys.toArray) os:=⟨_,rfl⟩
 rw [←hw']
 have hheap:w'.heap=(w.heap.modify a.block (onCells (putCells (Value.int .i64) a.off ys.toArray)))++os:=by rw [hw'];rfl
 have hos:zi5 w w':=by rw [hw'];exact ⟨⟨rfl,rfl⟩,rfl,Nat.le_add_right _ _⟩
 have hsize:w.heap.size≤w'.heap.size:=by rw [hheap];simp
 have hold:∀b,b < w.heap.size→b≠a.block→w'.heap[b]? =w.heap[b]? :=fun b hb hne=>by
  rw [hheap,Array.getElem?_append_left (by simpa using hb),Array.getElem?_modify,if_neg (Ne.symm hne)]
 have hnew:w'.heap[a.block]? =some (.cells (putCells (Value.int .i64) a.off ys.toArray c) T (0,0)):=by
  rw [hheap,Array.getElem?_append_left (by simpa using hb),Array.getElem?_modify,if_pos rfl,h5];rfl
 have hlen:zs.length≤ys.length:=by
  have:=congrArg List.length hz
  rw [List.length_take] at this;omega
 refine ⟨⟨by simp [j9,Res.own],fun b hb2=> ?_,fun b hb2=>Nat.lt_of_lt_of_le (hh.xlt b hb2) hsize,fun r hr=> ?_⟩,⟨hsize,fun b hb2 hne=> ?_,hos⟩⟩
 ·have:b=a.block:=by simpa [j9,Res.own] using hb2
  subst this;exact ⟨Nat.lt_of_lt_of_le hb hsize,hX⟩
 ·rw [List.mem_singleton] at hr
  subst hr
  refine ⟨h1,by simp,by simp at h2 h3;omega,fun i hi=>by simp [numR],_,hnew,by simpa [putCells] using h6,fun i hi j hj=> ?_⟩
  have hi2:i < zs.length:=by simpa using hi
  have hj0:j=0:=by simp [numR] at hj;omega
  subst hj0
  have hc:a.off+i < c.size:=by simp at h2 h3;omega
  refine ⟨.int .i64 (zs[i]),?_,?_⟩
  ·have hz2:zs[i]=ys[i]'(by omega):=by
    have:zs[i]? =(ys.take zs.length)[i]? :=by rw [←hz]
    rw [List.getElem?_take_of_lt hi2,List.getElem?_eq_getElem hi2,List.getElem?_eq_getElem (by omega)] at this
    exact Option.some.inj this
   have e:a.off+i * 1+0=a.off+i:=by omega
   rw [e]
   simp only [putCells,Array.getElem?_mapIdx]
   rw [Array.getElem?_eq_getElem hc]
   simp only [Option.map_some]
   rw [if_pos ⟨by omega,by simp;omega⟩,hz2]
   have e2:a.off+i - a.off=i:=by omega
   rw [e2]
   congr 2
   exact getElem!_pos _ _ (by simp;omega)
  ·simp only [List.getElem_map,numR]
   exact .v _
 ·have hne2:b≠a.block:=by simpa using hne
  exact ⟨hold b hb2 hne2,hne⟩
theorem zxd {X:Nat→Prop} {w:World} {a:Addr} {cap:Nat} {T:TypeId} {xs:List Int} (hh:HRel X w [.row (.slice (some a) xs.length cap) 1 T (xs.map numR)]):Holds (Value.int .i64) w a.block a.off xs.toArray∧a.block < w.heap.size∧xs.length≤cap∧a.spot=none:=by
 obtain ⟨h1,h2,h3,h4,c,h5,h6,h7⟩:=hh.holds _ (List.mem_singleton.2 rfl)
 refine ⟨fun j hj=> ?_,(hh.lt a.block (by simp [j9,Res.own])).1,h3,h1⟩
 have hj2:j < xs.length:=by simpa using hj
 obtain ⟨v,e,r⟩:=h7 j (by simpa using hj2) 0 (by simp [numR])
 simp only [List.getElem_map,numR] at r
 have hv:v= .int .i64 xs[j]:=r.v_eq
 subst hv
 have e0:a.off+j * 1+0=a.off+j:=by omega
 rw [e0] at e
 refine ⟨?_,?_⟩
 ·have e2:w.cell? ⟨a.block,a.off+j,none⟩=some (.int .i64 xs[j]):=by simp [World.cell?,h5,e]
  have e3:xs.toArray[j]! =xs[j]:=getElem!_pos xs.toArray j hj
  rw [e2,e3]
 ·simp [World.frozen?,h5]
theorem ybz {X:Nat→Prop} {w:World} {n cap:Nat} {T:TypeId} {xs:List Int} (hh:HRel X w [.row (.slice none n cap) 1 T (xs.map numR)]):xs= []∧n=0∧cap=0:=by
 obtain ⟨h1,h2,h3⟩:=hh.holds _ (List.mem_singleton.2 rfl)
 exact ⟨by simpa using h1,h2,h3⟩
section
variable {P:Program} {ρ:Ren}
theorem yaq (Ly:Lays.n189 P ρ) (s:SV) (T:TypeId) (xs:List Int) (hs:xs.length < 4611686018427387904):
 y8 P (ρ.f 189) [.v s.v] [.row s.v 1 T (xs.map numR)] (fun r h'=>h'= [.row s.v 1 T ((xs.mergeSort fun x y=>decide (x≤y)).map numR)]∧r= .v (.tuple #[])):=by
 intro X w vs hh ha
 match vs,ha with
 | [v],⟨hv,_⟩=>
   obtain rfl:=hv.v_eq
   obtain ⟨a,n,cap⟩:=s
   cases a with
   |none=>
    obtain ⟨rfl,rfl,rfl⟩:=ybz hh
    refine callsIn_wide.2 ((Any.slices_Sort_int_none Ly none 0 w).mono ?_)
    rintro e w' ⟨rfl,rfl⟩
    exact ⟨_,_,_,rfl,⟨rfl,rfl⟩,.v _,by simpa using hh,.refl _ _⟩
   |some a=>
    have hn:n=xs.length:=by
     have:=(hh.holds _ (List.mem_singleton.2 rfl)).2.1
     simpa using this
    subst hn
    obtain ⟨g1,g2,g3,g4⟩:=zxd hh
    obtain ⟨b,off,sp⟩:=a
    simp only at g1 g2 g4
    subst g4
    refine callsIn_wide.2 ((Any.slices_Sort_int Ly b off cap xs w g1 g2 hs).mono ?_)
    rintro e w' ⟨rfl,n,os,rfl⟩
    have hlen:(xs.mergeSort fun x y=>decide (x≤y)).length=xs.length:=List.length_mergeSort _
    obtain ⟨k1,k2⟩:=zxc (zs:=xs.mergeSort fun x y=>decide (x≤y)) hh hlen (List.take_length).symm n os
    rw [hlen] at k1
    exact ⟨_,_,_,rfl,⟨rfl,rfl⟩,.v _,k1,k2⟩
theorem zrt (Ly:Lays2.n20 P ρ) (s:SV) (T:TypeId) (xs:List Int) (hs:xs.length≤4611686018427387904):
 y8 P (ρ.f 20) [.v s.v] [.row s.v 1 T (xs.map numR)] (fun r h'=>∃s':SV,h'= [.row s'.v 1 T ((Lib.compact xs).map numR)]∧r= .v s'.v):=by
 intro X w vs hh ha
 match vs,ha with
 | [v],⟨hv,_⟩=>
   obtain rfl:=hv.v_eq
   obtain ⟨a,n,cap⟩:=s
   cases a with
   |none=>
    obtain ⟨rfl,rfl,rfl⟩:=ybz hh
    refine callsIn_wide.2 ((Any.slices_Compact_int_empty Ly none 0 w).mono ?_)
    rintro e w' ⟨rfl,rfl⟩
    exact ⟨_,_,_,rfl,⟨⟨none,0,0⟩,rfl,rfl⟩,.v _,hh,.refl _ _⟩
   |some a=>
    have hn:n=xs.length:=by
     have:=(hh.holds _ (List.mem_singleton.2 rfl)).2.1
     simpa using this
    subst hn
    obtain ⟨g1,g2,g3,g4⟩:=zxd hh
    obtain ⟨b,off,sp⟩:=a
    simp only at g1 g2 g4
    subst g4
    refine callsIn_wide.2 ((Any.slices_Compact_int Ly b off cap xs w g1 (by omega) g3).mono ?_)
    rintro e w' ⟨rfl,q,rfl⟩
    have hle:(Lib.compact xs).length≤xs.length:=by
     unfold Lib.compact Lib.compactUpTo
     rw [oM]
     exact Nat.le_trans (List.length_filter_le _ _) (by simp)
    obtain ⟨k1,k2⟩:=zxc (ys:=Lib.compact xs++List.replicate (xs.length - (Lib.compact xs).length) 0) (zs:=Lib.compact xs) hh (by simp;omega) (by rw [List.take_left'];rfl) q #[]
    rw [grow_empty] at k1 k2
    exact ⟨_,_,_,rfl,⟨⟨some ⟨b,off,none⟩,(Lib.compact xs).length,cap⟩,rfl,rfl⟩,.v _,k1,k2⟩
end
end Go.Ab
namespace Go.H
open Go Go.Ab
theorem zp2 (y:Int):∀l:List Int,zcc (l++ [y])=zcc l++(if l.getLast? =some y then [] else [y])
 | []=>by simp [zcc]
 | [x]=>by
   by_cases h:x=y
   ·subst h;simp [zcc]
   ·simp [zcc,h]
 |x::z::r=>by
  have ih:=zp2 y (z::r)
  simp only [List.cons_append] at ih ⊢
  have hl:(x::z::r).getLast? =(z::r).getLast? :=by simp [List.getLast?_cons]
  rw [hl,zcc,zcc]
  by_cases h:x=z
  ·rw [if_pos h,if_pos h];exact ih
  ·rw [if_neg h,if_neg h,ih];rfl
theorem yah (xs:List Int):Lib.compact xs=zcc xs:=by
 have key:∀m,m≤xs.length→Lib.compactUpTo xs.toArray m=zcc (xs.take m):=by
  intro m
  induction m with
  |zero=>intro _;rfl
  |succ m ih=>
   intro hm
   have hlt:m < xs.length:=hm
   rw [Lib.compactUpTo_succ,ih (by omega),List.take_succ_eq_append_getElem hlt,zp2]
   congr 1
   have e1:xs.toArray[m]! =xs[m]:=by simp [hlt]
   by_cases h0:m=0
   ·subst h0
    simp [Lib.keeps,hlt]
   ·have hlt':m - 1 < xs.length:=by omega
    have e2:xs.toArray[m - 1]! =xs[m - 1]:=by simp [hlt']
    have e3:(xs.take m).getLast? =some xs[m - 1]:=by
     rw [List.getLast?_eq_getElem?,List.length_take,Nat.min_eq_left (by omega),List.getElem?_take_of_lt (by omega)]
     simp [hlt']
    rw [e3]
    unfold Lib.keeps
    rw [e1,e2]
    by_cases he:xs[m]=xs[m - 1]
    ·rw [if_neg (by simp [h0,he]),if_pos (by rw [he])]
    ·rw [if_pos (by simp [he]),if_neg (fun q=>he (Option.some.inj q).symm)]
 have:=key xs.length (Nat.le_refl _)
 rw [List.take_length] at this
 exact this
def yk4 (l:List Ev):List (Int×Bool):=l.foldl (fun m e=>ze0 e.t ((zbt e.t m).getD false||e.kind==5) m) []
theorem yem (t:Int):∀(l:List Ev) (m:List (Int×Bool)),(zbt t (l.foldl (fun m e=>ze0 e.t ((zbt e.t m).getD false||e.kind==5) m) m)).getD false=((zbt t m).getD false||l.any fun y=>y.t==t && y.kind==5)
 | [],m=>by simp
 |e::l,m=>by
  rw [List.foldl_cons,yem t l,List.any_cons,zde]
  by_cases h:e.t=t
  ·subst h;simp [Bool.or_assoc]
  ·have:(e.t==t)=false:=by simpa using h
   rw [if_neg h,this,Bool.false_and,Bool.false_or]
theorem zmt (l:List Ev) (t:Int):(zbt t (yk4 l)).getD false=l.any fun y=>y.t==t && y.kind==5:=by
 rw [yk4,yem];simp [zbt]
theorem zkh {l:List Ev} {k:Nat} (hk:k < l.length):yk4 (l.take (k+1))=ze0 l[k].t ((zbt l[k].t (yk4 (l.take k))).getD false||l[k].kind==5) (yk4 (l.take k)):=by
 rw [List.take_succ_eq_append_getElem hk,yk4,List.foldl_append];rfl
section
variable {α:Type} {l:List α} {k:Nat} {p:α→Bool}
theorem yvn (hk:k < l.length) (h:p l[k]=true):(l.take (k+1)).filter p=(l.take k).filter p++ [l[k]]:=by
 rw [List.take_succ_eq_append_getElem hk,List.filter_append];simp [h]
theorem yoy (hk:k < l.length) (h:p l[k]=false):(l.take (k+1)).filter p=(l.take k).filter p:=by
 rw [List.take_succ_eq_append_getElem hk,List.filter_append];simp [h]
theorem yd5:((l.take k).filter p).length≤l.length:=Nat.le_trans (List.length_filter_le _ _) (by simp;omega)
end
def wrB (l:List Ev) (x:Int) (e:Ev):Bool:=e.kind==2 && e.o==x && l.any fun y=>y.t==e.t && y.kind==5
theorem zup (l:List Ev) (x:Int):zaz l x=zcc (srt ((l.filter (wrB l x)).map Ev.t)):=rfl
theorem zt5 (l:List Int) (n:Int):(l.any fun a=>a==n)=l.contains n:=by
 rw [Bool.eq_iff_iff];simp
theorem zkn (l:List Ev) (x:Int):(zaz l x).length≤l.length:=by
 rw [zup]
 refine Nat.le_trans (zn7 _) ?_
 rw [(zdi _).length_eq,oM]
 exact List.length_filter_le _ _
theorem zk6 (a b:Nat):((a:Int) !=(b:Int))= !decide (a=b):=by
 rw [Bool.eq_iff_iff];simp;omega
theorem y0.new {P:Program} {fv:AV} {args:List AV} {h:List Res} {R:AV→List Res→Prop} (hc:y0 P fv args [] R):y0 P fv args h (fun r h'=>∃h1,R r h1∧h'=h1++h):=
 (hc.frame h).mono fun _ _ ⟨h1,e,q⟩=>⟨h1,q,e⟩
def zho (h:Hist) (n many:Int):Int:=if u6 h=0 then (if 0≤n∧n < many then 0 else 2) else u6 h
def onE (e:Int) (l:List Int):List Int:=if e=0 then l else []
theorem ypi {h:Hist} {n many:Int} (he:zho h n many=0):za2 h=true∧0≤n∧n < many:=by
 unfold zho at he
 split at he
 ·rename_i hc
  split at he
  ·rename_i hn;exact ⟨zbh.1 hc,hn⟩
  ·cases he
 ·rename_i hc;exact absurd he hc
theorem ask_c {h:Hist} {n many:Int} (hc:u6 h≠0):zho h n many=u6 h:=by rw [zho,if_neg hc]
theorem yao {h:Hist} {n many:Int} (hc:u6 h=0) (hn:¬(0≤n∧n < many)):zho h n many=2:=by rw [zho,if_pos hc,if_neg hn]
theorem zwl {h:Hist} {n many:Int} (hc:u6 h=0) (hn:0≤n∧n < many):zho h n many=0:=by rw [zho,if_pos hc,if_pos hn]
theorem ylb (h:Hist):zho h 0 1=u6 h:=by
 unfold zho;split
 ·rename_i h0;rw [h0];rfl
 ·rfl
def zpy (l:List Ev):List (Int×Bool):=zsg (fun e:Ev=>e.kind==5) Ev.t [] l
theorem yje (l:List Ev) (t:Int):(zbt t (zpy l)).getD false=zgf l t 5:=by
 rw [zpy,zgz,zga]
 have:(l.any fun e=>e.kind==5 && decide (e.t=t))=l.any fun y=>y.t==t && y.kind==5:=by
  congr 1;funext e;rw [Bool.and_comm];rfl
 rw [this]
 cases l.any fun y=>y.t==t && y.kind==5 <;> rfl
theorem ytj {l:List Ev} {k:Nat} (hk:k < l.length) (h5:(l[k].kind==5)=true):zpy (l.take (k+1))=ze0 l[k].t true (zpy (l.take k)):=by
 rw [List.take_succ_eq_append_getElem hk,zpy,zsg,List.foldl_append,List.foldl_cons,List.foldl_nil,if_pos h5];rfl
theorem ytk {l:List Ev} {k:Nat} (hk:k < l.length) (h5:(l[k].kind==5)=false):zpy (l.take (k+1))=zpy (l.take k):=by
 rw [List.take_succ_eq_append_getElem hk,zpy,zsg,List.foldl_append,List.foldl_cons,List.foldl_nil,if_neg (by rw [h5];decide)];rfl
section
variable {α:Type} (cmp:α→α→Int)
def mrg:List α→List α→List α
 | [],b=>b
 |x::a,[]=>x::a
 |x::a,y::b=>if cmp y x < 0 then y::mrg (x::a) b else x::mrg a (y::b)
termination_by a b=>a.length+b.length
theorem ynu (a:List α):mrg cmp a []=a:=by cases a <;> simp [mrg]
theorem zj9:∀(a b:List α),(mrg cmp a b).Perm (a++b)
 | [],b=>by simp [mrg]
 |x::a,[]=>by simp [mrg]
 |x::a,y::b=>by
  rw [mrg]
  split
  ·exact ((zj9 (x::a) b).cons y).trans (List.perm_middle (l₁:=x::a)).symm
  ·exact (zj9 a (y::b)).cons x
termination_by a b=>a.length+b.length
def LeC (a b:α):Prop:=cmp a b≤0
structure CmpOk:Prop where
 trans:∀a b c,cmp a b≤0→cmp b c≤0→cmp a c≤0
 anti:∀a b,cmp b a= - cmp a b
variable {cmp}
theorem zk4 (ok:CmpOk cmp):∀(a b:List α),a.Pairwise (LeC cmp)→b.Pairwise (LeC cmp)→(mrg cmp a b).Pairwise (LeC cmp)
 | [],b,_,hb=>by simpa [mrg] using hb
 |x::a,[],ha,_=>by simpa [mrg] using ha
 |x::a,y::b,ha,hb=>by
  rw [mrg]
  have ha':=List.pairwise_cons.1 ha
  have hb':=List.pairwise_cons.1 hb
  split
  ·rename_i h
   refine List.pairwise_cons.2 ⟨fun z hz=> ?_,zk4 ok (x::a) b ha hb'.2⟩
   have hz':=(zj9 cmp (x::a) b).mem_iff.1 hz
   rcases List.mem_append.1 hz' with hz'|hz'
   ·have hyx:LeC cmp y x:=Int.le_of_lt h
    rcases List.mem_cons.1 hz' with rfl|hz'
    ·exact hyx
    ·exact ok.trans _ _ _ hyx (ha'.1 z hz')
   ·exact hb'.1 z hz'
  ·rename_i h
   have hxy:LeC cmp x y:=by have:=ok.anti x y;show cmp x y≤0;omega
   refine List.pairwise_cons.2 ⟨fun z hz=> ?_,zk4 ok a (y::b) ha'.2 hb⟩
   have hz':=(zj9 cmp a (y::b)).mem_iff.1 hz
   rcases List.mem_append.1 hz' with hz'|hz'
   ·exact ha'.1 z hz'
   ·rcases List.mem_cons.1 hz' with rfl|hz'
    ·exact hxy
    ·exact ok.trans _ _ _ hxy (hb'.1 z hz')
termination_by a b=>a.length+b.length
variable (cmp)
def zbz:List (List α)→List (List α)
 |a::b::r=>mrg cmp a b::zbz r
 |l=>l
theorem zc5:∀l:List (List α),(zbz cmp l).length=(l.length+1) / 2
 | []=>by simp [zbz]
 | [a]=>by simp [zbz]
 |a::b::r=>by rw [zbz,List.length_cons,zc5 r,List.length_cons,List.length_cons];omega
theorem zjc:∀l:List (List α),(zbz cmp l).flatten.Perm l.flatten
 | []=> .refl _
 | [a]=> .refl _
 |a::b::r=>by
  rw [zbz,List.flatten_cons,List.flatten_cons,List.flatten_cons,←List.append_assoc]
  exact (zj9 cmp a b).append (zjc r)
def zrq (l:List (List α)) (k:Nat):List α:=if k+1=l.length then (l[k]?).getD [] else mrg cmp ((l[k]?).getD []) ((l[k+1]?).getD [])
theorem zpk:∀(l:List (List α)) (i:Nat),i < (zbz cmp l).length→(zbz cmp l)[i]? =some (zrq cmp l (2 * i))
 | [],i,h=>by simp [zbz] at h
 | [a],i,h=>by
   have:i=0:=by simpa [zbz] using h
   subst this;rfl
 |a::b::r,0,h=>by
  rw [zbz,zrq,if_neg (by simp)];rfl
 |a::b::r,i+1,h=>by
  have h':i < (zbz cmp r).length:=by simpa [zbz] using h
  rw [zbz,List.getElem?_cons_succ,zpk r i h',zrq,zrq,show 2 * (i+1)=2 * i+1+1 by omega]
  simp only [List.length_cons,List.getElem?_cons_succ]
  by_cases e:2 * i+1=r.length
  ·rw [if_pos e,if_pos (by omega)]
  ·rw [if_neg e,if_neg (by omega)]
def zr7 (l:List (List α)):List (List α):=if h:1 < l.length then zr7 (zbz cmp l) else l
termination_by l.length
decreasing_by rw [zc5];omega
theorem zqk {l:List (List α)} (h:1 < l.length):zr7 cmp l=zr7 cmp (zbz cmp l):=by rw [zr7,dif_pos h]
theorem zjt {l:List (List α)} (h:¬1 < l.length):zr7 cmp l=l:=by rw [zr7,dif_neg h]
theorem zr6 (l:List (List α)):(zr7 cmp l).flatten.Perm l.flatten:=by
 by_cases h:1 < l.length
 ·rw [zqk cmp h]
  have:(zbz cmp l).length < l.length:=by rw [zc5];omega
  exact (zr6 (zbz cmp l)).trans (zjc cmp l)
 ·rw [zjt cmp h]
termination_by l.length
theorem zqj (l:List (List α)):(zr7 cmp l).length≤1:=by
 by_cases h:1 < l.length
 ·rw [zqk cmp h]
  have:(zbz cmp l).length < l.length:=by rw [zc5];omega
  exact zqj (zbz cmp l)
 ·rw [zjt cmp h];omega
termination_by l.length
def zks (l:List α):List α:=((zr7 cmp (l.map fun x=> [x]))[0]?).getD []
theorem yac (l:List (List α)) (h:l.length≤1):(l[0]?).getD []=l.flatten:=by
 match l,h with
 | [],_=>rfl
 | [a],_=>simp
theorem yd6 (l:List α):(l.map fun x=> [x]).flatten=l:=by
 induction l with
 |nil=>rfl
 |cons a r ih=>rw [List.map_cons,List.flatten_cons,ih];rfl
theorem zkr (l:List α):(zks cmp l).Perm l:=by
 rw [zks,yac _ (zqj cmp _)]
 have:=zr6 cmp (l.map fun x=> [x])
 rwa [yd6] at this
variable {cmp}
theorem zj5 (ok:CmpOk cmp):∀l:List (List α),(∀r∈l,r.Pairwise (LeC cmp))→∀r∈zbz cmp l,r.Pairwise (LeC cmp)
 | [],_,r,h=>by cases h
 | [a],hl,r,h=>hl r h
 |a::b::q,hl,r,h=>by
  rw [zbz] at h
  rcases List.mem_cons.1 h with rfl|h
  ·exact zk4 ok a b (hl a (by simp)) (hl b (by simp))
  ·exact zj5 ok q (fun r hr=>hl r (by simp [hr])) r h
theorem zm3 (ok:CmpOk cmp) (l:List (List α)) (hl:∀r∈l,r.Pairwise (LeC cmp)):∀r∈zr7 cmp l,r.Pairwise (LeC cmp):=by
 by_cases h:1 < l.length
 ·rw [zqk cmp h]
  have:(zbz cmp l).length < l.length:=by rw [zc5];omega
  exact zm3 ok (zbz cmp l) (zj5 ok l hl)
 ·rw [zjt cmp h];exact hl
termination_by l.length
theorem zsa (ok:CmpOk cmp) (l:List α):(zks cmp l).Pairwise (LeC cmp):=by
 have h:=zm3 ok (l.map fun x=> [x]) (fun r hr=>by obtain ⟨x,_,rfl⟩:=List.mem_map.1 hr;exact List.pairwise_singleton _ _)
 have hl:=zqj cmp (l.map fun x=> [x])
 rw [zks]
 match hs:zr7 cmp (l.map fun x=> [x]),hl with
 | [],_=>exact .nil
 | [a],_=>exact h a (by rw [hs];simp)
def LtC (cmp:α→α→Int) (a b:α):Prop:=cmp a b < 0
theorem yim (hz:∀a b,cmp a b=0→a=b):∀{l:List α},l.Pairwise (LeC cmp)→l.Nodup→l.Pairwise (LtC cmp):=by
 intro l h hn
 induction l with
 |nil=>exact .nil
 |cons a r ih=>
  rw [List.nodup_cons] at hn
  rw [List.pairwise_cons] at h ⊢
  refine ⟨fun b hb=> ?_,ih h.2 hn.2⟩
  have h1:=h.1 b hb
  have h2:cmp a b≠0:=fun e=>hn.1 (by rw [hz a b e];exact hb)
  show cmp a b < 0
  have:cmp a b≤0:=h1
  omega
theorem ydi (ok:CmpOk cmp):∀(l m:List α),l.Pairwise (LtC cmp)→m.Pairwise (LtC cmp)→(∀z,z∈l ↔ z∈m)→l=m
 | [],[],_,_,_=>rfl
 | [],b::m,_,_,h=>by have:=(h b).2 (by simp);cases this
 |a::l,[],_,_,h=>by have:=(h a).1 (by simp);cases this
 |a::l,b::m,hl,hm,h=>by
  have hl':=List.pairwise_cons.1 hl
  have hm':=List.pairwise_cons.1 hm
  have irr:∀z,¬LtC cmp z z:=fun z hz=>by have:=ok.anti z z;have:cmp z z < 0:=hz;omega
  have e:a=b:=by
   rcases List.mem_cons.1 ((h a).1 (by simp)) with e|h1
   ·exact e
   ·rcases List.mem_cons.1 ((h b).2 (by simp)) with e|h2
    ·exact e.symm
    ·have h3:cmp b a < 0:=hm'.1 a h1
     have h4:cmp a b < 0:=hl'.1 b h2
     have:=ok.anti a b;omega
  subst e
  congr 1
  refine ydi ok l m hl'.2 hm'.2 fun z=> ?_
  have hz:=h z
  simp only [List.mem_cons] at hz
  constructor
  ·intro q
   rcases hz.1 (.inr q) with rfl|q'
   ·exact absurd (hl'.1 _ q) (irr _)
   ·exact q'
  ·intro q
   rcases hz.2 (.inr q) with rfl|q'
   ·exact absurd (hm'.1 _ q) (irr _)
   ·exact q'
end
section
variable {α:Type} [DecidableEq α] (cmp:α→α→Int)
def zi1:List α→α→List α
 | [],c=> [c]
 |x::r,c=>if cmp x c < 0 then x::zi1 r c else if x=c then x::r else c::x::r
variable {cmp}
theorem zqv {c z:α}:∀{l:List α},z∈zi1 cmp l c ↔ z=c∨z∈l
 | []=>by simp [zi1]
 |x::r=>by
  rw [zi1]
  split
  ·rw [List.mem_cons,zqv,List.mem_cons];constructor <;> (rintro (h|h|h) <;> simp [h])
  ·split
   ·rename_i e;subst e;simp
   ·simp
theorem znm (ok:CmpOk cmp) (hz:∀a b,cmp a b=0→a=b) {c:α}:∀{l:List α},l.Pairwise (LtC cmp)→(zi1 cmp l c).Pairwise (LtC cmp)
 | [],_=>List.pairwise_singleton _ _
 |x::r,h=>by
  have h':=List.pairwise_cons.1 h
  rw [zi1]
  split
  ·rename_i hx
   refine List.pairwise_cons.2 ⟨fun z q=> ?_,znm ok hz h'.2⟩
   rcases zqv.1 q with rfl|q
   ·exact hx
   ·exact h'.1 z q
  ·split
   ·exact h
   ·rename_i hx he
    have hne:cmp x c≠0:=fun e=>he (hz x c e)
    have hcx:cmp c x < 0:=by have:=ok.anti x c;omega
    refine List.pairwise_cons.2 ⟨fun z q=> ?_,h⟩
    rcases List.mem_cons.1 q with rfl|q
    ·exact hcx
    ·have h1:cmp x z < 0:=h'.1 z q
     show cmp c z < 0
     have h2:cmp c z≤0:=ok.trans _ _ _ (Int.le_of_lt hcx) (Int.le_of_lt h1)
     by_cases e:cmp c z=0
     ·have:=hz _ _ e;subst this
      have:=ok.anti x c;omega
     ·omega
end
section
variable {α:Type}
def zlg (q:α→α→Bool):α→List α→List α
 |_,[]=> []
 |p,y::r=>if q y p=true then zlg q y r else y::zlg q y r
def zlh (q:α→α→Bool):List α→List α
 | []=> []
 |x::r=>x::zlg q x r
def zhc (q:α→α→Bool):α→List α→List α
 |_,[]=> []
 |k,y::r=>if q y k=true then zhc q k r else y::zhc q y r
def zc8 (q:α→α→Bool):List α→List α
 | []=> []
 |x::r=>x::zhc q x r
theorem zn3 {κ:Type} [DecidableEq κ] {key:α→κ} {q:α→α→Bool} (hq:∀a b,q a b=decide (key a=key b)):∀(l:List α) (p k:α),key p=key k→zlg q p l=zhc q k l
 | [],_,_,_=>rfl
 |y::r,p,k,h=>by
  rw [zlg,zhc,hq,hq,h]
  by_cases e:key y=key k
  ·rw [if_pos (by simpa using e),if_pos (by simpa using e)];exact zn3 hq r y k e
  ·rw [if_neg (by simpa using e),if_neg (by simpa using e),zn3 hq r y y rfl]
theorem zwd {κ:Type} [DecidableEq κ] {key:α→κ} {q:α→α→Bool} (hq:∀a b,q a b=decide (key a=key b)):∀l:List α,zlh q l=zc8 q l
 | []=>rfl
 |x::r=>by rw [zlh,zc8,zn3 hq r x x rfl]
theorem zn4 (q:α→α→Bool):∀(l:List α) (p:α),(zlg q p l).Sublist l
 | [],_=> .slnil
 |y::r,p=>by
  rw [zlg];split
  ·exact (zn4 q r y).cons y
  ·exact (zn4 q r y).cons_cons y
theorem zn5 (q:α→α→Bool):∀l:List α,(zlh q l).Sublist l
 | []=> .slnil
 |x::r=>(zn4 q r x).cons_cons x
end
variable {α:Type} (cmp:α→α→Int)
theorem yu8 {a b:List α} {i j:Nat} (hi:i < a.length) (hj:j < b.length) (h:cmp b[j] a[i] < 0):mrg cmp (a.drop i) (b.drop j)=b[j]::mrg cmp (a.drop i) (b.drop (j+1)):=by
 rw [List.drop_eq_getElem_cons hi,List.drop_eq_getElem_cons hj,mrg,if_pos h]
theorem yu9 {a b:List α} {i j:Nat} (hi:i < a.length) (hj:j < b.length) (h:¬cmp b[j] a[i] < 0):mrg cmp (a.drop i) (b.drop j)=a[i]::mrg cmp (a.drop (i+1)) (b.drop j):=by
 rw [List.drop_eq_getElem_cons hi,List.drop_eq_getElem_cons hj,mrg,if_neg h]
theorem zxq {a b:List α} (h:a= []∨b= []):mrg cmp a b=a++b:=by
 rcases h with rfl|rfl
 ·simp [mrg]
 ·rw [ynu,List.append_nil]
theorem yi7 {L:List (List α)} {r:List α} (h:r∈L):r.length≤L.flatten.length:=by
 induction L with
 |nil=>cases h
 |cons a L ih=>
  rw [List.flatten_cons,List.length_append]
  rcases List.mem_cons.1 h with rfl|h
  ·omega
  ·have:=ih h;omega
theorem yhv {L:List (List α)} {i:Nat} (h:2 * i+1=L.length):zrq cmp L (2 * i)=L[2 * i]'(by omega):=by
 rw [zrq,if_pos h,List.getElem?_eq_getElem (by omega)];rfl
theorem yhu {L:List (List α)} {i:Nat} (h:2 * i+1 < L.length):zrq cmp L (2 * i)=mrg cmp (L[2 * i]'(by omega)) L[2 * i+1]:=by
 rw [zrq,if_neg (by omega),List.getElem?_eq_getElem (by omega),List.getElem?_eq_getElem h];rfl
theorem zs6 {L:List (List α)} {i:Nat} (h:i < (L.length+1) / 2):(zbz cmp L).take (i+1)=(zbz cmp L).take i++ [zrq cmp L (2 * i)]:=by
 have hl:i < (zbz cmp L).length:=by rw [zc5];exact h
 rw [List.take_succ_eq_append_getElem hl]
 congr 2
 have:=zpk cmp L i hl
 rw [List.getElem?_eq_getElem hl] at this
 exact Option.some.inj this
theorem zmg {L:List (List α)} {i:Nat} (h:i=(L.length+1) / 2):(zbz cmp L).take i=zbz cmp L:=by
 rw [List.take_of_length_le];rw [zc5];omega
theorem ygn {L:List (List α)} {l:List α} (h:zr7 cmp L=zr7 cmp (l.map fun a=> [a])) (h0:L.length=0):zks cmp l= []:=by
 rw [zks,←h,zjt cmp (by omega),List.length_eq_zero_iff.1 h0];rfl
theorem ygm {r l:List α} (h:zr7 cmp [r]=zr7 cmp (l.map fun a=> [a])):zks cmp l=r:=by
 rw [zks,←h,zjt cmp (by simp)];rfl
theorem yh5 (l:List α):(l.map fun a=> [a]).flatten=l:=by induction l <;> simp_all
structure Conf where
 f:Int
 t:Int
 k:Int
 a:Int
 b:Int
 o:Int
 p:Int
 deriving DecidableEq
def u0 (c:Conf):List AV:= [iv c.f,iv c.t,iv c.k,iv c.a,iv c.b,iv c.o,iv c.p]
def zen (l:List Conf):AV:= .list false 7 (l.map u0)
theorem za0 (l:List Conf):∀r∈l.map u0,r.all AV.one=true:=by
 intro r hr;obtain ⟨a,_,rfl⟩:=List.mem_map.1 hr;rfl
def zjj (c:Conf):List Int:= [c.f,c.t,c.k,c.a,c.b,c.o,c.p]
def zhm:List Int→List Int→Int
 | [],[]=>0
 | [],_::_=> -1
 |_::_,[]=>1
 |x::a,y::b=>if x < y then -1 else if y < x then 1 else zhm a b
def zec (a b:Conf):Int:=zhm (zjj a) (zjj b)
theorem zoc:∀a b:List Int,zhm b a= - zhm a b
 | [],[]=>rfl
 | [],_::_=>rfl
 |_::_,[]=>rfl
 |x::a,y::b=>by
  rw [zhm,zhm]
  by_cases h:x < y
  ·rw [if_neg (show ¬y < x by omega),if_pos h,if_pos h];rfl
  ·by_cases h':y < x
   ·rw [if_pos h',if_neg h,if_pos h']
   ·rw [if_neg h',if_neg h,if_neg h,if_neg h',zoc a b]
theorem zoa:∀a:List Int,zhm a a=0
 | []=>rfl
 |x::a=>by rw [zhm,if_neg (by omega),if_neg (by omega),zoa a]
theorem zn9:∀a b:List Int,zhm a b=0→a=b
 | [],[],_=>rfl
 | [],_::_,h=>by simp [zhm] at h
 |_::_,[],h=>by simp [zhm] at h
 |x::a,y::b,h=>by
  rw [zhm] at h
  split at h
  ·omega
  ·split at h
   ·omega
   ·rw [zn9 a b h,show x=y by omega]
theorem zli:∀a b c:List Int,zhm a b≤0→zhm b c≤0→zhm a c≤0
 | [],[],c,_,h=>h
 | [],_::_,[],_,_=>by simp [zhm]
 | [],_::_,_::_,_,_=>by simp [zhm]
 |_::_,[],c,h,_=>by simp [zhm] at h
 |_::_,_::_,[],_,h=>by simp [zhm] at h
 |x::a,y::b,z::c,h1,h2=>by
  rw [zhm] at h1 h2 ⊢
  split at h1
  ·split at h2
   ·rw [if_pos (by omega)];omega
   ·split at h2
    ·omega
    ·rw [if_pos (by omega)];omega
  ·split at h1
   ·omega
   ·split at h2
    ·rw [if_pos (by omega)];omega
    ·split at h2
     ·omega
     ·rw [if_neg (by omega),if_neg (by omega)];exact zli a b c h1 h2
theorem yi6 {a b:Conf} (h:zjj a=zjj b):a=b:=by
 cases a;cases b;simp only [zjj,List.cons.injEq,and_true] at h;simp only [Conf.mk.injEq];exact h
theorem zlj:CmpOk zec:=⟨fun a b c h k=>zli _ _ _ h k,fun a b=>zoc _ _⟩
theorem zod (a b:Conf) (h:zec a b=0):a=b:=yi6 (zn9 _ _ h)
theorem zkj (a:Conf):zec a a=0:=zoa _
def zek (h:Hist) (t x:Int):Int:=atO (zpx h.evs t x)
def zfu (a b:Conf):Bool:=a.f==b.f && a.t==b.t
def zew (out l:List Conf):List Conf:=l.foldl (zi1 zec) out
theorem zj4:∀(l out:List Conf),out.Pairwise (LtC zec)→(zew out l).Pairwise (LtC zec)
 | [],_,h=>h
 |c::r,out,h=>zj4 r (zi1 zec out c) (znm zlj zod h)
theorem zk1 {z:Conf}:∀(l out:List Conf),z∈zew out l ↔ z∈out∨z∈l
 | [],out=>by simp [zew]
 |c::r,out=>by
  rw [show zew out (c::r)=zew (zi1 zec out c) r from rfl,zk1 r,zqv,List.mem_cons]
  constructor
  ·rintro ((h|h)|h) <;> simp [h]
  ·rintro (h|h|h) <;> simp [h]
def za1 (a b:Conf):Bool:=a.f==b.f && a.t==b.t && a.k==b.k
def yo0 (l:List Conf):List Conf:=zc8 za1 l
theorem zjf {α:Type} {q r:α→α→Bool}:∀(l:List α) (k:α),(∀a∈l,∀b∈k::l,q a b=r a b)→zhc q k l=zhc r k l
 | [],_,_=>rfl
 |y::l,k,h=>by
  rw [zhc,zhc,h y (by simp) k (by simp),zjf l k (fun a ha b hb=>h a (by simp [ha]) b (by rcases List.mem_cons.1 hb with rfl|hb <;> simp [*])),zjf l y (fun a ha b hb=>h a (by simp [ha]) b (by rcases List.mem_cons.1 hb with rfl|hb <;> simp [*]))]
def zhb (c:Conf):Int×Int:=(c.f,c.t)
def zwe (a b:Conf):Int:=zhm [a.f,a.t] [b.f,b.t]
theorem yo9 {a b:Conf} (h:zec a b≤0):zwe a b≤0:=by
 simp only [zec,zjj,zhm] at h
 simp only [zwe,zhm]
 split
 ·omega
 ·rename_i h1
  rw [if_neg h1] at h
  split
  ·rename_i h2;rw [if_pos h2] at h;omega
  ·rename_i h2
   rw [if_neg h2] at h
   split
   ·omega
   ·rename_i h3
    rw [if_neg h3] at h
    split
    ·rename_i h4;rw [if_pos h4] at h;omega
    ·omega
theorem zf0 {a b:Conf}:zwe a b=0 ↔ zhb a=zhb b:=by
 constructor
 ·intro h
  have:=zn9 _ _ h
  simp only [List.cons.injEq,and_true] at this
  rw [zhb,zhb,this.1,this.2]
 ·intro h
  simp only [zhb,Prod.mk.injEq] at h
  rw [zwe,h.1,h.2,zoa]
theorem zp4 {a b c:Conf} (h:zwe a b≤0) (k:zwe b c≤0):zwe a c≤0:=zli _ _ _ h k
theorem zy8 (a b:Conf):zfu a b=decide (zhb a=zhb b):=by rw [zfu,Bool.eq_iff_iff];simp [zhb]
theorem zt7:∀(l:List Conf) (p:Conf),(p::l).Pairwise (LeC zec)→(∀y∈zlg zfu p l,zwe p y < 0)∧(zlg zfu p l).Pairwise (fun a b=>zwe a b < 0)∧∀c∈l,zhb c=zhb p∨∃a∈zlg zfu p l,zhb a=zhb c∧zec a c≤0
 | [],p,_=>⟨by simp [zlg],by simp [zlg],by simp⟩
 |y::r,p,h=>by
  have h':=List.pairwise_cons.1 h
  have hy:=List.pairwise_cons.1 h'.2
  obtain ⟨i1,i2,i3⟩:=zt7 r y h'.2
  have hpy:zwe p y≤0:=yo9 (h'.1 y (by simp))
  rw [zlg,zy8]
  by_cases e:zhb y=zhb p
  ·rw [if_pos (by simpa using e)]
   have e0:=zf0.2 e
   refine ⟨fun z hz=> ?_,i2,fun c hc=> ?_⟩
   ·have a1:=i1 z hz
    have a2:=zp4 hpy (Int.le_of_lt a1)
    rcases Int.lt_or_eq_of_le a2 with q|q
    ·exact q
    ·have:=zf0.1 q
     rw [←e] at this
     have:=zf0.2 this;omega
   ·rcases List.mem_cons.1 hc with rfl|hc
    ·exact .inl e
    ·rcases i3 c hc with q|q
     ·exact .inl (q.trans e)
     ·exact .inr q
  ·rw [if_neg (by simpa using e)]
   have lt:zwe p y < 0:=by
    rcases Int.lt_or_eq_of_le hpy with q|q
    ·exact q
    ·exact absurd (zf0.1 q).symm e
   refine ⟨fun z hz=> ?_,List.pairwise_cons.2 ⟨i1,i2⟩,fun c hc=> ?_⟩
   ·rcases List.mem_cons.1 hz with rfl|hz
    ·exact lt
    ·have a1:=i1 z hz
     have a2:=zp4 hpy (Int.le_of_lt a1)
     rcases Int.lt_or_eq_of_le a2 with q|q
     ·exact q
     ·have hk:=zf0.1 q
      have a3:zwe y z < 0:=a1
      have a4:zhm [z.f,z.t] [y.f,y.t]= - zhm [y.f,y.t] [z.f,z.t]:=zoc _ _
      have a5:zhm [p.f,p.t] [y.f,y.t]=zhm [z.f,z.t] [y.f,y.t]:=by
       simp only [zhb,Prod.mk.injEq] at hk;rw [hk.1,hk.2]
      simp only [zwe] at lt a3
      omega
   ·rcases List.mem_cons.1 hc with rfl|hc
    ·exact .inr ⟨c,by simp,rfl,by rw [zkj];exact Int.le_refl _⟩
    ·rcases i3 c hc with q|⟨a,ha,q1,q2⟩
     ·exact .inr ⟨y,by simp,q.symm,hy.1 c hc⟩
     ·exact .inr ⟨a,by simp [ha],q1,q2⟩
theorem yev (l:List Conf) (h:l.Pairwise (LeC zec)):(zlh zfu l).Pairwise (fun a b=>zwe a b < 0)∧∀c∈l,∃a∈zlh zfu l,zhb a=zhb c∧zec a c≤0:=by
 cases l with
 |nil=>exact ⟨.nil,by simp⟩
 |cons x r=>
  obtain ⟨i1,i2,i3⟩:=zt7 r x h
  have h':=List.pairwise_cons.1 h
  refine ⟨List.pairwise_cons.2 ⟨i1,i2⟩,fun c hc=> ?_⟩
  rcases List.mem_cons.1 hc with rfl|hc
  ·exact ⟨c,by simp [zlh],rfl,by rw [zkj];exact Int.le_refl _⟩
  ·rcases i3 c hc with q|⟨a,ha,q1,q2⟩
   ·exact ⟨x,by simp [zlh],q.symm,h'.1 c hc⟩
   ·exact ⟨a,by simp [zlh,ha],q1,q2⟩
theorem zk0 {K V:Type} [DecidableEq K] (k:K) (v:V):∀m:List (K×V),(m.map Prod.fst).Nodup→((ze0 k v m).map Prod.fst).Nodup∧∀z,z∈(ze0 k v m).map Prod.fst ↔ z=k∨z∈m.map Prod.fst
 | [],_=>⟨by simp [ze0],by simp [ze0]⟩
 |p::r,h=>by
  rw [List.map_cons,List.nodup_cons] at h
  obtain ⟨i1,i2⟩:=zk0 k v r h.2
  rw [ze0]
  by_cases e:p.1=k
  ·rw [if_pos e]
   exact ⟨by rw [List.map_cons,List.nodup_cons];exact h,fun z=>by simp [e]⟩
  ·rw [if_neg e]
   have hnm:p.1 ∉ (ze0 k v r).map Prod.fst:=fun q=>by
    rcases (i2 _).1 q with q|q
    ·exact e q
    ·exact h.1 q
   refine ⟨by rw [List.map_cons,List.nodup_cons];exact ⟨hnm,i1⟩,fun z=> ?_⟩
   ·rw [List.map_cons,List.mem_cons,i2,List.map_cons,List.mem_cons]
    constructor
    ·rintro (q|q|q) <;> simp [q]
    ·rintro (q|q|q) <;> simp [q]
def yp0 (t:Int):Ev:=⟨1,t,0,1,0,⟨0,0⟩,0,[]⟩
def yud (t o:Int):Ev:=⟨2,t,0,0,o,⟨t,1⟩,0,[]⟩
def ypz (t:Int):Ev:=⟨5,t,0,0,0,⟨0,0⟩,0,[]⟩
def wT (n:UInt8):ByteArray:=⟨#[84,n]⟩
def zym:ByteArray:=⟨#[115]⟩
def bxx:ByteArray:=⟨#[120]⟩
def zyy (l:List Conf) (z:Conf):Prop:=z∈l∧∀c∈l,zhb c=zhb z→zec z c≤0
theorem zl5 {a b:Conf} (h:zec a b≤0) (k:zec b a≤0):a=b:=by
 have:=zlj.anti a b
 exact zod a b (by omega)
theorem yai {l:List Conf} (h:(zlh zfu l).Pairwise (fun a b=>zwe a b < 0)) {a z:Conf} (ha:a∈zlh zfu l) (hz:z∈zlh zfu l) (e:zhb a=zhb z):a=z:=by
 obtain ⟨i,hi,rfl⟩:=List.mem_iff_getElem.1 ha
 obtain ⟨j,hj,rfl⟩:=List.mem_iff_getElem.1 hz
 have e1:=zf0.2 e
 have e2:=zf0.2 e.symm
 by_cases hij:i=j
 ·subst hij;rfl
 ·rcases Nat.lt_or_gt_of_ne hij with q|q
  ·have:=(List.pairwise_iff_getElem.1 h) i j hi hj q;omega
  ·have:=(List.pairwise_iff_getElem.1 h) j i hj hi q;omega
theorem yeu {l:List Conf} (h:l.Pairwise (LeC zec)) (z:Conf):z∈zlh zfu l ↔ zyy l z:=by
 obtain ⟨hp,hq⟩:=yev l h
 constructor
 ·intro hz
  refine ⟨(zn5 _ _).subset hz,fun c hc e=> ?_⟩
  obtain ⟨a,ha,e1,e2⟩:=hq c hc
  have:=yai hp ha hz (e1.trans e)
  rw [this] at e2;exact e2
 ·rintro ⟨hz,hm⟩
  obtain ⟨a,ha,e1,e2⟩:=hq z hz
  have:=zl5 e2 (hm a ((zn5 _ _).subset ha) e1)
  rw [←this];exact ha
def ziw (m:List ((Int×Int)×Conf)) (c:Conf):List ((Int×Int)×Conf):=match zbt (zhb c) m with
 |none=>ze0 (zhb c) c m
 |some b=>if zec c b < 0 then ze0 (zhb c) c m else m
def zcp (l:List Conf):List ((Int×Int)×Conf):=l.foldl ziw []
theorem zwh {l:List Conf} {c:Conf}:zcp (l++ [c])=ziw (zcp l) c:=by rw [zcp,List.foldl_append];rfl
def zoo (l:List Conf) (m:List ((Int×Int)×Conf)):Prop:=∀k,match zbt k m with
 |none=>∀c∈l,zhb c≠k
 |some z=>zhb z=k∧zyy l z
theorem zp7 {l:List Conf} {m:List ((Int×Int)×Conf)} {c:Conf} (h:zoo l m) (hc:∀d∈l,zhb d=zhb c→zec c d≤0):zoo (l++ [c]) (ze0 (zhb c) c m):=by
 intro k
 rw [zde]
 by_cases e:zhb c=k
 ·rw [if_pos e]
  refine ⟨e,by simp,fun d hd ed=> ?_⟩
  rcases List.mem_append.1 hd with hd|hd
  ·exact hc d hd ed
  ·rw [List.mem_singleton] at hd;rw [hd,zkj];exact Int.le_refl _
 ·rw [if_neg e]
  have:=h k
  cases hg:zbt k m with
  |none=>
   rw [hg] at this
   intro d hd
   rcases List.mem_append.1 hd with hd|hd
   ·exact this d hd
   ·rw [List.mem_singleton] at hd;rw [hd];exact e
  |some z=>
   rw [hg] at this
   obtain ⟨h1,h2,h3⟩:=this
   refine ⟨h1,List.mem_append_left _ h2,fun d hd ed=> ?_⟩
   rcases List.mem_append.1 hd with hd|hd
   ·exact h3 d hd ed
   ·rw [List.mem_singleton] at hd;rw [hd,h1] at ed;exact absurd ed e
theorem yjo {l:List Conf} {m:List ((Int×Int)×Conf)} (h:zoo l m) (c:Conf):zoo (l++ [c]) (ziw m c):=by
 unfold ziw
 have hk:=h (zhb c)
 cases hg:zbt (zhb c) m with
 |none=>
  rw [hg] at hk
  simp only
  exact zp7 h fun d hd e=>absurd e (hk d hd)
 |some b=>
  rw [hg] at hk
  obtain ⟨h1,h2,h3⟩:=hk
  simp only
  by_cases hlt:zec c b < 0
  ·rw [if_pos hlt]
   exact zp7 h fun d hd e=>zlj.trans _ _ _ (Int.le_of_lt hlt) (h3 d hd (e.trans h1.symm))
  ·rw [if_neg hlt]
   intro k
   have hq:=h k
   cases hg2:zbt k m with
   |none=>
    rw [hg2] at hq
    intro d hd
    rcases List.mem_append.1 hd with hd|hd
    ·exact hq d hd
    ·rw [List.mem_singleton] at hd;rw [hd]
     intro e;rw [e,hg2] at hg;cases hg
   |some z=>
    rw [hg2] at hq
    obtain ⟨q1,q2,q3⟩:=hq
    refine ⟨q1,List.mem_append_left _ q2,fun d hd ed=> ?_⟩
    rcases List.mem_append.1 hd with hd|hd
    ·exact q3 d hd ed
    ·rw [List.mem_singleton] at hd
     rw [hd] at ed ⊢
     have e2:k=zhb c:=q1.symm.trans ed.symm
     rw [e2,hg] at hg2
     injection hg2 with hg2
     rw [←hg2]
     have:=zlj.anti c b;omega
theorem zyp (l:List Conf):zoo l (zcp l):=by
 suffices h:∀(l p:List Conf) (m:List ((Int×Int)×Conf)),zoo p m→zoo (p++l) (l.foldl ziw m) by
  have:=h l [] [] (fun k=>by simp [zbt])
  simpa [zcp] using this
 intro l
 induction l with
 |nil=>intro p m h;simpa using h
 |cons c r ih=>
  intro p m h
  have:=ih (p++ [c]) (ziw m c) (yjo h c)
  simpa using this
theorem zwg {m:List ((Int×Int)×Conf)} (h:(m.map Prod.fst).Nodup) (c:Conf):((ziw m c).map Prod.fst).Nodup:=by
 unfold ziw
 split
 ·exact (zk0 _ _ _ h).1
 ·split
  ·exact (zk0 _ _ _ h).1
  ·exact h
theorem zf1 (l:List Conf):((zcp l).map Prod.fst).Nodup:=by
 suffices h:∀(l:List Conf) (m:List ((Int×Int)×Conf)),(m.map Prod.fst).Nodup→((l.foldl ziw m).map Prod.fst).Nodup by exact h l [] .nil
 intro l
 induction l with
 |nil=>intro m h;exact h
 |cons c r ih=>intro m h;exact ih _ (zwg h c)
theorem zkd {K V:Type} [DecidableEq K] {k:K} {v:V}:∀{m:List (K×V)},(m.map Prod.fst).Nodup→(zbt k m=some v ↔ (k,v)∈m)
 | [],_=>by simp [zbt]
 |p::r,h=>by
  rw [List.map_cons,List.nodup_cons] at h
  rw [zbt,List.mem_cons]
  by_cases e:p.1=k
  ·rw [if_pos e]
   constructor
   ·intro q;injection q with q;left;rw [←e,←q]
   ·rintro (q|q)
    ·rw [←q]
    ·exact absurd (List.mem_map.2 ⟨_,q,e.symm⟩) h.1
  ·rw [if_neg e,zkd h.2]
   constructor
   ·exact .inr
   ·rintro (q|q)
    ·exact absurd (by rw [←q]) e
    ·exact q
theorem ye8 {l:List Conf} {z:Conf}:z∈(zcp l).map Prod.snd ↔ zyy l z:=by
 have hn:=zf1 l
 constructor
 ·intro h
  obtain ⟨p,hp,rfl⟩:=List.mem_map.1 h
  have hg:=(zkd (k:=p.1) (v:=p.2) hn).2 hp
  have:=zyp l p.1
  rw [hg] at this
  exact this.2
 ·intro h
  have:=zyp l (zhb z)
  cases hg:zbt (zhb z) (zcp l) with
  |none=>rw [hg] at this;exact absurd rfl (this z h.1)
  |some y=>
   rw [hg] at this
   obtain ⟨h1,h2,h3⟩:=this
   have:y=z:=zl5 (h3 z h.1 h1.symm) (h.2 y h2 h1)
   subst this
   exact List.mem_map.2 ⟨_,(zkd hn).1 hg,rfl⟩
theorem ye7 {l out:List Conf} (hp:out.Perm ((zcp l).map Prod.snd)) {L:List Conf} (hL:L.Pairwise (LtC zec)) (hm:∀z,z∈L ↔ z∈l):zks zec out=zlh zfu L:=by
 have hLe:L.Pairwise (LeC zec):=hL.imp fun h=>Int.le_of_lt h
 have hnd:out.Nodup:=by
  rw [hp.nodup_iff,List.Nodup,List.pairwise_map]
  have hn:=zf1 l
  rw [List.Nodup,List.pairwise_map] at hn
  rw [List.pairwise_iff_getElem] at hn ⊢
  intro i j hi hj hij e
  have k1:∀p∈zcp l,zhb p.2=p.1:=fun p hp=>by
   have hg:=(zkd (k:=p.1) (v:=p.2) (zf1 l)).2 hp
   have:=zyp l p.1
   rw [hg] at this
   exact this.1
  have:=hn i j hi hj hij
  rw [←k1 _ (List.getElem_mem hi),←k1 _ (List.getElem_mem hj),e] at this
  exact this rfl
 refine ydi zlj _ _ (yim zod (zsa zlj _) ((zkr _ _).nodup_iff.2 hnd)) (hL.sublist (zn5 _ _)) fun z=> ?_
 rw [(zkr zec _).mem_iff,hp.mem_iff,ye8,yeu hLe]
 unfold zyy
 rw [hm]
 exact ⟨fun h=>⟨h.1,fun c hc=>h.2 c ((hm c).1 hc)⟩,fun h=>⟨h.1,fun c hc=>h.2 c ((hm c).2 hc)⟩⟩
abbrev RkM:=List ((Int×Int×Int)×Int)
def zuj (x:Int) (v:Ver):Int×Int×Int:=(x,v.t,v.k)
theorem zjs {x y:Int} {v w:Ver}:zuj x v=zuj y w ↔ x=y∧v=w:=by
 cases v;cases w;simp [zuj]
def zlc (h:Hist) (x t:Int):Ver:=zr1 (zpx h.evs t x)
def zit (h:Hist) (x:Int):Nat→List Int→RkM→RkM
 |_,[],m=>m
 |i,t::r,m=>zit h x (i+1) r (ze0 (zuj x (zlc h x t)) ((i:Int)+1) m)
def yg3 (h:Hist) (x:Int) (m:RkM):RkM:=zit h x 0 (zb6 h x) (ze0 (zuj x ⟨0,0⟩) 0 m)
def rkM (h:Hist):Nat→RkM
 |0=> []
 |n+1=>yg3 h n (rkM h n)
theorem zph (h:Hist) (x:Int):∀(l:List Int) (i:Nat) (t:Int) (m:RkM),zit h x i (l++ [t]) m=ze0 (zuj x (zlc h x t)) (((i+l.length:Nat):Int)+1) (zit h x i l m)
 | [],i,t,m=>by simp [zit]
 |a::r,i,t,m=>by
  rw [List.cons_append,zit,zph h x r (i+1) t,zit,List.length_cons,show i+1+r.length=i+(r.length+1) by omega]
theorem ymt {h:Hist} {x:Int} {l:List Int} {k:Nat} (hk:k < l.length) (m:RkM):zit h x 0 (l.take (k+1)) m=ze0 (zuj x (zlc h x l[k])) ((k:Int)+1) (zit h x 0 (l.take k) m):=by
 rw [List.take_succ_eq_append_getElem hk,zph,List.length_take,Nat.min_eq_left (by omega),Nat.zero_add]
theorem zi9 (h:Hist) {x y:Int} (hxy:y≠x) (v:Ver):∀(l:List Int) (i:Nat) (m:RkM),zbt (zuj y v) (zit h x i l m)=zbt (zuj y v) m
 | [],_,_=>rfl
 |t::r,i,m=>by
  rw [zit,zi9 h hxy v r (i+1),zde,if_neg]
  intro e;exact hxy ((zjs.1 e).1).symm
theorem zsq (h:Hist) (x:Int) (v:Ver):∀(l:List Int) (i:Nat) (m:RkM),(l.map (zlc h x)).Nodup→zbt (zuj x v) (zit h x i l m)=if zbx (fun t=>zlc h x t==v) i l ≥ 0 then some (zbx (fun t=>zlc h x t==v) i l+1) else zbt (zuj x v) m
 | [],i,m,_=>by rw [zit,zbx,if_neg (by decide)]
 |t::r,i,m,hn=>by
  rw [List.map_cons,List.nodup_cons] at hn
  rw [zit,zsq h x v r (i+1) _ hn.2]
  by_cases e:zlc h x t=v
  ·have hno:decide (zbx (fun t=>zlc h x t==v) (i+1) r ≥ 0)=false:=by
    rw [ze2,List.any_eq_false]
    intro z hz q
    exact hn.1 (by rw [e,←eq_of_beq q];exact List.mem_map_of_mem hz)
   have e1:zbx (fun t=>zlc h x t==v) i (t::r)=(i:Int):=by rw [zbx,if_pos (by simpa using e)]
   rw [e1,if_neg (oF hno),if_pos (by omega),zde,if_pos (by rw [e])]
  ·have e1:zbx (fun t=>zlc h x t==v) i (t::r)=zbx (fun t=>zlc h x t==v) (i+1) r:=by rw [zbx,if_neg (by simpa using e)]
   rw [e1]
   by_cases q:zbx (fun t=>zlc h x t==v) (i+1) r ≥ 0
   ·rw [if_pos q,if_pos q]
   ·rw [if_neg q,if_neg q,zde,if_neg]
    intro e2;exact e ((zjs.1 e2).2)
theorem yeb {h:Hist} (hs:za2 h=true) {x:Int} (h0:0≤x) (h1:x < h.os.length):((zb6 h x).map (zlc h x)).Nodup∧∀t∈zb6 h x,zlc h x t≠⟨0,0⟩:=by
 obtain ⟨hn,_,hm⟩:=zjg hs h0 h1
 have hv:∀t∈zb6 h x,(zlc h x t).t=t∧0 < (zlc h x t).k:=fun t ht=>by
  obtain ⟨w1,_⟩:=zi6.1 ((hm t).1 ht)
  obtain ⟨v,i,hf⟩:=yec w1
  obtain ⟨_,_,_,vt,vk,_⟩:=zkf hs hf
  rw [zlc,hf];exact ⟨vt,vk⟩
 constructor
 ·rw [List.Nodup,List.pairwise_map]
  refine (List.pairwise_iff_getElem).2 fun i j hi hj hij e=> ?_
  have a:=(hv _ (List.getElem_mem hi)).1
  have b:=(hv _ (List.getElem_mem hj)).1
  rw [e] at a
  exact (List.pairwise_iff_getElem.1 hn) i j hi hj hij (a.symm.trans b)
 ·intro t ht e
  have:=(hv t ht).2
  rw [e] at this;exact absurd this (by decide)
theorem yb2 (h:Hist) (x:Int) (v:Ver):∀n:Nat,(n:Int)≤x∨x < 0→zbt (zuj x v) (rkM h n)=none
 |0,_=>rfl
 |n+1,hx=>by
  have hne:x≠(n:Int):=by omega
  rw [rkM,yg3,zi9 h hne,zde,if_neg,yb2 h x v n (by omega)]
  intro e;exact hne ((zjs.1 e).1).symm
theorem zqq {h:Hist} (hs:za2 h=true) {x:Int} (v:Ver) (h0:0≤x) (h1:x < h.os.length):∀n:Nat,n≤h.os.length→x < n→zbt (zuj x v) (rkM h n)=if v=⟨0,0⟩ then some 0 else if zou h x v ≥ 0 then some (zou h x v+1) else none
 |0,_,hx=>absurd hx (by omega)
 |n+1,hn,hx=>by
  by_cases e:x=(n:Int)
  ·subst e
   obtain ⟨a,b⟩:=yeb hs h0 h1
   rw [rkM,yg3,zsq h _ v _ _ _ a,zde]
   have hr:zbx (fun t=>zlc h (n:Int) t==v) 0 (zb6 h n)=zou h n v:=rfl
   rw [hr]
   by_cases hv:v=⟨0,0⟩
   ·subst hv
    have:decide (zou h n ⟨0,0⟩ ≥ 0)=false:=by
     rw [zou,ze2,List.any_eq_false]
     intro t ht q
     exact b t ht (eq_of_beq q)
    rw [if_neg (oF this),if_pos rfl,if_pos rfl]
   ·rw [if_neg hv,if_neg (fun e=>hv ((zjs.1 e).2).symm),yb2 h _ v n (.inl (Int.le_refl _))]
  ·rw [rkM,yg3,zi9 h e,zde,if_neg (fun q=>e ((zjs.1 q).1).symm)]
   exact zqq hs v h0 h1 n (by omega) (by omega)
def zq1 (p o:Int) (r:Mat):Bool:=r.p==p && r.o==o
def ykr (h:Hist) (p o:Int):Option Mat:=h.mats.find? (zq1 p o)
def ypw:Mat:=⟨0,0,false,[]⟩
def yfx (h:Hist) (p o:Int):Mat:=(ykr h p o).getD ypw
def yj2 (m:Mat) (ts:List Int):List Bool:=m.first::ts.map (fun t=>m.ts.contains t)
def zwx (h:Hist) (p o:Int):List Bool:=yj2 (yfx h p o) (zb6 h o)
def zoi (l:List Bool):AV:= .list false 1 (l.map zoj)
theorem yh6 (l:List Bool):∀r∈l.map zoj,r.all AV.one=true:=by
 intro r hr;obtain ⟨a,_,rfl⟩:=List.mem_map.1 hr;rfl
theorem zww (m:Mat) (ts:List Int):(yj2 m ts).length=ts.length+1:=by simp [yj2]
def yfz (h:Hist) (o:Int):Int:=zho h o h.os.length
def zjo (h:Hist) (p o:Int):Int:=if yfz h o=0 then (if 0≤p∧p < h.ps.length then 0 else 2) else yfz h o
def mtE (h:Hist) (p o r:Int):Int:=if zjo h p o=0 then (if 0≤r∧r < (zwx h p o).length then 0 else 2) else zjo h p o
def mtB (h:Hist) (p o r:Int):Bool:=if mtE h p o r=0 then ((zwx h p o)[r.toNat]?).getD false else false
def zub (l:List Bool):Nat→List Int
 |0=> []
 |k+1=>zub l k++(if 0 < k∧l[k]? ≠l[k - 1]? then [(k:Int)] else [])
def yp1 (l:List Bool):List Int:=zub l l.length
def chL (h:Hist) (p o:Int):List Int:=if zjo h p o=0 then yp1 (zwx h p o) else []
theorem zmu (l:List Bool):∀(n:Nat) (z:Int),z∈zub l n ↔ ∃k:Nat,z=k∧0 < k∧k < n∧l[k]? ≠l[k - 1]?
 |0,z=>by simp [zub]
 |n+1,z=>by
  rw [zub,List.mem_append,zmu l n z]
  constructor
  ·rintro (⟨k,h1,h2,h3,h4⟩|h)
   ·exact ⟨k,h1,h2,by omega,h4⟩
   ·split at h
    ·rename_i hc
     rw [List.mem_singleton] at h
     exact ⟨n,h,hc.1,by omega,hc.2⟩
    ·cases h
  ·rintro ⟨k,h1,h2,h3,h4⟩
   by_cases e:k=n
   ·subst e;right;rw [if_pos ⟨h2,h4⟩,h1];simp
   ·left;exact ⟨k,h1,h2,by omega,h4⟩
theorem zwf (l:List Bool):∀n:Nat,(zub l n).Pairwise (· < ·)
 |0=> .nil
 |n+1=>by
  rw [zub,List.pairwise_append]
  refine ⟨zwf l n,by split <;> simp,fun a ha b hb=> ?_⟩
  obtain ⟨k,rfl,_,h3,_⟩:=(zmu l n a).1 ha
  split at hb
  ·rw [List.mem_singleton] at hb;subst hb;omega
  ·cases hb
theorem zyg (l:List Bool):∀n:Nat,(zub l n).length≤n
 |0=>by simp [zub]
 |n+1=>by
  have:=zyg l n
  rw [zub,List.length_append]
  split <;> simp <;> omega
theorem yto {l:List Bool} {k:Nat} (h:k=0):zub l (k+1)=zub l k:=by rw [zub,if_neg (by omega)];simp
def mtM (m:Option Mat) (ts:List Int) (r:Int):Bool:=match m with
 |none=>false
 |some m=>if r=0 then m.first else m.ts.contains ((ts[(r - 1).toNat]?).getD 0)
def zuk (h:Hist) (p x r:Int):Bool:=mtM (ykr h p x) (zdn h x) r
def chR (f:Nat→Bool):Nat→List Int
 |0=> []
 |k+1=>chR f k++(if f (k+1)≠f k then [((k+1:Nat):Int)] else [])
theorem chR_len (f:Nat→Bool):∀n:Nat,(chR f n).length≤n
 |0=>by simp [chR]
 |n+1=>by
  have:=chR_len f n
  rw [chR,List.length_append]
  split <;> simp <;> omega
theorem zyh {l:List Bool} {f:Nat→Bool} (hf:∀k,(h:k < l.length)→l[k]=f k):∀k,k < l.length→zub l (k+1)=chR f k
 |0,h=>yto rfl
 |k+1,h=>by
  rw [zub,zyh hf k (by omega),chR]
  congr 1
  rw [List.getElem?_eq_getElem h,show k+1 - 1=k by omega,List.getElem?_eq_getElem (show k < l.length by omega),hf _ h,hf k (by omega)]
  by_cases e:f (k+1)=f k
  ·rw [if_neg (by rw [e];simp),if_neg (by simpa using e)]
  ·rw [if_pos ⟨by omega,by simpa using e⟩,if_pos e]
theorem zm2 (h:Hist) (p o:Int):(zwx h p o).length=(zb6 h o).length+1:=zww _ _
theorem ygh (m:Option Mat) (ts:List Int) {k:Nat} (hk:k < (yj2 (m.getD ypw) ts).length):(yj2 (m.getD ypw) ts)[k]=mtM m ts k:=by
 unfold mtM
 have hl:=zww (m.getD ypw) ts
 cases m with
 |none=>cases k with
  |zero=>rfl
  |succ k=>simp only [yj2,List.getElem_cons_succ,List.getElem_map];rfl
 |some m=>cases k with
  |zero=>rfl
  |succ k=>
   have hk':k < ts.length:=by omega
   simp only [yj2,List.getElem_cons_succ,List.getElem_map]
   rw [if_neg (by omega),show (((k+1:Nat):Int) - 1).toNat=k by omega,List.getElem?_eq_getElem hk'];rfl
theorem ylv {h:Hist} {p x:Int} (hi:zb6 h x=zdn h x) {k:Nat} (hk:k < (zwx h p x).length):(zwx h p x)[k]=zuk h p x k:=by
 rw [zuk,←hi];exact ygh (ykr h p x) (zb6 h x) hk
theorem ydu {h:Hist} {x:Int}:yfz h x=0 ↔ u6 h=0∧0≤x∧x < h.os.length:=by
 constructor
 ·intro e
  obtain ⟨a,b⟩:=ypi e
  exact ⟨zbh.2 a,b⟩
 ·rintro ⟨a,b⟩;exact zwl a b
theorem zy3 {h:Hist} {p x:Int}:zjo h p x=0 ↔ u6 h=0∧(0≤x∧x < h.os.length)∧0≤p∧p < h.ps.length:=by
 unfold zjo
 by_cases e:yfz h x=0
 ·rw [if_pos e]
  obtain ⟨a,b⟩:=ydu.1 e
  by_cases hp:0≤p∧p < h.ps.length
  ·rw [if_pos hp];exact ⟨fun _=>⟨a,b,hp⟩,fun _=>rfl⟩
  ·rw [if_neg hp];exact ⟨fun q=>(by cases q),fun q=>absurd q.2.2 hp⟩
 ·rw [if_neg e];exact ⟨fun q=>absurd q e,fun q=>absurd (ydu.2 ⟨q.1,q.2.1⟩) e⟩
theorem yxa {h:Hist} {p x r:Int} (he:zjo h p x≠0):mtE h p x r=zjo h p x∧mtB h p x r=false∧chL h p x= []:=by
 have e:mtE h p x r=zjo h p x:=by rw [mtE,if_neg he]
 exact ⟨e,by rw [mtB,e,if_neg he],by rw [chL,if_neg he]⟩
theorem zqh {h:Hist} {p x:Int} (he:zjo h p x=0):zb6 h x=zdn h x:=by
 obtain ⟨a,⟨b,c⟩,_⟩:=zy3.1 he
 exact zpr (zbh.1 a) b c
theorem yxd {h:Hist} {p x:Int} (he:zjo h p x=0):chL h p x=chR (fun k=>zuk h p x k) (zdn h x).length:=by
 have hi:=zqh he
 have hl:=zm2 h p x
 rw [chL,if_pos he,yp1,hl,←hi]
 exact zyh (f:=fun k=>zuk h p x k) (fun k hk=>ylv hi hk) _ (by omega)
def zuz (scan:List Seen) (x:Int):Option Ver:=(scan.filter fun s=>s.o==x).getLast?.map Seen.v
def yft (l:List Ev) (t:Int) (n:Nat) (scan:List Seen) (x:Int):Ver:=match zuz scan x with
 |some v=>v
 |none=>zr1 (zd1 l t x n)
def yas (l:List Ev) (t:Int):List (Int×Ver):=yfy (fun e:Ev=>e.t==t && e.kind==2) Ev.o Ev.v [] l
def ymc (m:List (Int×Ver)) (scan:List Seen):List (Int×Ver):=yfy (fun _:Seen=>true) Seen.o Seen.v m scan
theorem ycy {l:List Ev} {t:Int} {k:Nat} (hk:k < l.length) (h:(l[k].t==t && l[k].kind==2)=true):yas (l.take (k+1)) t=ze0 l[k].o l[k].v (yas (l.take k) t):=by
 rw [List.take_succ_eq_append_getElem hk,yas,yfy,List.foldl_append,List.foldl_cons,List.foldl_nil,if_pos h];rfl
theorem ycz {l:List Ev} {t:Int} {k:Nat} (hk:k < l.length) (h:(l[k].t==t && l[k].kind==2)=false):yas (l.take (k+1)) t=yas (l.take k) t:=by
 rw [List.take_succ_eq_append_getElem hk,yas,yfy,List.foldl_append,List.foldl_cons,List.foldl_nil,if_neg (by rw [h];decide)];rfl
theorem yqk {m:List (Int×Ver)} {l:List Seen} {k:Nat} (hk:k < l.length):ymc m (l.take (k+1))=ze0 l[k].o l[k].v (ymc m (l.take k)):=by
 rw [List.take_succ_eq_append_getElem hk,ymc,yfy,List.foldl_append,List.foldl_cons,List.foldl_nil,if_pos rfl];rfl
theorem zly (l:List Ev) (t x:Int):∀n,n≤l.length→(zd1 l t x n).map Prod.fst=(((l.take n).filter (zat t x)).getLast?).map Ev.v
 |0,_=>by simp [zd1]
 |n+1,hn=>by
  have hk:n < l.length:=hn
  rw [zd1,List.getElem?_eq_getElem hk,List.take_succ_eq_append_getElem hk,List.filter_append]
  simp only
  by_cases hw:zat t x l[n]=true
  ·rw [if_pos hw,List.filter_cons_of_pos hw];simp
  ·rw [if_neg hw,List.filter_cons_of_neg hw,zly l t x n (by omega)];simp
theorem ynk {l:List Ev} {t x:Int} {n:Nat} (scan:List Seen) (hn:n≤l.length):(zbt x (ymc (yas (l.take n) t) scan)).getD ⟨0,0⟩=yft l t n scan x:=by
 have h1:zbt x (yas (l.take n) t)=(zd1 l t x n).map Prod.fst:=by
  rw [zly l t x n hn,yas,zmo]
  have:((l.take n).filter fun e=>(e.t==t && e.kind==2) && decide (e.o=x))=(l.take n).filter (zat t x):=by
   refine List.filter_congr fun e _=> ?_
   rw [zat,Bool.eq_iff_iff];simp only [Bool.and_eq_true,beq_iff_eq,decide_eq_true_eq]
   exact ⟨fun ⟨⟨a,b⟩,c⟩=>⟨⟨b,a⟩,c⟩,fun ⟨⟨a,b⟩,c⟩=>⟨⟨b,a⟩,c⟩⟩
  rw [this]
  cases (((l.take n).filter (zat t x)).getLast?).map Ev.v <;> rfl
 have h2:(scan.filter fun e=>true && decide (e.o=x))=scan.filter fun s=>s.o==x:=by
  refine List.filter_congr fun e _=> ?_
  rw [Bool.true_and];rfl
 rw [ymc,zmo,h1,h2,yft,zuz]
 cases ((scan.filter fun s=>s.o==x).getLast?).map Seen.v with
 |some v=>rfl
 |none=>cases zd1 l t x n <;> rfl
def zau (h:Hist) (e:Ev) (n:Nat):List Seen:=(upR h.os.length).map fun x=>⟨x,yft h.evs e.t n e.scan x⟩
theorem ybo {scan:List Seen} {x:Int} {k:Nat} (hk:k < scan.length):zuz (scan.take (k+1)) x=if (scan[k].o==x)=true then some scan[k].v else zuz (scan.take k) x:=by
 rw [zuz,List.take_succ_eq_append_getElem hk,List.filter_append]
 by_cases e:(scan[k].o==x)=true
 ·rw [if_pos e,List.filter_cons_of_pos (p:=fun s:Seen=>s.o==x) e];simp
 ·rw [if_neg e,List.filter_cons_of_neg (p:=fun s:Seen=>s.o==x) e];simp [zuz]
theorem yuk {h:Hist} {e:Ev} {n m:Nat} (hm:m < (zau h e n).length):(zau h e n)[m].o=m:=by
 simp only [zau,List.getElem_map];simp [upR]
theorem zm6 (h:Hist) (e:Ev) (n:Nat):(zau h e n).length=h.os.length:=by rw [zau,oM,upR,oM,List.length_range]
def zet (h:Hist) (e:Ev) (c:Int) (a:Nat) (x r:Int):Option Conf:=
 if r > ((zb6 h x).length:Int) then none else if (((zb6 h x)[(r - 1).toNat]?).getD 0==e.t)=true then none
 else some ⟨e.t,((zb6 h x)[(r - 1).toNat]?).getD 0,c,a,zek h (((zb6 h x)[(r - 1).toNat]?).getD 0) x,x,e.p⟩
def zmb (h:Hist) (x:Int) (v:Ver):Option Int:=zbt (zuj x v) (rkM h h.os.length)
def ze5 (h:Hist) (e:Ev):List (Int×List Int):=match zmb h e.o e.v with
 |none=> []
 |some r=> [(e.o,[r+1])]
def rwOver (h:Hist) (p x r:Int):List Int:=(chL h p x).dropWhile fun k=> !decide (k > r)
def zdz (h:Hist) (e:Ev) (s:Seen):Option (Int×List Int):=match zmb h s.o s.v with
 |none=>none
 |some r=>if (chL h e.p s.o).any (fun k=>decide (k > r))=true then some (s.o,rwOver h e.p s.o r) else none
def zii (h:Hist) (e:Ev) (a:Nat):List (Int×List Int):=(zau h e a).filterMap (zdz h e)
def j3 (h:Hist) (e:Ev) (a:Nat):List (Int×List Int):=if e.kind=3 then ze5 h e else if e.kind=4 then zii h e a else []
def zgd (e:Ev):Int:=if e.kind=3 then 3 else if e.kind=4 then 4 else 0
def zcg (h:Hist) (e:Ev) (a:Nat):List Conf:=if zgf h.evs e.t 5=true then (j3 h e a).flatMap fun p=>p.2.filterMap (zet h e (zgd e) a p.1) else []
def rkR (h:Hist) (x:Int) (v:Ver):Option Int:=if v=⟨0,0⟩ then some 0 else if zbx (fun t=>zlc h x t==v) 0 (zdn h x) ≥ 0 then some (zbx (fun t=>zlc h x t==v) 0 (zdn h x)+1) else none
def zhq (h:Hist) (e:Ev) (a:Nat):List Conf:=match rkR h e.o e.v with
 |none=> []
 |some r=>match (zdn h e.o)[r.toNat]? with
  |none=> []
  |some t=>if (t==e.t)=true then [] else [⟨e.t,t,3,a,zek h t e.o,e.o,0⟩]
def zfl (h:Hist) (e:Ev) (a:Nat) (s:Seen) (k:Int):Option Conf:=match rkR h s.o s.v with
 |none=>none
 |some r=>if k≤r then none else if (((zdn h s.o)[(k - 1).toNat]?).getD 0==e.t)=true then none
  else some ⟨e.t,((zdn h s.o)[(k - 1).toNat]?).getD 0,4,a,zek h (((zdn h s.o)[(k - 1).toNat]?).getD 0) s.o,s.o,e.p⟩
def zir (h:Hist) (p x:Int):List Int:=chR (fun k=>zuk h p x (k:Nat)) (zdn h x).length
def zsi (h:Hist) (e:Ev) (a:Nat):List Conf:=(zau h e a).flatMap fun s=>(zir h e.p s.o).filterMap (zfl h e a s)
def zeb (h:Hist) (e:Ev) (a:Nat):List Conf:=if zgf h.evs e.t 5=true then (if e.kind=3 then zhq h e a else if e.kind=4 then zsi h e a else []) else []
theorem yms {h:Hist} (hs:za2 h=true) {x:Int} (h0:0≤x) (h1:x < h.os.length) (v:Ver):zmb h x v=rkR h x v:=by
 rw [zmb,zqq hs v h0 h1 _ (Nat.le_refl _) h1,rkR,zou,←zpr hs h0 h1];rfl
theorem yb1 {h:Hist} {x:Int} {v:Ver} {r:Int} (e:rkR h x v=some r):0≤r:=by
 unfold rkR at e
 split at e
 ·injection e with e;omega
 ·split at e
  ·rename_i q;injection e with e;omega
  ·cases e
theorem zsy {h:Hist} {e:Ev} (he:zcb h e=true) (h3:e.kind=3):(0≤e.o∧e.o < h.os.length)∧e.p=0:=by
 obtain ⟨_,_,_,hc,hq⟩:=zcd he
 constructor
 ·rw [zgg,if_neg (by omega),if_neg (by omega),if_pos h3] at hc
  simp only [ze1,Bool.and_eq_true,zbn] at hc
  exact hc.1
 ·rw [←hq];simp only [zgg];rw [if_neg (by omega),if_neg (by omega),if_pos h3]
theorem yj8 {h:Hist} {e:Ev} (he:zcb h e=true) (h4:e.kind=4):0≤e.p∧e.p < h.ps.length:=by
 obtain ⟨_,_,_,hc,_⟩:=zcd he
 rw [zgg,if_neg (by omega),if_neg (by omega),if_neg (by omega),if_pos h4] at hc
 simp only [zdd,Bool.and_eq_true,zbn] at hc
 exact hc.1.1
theorem zn2 {l:List Int} (hl:l.Pairwise (· < ·)) (r:Int):(l.dropWhile fun k=> !decide (k > r))=l.filter fun k=>decide (k > r):=by
 induction l with
 |nil=>rfl
 |cons a l ih=>
  have h':=List.pairwise_cons.1 hl
  rw [List.dropWhile_cons,List.filter_cons]
  by_cases h:a > r
  ·rw [decide_eq_true h]
   simp only [Bool.not_true,Bool.false_eq_true,if_false,if_true]
   congr 1
   symm
   rw [List.filter_eq_self]
   intro b hb;exact decide_eq_true (by have:=h'.1 b hb;omega)
  ·rw [decide_eq_false h]
   simp only [Bool.not_false,if_true,Bool.false_eq_true,if_false]
   exact ih h'.2
theorem zx3 {α β:Type} {f g:α→Option β}:∀{l:List α},(∀a∈l,f a=g a)→l.filterMap f=l.filterMap g
 | [],_=>rfl
 |a::r,h=>by rw [List.filterMap_cons,List.filterMap_cons,h a (by simp),zx3 fun b hb=>h b (by simp [hb])]
theorem yd0 {h:Hist} (hs:za2 h=true) {e:Ev} (he:e∈h.evs) (h3:e.kind=3) (a:Nat):(ze5 h e).flatMap (fun p=>p.2.filterMap (zet h e 3 a p.1))=zhq h e a:=by
 obtain ⟨⟨o0,o1⟩,ep⟩:=zsy (ze3 hs _ he) h3
 rw [ze5,zhq,yms hs o0 o1]
 cases hr:rkR h e.o e.v with
 |none=>rfl
 |some r=>
  have r0:=yb1 hr
  simp only [List.flatMap_cons,List.flatMap_nil,List.append_nil,List.filterMap_cons,List.filterMap_nil]
  rw [zet,zpr hs o0 o1,Int.add_sub_cancel]
  by_cases q:r+1 > ((zdn h e.o).length:Int)
  ·rw [if_pos q,List.getElem?_eq_none (by omega)]
  ·rw [if_neg q,List.getElem?_eq_getElem (by omega)]
   simp only [Option.getD_some]
   by_cases z:((zdn h e.o)[r.toNat]'(by omega)==e.t)=true
   ·rw [if_pos z,if_pos z]
   ·rw [if_neg z,if_neg z,ep]
theorem ydz {h:Hist} (hs:za2 h=true) {e:Ev} (he:e∈h.evs) (h4:e.kind=4) (a:Nat):(zii h e a).flatMap (fun p=>p.2.filterMap (zet h e 4 a p.1))=zsi h e a:=by
 have hp:=yj8 (ze3 hs _ he) h4
 rw [zii,zsi]
 have key:∀s∈zau h e a,(match zdz h e s with|none=> []|some p=>p.2.filterMap (zet h e 4 a p.1))=(zir h e.p s.o).filterMap (zfl h e a s):=fun s hsm=>by
  have ho:0≤s.o∧s.o < h.os.length:=by
   rw [zau,List.mem_map] at hsm
   obtain ⟨x,hx,rfl⟩:=hsm
   exact (ya7 _ _).1 hx
  have ht:zjo h e.p s.o=0:=zy3.2 ⟨zbh.2 hs,ho,hp⟩
  have hch:chL h e.p s.o=zir h e.p s.o:=yxd ht
  have hlt:(chL h e.p s.o).Pairwise (· < ·):=by rw [chL,if_pos ht];exact zwf _ _
  have hin:∀k∈chL h e.p s.o,1≤k∧k≤((zdn h s.o).length:Int):=fun k hk=>by
   rw [chL,if_pos ht,yp1,zmu] at hk
   obtain ⟨j,rfl,j0,j1,_⟩:=hk
   rw [zm2,zqh ht] at j1
   omega
  rw [zdz,yms hs ho.1 ho.2]
  cases hr:rkR h s.o s.v with
  |none=>
   symm
   simp only
   rw [List.filterMap_eq_nil_iff]
   intro k _;rw [zfl,hr]
  |some r=>
   simp only
   rw [hch] at hlt hin ⊢
   have e1:(zir h e.p s.o).filterMap (zfl h e a s)=((zir h e.p s.o).filter fun k=>decide (k > r)).filterMap (zet h e 4 a s.o):=by
    rw [List.filterMap_filter]
    refine zx3 fun k hk=> ?_
    obtain ⟨k1,k2⟩:=hin k hk
    rw [zfl,hr]
    simp only
    by_cases q:k > r
    ·rw [if_neg (show ¬k≤r by omega),if_pos (show decide (k > r)=true from decide_eq_true q),zet,zpr hs ho.1 ho.2,if_neg (show ¬k > ((zdn h s.o).length:Int) by omega)]
    ·rw [if_pos (show k≤r by omega),if_neg (show ¬decide (k > r)=true by simpa using q)]
   by_cases q:((zir h e.p s.o).any fun k=>decide (k > r))=true
   ·rw [if_pos q]
    simp only
    rw [rwOver,hch,zn2 hlt,e1]
   ·rw [if_neg q,e1]
    symm
    have:((zir h e.p s.o).filter fun k=>decide (k > r))= []:=by
     rw [List.filter_eq_nil_iff]
     intro k hk z
     exact q (List.any_eq_true.2 ⟨k,hk,z⟩)
    rw [this];rfl
 generalize zau h e a=L at key
 induction L with
 |nil=>rfl
 |cons s r ih=>
  have k1:=key s (by simp)
  have ih':=ih fun s hs=>key s (by simp [hs])
  rw [List.flatMap_cons,←ih',←k1,List.filterMap_cons]
  cases zdz h e s with
  |none=>rfl
  |some p=>rfl
theorem yd1 {h:Hist} (hs:za2 h=true) {e:Ev} (he:e∈h.evs) (a:Nat):zcg h e a=zeb h e a:=by
 rw [zcg,zeb,j3,zgd]
 by_cases hc:zgf h.evs e.t 5=true
 ·rw [if_pos hc,if_pos hc]
  by_cases h3:e.kind=3
  ·rw [if_pos h3,if_pos h3,if_pos h3];exact yd0 hs he h3 a
  ·rw [if_neg h3,if_neg h3,if_neg h3]
   by_cases h4:e.kind=4
   ·rw [if_pos h4,if_pos h4,if_pos h4];exact ydz hs he h4 a
   ·rw [if_neg h4,if_neg h4,if_neg h4];rfl
 ·rw [if_neg hc,if_neg hc]
def zb5 (h:Hist) (kd:Int):Nat→List Conf
 |0=> []
 |n+1=>zb5 h kd n++(match h.evs[n]? with|some e=>if (e.kind==kd)=true then zcg h e n else []|none=> [])
def zjw (h:Hist) (kd:Int):List Conf:=zks zec ((zcp (zb5 h kd h.evs.length)).map Prod.snd)
def zeu (h:Hist) (c:Int):Nat→List Conf
 |0=> []
 |n+1=>zew (zeu h c n) (match h.evs[n]? with|some e=>(zeb h e n).filter (fun x=>x.k==c)|none=> [])
theorem yd2 {h:Hist} {e:Ev} {a:Nat} {c:Conf} (hc:c∈zeb h e a):(e.kind=3∧c.k=3)∨(e.kind=4∧c.k=4):=by
 unfold zeb at hc
 split at hc
 ·split at hc
  ·rename_i h3
   left;refine ⟨h3,?_⟩
   unfold zhq at hc
   split at hc
   ·cases hc
   ·split at hc
    ·cases hc
    ·split at hc
     ·cases hc
     ·rw [List.mem_singleton] at hc;rw [hc]
  ·split at hc
   ·rename_i h4
    right;refine ⟨h4,?_⟩
    rw [zsi,List.mem_flatMap] at hc
    obtain ⟨s,_,hc⟩:=hc
    rw [List.mem_filterMap] at hc
    obtain ⟨k,_,hc⟩:=hc
    unfold zfl at hc
    split at hc
    ·cases hc
    ·split at hc
     ·cases hc
     ·split at hc
      ·cases hc
      ·injection hc with hc;rw [←hc]
   ·cases hc
 ·cases hc
theorem zl4 (h:Hist) (c:Int):∀n,(zeu h c n).Pairwise (LtC zec)
 |0=> .nil
 |n+1=>zj4 _ _ (zl4 h c n)
theorem yka {h:Hist} (hs:za2 h=true) {kd:Int} (hk:kd=3∨kd=4) (z:Conf):∀n,z∈zeu h kd n ↔ z∈zb5 h kd n
 |0=>by simp [zeu,zb5]
 |n+1=>by
  rw [zeu,zk1,zb5,List.mem_append,yka hs hk z n]
  cases hn:h.evs[n]? with
  |none=>simp
  |some e=>
   have he:e∈h.evs:=List.mem_of_getElem? hn
   simp only
   rw [yd1 hs he]
   have:z∈(zeb h e n).filter (fun x=>x.k==kd) ↔ z∈(if (e.kind==kd)=true then zeb h e n else []):=by
    rw [List.mem_filter]
    constructor
    ·rintro ⟨q1,q2⟩
     have q2:=eq_of_beq q2
     have:e.kind=kd:=by rcases yd2 q1 with ⟨a,b⟩|⟨a,b⟩ <;> omega
     rw [if_pos (by simpa using this)];exact q1
    ·intro q
     split at q
     ·rename_i e2
      have e2:=eq_of_beq e2
      refine ⟨q,?_⟩
      rw [beq_iff_eq]
      rcases yd2 q with ⟨a,b⟩|⟨a,b⟩ <;> omega
     ·cases q
   rw [this]
theorem zjv {h:Hist} (hs:za2 h=true) {kd:Int} (hk:kd=3∨kd=4) {out:List Conf} (hp:out.Perm ((zcp (zb5 h kd h.evs.length)).map Prod.snd)):zks zec out=yo0 (zeu h kd h.evs.length):=by
 rw [ye7 hp (zl4 h kd _) (yka hs hk · _),zwd (key:=fun c:Conf=>(c.f,c.t)) (q:=zfu) (fun a b=>by rw [zfu,Bool.eq_iff_iff];simp),yo0]
 have hkk:∀c∈zeu h kd h.evs.length,c.k=kd:=by
  suffices ∀n,∀c∈zeu h kd n,c.k=kd by exact this _
  intro n
  induction n with
  |zero=>intro c hc;cases hc
  |succ n ih=>
   intro c hc
   rw [zeu,zk1] at hc
   rcases hc with hc|hc
   ·exact ih c hc
   ·cases hn:h.evs[n]? with
    |none=>rw [hn] at hc;cases hc
    |some e=>
     rw [hn] at hc
     exact eq_of_beq (List.mem_filter.1 hc).2
 generalize zeu h kd h.evs.length=L at hkk
 cases L with
 |nil=>rfl
 |cons x r=>
  rw [zc8,zc8,zjf r x fun a ha b hb=> ?_]
  rw [za1,hkk a (by simp [ha]),hkk b hb];simp [zfu]
theorem yqz {h:Hist} (hs:za2 h=true) {x:Int} (h0:0≤x) (h1:x < h.os.length) {k:Nat} (hk:k < (zb6 h x).length):zmb h x (zlc h x (zb6 h x)[k])=some ((k:Int)+1):=by
 obtain ⟨v,i,hf,⟨hi,_⟩,hv,hr,_⟩:=zwr hs h0 h1 hk
 have e:zlc h x (zb6 h x)[k]=v:=by rw [zlc,hf];rfl
 rw [e,zmb,zqq hs v h0 h1 _ (Nat.le_refl _) h1,if_neg (by rintro rfl;exact absurd hv (by decide)),hr,if_pos (by omega)]
theorem zq9 {h:Hist} (hs:za2 h=true) {x:Int} (h0:0≤x) (h1:x < h.os.length) {k:Nat} (hk:k < (zb6 h x).length):∃i,∃hi:i < h.evs.length,zpx h.evs (zb6 h x)[k] x=some (h.evs[i].v,i)∧zek h (zb6 h x)[k] x=(i:Int)∧h.evs[i].kind=2∧h.evs[i].t=(zb6 h x)[k]∧h.evs[i].o=x∧0 < h.evs[i].v.k∧h.evs[i].v.t=(zb6 h x)[k]:=by
 obtain ⟨v,i,hf,_,hv,_⟩:=zwr hs h0 h1 hk
 obtain ⟨hi,e1,e2,e3,_⟩:=zkf hs hf
 obtain ⟨w1,w2,w3⟩:=zif.1 e2
 exact ⟨i,hi,by rw [hf,e1],by rw [zek,hf];rfl,w1,w2,w3,by rw [e1];exact hv,by rw [e1];exact e3⟩
theorem zsm {h:Hist} {kd:Int} {z:Conf}:∀{n:Nat},n≤h.evs.length→(z∈zb5 h kd n ↔ ∃j,∃hj:j < h.evs.length,j < n∧h.evs[j].kind=kd∧z∈zcg h h.evs[j] j)
 |0,_=>by simp [zb5]
 |n+1,hn=>by
  rw [zb5,List.mem_append,zsm (n:=n) (by omega),List.getElem?_eq_getElem (by omega)]
  simp only
  constructor
  ·rintro (⟨j,hj,q,r⟩|q)
   ·exact ⟨j,hj,by omega,r⟩
   ·split at q
    ·rename_i e;exact ⟨n,by omega,by omega,eq_of_beq e,q⟩
    ·cases q
  ·rintro ⟨j,hj,q,r,w⟩
   by_cases e:j=n
   ·subst e;right;rw [if_pos (by simpa using r)];exact w
   ·left;exact ⟨j,hj,by omega,r,w⟩
theorem yqx {h:Hist} (hs:za2 h=true) {x:Int} (h0:0≤x) (h1:x < h.os.length) {v:Ver} {r:Int} (hr:zmb h x v=some r):0≤r:=by
 rw [yms hs h0 h1] at hr;exact yb1 hr
theorem ztj {h:Hist} (hs:za2 h=true) {e:Ev} {c:Int} {a:Nat} {x r:Int} (h0:0≤x) (h1:x < h.os.length) (r1:1≤r) {z:Conf} (hz:zet h e c a x r=some z):∃k,∃hk:k < (zb6 h x).length,r=(k:Int)+1∧∃j,∃hj:j < h.evs.length,z=⟨e.t,(zb6 h x)[k],c,a,(j:Int),x,e.p⟩∧(zb6 h x)[k]≠e.t∧h.evs[j].kind=2∧h.evs[j].t=(zb6 h x)[k]∧h.evs[j].o=x∧zmb h x h.evs[j].v=some r:=by
 unfold zet at hz
 split at hz
 ·cases hz
 ·split at hz
  ·cases hz
  ·rename_i q1 q2
   have hk:(r - 1).toNat < (zb6 h x).length:=by omega
   rw [List.getElem?_eq_getElem hk] at hz q2
   simp only [Option.getD_some] at hz q2
   injection hz with hz
   obtain ⟨j,hj,a1,a2,a3,a4,a5,a6,a7⟩:=zq9 hs h0 h1 hk
   refine ⟨(r - 1).toNat,hk,by omega,j,hj,by rw [←hz,a2],fun q=>q2 (beq_iff_eq.2 q),a3,a4,a5,?_⟩
   have:=yqz hs h0 h1 hk
   rw [zlc,a1] at this
   rw [show h.evs[j].v=zr1 (some (h.evs[j].v,j)) from rfl,this]
   congr 1;omega
theorem ykz {h:Hist} (hs:za2 h=true) {x:Int} (h0:0≤x) (h1:x < h.os.length) {t:Int} (ht:t∈zb6 h x):0≤t∧t < h.ts.length:=by
 obtain ⟨k,hk,rfl⟩:=List.mem_iff_getElem.1 ht
 obtain ⟨j,hj,_,_,_,a4,_⟩:=zq9 hs h0 h1 hk
 rw [←a4]
 exact ysa (zfs hs).1 _ (List.getElem_mem hj)
theorem zsz {h:Hist} (hs:za2 h=true) {i:Nat} (hi:i < h.evs.length) (h3:h.evs[i].kind=3) {z:Conf} (hz:z∈zcg h h.evs[i] i):(0≤z.o∧z.o < h.os.length)∧z.k=3∧z.p=0∧z.f≠z.t∧z.a=(i:Int)∧z.f=h.evs[i].t∧z.o=h.evs[i].o∧zgf h.evs z.f 5=true∧∃k,∃hk:k < (zb6 h z.o).length,zmb h z.o h.evs[i].v=some (k:Int)∧(zb6 h z.o)[k]=z.t∧∃j,∃hj:j < h.evs.length,z.b=(j:Int)∧h.evs[j].kind=2∧h.evs[j].t=z.t∧h.evs[j].o=z.o:=by
 obtain ⟨⟨o0,o1⟩,ep⟩:=zsy (ze3 hs _ (List.getElem_mem hi)) h3
 unfold zcg at hz
 split at hz
 ·rename_i hc
  rw [j3,if_pos h3,List.mem_flatMap] at hz
  obtain ⟨p,hp,hz⟩:=hz
  unfold ze5 at hp
  split at hp
  ·cases hp
  ·rename_i r hr
   rw [List.mem_singleton] at hp
   subst hp
   rw [zgd,if_pos h3,List.mem_filterMap] at hz
   obtain ⟨q,hq,hz⟩:=hz
   rw [List.mem_singleton] at hq
   subst hq
   have r0:=yqx hs o0 o1 hr
   obtain ⟨k,hk,ek,j,hj,ez,a1,a2,a3,a4,_⟩:=ztj hs o0 o1 (by omega) hz
   subst ez
   refine ⟨⟨o0,o1⟩,rfl,ep,fun q=>a1 q.symm,rfl,rfl,rfl,hc,k,hk,by rw [hr];congr 1;omega,rfl,j,hj,rfl,a2,a3,a4⟩
 ·cases hz
theorem zqm {h:Hist} {e:Ev} {n:Nat} {s:Seen} (hs:s∈zau h e n):(0≤s.o∧s.o < h.os.length)∧∃hk:s.o.toNat < (zau h e n).length,(zau h e n)[s.o.toNat]=s:=by
 obtain ⟨k,hk,rfl⟩:=List.mem_iff_getElem.1 hs
 have e1:=yuk hk
 have e2:=zm6 h e n
 refine ⟨by omega,by omega,?_⟩
 congr 1
 omega
theorem zsh {h:Hist} (hs:za2 h=true) {i:Nat} (hi:i < h.evs.length) (h4:h.evs[i].kind=4) {z:Conf} (hz:z∈zcg h h.evs[i] i):(0≤z.o∧z.o < h.os.length)∧z.k=4∧z.f≠z.t∧z.a=(i:Int)∧z.f=h.evs[i].t∧z.p=h.evs[i].p∧z.t∈zb6 h z.o∧(0≤z.p∧z.p < h.ps.length)∧∃r k:Int,(∃hk:z.o.toNat < (zau h h.evs[i] i).length,zmb h z.o (zau h h.evs[i] i)[z.o.toNat].v=some r)∧r < k∧k∈chL h z.p z.o∧∃j,∃hj:j < h.evs.length,z.b=(j:Int)∧h.evs[j].kind=2∧h.evs[j].t=z.t∧h.evs[j].o=z.o∧zmb h z.o h.evs[j].v=some k:=by
 have hp:=yj8 (ze3 hs _ (List.getElem_mem hi)) h4
 unfold zcg at hz
 split at hz
 ·rw [j3,if_neg (by omega),if_pos h4,List.mem_flatMap] at hz
  obtain ⟨p,hpp,hz⟩:=hz
  rw [zii,List.mem_filterMap] at hpp
  obtain ⟨s,hsm,hpp⟩:=hpp
  obtain ⟨⟨o0,o1⟩,hk1,hk2⟩:=zqm hsm
  unfold zdz at hpp
  split at hpp
  ·cases hpp
  ·rename_i r hr
   split at hpp
   ·injection hpp with hpp
    subst hpp
    rw [zgd,if_neg (by omega),if_pos h4,List.mem_filterMap] at hz
    obtain ⟨k,hk,hz⟩:=hz
    have ht:zjo h h.evs[i].p s.o=0:=zy3.2 ⟨zbh.2 hs,⟨o0,o1⟩,hp⟩
    have hlt:(chL h h.evs[i].p s.o).Pairwise (· < ·):=by rw [chL,if_pos ht];exact zwf _ _
    simp only at hk hz
    rw [rwOver,zn2 hlt,List.mem_filter] at hk
    obtain ⟨hk,hkr⟩:=hk
    have hkr:=oT hkr
    have r0:=yqx hs o0 o1 hr
    obtain ⟨m,hm,em,j,hj,ez,a1,a2,a3,a4,a5⟩:=ztj hs o0 o1 (by omega) hz
    subst ez
    refine ⟨⟨o0,o1⟩,rfl,fun q=>a1 q.symm,rfl,rfl,rfl,List.getElem_mem hm,hp,r,k,⟨hk1,by rw [hk2];exact hr⟩,by omega,hk,j,hj,rfl,a2,a3,a4,a5⟩
   ·cases hpp
 ·cases hz
theorem zlu {h:Hist} {e:Ev} {a:Nat} (h3:e.kind≠3) (h4:e.kind≠4):zcg h e a= []:=by
 rw [zcg,j3,if_neg h3,if_neg h4];simp
def yrs (h:Hist) (e:Ev) (a:Nat):List Int:=zcc (srt ((zcg h e a).map Conf.t))
theorem ys6 {h:Hist} (hs:za2 h=true) {i:Nat} (hi:i < h.evs.length) {z:Conf} (hz:z∈zcg h h.evs[i] i):0≤z.t∧z.t < h.ts.length:=by
 by_cases h3:h.evs[i].kind=3
 ·obtain ⟨⟨o0,o1⟩,_,_,_,_,_,_,_,k,hk,_,e,_⟩:=zsz hs hi h3 hz
  rw [←e];exact ykz hs o0 o1 (List.getElem_mem hk)
 ·by_cases h4:h.evs[i].kind=4
  ·obtain ⟨⟨o0,o1⟩,_,_,_,_,_,e,_⟩:=zsh hs hi h4 hz
   exact ykz hs o0 o1 e
  ·rw [zlu h3 h4] at hz;cases hz
def bPP:ByteArray:=⟨#[80]⟩
def sr0:List Ev:= [yp0 0,⟨3,0,0,0,0,⟨0,0⟩,0,[]⟩,⟨4,0,0,0,0,⟨0,0⟩,0,[]⟩,ypz 0]
def srE:Nat→List Ev
 |0=>sr0
 |k+1=>srE k++ [yp0 (k+1:Nat),yud (k+1:Nat) 0,ypz (k+1:Nat)]
theorem yqe (k:Nat):srE (k+1)=srE k++ [yp0 (k+1:Nat),yud (k+1:Nat) 0,ypz (k+1:Nat)]:=rfl
theorem yly (k:Nat):(srE k).length=4+3 * k:=by
 induction k with
 |zero=>rfl
 |succ k ih=>rw [yqe,List.length_append,ih];simp only [List.length_cons,List.length_nil];omega
def rwH:Hist:=⟨[wT 48,wT 49,wT 50],[zym],[bxx],[bPP],srE 2,[⟨0,[1,2]⟩],[⟨0,0,false,[2]⟩],[]⟩
theorem ybt:zf9 rwH=true:=by decide+kernel
theorem zsj:za2 rwH=true:=by
 have:zke rwH=none:=(zx6 ybt).trans (by decide+kernel)
 rw [za2,ybt,this];rfl
theorem zhv:u6 rwH=0:=zbh.2 zsj
theorem ybu:zjw rwH 3= [⟨0,1,3,1,5,0,0⟩]:=by decide+kernel
theorem ybs:zjw rwH 4= [⟨0,2,4,2,8,0,0⟩]:=(zjv zsj (.inr rfl) (.refl _)).trans (by decide+kernel)
theorem ygz:(⟨0,1,3,1,5,0,0⟩:Conf)∈zcg rwH (rwH.evs[1]'(by decide)) 1:=by decide+kernel
def zbs (h:Hist):Hist:={h with evs:=h.evs.take 60}
theorem zik {h:Hist} {N:Nat} (la:Lim N h):Lim N (zbs h):=
 ⟨la.ts,la.ss,la.os,la.ps,by have:=la.evs;simp only [zbs,List.length_take];omega,la.ords,la.mats,la.wants,fun e he=>la.scans e (List.mem_of_mem_take he),la.ordts,la.matts⟩
theorem zpl (h:Hist):(zbs h).evs.length≤60:=by simp only [zbs,List.length_take];omega
end Go.H
