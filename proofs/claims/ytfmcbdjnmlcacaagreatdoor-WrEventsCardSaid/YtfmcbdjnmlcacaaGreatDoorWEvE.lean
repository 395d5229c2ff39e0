/- The abstract logic, part 28: slices.Sort and slices.Compact at []int, as contracts over a row of one's own (the kit's shelf has walked them). .. -/
import Derived.Test.YtfmcbdjnmlcacaaGreatDoorWEvD
import Derived.Shelf.Sort.Plain
import Derived.Shelf.Slices.In.SortNone
import Derived.Shelf.Slices.CompactI
set_option linter.unusedSectionVars false
set_option linter.unusedSimpArgs false
set_option linter.unusedVariables false
namespace Go.Ab
open Go Go.Shelf Go.Sort Go.Proofs
def numR (n:Int):List AV:= [.v (.int .i64 n)]
theorem zs2 {X:Nat→Prop} {w:World} {a:Addr} {cap:Nat} {T:TypeId} {xs ys zs:List Int} (hh:HRel X w [.row (.slice (some a) xs.length cap) 1 T (xs.map numR)]) (hl:ys.length=xs.length) (hz:zs=ys.take zs.length) (n:Nat) (os:Array Obj):
 HRel X (grow (putRow (Value.int .i64) (Sort.ahead w n) a.block a.off ys.toArray) os) [.row (.slice (some a) zs.length cap) 1 T (zs.map numR)]∧
 Keep [a.block] w [a.block] (grow (putRow (Value.int .i64) (Sort.ahead w n) a.block a.off ys.toArray) os):=by
 obtain ⟨h1,h2,h3,h4,c,h5,h6,h7⟩:=hh.holds _ (List.mem_singleton.2 rfl)
 have hb:a.block < w.heap.size:=(hh.lt a.block (by simp [j5,Res.own])).1
 have hX:¬X a.block:=(hh.lt a.block (by simp [j5,Res.own])).2
 obtain ⟨w',hw'⟩:∃w',w'=grow (putRow (Value.int .i64) (Sort.ahead w n) a.block a.off ys.toArray) os:=⟨_,rfl⟩
 rw [←hw']
 have hheap:w'.heap=(w.heap.modify a.block (onCells (putCells (Value.int .i64) a.off ys.toArray)))++os:=by rw [hw'];rfl
 have hos:zg7 w w':=by rw [hw'];exact ⟨⟨rfl,rfl⟩,rfl,Nat.le_add_right _ _⟩
 have hsize:w.heap.size≤w'.heap.size:=by rw [hheap];simp
 have hold:∀b,b < w.heap.size→b≠a.block→w'.heap[b]? =w.heap[b]? :=fun b hb hne=>by
  rw [hheap,Array.getElem?_append_left (by simpa using hb),Array.getElem?_modify,if_neg (Ne.symm hne)]
 have hnew:w'.heap[a.block]? =some (.cells (putCells (Value.int .i64) a.off ys.toArray c) T (0,0)):=by
  rw [hheap,Array.getElem?_append_left (by simpa using hb),Array.getElem?_modify,if_pos rfl,h5];rfl
 have hlen:zs.length≤ys.length:=by
  have:=congrArg List.length hz
  rw [List.length_take] at this;omega
 refine ⟨⟨by simp [j5,Res.own],fun b hb2=> ?_,fun b hb2=>Nat.lt_of_lt_of_le (hh.xlt b hb2) hsize,fun r hr=> ?_⟩,⟨hsize,fun b hb2 hne=> ?_,hos⟩⟩
 ·have:b=a.block:=by simpa [j5,Res.own] using hb2
  subst this;exact ⟨Nat.lt_of_lt_of_le hb hsize,hX⟩
 ·rw [List.mem_singleton] at hr
  subst hr
  refine ⟨h1,by simp,by simp at h2 h3;omega,fun i hi=>by simp [numR],_,hnew,by simpa [putCells] using h6,fun i hi j hj=> ?_⟩
  have hi2:i < zs.length:=by simpa using hi
  have hj0:j=0:=by simp [numR] at hj;omega
  subst hj0
  have hc:a.off+i < c.size:=by simp at h2 h3;omega
  refine ⟨.int .i64 (zs[i]),?_,?_⟩
  ·have hz2:zs[i]=ys[i]'(by omega):=by
    have:zs[i]? =(ys.take zs.length)[i]? :=by rw [←hz]
    rw [List.getElem?_take_of_lt hi2,List.getElem?_eq_getElem hi2,List.getElem?_eq_getElem (by omega)] at this
    exact Option.some.inj this
   have e:a.off+i * 1+0=a.off+i:=by omega
   rw [e]
   simp only [putCells,Array.getElem?_mapIdx]
   rw [Array.getElem?_eq_getElem hc]
   simp only [Option.map_some]
   rw [if_pos ⟨by omega,by simp;omega⟩,hz2]
   have e2:a.off+i - a.off=i:=by omega
   rw [e2]
   congr 2
   exact getElem!_pos _ _ (by simp;omega)
  ·simp only [List.getElem_map,numR]
   exact .v _
 ·have hne2:b≠a.block:=by simpa using hne
  exact ⟨hold b hb2 hne2,hne⟩
theorem zs3 {X:Nat→Prop} {w:World} {a:Addr} {cap:Nat} {T:TypeId} {xs:List Int} (hh:HRel X w [.row (.slice (some a) xs.length cap) 1 T (xs.map numR)]):Holds (Value.int .i64) w a.block a.off xs.toArray∧a.block < w.heap.size∧xs.length≤cap∧a.spot=none:=by
 obtain ⟨h1,h2,h3,h4,c,h5,h6,h7⟩:=hh.holds _ (List.mem_singleton.2 rfl)
 refine ⟨fun j hj=> ?_,(hh.lt a.block (by simp [j5,Res.own])).1,h3,h1⟩
 have hj2:j < xs.length:=by simpa using hj
 obtain ⟨v,e,r⟩:=h7 j (by simpa using hj2) 0 (by simp [numR])
 simp only [List.getElem_map,numR] at r
 have hv:v= .int .i64 xs[j]:=r.v_eq
 subst hv
 have e0:a.off+j * 1+0=a.off+j:=by omega
 rw [e0] at e
 refine ⟨?_,?_⟩
 ·have e2:w.cell? ⟨a.block,a.off+j,none⟩=some (.int .i64 xs[j]):=by simp [World.cell?,h5,e]
  have e3:xs.toArray[j]! =xs[j]:=getElem!_pos xs.toArray j hj
  rw [e2,e3]
 ·simp [World.frozen?,h5]
theorem zww {X:Nat→Prop} {w:World} {n cap:Nat} {T:TypeId} {xs:List Int} (hh:HRel X w [.row (.slice none n cap) 1 T (xs.map numR)]):xs= []∧n=0∧cap=0:=by
 obtain ⟨h1,h2,h3⟩:=hh.holds _ (List.mem_singleton.2 rfl)
 exact ⟨by simpa using h1,h2,h3⟩
section
variable {P:Program} {ρ:Ren}
theorem zvk (Ly:Lays.n189 P ρ) (s:SV) (T:TypeId) (xs:List Int) (hs:xs.length < 4611686018427387904):
 y8 P (ρ.f 189) [.v s.v] [.row s.v 1 T (xs.map numR)] (fun r h'=>h'= [.row s.v 1 T ((xs.mergeSort fun x y=>decide (x≤y)).map numR)]∧r= .v (.tuple #[])):=by
 intro X w vs hh ha
 match vs,ha with
 | [v],⟨hv,_⟩=>
   obtain rfl:=hv.v_eq
   obtain ⟨a,n,cap⟩:=s
   cases a with
   |none=>
    obtain ⟨rfl,rfl,rfl⟩:=zww hh
    refine callsIn_wide.2 ((Any.slices_Sort_int_none Ly none 0 w).mono ?_)
    rintro e w' ⟨rfl,rfl⟩
    exact ⟨_,_,_,rfl,⟨rfl,rfl⟩,.v _,by simpa using hh,.refl _ _⟩
   |some a=>
    have hn:n=xs.length:=by
     have:=(hh.holds _ (List.mem_singleton.2 rfl)).2.1
     simpa using this
    subst hn
    obtain ⟨g1,g2,g3,g4⟩:=zs3 hh
    obtain ⟨b,off,sp⟩:=a
    simp only at g1 g2 g4
    subst g4
    refine callsIn_wide.2 ((Any.slices_Sort_int Ly b off cap xs w g1 g2 hs).mono ?_)
    rintro e w' ⟨rfl,n,os,rfl⟩
    have hlen:(xs.mergeSort fun x y=>decide (x≤y)).length=xs.length:=List.length_mergeSort _
    obtain ⟨k1,k2⟩:=zs2 (zs:=xs.mergeSort fun x y=>decide (x≤y)) hh hlen (List.take_length).symm n os
    rw [hlen] at k1
    exact ⟨_,_,_,rfl,⟨rfl,rfl⟩,.v _,k1,k2⟩
theorem zoh (Ly:Lays2.n20 P ρ) (s:SV) (T:TypeId) (xs:List Int) (hs:xs.length≤4611686018427387904):
 y8 P (ρ.f 20) [.v s.v] [.row s.v 1 T (xs.map numR)] (fun r h'=>∃s':SV,h'= [.row s'.v 1 T ((Lib.compact xs).map numR)]∧r= .v s'.v):=by
 intro X w vs hh ha
 match vs,ha with
 | [v],⟨hv,_⟩=>
   obtain rfl:=hv.v_eq
   obtain ⟨a,n,cap⟩:=s
   cases a with
   |none=>
    obtain ⟨rfl,rfl,rfl⟩:=zww hh
    refine callsIn_wide.2 ((Any.slices_Compact_int_empty Ly none 0 w).mono ?_)
    rintro e w' ⟨rfl,rfl⟩
    exact ⟨_,_,_,rfl,⟨⟨none,0,0⟩,rfl,rfl⟩,.v _,hh,.refl _ _⟩
   |some a=>
    have hn:n=xs.length:=by
     have:=(hh.holds _ (List.mem_singleton.2 rfl)).2.1
     simpa using this
    subst hn
    obtain ⟨g1,g2,g3,g4⟩:=zs3 hh
    obtain ⟨b,off,sp⟩:=a
    simp only at g1 g2 g4
    subst g4
    refine callsIn_wide.2 ((Any.slices_Compact_int Ly b off cap xs w g1 (by omega) g3).mono ?_)
    rintro e w' ⟨rfl,q,rfl⟩
    have hle:(Lib.compact xs).length≤xs.length:=by
     unfold Lib.compact Lib.compactUpTo
     rw [oM]
     exact Nat.le_trans (List.length_filter_le _ _) (by simp)
    obtain ⟨k1,k2⟩:=zs2 (ys:=Lib.compact xs++List.replicate (xs.length - (Lib.compact xs).length) 0) (zs:=Lib.compact xs) hh (by simp;omega) (by rw [List.take_left'];rfl) q #[]
    rw [grow_empty] at k1 k2
    exact ⟨_,_,_,rfl,⟨⟨some ⟨b,off,none⟩,(Lib.compact xs).length,cap⟩,rfl,rfl⟩,.v _,k1,k2⟩
end
end Go.Ab
namespace Go.H
open Go Go.Ab
theorem zm7 (y:Int):∀l:List Int,zbi (l++ [y])=zbi l++(if l.getLast? =some y then [] else [y])
 | []=>by simp [zbi]
 | [x]=>by
   by_cases h:x=y
   ·subst h;simp [zbi]
   ·simp [zbi,h]
 |x::z::r=>by
  have ih:=zm7 y (z::r)
  simp only [List.cons_append] at ih ⊢
  have hl:(x::z::r).getLast? =(z::r).getLast? :=by simp [List.getLast?_cons]
  rw [hl,zbi,zbi]
  by_cases h:x=z
  ·rw [if_pos h,if_pos h];exact ih
  ·rw [if_neg h,if_neg h,ih];rfl
theorem zvg (xs:List Int):Lib.compact xs=zbi xs:=by
 have key:∀m,m≤xs.length→Lib.compactUpTo xs.toArray m=zbi (xs.take m):=by
  intro m
  induction m with
  |zero=>intro _;rfl
  |succ m ih=>
   intro hm
   have hlt:m < xs.length:=hm
   rw [Lib.compactUpTo_succ,ih (by omega),List.take_succ_eq_append_getElem hlt,zm7]
   congr 1
   have e1:xs.toArray[m]! =xs[m]:=by simp [hlt]
   by_cases h0:m=0
   ·subst h0
    simp [Lib.keeps,hlt]
   ·have hlt':m - 1 < xs.length:=by omega
    have e2:xs.toArray[m - 1]! =xs[m - 1]:=by simp [hlt']
    have e3:(xs.take m).getLast? =some xs[m - 1]:=by
     rw [List.getLast?_eq_getElem?,List.length_take,Nat.min_eq_left (by omega),List.getElem?_take_of_lt (by omega)]
     simp [hlt']
    rw [e3]
    unfold Lib.keeps
    rw [e1,e2]
    by_cases he:xs[m]=xs[m - 1]
    ·rw [if_neg (by simp [h0,he]),if_pos (by rw [he])]
    ·rw [if_pos (by simp [he]),if_neg (fun q=>he (Option.some.inj q).symm)]
 have:=key xs.length (Nat.le_refl _)
 rw [List.take_length] at this
 exact this
def yd0 (l:List Ev):List (Int×Bool):=l.foldl (fun m e=>zcq e.t ((zap e.t m).getD false||e.kind==5) m) []
theorem zyu (t:Int):∀(l:List Ev) (m:List (Int×Bool)),(zap t (l.foldl (fun m e=>zcq e.t ((zap e.t m).getD false||e.kind==5) m) m)).getD false=((zap t m).getD false||l.any fun y=>y.t==t && y.kind==5)
 | [],m=>by simp
 |e::l,m=>by
  rw [List.foldl_cons,zyu t l,List.any_cons,zbl]
  by_cases h:e.t=t
  ·subst h;simp [Bool.or_assoc]
  ·have:(e.t==t)=false:=by simpa using h
   rw [if_neg h,this,Bool.false_and,Bool.false_or]
theorem zki (l:List Ev) (t:Int):(zap t (yd0 l)).getD false=l.any fun y=>y.t==t && y.kind==5:=by
 rw [yd0,zyu];simp [zap]
theorem zia {l:List Ev} {k:Nat} (hk:k < l.length):yd0 (l.take (k+1))=zcq l[k].t ((zap l[k].t (yd0 (l.take k))).getD false||l[k].kind==5) (yd0 (l.take k)):=by
 rw [List.take_succ_eq_append_getElem hk,yd0,List.foldl_append];rfl
section
variable {α:Type} {l:List α} {k:Nat} {p:α→Bool}
theorem yne (hk:k < l.length) (h:p l[k]=true):(l.take (k+1)).filter p=(l.take k).filter p++ [l[k]]:=by
 rw [List.take_succ_eq_append_getElem hk,List.filter_append];simp [h]
theorem yg3 (hk:k < l.length) (h:p l[k]=false):(l.take (k+1)).filter p=(l.take k).filter p:=by
 rw [List.take_succ_eq_append_getElem hk,List.filter_append];simp [h]
theorem zyh:((l.take k).filter p).length≤l.length:=Nat.le_trans (List.length_filter_le _ _) (by simp;omega)
end
def wrB (l:List Ev) (x:Int) (e:Ev):Bool:=e.kind==2 && e.o==x && l.any fun y=>y.t==e.t && y.kind==5
theorem zqp (l:List Ev) (x:Int):zao l x=zbi (srt ((l.filter (wrB l x)).map Ev.t)):=rfl
theorem zp6 (l:List Int) (n:Int):(l.any fun a=>a==n)=l.contains n:=by
 rw [Bool.eq_iff_iff];simp
theorem zih (l:List Ev) (x:Int):(zao l x).length≤l.length:=by
 rw [zqp]
 refine Nat.le_trans (zln _) ?_
 rw [(zcc _).length_eq,oM]
 exact List.length_filter_le _ _
theorem zix (a b:Nat):((a:Int) !=(b:Int))= !decide (a=b):=by
 rw [Bool.eq_iff_iff];simp;omega
theorem y1.new {P:Program} {fv:AV} {args:List AV} {h:List Res} {R:AV→List Res→Prop} (hc:y1 P fv args [] R):y1 P fv args h (fun r h'=>∃h1,R r h1∧h'=h1++h):=
 (hc.frame h).mono fun _ _ ⟨h1,e,q⟩=>⟨h1,q,e⟩
def zfj (h:Hist) (n many:Int):Int:=if q6 h=0 then (if 0≤n∧n < many then 0 else 2) else q6 h
def onE (e:Int) (l:List Int):List Int:=if e=0 then l else []
theorem yhn {h:Hist} {n many:Int} (he:zfj h n many=0):zar h=true∧0≤n∧n < many:=by
 unfold zfj at he
 split at he
 ·rename_i hc
  split at he
  ·rename_i hn;exact ⟨zat.1 hc,hn⟩
  ·cases he
 ·rename_i hc;exact absurd he hc
theorem ask_c {h:Hist} {n many:Int} (hc:q6 h≠0):zfj h n many=q6 h:=by rw [zfj,if_neg hc]
theorem zvi {h:Hist} {n many:Int} (hc:q6 h=0) (hn:¬(0≤n∧n < many)):zfj h n many=2:=by rw [zfj,if_pos hc,if_neg hn]
theorem zsd {h:Hist} {n many:Int} (hc:q6 h=0) (hn:0≤n∧n < many):zfj h n many=0:=by rw [zfj,if_pos hc,if_pos hn]
theorem yd7 (h:Hist):zfj h 0 1=q6 h:=by
 unfold zfj;split
 ·rename_i h0;rw [h0];rfl
 ·rfl
def zm3 (l:List Ev):List (Int×Bool):=zo1 (fun e:Ev=>e.kind==5) Ev.t [] l
theorem yce (l:List Ev) (t:Int):(zap t (zm3 l)).getD false=zf6 l t 5:=by
 rw [zm3,ze2,ze8]
 have:(l.any fun e=>e.kind==5 && decide (e.t=t))=l.any fun y=>y.t==t && y.kind==5:=by
  congr 1;funext e;rw [Bool.and_comm];rfl
 rw [this]
 cases l.any fun y=>y.t==t && y.kind==5 <;> rfl
theorem yk0 {l:List Ev} {k:Nat} (hk:k < l.length) (h5:(l[k].kind==5)=true):zm3 (l.take (k+1))=zcq l[k].t true (zm3 (l.take k)):=by
 rw [List.take_succ_eq_append_getElem hk,zm3,zo1,List.foldl_append,List.foldl_cons,List.foldl_nil,if_pos h5];rfl
theorem yk1 {l:List Ev} {k:Nat} (hk:k < l.length) (h5:(l[k].kind==5)=false):zm3 (l.take (k+1))=zm3 (l.take k):=by
 rw [List.take_succ_eq_append_getElem hk,zm3,zo1,List.foldl_append,List.foldl_cons,List.foldl_nil,if_neg (by rw [h5];decide)];rfl
section
variable {α:Type} (cmp:α→α→Int)
def mrg:List α→List α→List α
 | [],b=>b
 |x::a,[]=>x::a
 |x::a,y::b=>if cmp y x < 0 then y::mrg (x::a) b else x::mrg a (y::b)
termination_by a b=>a.length+b.length
theorem zh3:∀(a b:List α),(mrg cmp a b).Perm (a++b)
 | [],b=>by simp [mrg]
 |x::a,[]=>by simp [mrg]
 |x::a,y::b=>by
  rw [mrg]
  split
  ·exact ((zh3 (x::a) b).cons y).trans (List.perm_middle (l₁:=x::a)).symm
  ·exact (zh3 a (y::b)).cons x
termination_by a b=>a.length+b.length
def LeC (a b:α):Prop:=cmp a b≤0
structure CmpOk:Prop where
 trans:∀a b c,cmp a b≤0→cmp b c≤0→cmp a c≤0
 anti:∀a b,cmp b a= - cmp a b
variable {cmp}
theorem ziv (ok:CmpOk cmp):∀(a b:List α),a.Pairwise (LeC cmp)→b.Pairwise (LeC cmp)→(mrg cmp a b).Pairwise (LeC cmp)
 | [],b,_,hb=>by simpa [mrg] using hb
 |x::a,[],ha,_=>by simpa [mrg] using ha
 |x::a,y::b,ha,hb=>by
  rw [mrg]
  have ha':=List.pairwise_cons.1 ha
  have hb':=List.pairwise_cons.1 hb
  split
  ·rename_i h
   refine List.pairwise_cons.2 ⟨fun z hz=> ?_,ziv ok (x::a) b ha hb'.2⟩
   have hz':=(zh3 cmp (x::a) b).mem_iff.1 hz
   rcases List.mem_append.1 hz' with hz'|hz'
   ·have hyx:LeC cmp y x:=Int.le_of_lt h
    rcases List.mem_cons.1 hz' with rfl|hz'
    ·exact hyx
    ·exact ok.trans _ _ _ hyx (ha'.1 z hz')
   ·exact hb'.1 z hz'
  ·rename_i h
   have hxy:LeC cmp x y:=by have:=ok.anti x y;show cmp x y≤0;omega
   refine List.pairwise_cons.2 ⟨fun z hz=> ?_,ziv ok a (y::b) ha'.2 hb⟩
   have hz':=(zh3 cmp a (y::b)).mem_iff.1 hz
   rcases List.mem_append.1 hz' with hz'|hz'
   ·exact ha'.1 z hz'
   ·rcases List.mem_cons.1 hz' with rfl|hz'
    ·exact hxy
    ·exact ok.trans _ _ _ hxy (hb'.1 z hz')
termination_by a b=>a.length+b.length
variable (cmp)
def zdp:List (List α)→List (List α)
 |a::b::r=>mrg cmp a b::zdp r
 |l=>l
theorem zev:∀l:List (List α),(zdp cmp l).length=(l.length+1) / 2
 | []=>by simp [zdp]
 | [a]=>by simp [zdp]
 |a::b::r=>by rw [zdp,List.length_cons,zev r,List.length_cons,List.length_cons];omega
theorem zk9:∀l:List (List α),(zdp cmp l).flatten.Perm l.flatten
 | []=> .refl _
 | [a]=> .refl _
 |a::b::r=>by
  rw [zdp,List.flatten_cons,List.flatten_cons,List.flatten_cons,←List.append_assoc]
  exact (zh3 cmp a b).append (zk9 r)
def zwd (l:List (List α)):List (List α):=if h:1 < l.length then zwd (zdp cmp l) else l
termination_by l.length
decreasing_by rw [zev];omega
theorem zqy {l:List (List α)} (h:1 < l.length):zwd cmp l=zwd cmp (zdp cmp l):=by rw [zwd,dif_pos h]
theorem znl {l:List (List α)} (h:¬1 < l.length):zwd cmp l=l:=by rw [zwd,dif_neg h]
theorem zox (l:List (List α)):(zwd cmp l).flatten.Perm l.flatten:=by
 by_cases h:1 < l.length
 ·rw [zqy cmp h]
  have:(zdp cmp l).length < l.length:=by rw [zev];omega
  exact (zox (zdp cmp l)).trans (zk9 cmp l)
 ·rw [znl cmp h]
termination_by l.length
theorem znk (l:List (List α)):(zwd cmp l).length≤1:=by
 by_cases h:1 < l.length
 ·rw [zqy cmp h]
  have:(zdp cmp l).length < l.length:=by rw [zev];omega
  exact znk (zdp cmp l)
 ·rw [znl cmp h];omega
termination_by l.length
def zwe (l:List α):List α:=((zwd cmp (l.map fun x=> [x]))[0]?).getD []
theorem zu9 (l:List (List α)) (h:l.length≤1):(l[0]?).getD []=l.flatten:=by
 match l,h with
 | [],_=>rfl
 | [a],_=>simp
theorem zyi (l:List α):(l.map fun x=> [x]).flatten=l:=by
 induction l with
 |nil=>rfl
 |cons a r ih=>rw [List.map_cons,List.flatten_cons,ih];rfl
theorem zgi (l:List α):(zwe cmp l).Perm l:=by
 rw [zwe,zu9 _ (znk cmp _)]
 have:=zox cmp (l.map fun x=> [x])
 rwa [zyi] at this
variable {cmp}
theorem zh0 (ok:CmpOk cmp):∀l:List (List α),(∀r∈l,r.Pairwise (LeC cmp))→∀r∈zdp cmp l,r.Pairwise (LeC cmp)
 | [],_,r,h=>by cases h
 | [a],hl,r,h=>hl r h
 |a::b::q,hl,r,h=>by
  rw [zdp] at h
  rcases List.mem_cons.1 h with rfl|h
  ·exact ziv ok a b (hl a (by simp)) (hl b (by simp))
  ·exact zh0 ok q (fun r hr=>hl r (by simp [hr])) r h
theorem zkx (ok:CmpOk cmp) (l:List (List α)) (hl:∀r∈l,r.Pairwise (LeC cmp)):∀r∈zwd cmp l,r.Pairwise (LeC cmp):=by
 by_cases h:1 < l.length
 ·rw [zqy cmp h]
  have:(zdp cmp l).length < l.length:=by rw [zev];omega
  exact zkx ok (zdp cmp l) (zh0 ok l hl)
 ·rw [znl cmp h];exact hl
termination_by l.length
theorem zoz (ok:CmpOk cmp) (l:List α):(zwe cmp l).Pairwise (LeC cmp):=by
 have h:=zkx ok (l.map fun x=> [x]) (fun r hr=>by obtain ⟨x,_,rfl⟩:=List.mem_map.1 hr;exact List.pairwise_singleton _ _)
 have hl:=znk cmp (l.map fun x=> [x])
 rw [zwe]
 match hs:zwd cmp (l.map fun x=> [x]),hl with
 | [],_=>exact .nil
 | [a],_=>exact h a (by rw [hs];simp)
def LtC (cmp:α→α→Int) (a b:α):Prop:=cmp a b < 0
theorem zte (hz:∀a b,cmp a b=0→a=b):∀{l:List α},l.Pairwise (LeC cmp)→l.Nodup→l.Pairwise (LtC cmp):=by
 intro l h hn
 induction l with
 |nil=>exact .nil
 |cons a r ih=>
  rw [List.nodup_cons] at hn
  rw [List.pairwise_cons] at h ⊢
  refine ⟨fun b hb=> ?_,ih h.2 hn.2⟩
  have h1:=h.1 b hb
  have h2:cmp a b≠0:=fun e=>hn.1 (by rw [hz a b e];exact hb)
  show cmp a b < 0
  have:cmp a b≤0:=h1
  omega
theorem zrl (ok:CmpOk cmp):∀(l m:List α),l.Pairwise (LtC cmp)→m.Pairwise (LtC cmp)→(∀z,z∈l ↔ z∈m)→l=m
 | [],[],_,_,_=>rfl
 | [],b::m,_,_,h=>by have:=(h b).2 (by simp);cases this
 |a::l,[],_,_,h=>by have:=(h a).1 (by simp);cases this
 |a::l,b::m,hl,hm,h=>by
  have hl':=List.pairwise_cons.1 hl
  have hm':=List.pairwise_cons.1 hm
  have irr:∀z,¬LtC cmp z z:=fun z hz=>by have:=ok.anti z z;have:cmp z z < 0:=hz;omega
  have e:a=b:=by
   rcases List.mem_cons.1 ((h a).1 (by simp)) with e|h1
   ·exact e
   ·rcases List.mem_cons.1 ((h b).2 (by simp)) with e|h2
    ·exact e.symm
    ·have h3:cmp b a < 0:=hm'.1 a h1
     have h4:cmp a b < 0:=hl'.1 b h2
     have:=ok.anti a b;omega
  subst e
  congr 1
  refine zrl ok l m hl'.2 hm'.2 fun z=> ?_
  have hz:=h z
  simp only [List.mem_cons] at hz
  constructor
  ·intro q
   rcases hz.1 (.inr q) with rfl|q'
   ·exact absurd (hl'.1 _ q) (irr _)
   ·exact q'
  ·intro q
   rcases hz.2 (.inr q) with rfl|q'
   ·exact absurd (hm'.1 _ q) (irr _)
   ·exact q'
end
section
variable {α:Type} [DecidableEq α] (cmp:α→α→Int)
variable {cmp}
end
section
variable {α:Type}
end
variable {α:Type} (cmp:α→α→Int)
structure Conf where
 f:Int
 t:Int
 k:Int
 a:Int
 b:Int
 o:Int
 p:Int
 deriving DecidableEq
def zaa (c:Conf):List AV:= [iv c.f,iv c.t,iv c.k,iv c.a,iv c.b,iv c.o,iv c.p]
def zjt (l:List Conf):AV:= .list false 7 (l.map zaa)
theorem ybd (l:List Conf):∀r∈l.map zaa,r.all AV.one=true:=by
 intro r hr;obtain ⟨a,_,rfl⟩:=List.mem_map.1 hr;rfl
def yg4 (c:Conf):List Int:= [c.f,c.t,c.k,c.a,c.b,c.o,c.p]
def zjy:List Int→List Int→Int
 | [],[]=>0
 | [],_::_=> -1
 |_::_,[]=>1
 |x::a,y::b=>if x < y then -1 else if y < x then 1 else zjy a b
def zgq (a b:Conf):Int:=zjy (yg4 a) (yg4 b)
theorem zlr:∀a b:List Int,zjy b a= - zjy a b
 | [],[]=>rfl
 | [],_::_=>rfl
 |_::_,[]=>rfl
 |x::a,y::b=>by
  rw [zjy,zjy]
  by_cases h:x < y
  ·rw [if_neg (show ¬y < x by omega),if_pos h,if_pos h];rfl
  ·by_cases h':y < x
   ·rw [if_pos h',if_neg h,if_pos h']
   ·rw [if_neg h',if_neg h,if_neg h,if_neg h',zlr a b]
theorem zlq:∀a:List Int,zjy a a=0
 | []=>rfl
 |x::a=>by rw [zjy,if_neg (by omega),if_neg (by omega),zlq a]
theorem zp8:∀a b:List Int,zjy a b=0→a=b
 | [],[],_=>rfl
 | [],_::_,h=>by simp [zjy] at h
 |_::_,[],h=>by simp [zjy] at h
 |x::a,y::b,h=>by
  rw [zjy] at h
  split at h
  ·omega
  ·split at h
   ·omega
   ·rw [zp8 a b h,show x=y by omega]
theorem zgp:∀a b c:List Int,zjy a b≤0→zjy b c≤0→zjy a c≤0
 | [],[],c,_,h=>h
 | [],_::_,[],_,_=>by simp [zjy]
 | [],_::_,_::_,_,_=>by simp [zjy]
 |_::_,[],c,h,_=>by simp [zjy] at h
 |_::_,_::_,[],_,h=>by simp [zjy] at h
 |x::a,y::b,z::c,h1,h2=>by
  rw [zjy] at h1 h2 ⊢
  split at h1
  ·split at h2
   ·rw [if_pos (by omega)];omega
   ·split at h2
    ·omega
    ·rw [if_pos (by omega)];omega
  ·split at h1
   ·omega
   ·split at h2
    ·rw [if_pos (by omega)];omega
    ·split at h2
     ·omega
     ·rw [if_neg (by omega),if_neg (by omega)];exact zgp a b c h1 h2
theorem yb8 {a b:Conf} (h:yg4 a=yg4 b):a=b:=by
 cases a;cases b;simp only [yg4,List.cons.injEq,and_true] at h;simp only [Conf.mk.injEq];exact h
theorem zem:CmpOk zgq:=⟨fun a b c h k=>zgp _ _ _ h k,fun a b=>zlr _ _⟩
theorem zge (a b:Conf) (h:zgq a b=0):a=b:=yb8 (zp8 _ _ h)
theorem zy2 (a:Conf):zgq a a=0:=zlq _
def zb9 (h:Hist) (t x:Int):Int:=atO (zi5 h.evs t x)
def zgu (c:Conf):Int×Int:=(c.f,c.t)
theorem zis {K V:Type} [DecidableEq K] (k:K) (v:V):∀m:List (K×V),(m.map Prod.fst).Nodup→((zcq k v m).map Prod.fst).Nodup∧∀z,z∈(zcq k v m).map Prod.fst ↔ z=k∨z∈m.map Prod.fst
 | [],_=>⟨by simp [zcq],by simp [zcq]⟩
 |p::r,h=>by
  rw [List.map_cons,List.nodup_cons] at h
  obtain ⟨i1,i2⟩:=zis k v r h.2
  rw [zcq]
  by_cases e:p.1=k
  ·rw [if_pos e]
   exact ⟨by rw [List.map_cons,List.nodup_cons];exact h,fun z=>by simp [e]⟩
  ·rw [if_neg e]
   have hnm:p.1 ∉ (zcq k v r).map Prod.fst:=fun q=>by
    rcases (i2 _).1 q with q|q
    ·exact e q
    ·exact h.1 q
   refine ⟨by rw [List.map_cons,List.nodup_cons];exact ⟨hnm,i1⟩,fun z=> ?_⟩
   ·rw [List.map_cons,List.mem_cons,i2,List.map_cons,List.mem_cons]
    constructor
    ·rintro (q|q|q) <;> simp [q]
    ·rintro (q|q|q) <;> simp [q]
def yhw (p o:Int) (r:Mat):Bool:=r.p==p && r.o==o
def ylv (h:Hist) (p o:Int):Option Mat:=h.mats.find? (yhw p o)
def yhx:Mat:=⟨0,0,false,[]⟩
def zzy (h:Hist) (p o:Int):Mat:=(ylv h p o).getD yhx
def yc7 (m:Mat) (ts:List Int):List Bool:=m.first::ts.map (fun t=>m.ts.contains t)
def zsw (h:Hist) (p o:Int):List Bool:=yc7 (zzy h p o) (zaj h o)
def zlw (l:List Bool):AV:= .list false 1 (l.map zlx)
theorem ybe (l:List Bool):∀r∈l.map zlx,r.all AV.one=true:=by
 intro r hr;obtain ⟨a,_,rfl⟩:=List.mem_map.1 hr;rfl
theorem zsv (m:Mat) (ts:List Int):(yc7 m ts).length=ts.length+1:=by simp [yc7]
def zz0 (h:Hist) (o:Int):Int:=zfj h o h.os.length
def zhm (h:Hist) (p o:Int):Int:=if zz0 h o=0 then (if 0≤p∧p < h.ps.length then 0 else 2) else zz0 h o
def mtE (h:Hist) (p o r:Int):Int:=if zhm h p o=0 then (if 0≤r∧r < (zsw h p o).length then 0 else 2) else zhm h p o
def mtB (h:Hist) (p o r:Int):Bool:=if mtE h p o r=0 then ((zsw h p o)[r.toNat]?).getD false else false
def zqc (l:List Bool):Nat→List Int
 |0=> []
 |k+1=>zqc l k++(if 0 < k∧l[k]? ≠l[k - 1]? then [(k:Int)] else [])
def yhe (l:List Bool):List Int:=zqc l l.length
def chL (h:Hist) (p o:Int):List Int:=if zhm h p o=0 then yhe (zsw h p o) else []
theorem zie (l:List Bool):∀(n:Nat) (z:Int),z∈zqc l n ↔ ∃k:Nat,z=k∧0 < k∧k < n∧l[k]? ≠l[k - 1]?
 |0,z=>by simp [zqc]
 |n+1,z=>by
  rw [zqc,List.mem_append,zie l n z]
  constructor
  ·rintro (⟨k,h1,h2,h3,h4⟩|h)
   ·exact ⟨k,h1,h2,by omega,h4⟩
   ·split at h
    ·rename_i hc
     rw [List.mem_singleton] at h
     exact ⟨n,h,hc.1,by omega,hc.2⟩
    ·cases h
  ·rintro ⟨k,h1,h2,h3,h4⟩
   by_cases e:k=n
   ·subst e;right;rw [if_pos ⟨h2,h4⟩,h1];simp
   ·left;exact ⟨k,h1,h2,by omega,h4⟩
theorem zy4 (l:List Bool):∀n:Nat,(zqc l n).Pairwise (· < ·)
 |0=> .nil
 |n+1=>by
  rw [zqc,List.pairwise_append]
  refine ⟨zy4 l n,by split <;> simp,fun a ha b hb=> ?_⟩
  obtain ⟨k,rfl,_,h3,_⟩:=(zie l n a).1 ha
  split at hb
  ·rw [List.mem_singleton] at hb;subst hb;omega
  ·cases hb
theorem ztx (l:List Bool):∀n:Nat,(zqc l n).length≤n
 |0=>by simp [zqc]
 |n+1=>by
  have:=ztx l n
  rw [zqc,List.length_append]
  split <;> simp <;> omega
theorem yk4 {l:List Bool} {k:Nat} (h:k=0):zqc l (k+1)=zqc l k:=by rw [zqc,if_neg (by omega)];simp
def mtM (m:Option Mat) (ts:List Int) (r:Int):Bool:=match m with
 |none=>false
 |some m=>if r=0 then m.first else m.ts.contains ((ts[(r - 1).toNat]?).getD 0)
def yjp (h:Hist) (p x r:Int):Bool:=mtM (ylv h p x) (zok h x) r
def chR (f:Nat→Bool):Nat→List Int
 |0=> []
 |k+1=>chR f k++(if f (k+1)≠f k then [((k+1:Nat):Int)] else [])
theorem zty {l:List Bool} {f:Nat→Bool} (hf:∀k,(h:k < l.length)→l[k]=f k):∀k,k < l.length→zqc l (k+1)=chR f k
 |0,h=>yk4 rfl
 |k+1,h=>by
  rw [zqc,zty hf k (by omega),chR]
  congr 1
  rw [List.getElem?_eq_getElem h,show k+1 - 1=k by omega,List.getElem?_eq_getElem (show k < l.length by omega),hf _ h,hf k (by omega)]
  by_cases e:f (k+1)=f k
  ·rw [if_neg (by rw [e];simp),if_neg (by simpa using e)]
  ·rw [if_pos ⟨by omega,by simpa using e⟩,if_pos e]
theorem zin (h:Hist) (p o:Int):(zsw h p o).length=(zaj h o).length+1:=zsv _ _
theorem yah (m:Option Mat) (ts:List Int) {k:Nat} (hk:k < (yc7 (m.getD yhx) ts).length):(yc7 (m.getD yhx) ts)[k]=mtM m ts k:=by
 unfold mtM
 have hl:=zsv (m.getD yhx) ts
 cases m with
 |none=>cases k with
  |zero=>rfl
  |succ k=>simp only [yc7,List.getElem_cons_succ,List.getElem_map];rfl
 |some m=>cases k with
  |zero=>rfl
  |succ k=>
   have hk':k < ts.length:=by omega
   simp only [yc7,List.getElem_cons_succ,List.getElem_map]
   rw [if_neg (by omega),show (((k+1:Nat):Int) - 1).toNat=k by omega,List.getElem?_eq_getElem hk'];rfl
theorem ye0 {h:Hist} {p x:Int} (hi:zaj h x=zok h x) {k:Nat} (hk:k < (zsw h p x).length):(zsw h p x)[k]=yjp h p x k:=by
 rw [yjp,←hi];exact yah (ylv h p x) (zaj h x) hk
theorem zyb {h:Hist} {x:Int}:zz0 h x=0 ↔ q6 h=0∧0≤x∧x < h.os.length:=by
 constructor
 ·intro e
  obtain ⟨a,b⟩:=yhn e
  exact ⟨zat.2 a,b⟩
 ·rintro ⟨a,b⟩;exact zsd a b
theorem zuk {h:Hist} {p x:Int}:zhm h p x=0 ↔ q6 h=0∧(0≤x∧x < h.os.length)∧0≤p∧p < h.ps.length:=by
 unfold zhm
 by_cases e:zz0 h x=0
 ·rw [if_pos e]
  obtain ⟨a,b⟩:=zyb.1 e
  by_cases hp:0≤p∧p < h.ps.length
  ·rw [if_pos hp];exact ⟨fun _=>⟨a,b,hp⟩,fun _=>rfl⟩
  ·rw [if_neg hp];exact ⟨fun q=>(by cases q),fun q=>absurd q.2.2 hp⟩
 ·rw [if_neg e];exact ⟨fun q=>absurd q e,fun q=>absurd (zyb.2 ⟨q.1,q.2.1⟩) e⟩
theorem yo3 {h:Hist} {p x r:Int} (he:zhm h p x≠0):mtE h p x r=zhm h p x∧mtB h p x r=false∧chL h p x= []:=by
 have e:mtE h p x r=zhm h p x:=by rw [mtE,if_neg he]
 exact ⟨e,by rw [mtB,e,if_neg he],by rw [chL,if_neg he]⟩
theorem zqx {h:Hist} {p x:Int} (he:zhm h p x=0):zaj h x=zok h x:=by
 obtain ⟨a,⟨b,c⟩,_⟩:=zuk.1 he
 exact zlg (zat.1 a) b c
theorem yn8 {h:Hist} {p x:Int} (he:zhm h p x=0):chL h p x=chR (fun k=>yjp h p x k) (zok h x).length:=by
 have hi:=zqx he
 have hl:=zin h p x
 rw [chL,if_pos he,yhe,hl,←hi]
 exact zty (f:=fun k=>yjp h p x k) (fun k hk=>ye0 hi hk) _ (by omega)
def yii (scan:List Seen) (x:Int):Option Ver:=(scan.filter fun s=>s.o==x).getLast?.map Seen.v
def yjd (l:List Ev) (t:Int) (n:Nat) (scan:List Seen) (x:Int):Ver:=match yii scan x with
 |some v=>v
 |none=>zzu (zd2 l t x n)
def zvm (l:List Ev) (t:Int):List (Int×Ver):=zzz (fun e:Ev=>e.t==t && e.kind==2) Ev.o Ev.v [] l
def yfb (m:List (Int×Ver)) (scan:List Seen):List (Int×Ver):=zzz (fun _:Seen=>true) Seen.o Seen.v m scan
theorem zxe {l:List Ev} {t:Int} {k:Nat} (hk:k < l.length) (h:(l[k].t==t && l[k].kind==2)=true):zvm (l.take (k+1)) t=zcq l[k].o l[k].v (zvm (l.take k) t):=by
 rw [List.take_succ_eq_append_getElem hk,zvm,zzz,List.foldl_append,List.foldl_cons,List.foldl_nil,if_pos h];rfl
theorem zxf {l:List Ev} {t:Int} {k:Nat} (hk:k < l.length) (h:(l[k].t==t && l[k].kind==2)=false):zvm (l.take (k+1)) t=zvm (l.take k) t:=by
 rw [List.take_succ_eq_append_getElem hk,zvm,zzz,List.foldl_append,List.foldl_cons,List.foldl_nil,if_neg (by rw [h];decide)];rfl
theorem yih {m:List (Int×Ver)} {l:List Seen} {k:Nat} (hk:k < l.length):yfb m (l.take (k+1))=zcq l[k].o l[k].v (yfb m (l.take k)):=by
 rw [List.take_succ_eq_append_getElem hk,yfb,zzz,List.foldl_append,List.foldl_cons,List.foldl_nil,if_pos rfl];rfl
theorem zjm (l:List Ev) (t x:Int):∀n,n≤l.length→(zd2 l t x n).map Prod.fst=(((l.take n).filter (zbo t x)).getLast?).map Ev.v
 |0,_=>by simp [zd2]
 |n+1,hn=>by
  have hk:n < l.length:=hn
  rw [zd2,List.getElem?_eq_getElem hk,List.take_succ_eq_append_getElem hk,List.filter_append]
  simp only
  by_cases hw:zbo t x l[n]=true
  ·rw [if_pos hw,List.filter_cons_of_pos hw];simp
  ·rw [if_neg hw,List.filter_cons_of_neg hw,zjm l t x n (by omega)];simp
theorem yfz {l:List Ev} {t x:Int} {n:Nat} (scan:List Seen) (hn:n≤l.length):(zap x (yfb (zvm (l.take n) t) scan)).getD ⟨0,0⟩=yjd l t n scan x:=by
 have h1:zap x (zvm (l.take n) t)=(zd2 l t x n).map Prod.fst:=by
  rw [zjm l t x n hn,zvm,zkd]
  have:((l.take n).filter fun e=>(e.t==t && e.kind==2) && decide (e.o=x))=(l.take n).filter (zbo t x):=by
   refine List.filter_congr fun e _=> ?_
   rw [zbo,Bool.eq_iff_iff];simp only [Bool.and_eq_true,beq_iff_eq,decide_eq_true_eq]
   exact ⟨fun ⟨⟨a,b⟩,c⟩=>⟨⟨b,a⟩,c⟩,fun ⟨⟨a,b⟩,c⟩=>⟨⟨b,a⟩,c⟩⟩
  rw [this]
  cases (((l.take n).filter (zbo t x)).getLast?).map Ev.v <;> rfl
 have h2:(scan.filter fun e=>true && decide (e.o=x))=scan.filter fun s=>s.o==x:=by
  refine List.filter_congr fun e _=> ?_
  rw [Bool.true_and];rfl
 rw [yfb,zkd,h1,h2,yjd,yii]
 cases ((scan.filter fun s=>s.o==x).getLast?).map Seen.v with
 |some v=>rfl
 |none=>cases zd2 l t x n <;> rfl
def k7 (h:Hist) (e:Ev) (n:Nat):List Seen:=(upR h.os.length).map fun x=>⟨x,yjd h.evs e.t n e.scan x⟩
theorem ymc {h:Hist} {e:Ev} {n m:Nat} (hm:m < (k7 h e n).length):(k7 h e n)[m].o=m:=by
 simp only [k7,List.getElem_map];simp [upR]
theorem zk0 (h:Hist) (e:Ev) (n:Nat):(k7 h e n).length=h.os.length:=by rw [k7,oM,upR,oM,List.length_range]
def bt1:ByteArray:=⟨#[116,49]⟩
def bt2:ByteArray:=⟨#[116,50]⟩
def bP:ByteArray:=⟨#[112]⟩
def zig (l:List Conf) (z:Conf):Prop:=z∈l∧∀c∈l,zgu c=zgu z→zgq z c≤0
theorem zp9 {a b:Conf} (h:zgq a b≤0) (k:zgq b a≤0):a=b:=by
 have:=zem.anti a b
 exact zge a b (by omega)
def zef (m:List ((Int×Int)×Conf)) (c:Conf):List ((Int×Int)×Conf):=match zap (zgu c) m with
 |none=>zcq (zgu c) c m
 |some b=>if zgq c b < 0 then zcq (zgu c) c m else m
def za3 (l:List Conf):List ((Int×Int)×Conf):=l.foldl zef []
theorem zsa {l:List Conf} {c:Conf}:za3 (l++ [c])=zef (za3 l) c:=by rw [za3,List.foldl_append];rfl
def zl3 (l:List Conf) (m:List ((Int×Int)×Conf)):Prop:=∀k,match zap k m with
 |none=>∀c∈l,zgu c≠k
 |some z=>zgu z=k∧zig l z
theorem zne {l:List Conf} {m:List ((Int×Int)×Conf)} {c:Conf} (h:zl3 l m) (hc:∀d∈l,zgu d=zgu c→zgq c d≤0):zl3 (l++ [c]) (zcq (zgu c) c m):=by
 intro k
 rw [zbl]
 by_cases e:zgu c=k
 ·rw [if_pos e]
  refine ⟨e,by simp,fun d hd ed=> ?_⟩
  rcases List.mem_append.1 hd with hd|hd
  ·exact hc d hd ed
  ·rw [List.mem_singleton] at hd;rw [hd,zy2];exact Int.le_refl _
 ·rw [if_neg e]
  have:=h k
  cases hg:zap k m with
  |none=>
   rw [hg] at this
   intro d hd
   rcases List.mem_append.1 hd with hd|hd
   ·exact this d hd
   ·rw [List.mem_singleton] at hd;rw [hd];exact e
  |some z=>
   rw [hg] at this
   obtain ⟨h1,h2,h3⟩:=this
   refine ⟨h1,List.mem_append_left _ h2,fun d hd ed=> ?_⟩
   rcases List.mem_append.1 hd with hd|hd
   ·exact h3 d hd ed
   ·rw [List.mem_singleton] at hd;rw [hd,h1] at ed;exact absurd ed e
theorem ycr {l:List Conf} {m:List ((Int×Int)×Conf)} (h:zl3 l m) (c:Conf):zl3 (l++ [c]) (zef m c):=by
 unfold zef
 have hk:=h (zgu c)
 cases hg:zap (zgu c) m with
 |none=>
  rw [hg] at hk
  simp only
  exact zne h fun d hd e=>absurd e (hk d hd)
 |some b=>
  rw [hg] at hk
  obtain ⟨h1,h2,h3⟩:=hk
  simp only
  by_cases hlt:zgq c b < 0
  ·rw [if_pos hlt]
   exact zne h fun d hd e=>zem.trans _ _ _ (Int.le_of_lt hlt) (h3 d hd (e.trans h1.symm))
  ·rw [if_neg hlt]
   intro k
   have hq:=h k
   cases hg2:zap k m with
   |none=>
    rw [hg2] at hq
    intro d hd
    rcases List.mem_append.1 hd with hd|hd
    ·exact hq d hd
    ·rw [List.mem_singleton] at hd;rw [hd]
     intro e;rw [e,hg2] at hg;cases hg
   |some z=>
    rw [hg2] at hq
    obtain ⟨q1,q2,q3⟩:=hq
    refine ⟨q1,List.mem_append_left _ q2,fun d hd ed=> ?_⟩
    rcases List.mem_append.1 hd with hd|hd
    ·exact q3 d hd ed
    ·rw [List.mem_singleton] at hd
     rw [hd] at ed ⊢
     have e2:k=zgu c:=q1.symm.trans ed.symm
     rw [e2,hg] at hg2
     injection hg2 with hg2
     rw [←hg2]
     have:=zem.anti c b;omega
theorem zt1 (l:List Conf):zl3 l (za3 l):=by
 suffices h:∀(l p:List Conf) (m:List ((Int×Int)×Conf)),zl3 p m→zl3 (p++l) (l.foldl zef m) by
  have:=h l [] [] (fun k=>by simp [zap])
  simpa [za3] using this
 intro l
 induction l with
 |nil=>intro p m h;simpa using h
 |cons c r ih=>
  intro p m h
  have:=ih (p++ [c]) (zef m c) (ycr h c)
  simpa using this
theorem zr9 {m:List ((Int×Int)×Conf)} (h:(m.map Prod.fst).Nodup) (c:Conf):((zef m c).map Prod.fst).Nodup:=by
 unfold zef
 split
 ·exact (zis _ _ _ h).1
 ·split
  ·exact (zis _ _ _ h).1
  ·exact h
theorem zhi (l:List Conf):((za3 l).map Prod.fst).Nodup:=by
 suffices h:∀(l:List Conf) (m:List ((Int×Int)×Conf)),(m.map Prod.fst).Nodup→((l.foldl zef m).map Prod.fst).Nodup by exact h l [] .nil
 intro l
 induction l with
 |nil=>intro m h;exact h
 |cons c r ih=>intro m h;exact ih _ (zr9 h c)
theorem zkg {K V:Type} [DecidableEq K] {k:K} {v:V}:∀{m:List (K×V)},(m.map Prod.fst).Nodup→(zap k m=some v ↔ (k,v)∈m)
 | [],_=>by simp [zap]
 |p::r,h=>by
  rw [List.map_cons,List.nodup_cons] at h
  rw [zap,List.mem_cons]
  by_cases e:p.1=k
  ·rw [if_pos e]
   constructor
   ·intro q;injection q with q;left;rw [←e,←q]
   ·rintro (q|q)
    ·rw [←q]
    ·exact absurd (List.mem_map.2 ⟨_,q,e.symm⟩) h.1
  ·rw [if_neg e,zkg h.2]
   constructor
   ·exact .inr
   ·rintro (q|q)
    ·exact absurd (by rw [←q]) e
    ·exact q
theorem zlz {l:List Conf} {z:Conf}:z∈(za3 l).map Prod.snd ↔ zig l z:=by
 have hn:=zhi l
 constructor
 ·intro h
  obtain ⟨p,hp,rfl⟩:=List.mem_map.1 h
  have hg:=(zkg (k:=p.1) (v:=p.2) hn).2 hp
  have:=zt1 l p.1
  rw [hg] at this
  exact this.2
 ·intro h
  have:=zt1 l (zgu z)
  cases hg:zap (zgu z) (za3 l) with
  |none=>rw [hg] at this;exact absurd rfl (this z h.1)
  |some y=>
   rw [hg] at this
   obtain ⟨h1,h2,h3⟩:=this
   have:y=z:=zp9 (h3 z h.1 h1.symm) (h.2 y h2 h1)
   subst this
   exact List.mem_map.2 ⟨_,(zkg hn).1 hg,rfl⟩
abbrev RkM:=List ((Int×Int×Int)×Int)
def zou (x:Int) (v:Ver):Int×Int×Int:=(x,v.t,v.k)
theorem zhs {x y:Int} {v w:Ver}:zou x v=zou y w ↔ x=y∧v=w:=by
 cases v;cases w;simp [zou]
def zf8 (h:Hist) (x t:Int):Ver:=zzu (zi5 h.evs t x)
def zfx (h:Hist) (x:Int):Nat→List Int→RkM→RkM
 |_,[],m=>m
 |i,t::r,m=>zfx h x (i+1) r (zcq (zou x (zf8 h x t)) ((i:Int)+1) m)
def yat (h:Hist) (x:Int) (m:RkM):RkM:=zfx h x 0 (zaj h x) (zcq (zou x ⟨0,0⟩) 0 m)
def rkM (h:Hist):Nat→RkM
 |0=> []
 |n+1=>yat h n (rkM h n)
theorem zmp (h:Hist) (x:Int):∀(l:List Int) (i:Nat) (t:Int) (m:RkM),zfx h x i (l++ [t]) m=zcq (zou x (zf8 h x t)) (((i+l.length:Nat):Int)+1) (zfx h x i l m)
 | [],i,t,m=>by simp [zfx]
 |a::r,i,t,m=>by
  rw [List.cons_append,zfx,zmp h x r (i+1) t,zfx,List.length_cons,show i+1+r.length=i+(r.length+1) by omega]
theorem zw0 {h:Hist} {x:Int} {l:List Int} {k:Nat} (hk:k < l.length) (m:RkM):zfx h x 0 (l.take (k+1)) m=zcq (zou x (zf8 h x l[k])) ((k:Int)+1) (zfx h x 0 (l.take k) m):=by
 rw [List.take_succ_eq_append_getElem hk,zmp,List.length_take,Nat.min_eq_left (by omega),Nat.zero_add]
theorem zhb (h:Hist) {x y:Int} (hxy:y≠x) (v:Ver):∀(l:List Int) (i:Nat) (m:RkM),zap (zou y v) (zfx h x i l m)=zap (zou y v) m
 | [],_,_=>rfl
 |t::r,i,m=>by
  rw [zfx,zhb h hxy v r (i+1),zbl,if_neg]
  intro e;exact hxy ((zhs.1 e).1).symm
theorem zo5 (h:Hist) (x:Int) (v:Ver):∀(l:List Int) (i:Nat) (m:RkM),(l.map (zf8 h x)).Nodup→zap (zou x v) (zfx h x i l m)=if zbh (fun t=>zf8 h x t==v) i l ≥ 0 then some (zbh (fun t=>zf8 h x t==v) i l+1) else zap (zou x v) m
 | [],i,m,_=>by rw [zfx,zbh,if_neg (by decide)]
 |t::r,i,m,hn=>by
  rw [List.map_cons,List.nodup_cons] at hn
  rw [zfx,zo5 h x v r (i+1) _ hn.2]
  by_cases e:zf8 h x t=v
  ·have hno:decide (zbh (fun t=>zf8 h x t==v) (i+1) r ≥ 0)=false:=by
    rw [zdw,List.any_eq_false]
    intro z hz q
    exact hn.1 (by rw [e,←eq_of_beq q];exact List.mem_map_of_mem hz)
   have e1:zbh (fun t=>zf8 h x t==v) i (t::r)=(i:Int):=by rw [zbh,if_pos (by simpa using e)]
   rw [e1,if_neg (oF hno),if_pos (by omega),zbl,if_pos (by rw [e])]
  ·have e1:zbh (fun t=>zf8 h x t==v) i (t::r)=zbh (fun t=>zf8 h x t==v) (i+1) r:=by rw [zbh,if_neg (by simpa using e)]
   rw [e1]
   by_cases q:zbh (fun t=>zf8 h x t==v) (i+1) r ≥ 0
   ·rw [if_pos q,if_pos q]
   ·rw [if_neg q,if_neg q,zbl,if_neg]
    intro e2;exact e ((zhs.1 e2).2)
theorem zyk {h:Hist} (hs:zar h=true) {x:Int} (h0:0≤x) (h1:x < h.os.length):((zaj h x).map (zf8 h x)).Nodup∧∀t∈zaj h x,zf8 h x t≠⟨0,0⟩:=by
 obtain ⟨hn,_,hm⟩:=zhg hs h0 h1
 have hv:∀t∈zaj h x,(zf8 h x t).t=t∧0 < (zf8 h x t).k:=fun t ht=>by
  obtain ⟨w1,_⟩:=zg8.1 ((hm t).1 ht)
  obtain ⟨v,i,hf⟩:=zyl w1
  obtain ⟨_,_,_,vt,vk,_⟩:=zh7 hs hf
  rw [zf8,hf];exact ⟨vt,vk⟩
 constructor
 ·rw [List.Nodup,List.pairwise_map]
  refine (List.pairwise_iff_getElem).2 fun i j hi hj hij e=> ?_
  have a:=(hv _ (List.getElem_mem hi)).1
  have b:=(hv _ (List.getElem_mem hj)).1
  rw [e] at a
  exact (List.pairwise_iff_getElem.1 hn) i j hi hj hij (a.symm.trans b)
 ·intro t ht e
  have:=(hv t ht).2
  rw [e] at this;exact absurd this (by decide)
theorem zw1 (h:Hist) (x:Int) (v:Ver):∀n:Nat,(n:Int)≤x∨x < 0→zap (zou x v) (rkM h n)=none
 |0,_=>rfl
 |n+1,hx=>by
  have hne:x≠(n:Int):=by omega
  rw [rkM,yat,zhb h hne,zbl,if_neg,zw1 h x v n (by omega)]
  intro e;exact hne ((zhs.1 e).1).symm
theorem zk2 {h:Hist} (hs:zar h=true) {x:Int} (v:Ver) (h0:0≤x) (h1:x < h.os.length):∀n:Nat,n≤h.os.length→x < n→zap (zou x v) (rkM h n)=if v=⟨0,0⟩ then some 0 else if zjw h x v ≥ 0 then some (zjw h x v+1) else none
 |0,_,hx=>absurd hx (by omega)
 |n+1,hn,hx=>by
  by_cases e:x=(n:Int)
  ·subst e
   obtain ⟨a,b⟩:=zyk hs h0 h1
   rw [rkM,yat,zo5 h _ v _ _ _ a,zbl]
   have hr:zbh (fun t=>zf8 h (n:Int) t==v) 0 (zaj h n)=zjw h n v:=rfl
   rw [hr]
   by_cases hv:v=⟨0,0⟩
   ·subst hv
    have:decide (zjw h n ⟨0,0⟩ ≥ 0)=false:=by
     rw [zjw,zdw,List.any_eq_false]
     intro t ht q
     exact b t ht (eq_of_beq q)
    rw [if_neg (oF this),if_pos rfl,if_pos rfl]
   ·rw [if_neg hv,if_neg (fun e=>hv ((zhs.1 e).2).symm),zw1 h _ v n (.inl (Int.le_refl _))]
  ·rw [rkM,yat,zhb h e,zbl,if_neg (fun q=>e ((zhs.1 q).1).symm)]
   exact zk2 hs v h0 h1 n (by omega) (by omega)
def zew (h:Hist) (e:Ev) (c:Int) (a:Nat) (x r:Int):Option Conf:=
 if r > ((zaj h x).length:Int) then none else if (((zaj h x)[(r - 1).toNat]?).getD 0==e.t)=true then none
 else some ⟨e.t,((zaj h x)[(r - 1).toNat]?).getD 0,c,a,zb9 h (((zaj h x)[(r - 1).toNat]?).getD 0) x,x,e.p⟩
def zgk (h:Hist) (x:Int) (v:Ver):Option Int:=zap (zou x v) (rkM h h.os.length)
def ze5 (h:Hist) (e:Ev):List (Int×List Int):=match zgk h e.o e.v with
 |none=> []
 |some r=> [(e.o,[r+1])]
def rwOver (h:Hist) (p x r:Int):List Int:=(chL h p x).dropWhile fun k=> !decide (k > r)
def zd4 (h:Hist) (e:Ev) (s:Seen):Option (Int×List Int):=match zgk h s.o s.v with
 |none=>none
 |some r=>if (chL h e.p s.o).any (fun k=>decide (k > r))=true then some (s.o,rwOver h e.p s.o r) else none
def zno (h:Hist) (e:Ev) (a:Nat):List (Int×List Int):=(k7 h e a).filterMap (zd4 h e)
def v7 (h:Hist) (e:Ev) (a:Nat):List (Int×List Int):=if e.kind=3 then ze5 h e else if e.kind=4 then zno h e a else []
def zfm (e:Ev):Int:=if e.kind=3 then 3 else if e.kind=4 then 4 else 0
def zf7 (h:Hist) (e:Ev) (a:Nat):List Conf:=if zf6 h.evs e.t 5=true then (v7 h e a).flatMap fun p=>p.2.filterMap (zew h e (zfm e) a p.1) else []
def rkR (h:Hist) (x:Int) (v:Ver):Option Int:=if v=⟨0,0⟩ then some 0 else if zbh (fun t=>zf8 h x t==v) 0 (zok h x) ≥ 0 then some (zbh (fun t=>zf8 h x t==v) 0 (zok h x)+1) else none
def yly (h:Hist) (p x:Int):List Int:=chR (fun k=>yjp h p x (k:Nat)) (zok h x).length
theorem ymg {h:Hist} (hs:zar h=true) {x:Int} (h0:0≤x) (h1:x < h.os.length) (v:Ver):zgk h x v=rkR h x v:=by
 rw [zgk,zk2 hs v h0 h1 _ (Nat.le_refl _) h1,rkR,zjw,←zlg hs h0 h1];rfl
theorem zk4 {h:Hist} {e:Ev} (he:zdq h e=true) (h3:e.kind=3):(0≤e.o∧e.o < h.os.length)∧e.p=0:=by
 obtain ⟨_,_,_,hc,hq⟩:=zcb he
 constructor
 ·rw [zg5,if_neg (by omega),if_neg (by omega),if_pos h3] at hc
  simp only [zdv,Bool.and_eq_true,za7] at hc
  exact hc.1
 ·rw [←hq];simp only [zg5];rw [if_neg (by omega),if_neg (by omega),if_pos h3]
theorem ydc {h:Hist} {e:Ev} (he:zdq h e=true) (h4:e.kind=4):0≤e.p∧e.p < h.ps.length:=by
 obtain ⟨_,_,_,hc,_⟩:=zcb he
 rw [zg5,if_neg (by omega),if_neg (by omega),if_neg (by omega),if_pos h4] at hc
 simp only [zcg,Bool.and_eq_true,za7] at hc
 exact hc.1.1
theorem zto {α β:Type} {f g:α→Option β}:∀{l:List α},(∀a∈l,f a=g a)→l.filterMap f=l.filterMap g
 | [],_=>rfl
 |a::r,h=>by rw [List.filterMap_cons,List.filterMap_cons,h a (by simp),zto fun b hb=>h b (by simp [hb])]
def zm9 (a b:Conf):Int:=zjy [a.f,a.t,a.a,a.b,a.o,a.p] [b.f,b.t,b.a,b.b,b.o,b.p]
theorem zlp {a b:Conf} (h:a.k=b.k):zm9 a b=zgq a b:=by
 rw [zm9,zgq,yg4,yg4]
 simp only [zjy,h,Int.lt_irrefl,if_false]
def zl4 (h:Hist) (x r:Int):Int:=((zaj h x)[(r - 1).toNat]?).getD 0
def wrC (h:Hist) (e:Ev) (a:Nat) (k f x p:Int):Conf:=⟨f,e.t,k,zb9 h f x,a,x,p⟩
def zb6 (h:Hist) (e:Ev) (a:Nat):List Conf:=if (e.kind==3)=true then
    (if ((zgk h e.o e.v).getD 0==0)=true then [] else if (zl4 h e.o ((zgk h e.o e.v).getD 0)==e.t)=true then [] else [wrC h e a 1 (zl4 h e.o ((zgk h e.o e.v).getD 0)) e.o 0]) else []
def wrQ (h:Hist) (e:Ev) (a:Nat) (x k:Int):Option Conf:=if (zl4 h x k==e.t)=true then none else some (wrC h e a 2 (zl4 h x k) x e.p)
def zaq (h:Hist) (e:Ev) (a:Nat) (s:Seen):List Conf:=match zgk h s.o s.v with
 |none=> []
 |some r=>((chL h e.p s.o).takeWhile fun k=>decide (k≤r)).filterMap (wrQ h e a s.o)
def zdk (h:Hist) (e:Ev) (a:Nat):List Conf:=if (e.kind==4)=true then (k7 h e a).flatMap (zaq h e a) else []
def zae (h:Hist) (F:Ev→Nat→List Conf):Nat→List Conf
 |0=> []
 |n+1=>zae h F n++(match h.evs[n]? with|some e=>if zf6 h.evs e.t 5=true then F e n else []|none=> [])
def zdd (h:Hist):List Conf:=zae h (zb6 h) h.evs.length
def zdr (h:Hist):List Conf:=zae h (zdk h) h.evs.length
def zb1 (l:List Conf):List Conf:=zwe zgq ((za3 l).map Prod.snd)
def zz7 (h:Hist) (x f:Int) (j:Nat) (e:Ev):Option Conf:=if (e.kind==3 && (e.o==x && (e.v==zf8 h x f && (!(e.t==f) && zf6 h.evs e.t 5))))=true then some (wrC h e j 1 f x 0) else none
def zik (h:Hist):List Conf:=(upR h.os.length).flatMap fun x=>(zok h x).flatMap fun f=>zed (zz7 h x f) h.evs h.evs.length
def zuh (h:Hist) (e:Ev) (a:Nat) (s:Seen) (k:Int):Option Conf:=match rkR h s.o s.v with
 |none=>none
 |some r=>if k≤r then (if (((zok h s.o)[(k - 1).toNat]?).getD 0==e.t)=true then none else some (wrC h e a 2 (((zok h s.o)[(k - 1).toNat]?).getD 0) s.o e.p)) else none
def zug (h:Hist) (e:Ev) (a:Nat):List Conf:=if (e.kind==4)=true then (k7 h e a).flatMap fun s=>(yly h e.p s.o).filterMap (zuh h e a s) else []
def zii (h:Hist):List Conf:=zae h (zug h) h.evs.length
def zec (a b:Conf):Bool:=decide (zm9 a b < 0)
def yj9 (out:List Conf) (c:Conf):List Conf:=out.takeWhile (zec · c)++c::out.dropWhile (zec · c)
def zmu (l out:List Conf) (c:Conf):List Conf:=if (l.any fun d=>d.f==c.f && (d.t==c.t && zec d c))=true then out else if out.contains c=true then out else yj9 out c
def zmv (l:List Conf):List Conf:=l.foldl (zmu l) []
theorem zqw {l:List Int} (hl:l.Pairwise (· < ·)) (r:Int):(l.takeWhile fun k=>decide (k≤r))=l.filter fun k=>decide (k≤r):=by
 induction l with
 |nil=>rfl
 |cons a l ih=>
  have h':=List.pairwise_cons.1 hl
  rw [List.takeWhile_cons,List.filter_cons]
  by_cases h:a≤r
  ·rw [decide_eq_true h,if_pos rfl,if_pos rfl,ih h'.2]
  ·rw [decide_eq_false h]
   simp only [Bool.false_eq_true,if_false]
   symm
   rw [List.filter_eq_nil_iff]
   intro b hb q
   have:=h'.1 b hb
   have:=oT q
   omega
theorem zvq {h:Hist} (hs:zar h=true) {e:Ev} (he:e∈h.evs) (a:Nat):zdk h e a=zug h e a:=by
 rw [zdk,zug]
 by_cases h4:e.kind=4
 ·rw [if_pos (by simpa using h4),if_pos (by simpa using h4)]
  have hp:=ydc (zcz hs _ he) h4
  have key:∀s∈k7 h e a,zaq h e a s=(yly h e.p s.o).filterMap (zuh h e a s):=fun s hsm=>by
   have ho:0≤s.o∧s.o < h.os.length:=by
    rw [k7,List.mem_map] at hsm
    obtain ⟨x,hx,rfl⟩:=hsm
    exact (zku _ _).1 hx
   have ht:zhm h e.p s.o=0:=zuk.2 ⟨zat.2 hs,ho,hp⟩
   have hch:chL h e.p s.o=yly h e.p s.o:=yn8 ht
   have hlt:(chL h e.p s.o).Pairwise (· < ·):=by rw [chL,if_pos ht];exact zy4 _ _
   rw [zaq,ymg hs ho.1 ho.2]
   cases hr:rkR h s.o s.v with
   |none=>
    symm
    simp only
    rw [List.filterMap_eq_nil_iff]
    intro k _;rw [zuh,hr]
   |some r=>
    simp only
    rw [zqw hlt,←hch,List.filterMap_filter]
    refine zto fun k hk=> ?_
    rw [zuh,hr]
    simp only
    by_cases q:k≤r
    ·rw [if_pos (decide_eq_true q),if_pos q,wrQ,zl4,zlg hs ho.1 ho.2]
    ·rw [if_neg (by simpa using q),if_neg q]
  generalize k7 h e a=L at key
  induction L with
  |nil=>rfl
  |cons s r ih=>rw [List.flatMap_cons,List.flatMap_cons,key s (by simp),ih fun s hs=>key s (by simp [hs])]
 ·rw [if_neg (by simpa using h4),if_neg (by simpa using h4)]
theorem zks {h:Hist} {F G:Ev→Nat→List Conf} (hf:∀e∈h.evs,∀a,F e a=G e a):∀n,zae h F n=zae h G n
 |0=>rfl
 |n+1=>by
  rw [zae,zae,zks hf n]
  cases hn:h.evs[n]? with
  |none=>rfl
  |some e=>simp only;rw [hf e (List.mem_of_getElem? hn)]
theorem zho {h:Hist} (hs:zar h=true):zdr h=zii h:=zks (fun e he a=>zvq hs he a) _
theorem zfq {h:Hist} {F:Ev→Nat→List Conf} {z:Conf}:∀{n:Nat},n≤h.evs.length→(z∈zae h F n ↔ ∃j,∃hj:j < h.evs.length,j < n∧zf6 h.evs h.evs[j].t 5=true∧z∈F h.evs[j] j)
 |0,_=>by simp [zae]
 |n+1,hn=>by
  rw [zae,List.mem_append,zfq (n:=n) (by omega),List.getElem?_eq_getElem (by omega)]
  simp only
  constructor
  ·rintro (⟨j,hj,q,r⟩|q)
   ·exact ⟨j,hj,by omega,r⟩
   ·split at q
    ·exact ⟨n,by omega,by omega, ‹_›,q⟩
    ·cases q
  ·rintro ⟨j,hj,q,r,w⟩
   by_cases e:j=n
   ·subst e;right;rw [if_pos r];exact w
   ·left;exact ⟨j,hj,by omega,r,w⟩
theorem zkh {α:Type} {f:Nat→Ev→Option α} {l:List Ev} {z:α}:∀{n:Nat},n≤l.length→(z∈zed f l n ↔ ∃j,∃hj:j < l.length,j < n∧f j l[j]=some z)
 |0,_=>by simp [zed]
 |n+1,hn=>by
  rw [zpq (by omega),List.mem_append,zkh (n:=n) (by omega),Option.mem_toList]
  constructor
  ·rintro (⟨j,hj,q,r⟩|q)
   ·exact ⟨j,hj,by omega,r⟩
   ·exact ⟨n,by omega,by omega,q⟩
  ·rintro ⟨j,hj,q,r⟩
   by_cases e:j=n
   ·subst e;exact .inr r
   ·exact .inl ⟨j,hj,by omega,r⟩
theorem yip {h:Hist} (hs:zar h=true) {x:Int} (h0:0≤x) (h1:x < h.os.length) {v:Ver} {r:Int} (hr:zgk h x v=some r) (hn:r≠0):∃k,∃hk:k < (zaj h x).length,r=(k:Int)+1∧zf8 h x (zaj h x)[k]=v:=by
 rw [zgk,zk2 hs v h0 h1 _ (Nat.le_refl _) h1] at hr
 split at hr
 ·injection hr with hr;omega
 ·split at hr
  ·rename_i q
   injection hr with hr
   have:=zea (fun t=>zzu (zi5 h.evs t x)==v) (zaj h x) 0
   split at this
   ·obtain ⟨k,hk,e,e1,e2⟩:=this
    refine ⟨k,hk,?_,?_⟩
    ·rw [zjw,e] at hr;omega
    ·rw [e1];exact eq_of_beq e2
   ·rw [zjw,this] at q;omega
  ·cases hr
theorem yir {h:Hist} (hs:zar h=true) {x:Int} (h0:0≤x) (h1:x < h.os.length) {k:Nat} (hk:k < (zaj h x).length):zgk h x (zf8 h x (zaj h x)[k])=some ((k:Int)+1):=by
 obtain ⟨v,i,hf,⟨hi,_⟩,hv,hr,_⟩:=zsq hs h0 h1 hk
 have e:zf8 h x (zaj h x)[k]=v:=by rw [zf8,hf];rfl
 rw [e,zgk,zk2 hs v h0 h1 _ (Nat.le_refl _) h1,if_neg (by rintro rfl;exact absurd hv (by decide)),hr,if_pos (by omega)]
theorem zij {h:Hist} (hs:zar h=true) {j:Nat} (hj:j < h.evs.length) {z:Conf}:z∈zb6 h h.evs[j] j ↔ h.evs[j].kind=3∧∃k,∃hk:k < (zaj h h.evs[j].o).length,zf8 h h.evs[j].o (zaj h h.evs[j].o)[k]=h.evs[j].v∧(zaj h h.evs[j].o)[k]≠h.evs[j].t∧z=wrC h h.evs[j] j 1 (zaj h h.evs[j].o)[k] h.evs[j].o 0:=by
 rw [zb6]
 by_cases h3:h.evs[j].kind=3
 ·rw [if_pos (by simpa using h3)]
  obtain ⟨⟨o0,o1⟩,_⟩:=zk4 (zcz hs _ (List.getElem_mem hj)) h3
  constructor
  ·intro q
   split at q
   ·cases q
   ·rename_i q0
    split at q
    ·cases q
    ·rename_i q2
     rw [List.mem_singleton] at q
     cases hr:zgk h h.evs[j].o h.evs[j].v with
     |none=>rw [hr] at q0;simp at q0
     |some r=>
      rw [hr] at q q0 q2
      simp only [Option.getD_some] at q q0 q2
      obtain ⟨k,hk,e1,e2⟩:=yip hs o0 o1 hr (by simpa using q0)
      have ea:zl4 h h.evs[j].o r=(zaj h h.evs[j].o)[k]:=by
       rw [zl4,show (r - 1).toNat=k by omega,List.getElem?_eq_getElem hk];rfl
      rw [ea] at q q2
      exact ⟨h3,k,hk,e2,by simpa using q2,q⟩
  ·rintro ⟨_,k,hk,e1,e2,rfl⟩
   have hr:=yir hs o0 o1 hk
   rw [e1] at hr
   rw [hr]
   simp only [Option.getD_some]
   have ea:zl4 h h.evs[j].o ((k:Int)+1)=(zaj h h.evs[j].o)[k]:=by
    rw [zl4,show ((k:Int)+1 - 1).toNat=k by omega,List.getElem?_eq_getElem hk];rfl
   rw [if_neg (by simp;omega),ea,if_neg (by simpa using e2)]
   simp
 ·rw [if_neg (by simpa using h3)]
  simp [h3]
theorem zj1 {h:Hist} (hs:zar h=true) (z:Conf):z∈zdd h ↔ z∈zik h:=by
 rw [zdd,zfq (Nat.le_refl _),zik,List.mem_flatMap]
 constructor
 ·rintro ⟨j,hj,_,hc,hz⟩
  obtain ⟨h3,k,hk,e1,e2,rfl⟩:=(zij hs hj).1 hz
  obtain ⟨⟨o0,o1⟩,_⟩:=zk4 (zcz hs _ (List.getElem_mem hj)) h3
  refine ⟨h.evs[j].o,(zku _ _).2 ⟨o0,o1⟩,?_⟩
  rw [List.mem_flatMap]
  refine ⟨(zaj h h.evs[j].o)[k],by rw [←zlg hs o0 o1];exact List.getElem_mem hk,?_⟩
  rw [zkh (Nat.le_refl _)]
  refine ⟨j,hj,hj,?_⟩
  rw [zz7,if_pos (by simp only [h3,hc,e1,Bool.and_eq_true,beq_self_eq_true,true_and,and_true,Bool.not_eq_true',beq_eq_false_iff_ne];exact fun q=>e2 q.symm)]
 ·rintro ⟨x,hx,hz⟩
  obtain ⟨x0,x1⟩:=(zku _ _).1 hx
  rw [List.mem_flatMap] at hz
  obtain ⟨f,hf,hz⟩:=hz
  rw [zkh (Nat.le_refl _)] at hz
  obtain ⟨j,hj,_,hz⟩:=hz
  unfold zz7 at hz
  split at hz
  ·rename_i q
   injection hz with hz
   simp only [Bool.and_eq_true,beq_iff_eq,Bool.not_eq_true',beq_eq_false_iff_ne] at q
   obtain ⟨q3,qo,qv,qt,qc⟩:=q
   rw [←zlg hs x0 x1] at hf
   obtain ⟨k,hk,ek⟩:=List.mem_iff_getElem.1 hf
   refine ⟨j,hj,hj,qc,(zij hs hj).2 ⟨q3,k,by rw [qo];exact hk,?_⟩⟩
   simp only [qo]
   rw [ek]
   exact ⟨qv.symm,fun q=>qt q.symm,hz.symm⟩
  ·cases hz
def zvp (l:List Conf):Prop:=∀a∈l,∀b∈l,a.k=b.k
theorem zm4 {α:Type} {p:α→Bool}:∀{l:List α} {a:α} {r:List α},l.dropWhile p=a::r→p a=false
 | [],_,_,h=>by simp at h
 |x::l,a,r,h=>by
  rw [List.dropWhile_cons] at h
  split at h
  ·exact zm4 h
  ·injection h with h _;subst h;simpa using ‹¬p x=true›
theorem zow {α:Type} {p:α→Bool}:∀{l:List α} {a:α},a∈l.takeWhile p→p a=true
 |x::l,a,h=>by
  rw [List.takeWhile_cons] at h
  split at h
  ·rcases List.mem_cons.1 h with h|h
   ·subst h;assumption
   ·exact zow h
  ·cases h
theorem yb2 {out:List Conf} {c z:Conf}:z∈yj9 out c ↔ z=c∨z∈out:=by
 rw [yj9,List.mem_append,List.mem_cons]
 have:z∈out ↔ z∈out.takeWhile (zec · c)∨z∈out.dropWhile (zec · c):=by
  rw [←List.mem_append,List.takeWhile_append_dropWhile]
 rw [this]
 constructor
 ·rintro (h|h|h)
  ·exact .inr (.inl h)
  ·exact .inl h
  ·exact .inr (.inr h)
 ·rintro (h|h|h)
  ·exact .inr (.inl h)
  ·exact .inl h
  ·exact .inr (.inr h)
theorem zlc {a b c:Conf} (h:zgq a b < 0) (k:zgq b c≤0):zgq a c < 0:=by
 have h1:=zgp _ _ _ (Int.le_of_lt h) k
 rcases Int.lt_or_eq_of_le (show zgq a c≤0 from h1) with q|q
 ·exact q
 ·have e:=zge a c q
  subst e
  have:=zem.anti a b
  omega
theorem zrs {out:List Conf} {c:Conf} (hk:∀z∈out,z.k=c.k) (hs:out.Pairwise (LtC zgq)) (hc:c ∉ out):(yj9 out c).Pairwise (LtC zgq):=by
 have hd:=(List.takeWhile_append_dropWhile (p:=(zec · c)) (l:=out)).symm
 have ha:∀z∈out,zec z c=decide (zgq z c < 0):=fun z hz=>by rw [zec,zlp (hk z hz)]
 have hs1:=hs
 rw [hd,List.pairwise_append] at hs1
 obtain ⟨p1,p2,p3⟩:=hs1
 have hsub:∀z∈out.dropWhile (zec · c),z∈out:=fun z hz=>(List.dropWhile_sublist _).subset hz
 have hD:∀z∈out.dropWhile (zec · c),zgq c z < 0:=fun z hz=>by
  cases hq:out.dropWhile (zec · c) with
  |nil=>rw [hq] at hz;cases hz
  |cons a r=>
   have h1:=zm4 hq
   rw [ha a (hsub a (by rw [hq];simp))] at h1
   have h1:=oF h1
   have h2:zgq c a < 0:=by
    have:=zem.anti c a
    rcases Int.lt_or_eq_of_le (show zgq c a≤0 by omega) with q|q
    ·exact q
    ·exact absurd (zge _ _ q) fun e=>hc (by rw [e];exact hsub a (by rw [hq];simp))
   rw [hq] at hz p2
   rcases List.mem_cons.1 hz with rfl|hz
   ·exact h2
   ·exact zlc h2 (Int.le_of_lt ((List.pairwise_cons.1 p2).1 z hz))
 rw [yj9,List.pairwise_append]
 refine ⟨p1,List.pairwise_cons.2 ⟨hD,p2⟩,fun a h1 b hb=> ?_⟩
 have hac:zgq a c < 0:=by
  have:=zow h1
  rw [ha a ((List.takeWhile_sublist _).subset h1)] at this
  exact oT this
 rcases List.mem_cons.1 hb with rfl|hb
 ·exact hac
 ·exact zlc hac (Int.le_of_lt (hD b hb))
theorem zxp {l:List Conf} (hk:zvp l) {c:Conf} (hc:c∈l):(l.any fun d=>d.f==c.f && (d.t==c.t && zec d c))=true ↔ ¬zig l c:=by
 rw [List.any_eq_true]
 constructor
 ·rintro ⟨d,hd,q⟩ hm
  simp only [Bool.and_eq_true,beq_iff_eq] at q
  obtain ⟨q1,q2,q3⟩:=q
  rw [zec,zlp (hk d hd c hc)] at q3
  have q3:=oT q3
  have:=hm.2 d hd (by rw [zgu,zgu,q1,q2])
  have:=zem.anti c d
  omega
 ·intro hm
  apply Classical.byContradiction
  intro hn
  refine hm ⟨hc,fun d hd e=> ?_⟩
  have e':d.f=c.f∧d.t=c.t:=by simpa [zgu] using e
  apply Classical.byContradiction
  intro q
  have:=zem.anti c d
  exact hn ⟨d,hd,by rw [zec,zlp (hk d hd c hc),e'.1,e'.2];simp;omega⟩
theorem zpm {l:List Conf} (hk:zvp l):∀(r p out:List Conf),p++r=l→out.Pairwise (LtC zgq)→(∀z,z∈out ↔ z∈p∧zig l z)→(r.foldl (zmu l) out).Pairwise (LtC zgq)∧∀z,z∈r.foldl (zmu l) out ↔ z∈l∧zig l z
 | [],p,out,e,h1,h2=>by
   rw [List.append_nil] at e;subst e;exact ⟨h1,h2⟩
 |c::r,p,out,e,h1,h2=>by
  have hc:c∈l:=by rw [←e];simp
  rw [List.foldl_cons]
  refine zpm hk r (p++ [c]) _ (by rw [←e];simp) ?_ ?_
  ·rw [zmu]
   split
   ·exact h1
   ·split
    ·exact h1
    ·rename_i q
     exact zrs (fun z hz=>hk z ((h2 z).1 hz).2.1 c hc) h1 (by simpa using q)
  ·intro z
   rw [List.mem_append,List.mem_singleton]
   by_cases q:(l.any fun d=>d.f==c.f && (d.t==c.t && zec d c))=true
   ·rw [zmu,if_pos q,h2]
    have:=(zxp hk hc).1 q
    constructor
    ·rintro ⟨a,b⟩;exact ⟨.inl a,b⟩
    ·rintro ⟨a|a,b⟩
     ·exact ⟨a,b⟩
     ·subst a;exact absurd b this
   ·rw [zmu,if_neg q]
    have hm:zig l c:=Classical.byContradiction fun h=>q ((zxp hk hc).2 h)
    split
    ·rename_i q2
     rw [h2]
     constructor
     ·rintro ⟨a,b⟩;exact ⟨.inl a,b⟩
     ·rintro ⟨a|a,b⟩
      ·exact ⟨a,b⟩
      ·subst a;exact (h2 z).1 (by simpa using q2)
    ·rw [yb2,h2]
     constructor
     ·rintro (a|⟨a,b⟩)
      ·subst a;exact ⟨.inr rfl,hm⟩
      ·exact ⟨.inl a,b⟩
     ·rintro ⟨a|a,b⟩
      ·exact .inr ⟨a,b⟩
      ·exact .inl a
theorem zu4 {l:List Conf} (hk:zvp l):(zmv l).Pairwise (LtC zgq)∧∀z,z∈zmv l ↔ zig l z:=by
 obtain ⟨h1,h2⟩:=zpm hk l [] [] rfl .nil (fun z=>by simp)
 exact ⟨h1,fun z=>by rw [zmv,h2];exact ⟨fun h=>h.2,fun h=>⟨h.1,h⟩⟩⟩
theorem zqe (l:List Conf):((za3 l).map Prod.snd).Pairwise fun a b=>zgu a≠zgu b:=by
 rw [List.pairwise_map]
 have hn:=zhi l
 rw [List.Nodup,List.pairwise_map] at hn
 rw [List.pairwise_iff_getElem] at hn ⊢
 intro i j hi hj hij e
 have k1:∀p∈za3 l,zgu p.2=p.1:=fun p hp=>by
  have hg:=(zkg (k:=p.1) (v:=p.2) (zhi l)).2 hp
  have:=zt1 l p.1
  rw [hg] at this
  exact this.1
 have:=hn i j hi hj hij
 rw [←k1 _ (List.getElem_mem hi),←k1 _ (List.getElem_mem hj)] at this
 exact this e
theorem znd (l:List Conf):((za3 l).map Prod.snd).Nodup:=(zqe l).imp fun h e=>h (by rw [e])
theorem ze1 (l:List Conf) (z:Conf):z∈zb1 l ↔ zig l z:=by
 rw [zb1,(zgi zgq _).mem_iff,zlz]
theorem zkp (l:List Conf):(zb1 l).Pairwise (LtC zgq):=zte zge (zoz zem _) ((zgi _ _).nodup_iff.2 (znd l))
theorem zjc (l:List Conf):(zb1 l).Pairwise fun a b=>zgu a≠zgu b:=((zgi zgq _).pairwise_iff (fun {a b} (h:zgu a≠zgu b)=>h.symm)).2 (zqe l)
theorem ztf {l m:List Conf} (hk:zvp m) (h:∀z,z∈l ↔ z∈m):zb1 l=zmv m:=by
 obtain ⟨h1,h2⟩:=zu4 hk
 refine zrl zem _ _ (zkp l) h1 fun z=> ?_
 rw [ze1,h2]
 unfold zig
 rw [h]
 exact ⟨fun q=>⟨q.1,fun c hc=>q.2 c ((h c).2 hc)⟩,fun q=>⟨q.1,fun c hc=>q.2 c ((h c).1 hc)⟩⟩
theorem zu3 {l out:List Conf} (hk:zvp l) (hp:out.Perm ((za3 l).map Prod.snd)) (hs:out.Pairwise fun a b=>zm9 a b≤0):out=zb1 l:=by
 have hm:∀z∈out,z∈l:=fun z hz=>(zlz.1 (hp.mem_iff.1 hz)).1
 have hs':out.Pairwise (LeC zgq):=by
  rw [List.pairwise_iff_getElem] at hs ⊢
  intro i j hi hj hij
  have:=hs i j hi hj hij
  rw [zlp (hk _ (hm _ (List.getElem_mem hi)) _ (hm _ (List.getElem_mem hj)))] at this
  exact this
 refine zrl zem _ _ (zte zge hs' (hp.nodup_iff.2 (znd l))) (zkp l) fun z=> ?_
 rw [hp.mem_iff,ze1,zlz]
theorem zhq {h:Hist} {z:Conf} (hz:z∈zik h):z.k=1:=by
 rw [zik,List.mem_flatMap] at hz
 obtain ⟨x,_,hz⟩:=hz
 rw [List.mem_flatMap] at hz
 obtain ⟨f,_,hz⟩:=hz
 rw [zkh (Nat.le_refl _)] at hz
 obtain ⟨j,hj,_,hz⟩:=hz
 unfold zz7 at hz
 split at hz
 ·injection hz with hz;rw [←hz];rfl
 ·cases hz
theorem yeh {h:Hist} {e:Ev} {a:Nat} {z:Conf} (hz:z∈zug h e a):z.k=2:=by
 rw [zug] at hz
 split at hz
 ·rw [List.mem_flatMap] at hz
  obtain ⟨s,_,hz⟩:=hz
  rw [List.mem_filterMap] at hz
  obtain ⟨k,_,hz⟩:=hz
  unfold zuh at hz
  split at hz
  ·cases hz
  ·split at hz
   ·split at hz
    ·cases hz
    ·injection hz with hz;rw [←hz];rfl
   ·cases hz
 ·cases hz
theorem zhp {h:Hist} {z:Conf} (hz:z∈zii h):z.k=2:=by
 rw [zii,zfq (Nat.le_refl _)] at hz
 obtain ⟨j,hj,_,_,hz⟩:=hz
 exact yeh hz
theorem zud {h:Hist} (hs:zar h=true):zb1 (zdd h)=zmv (zik h):=ztf (fun a ha b hb=>by rw [zhq ha,zhq hb]) (zj1 hs)
theorem zuc {h:Hist} (hs:zar h=true):zb1 (zdr h)=zmv (zii h):=ztf (fun a ha b hb=>by rw [zhp ha,zhp hb]) (fun z=>by rw [zho hs])
theorem zx8 {h:Hist} (hs:zar h=true):zvp (zdd h):=fun a ha b hb=>by rw [zhq ((zj1 hs a).1 ha),zhq ((zj1 hs b).1 hb)]
theorem zwr {h:Hist} (hs:zar h=true):zvp (zdr h):=fun a ha b hb=>by rw [zho hs] at ha hb;rw [zhp ha,zhp hb]
theorem zn3 {h:Hist} (hs:zar h=true) {x:Int} (h0:0≤x) (h1:x < h.os.length) {k:Nat} (hk:k < (zaj h x).length):∃i,∃hi:i < h.evs.length,zi5 h.evs (zaj h x)[k] x=some (h.evs[i].v,i)∧zb9 h (zaj h x)[k] x=(i:Int)∧h.evs[i].kind=2∧h.evs[i].t=(zaj h x)[k]∧h.evs[i].o=x∧0 < h.evs[i].v.k∧h.evs[i].v.t=(zaj h x)[k]:=by
 obtain ⟨v,i,hf,_,hv,_⟩:=zsq hs h0 h1 hk
 obtain ⟨hi,e1,e2,e3,_⟩:=zh7 hs hf
 obtain ⟨w1,w2,w3⟩:=zgg.1 e2
 exact ⟨i,hi,by rw [hf,e1],by rw [zb9,hf];rfl,w1,w2,w3,by rw [e1];exact hv,by rw [e1];exact e3⟩
theorem zx9 {h:Hist} (hs:zar h=true) {z:Conf} (hz:z∈zdd h):z.k=1∧z.f≠z.t∧z.p=0∧∃i j,∃hi:i < h.evs.length,∃hj:j < h.evs.length,z.a=(i:Int)∧z.b=(j:Int)∧zi5 h.evs z.f z.o=some (h.evs[i].v,i)∧h.evs[i].kind=2∧h.evs[i].t=z.f∧h.evs[i].o=z.o∧0 < h.evs[i].v.k∧h.evs[i].v.t=z.f∧
 h.evs[j].t=z.t∧h.evs[j].kind=3∧h.evs[j].v=h.evs[i].v∧h.evs[j].o=z.o:=by
 rw [zdd,zfq (Nat.le_refl _)] at hz
 obtain ⟨j,hj,_,hc,hz⟩:=hz
 obtain ⟨h3,k,hk,e1,e2,rfl⟩:=(zij hs hj).1 hz
 obtain ⟨⟨o0,o1⟩,_⟩:=zk4 (zcz hs _ (List.getElem_mem hj)) h3
 obtain ⟨i,hi,a1,a2,a3,a4,a5,a6,a7⟩:=zn3 hs o0 o1 hk
 have ev:h.evs[j].v=h.evs[i].v:=by rw [←e1,zf8,a1];rfl
 exact ⟨rfl,e2,rfl,i,j,hi,hj,a2,rfl,a1,a3,a4,a5,a6,a7,rfl,h3,ev,rfl⟩
theorem zum {h:Hist} (hs:zar h=true) {z:Conf} (hz:z∈zdr h):z.k=2∧z.f≠z.t∧∃i j,∃hi:i < h.evs.length,∃hj:j < h.evs.length,z.a=(i:Int)∧z.b=(j:Int)∧zi5 h.evs z.f z.o=some (h.evs[i].v,i)∧h.evs[i].kind=2∧h.evs[i].t=z.f∧h.evs[i].o=z.o∧
 h.evs[j].t=z.t∧h.evs[j].kind=4∧h.evs[j].p=z.p:=by
 rw [zho hs,zii,zfq (Nat.le_refl _)] at hz
 obtain ⟨j,hj,_,hc,hz⟩:=hz
 unfold zug at hz
 split at hz
 ·rename_i h4
  have h4:=eq_of_beq h4
  have hp:=ydc (zcz hs _ (List.getElem_mem hj)) h4
  rw [List.mem_flatMap] at hz
  obtain ⟨s,hsm,hz⟩:=hz
  have ho:0≤s.o∧s.o < h.os.length:=by
   rw [k7,List.mem_map] at hsm
   obtain ⟨x,hx,rfl⟩:=hsm
   exact (zku _ _).1 hx
  have ht:zhm h h.evs[j].p s.o=0:=zuk.2 ⟨zat.2 hs,ho,hp⟩
  have hch:chL h h.evs[j].p s.o=yly h h.evs[j].p s.o:=yn8 ht
  rw [List.mem_filterMap] at hz
  obtain ⟨k,hk,hz⟩:=hz
  have hin:1≤k∧k≤((zaj h s.o).length:Int):=by
   rw [←hch,chL,if_pos ht,yhe,zie] at hk
   obtain ⟨j,rfl,j0,j1,_⟩:=hk
   rw [zin] at j1
   omega
  unfold zuh at hz
  split at hz
  ·cases hz
  ·split at hz
   ·split at hz
    ·cases hz
    ·rename_i q
     injection hz with hz
     rw [←zlg hs ho.1 ho.2,List.getElem?_eq_getElem (show (k - 1).toNat < (zaj h s.o).length by omega)] at hz q
     simp only [Option.getD_some] at hz q
     obtain ⟨i,hi,a1,a2,a3,a4,a5,_⟩:=zn3 hs ho.1 ho.2 (show (k - 1).toNat < (zaj h s.o).length by omega)
     subst hz
     exact ⟨rfl,fun e=>q (beq_iff_eq.2 e),i,j,hi,hj,a2,rfl,a1,a3,a4,a5,rfl,h4,rfl⟩
   ·cases hz
 ·cases hz
theorem zwn {h:Hist} {e:Ev} {n:Nat} {s:Seen} (hs:s∈k7 h e n):(0≤s.o∧s.o < h.os.length)∧∃hk:s.o.toNat < (k7 h e n).length,(k7 h e n)[s.o.toNat]=s:=by
 obtain ⟨k,hk,rfl⟩:=List.mem_iff_getElem.1 hs
 have e1:=ymc hk
 have e2:=zk0 h e n
 refine ⟨by omega,by omega,?_⟩
 congr 1
 omega
def yje (h:Hist) (e:Ev) (a:Nat):List Int:=zbi (srt ((zf7 h e a).map Conf.t))
def we5:Ev:=⟨4,1,0,0,0,⟨0,0⟩,0,[⟨0,⟨0,1⟩⟩]⟩
def weE:List Ev:= [⟨1,0,0,4,0,⟨0,0⟩,0,[]⟩,⟨2,0,0,0,0,⟨0,1⟩,0,[]⟩,⟨5,0,0,0,0,⟨0,0⟩,0,[]⟩,⟨1,1,0,4,0,⟨0,0⟩,0,[]⟩,⟨3,1,0,0,0,⟨0,1⟩,0,[]⟩,we5,⟨5,1,0,0,0,⟨0,0⟩,0,[]⟩]
def weH:Hist:=⟨[bt1,bt2],[bS],[bX],[bP],weE,[],[⟨0,0,false,[0]⟩],[]⟩
theorem yc3:zfl weH=true:=by decide+kernel
theorem zgh:zar weH=true:=by
 have:zjr weH=none:=(yb9 yc3).trans (by decide+kernel)
 rw [zar,yc3,this];rfl
theorem zhr:q6 weH=0:=zat.2 zgh
theorem zsr:zik weH= [⟨0,1,1,1,4,0,0⟩]:=by decide+kernel
theorem zni:zii weH= [⟨0,1,2,1,5,0,0⟩]:=by decide+kernel
theorem yaa:zb1 (zdd weH)= [⟨0,1,1,1,4,0,0⟩]:=(zud zgh).trans (by rw [zsr];decide+kernel)
theorem zz9:zb1 (zdr weH)= [⟨0,1,2,1,5,0,0⟩]:=(zuc zgh).trans (by rw [zni];decide+kernel)
theorem yl6:(⟨0,1,2,1,5,0,0⟩:Conf)∈zdr weH:=by rw [zho zgh,zni];simp
theorem yc2:¬(⟨0,1,1,1,6,0,0⟩:Conf)∈zdd weH∧¬(⟨0,1,1,1,6,0,0⟩:Conf)∈zdr weH:=by
 rw [zj1 zgh,zho zgh,zsr,zni]
 constructor <;> decide
end Go.H
