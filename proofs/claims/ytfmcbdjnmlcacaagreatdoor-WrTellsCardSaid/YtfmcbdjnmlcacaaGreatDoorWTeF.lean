/- The abstract logic, part 28: slices.Sort and slices.Compact at []int, as contracts over a row of one's own (the kit's shelf has walked them). .. -/
import Derived.Test.YtfmcbdjnmlcacaaGreatDoorWTeE
import Derived.Shelf.Sort.Plain
import Derived.Shelf.Slices.In.SortNone
import Derived.Shelf.Slices.CompactI
set_option linter.unusedSectionVars false
set_option linter.unusedSimpArgs false
set_option linter.unusedVariables false
namespace Go.Ab
open Go Go.Shelf Go.Sort Go.Proofs
def numR (n:Int):List AV:= [.v (.int .i64 n)]
theorem zxl {X:Nat→Prop} {w:World} {a:Addr} {cap:Nat} {T:TypeId} {xs ys zs:List Int} (hh:HRel X w [.row (.slice (some a) xs.length cap) 1 T (xs.map numR)]) (hl:ys.length=xs.length) (hz:zs=ys.take zs.length) (n:Nat) (os:Array Obj):
 HRel X (grow (putRow (Value.int .i64) (Sort.ahead w n) a.block a.off ys.toArray) os) [.row (.slice (some a) zs.length cap) 1 T (zs.map numR)]∧
 Keep [a.block] w [a.block] (grow (putRow (Value.int .i64) (Sort.ahead w n) a.block a.off ys.toArray) os):=by
 obtain ⟨h1,h2,h3,h4,c,h5,h6,h7⟩:=hh.holds _ (List.mem_singleton.2 rfl)
 have hb:a.block < w.heap.size:=(hh.lt a.block (by simp [k9,Res.own])).1
 have hX:¬X a.block:=(hh.lt a.block (by simp [k9,Res.own])).2
 obtain ⟨w',hw'⟩:∃w',w'=grow (putRow (Value.int .i64) (Sort.ahead w n) a.block a.off ys.toArray) os:=⟨_,rfl⟩
 rw [←hw']
 have hheap:w'.heap=(w.heap.modify a.block (onCells (putCells (Value.int .i64) a.off ys.toArray)))++os:=by rw [hw'];rfl
 have hos:zjg w w':=by rw [hw'];exact ⟨⟨rfl,rfl⟩,rfl,Nat.le_add_right _ _⟩
 have hsize:w.heap.size≤w'.heap.size:=by rw [hheap];simp
 have hold:∀b,b < w.heap.size→b≠a.block→w'.heap[b]? =w.heap[b]? :=fun b hb hne=>by
  rw [hheap,Array.getElem?_append_left (by simpa using hb),Array.getElem?_modify,if_neg (Ne.symm hne)]
 have hnew:w'.heap[a.block]? =some (.cells (putCells (Value.int .i64) a.off ys.toArray c) T (0,0)):=by
  rw [hheap,Array.getElem?_append_left (by simpa using hb),Array.getElem?_modify,if_pos rfl,h5];rfl
 have hlen:zs.length≤ys.length:=by
  have:=congrArg List.length hz
  rw [List.length_take] at this;omega
 refine ⟨⟨by simp [k9,Res.own],fun b hb2=> ?_,fun b hb2=>Nat.lt_of_lt_of_le (hh.xlt b hb2) hsize,fun r hr=> ?_⟩,⟨hsize,fun b hb2 hne=> ?_,hos⟩⟩
 ·have:b=a.block:=by simpa [k9,Res.own] using hb2
  subst this;exact ⟨Nat.lt_of_lt_of_le hb hsize,hX⟩
 ·rw [List.mem_singleton] at hr
  subst hr
  refine ⟨h1,by simp,by simp at h2 h3;omega,fun i hi=>by simp [numR],_,hnew,by simpa [putCells] using h6,fun i hi j hj=> ?_⟩
  have hi2:i < zs.length:=by simpa using hi
  have hj0:j=0:=by simp [numR] at hj;omega
  subst hj0
  have hc:a.off+i < c.size:=by simp at h2 h3;omega
  refine ⟨.int .i64 (zs[i]),?_,?_⟩
  ·have hz2:zs[i]=ys[i]'(by omega):=by
    have:zs[i]? =(ys.take zs.length)[i]? :=by rw [←hz]
    rw [List.getElem?_take_of_lt hi2,List.getElem?_eq_getElem hi2,List.getElem?_eq_getElem (by omega)] at this
    exact Option.some.inj this
   have e:a.off+i * 1+0=a.off+i:=by omega
   rw [e]
   simp only [putCells,Array.getElem?_mapIdx]
   rw [Array.getElem?_eq_getElem hc]
   simp only [Option.map_some]
   rw [if_pos ⟨by omega,by simp;omega⟩,hz2]
   have e2:a.off+i - a.off=i:=by omega
   rw [e2]
   congr 2
   exact getElem!_pos _ _ (by simp;omega)
  ·simp only [List.getElem_map,numR]
   exact .v _
 ·have hne2:b≠a.block:=by simpa using hne
  exact ⟨hold b hb2 hne2,hne⟩
theorem zxm {X:Nat→Prop} {w:World} {a:Addr} {cap:Nat} {T:TypeId} {xs:List Int} (hh:HRel X w [.row (.slice (some a) xs.length cap) 1 T (xs.map numR)]):Holds (Value.int .i64) w a.block a.off xs.toArray∧a.block < w.heap.size∧xs.length≤cap∧a.spot=none:=by
 obtain ⟨h1,h2,h3,h4,c,h5,h6,h7⟩:=hh.holds _ (List.mem_singleton.2 rfl)
 refine ⟨fun j hj=> ?_,(hh.lt a.block (by simp [k9,Res.own])).1,h3,h1⟩
 have hj2:j < xs.length:=by simpa using hj
 obtain ⟨v,e,r⟩:=h7 j (by simpa using hj2) 0 (by simp [numR])
 simp only [List.getElem_map,numR] at r
 have hv:v= .int .i64 xs[j]:=r.v_eq
 subst hv
 have e0:a.off+j * 1+0=a.off+j:=by omega
 rw [e0] at e
 refine ⟨?_,?_⟩
 ·have e2:w.cell? ⟨a.block,a.off+j,none⟩=some (.int .i64 xs[j]):=by simp [World.cell?,h5,e]
  have e3:xs.toArray[j]! =xs[j]:=getElem!_pos xs.toArray j hj
  rw [e2,e3]
 ·simp [World.frozen?,h5]
theorem yca {X:Nat→Prop} {w:World} {n cap:Nat} {T:TypeId} {xs:List Int} (hh:HRel X w [.row (.slice none n cap) 1 T (xs.map numR)]):xs= []∧n=0∧cap=0:=by
 obtain ⟨h1,h2,h3⟩:=hh.holds _ (List.mem_singleton.2 rfl)
 exact ⟨by simpa using h1,h2,h3⟩
section
variable {P:Program} {ρ:Ren}
theorem yap (Ly:Lays.n189 P ρ) (s:SV) (T:TypeId) (xs:List Int) (hs:xs.length < 4611686018427387904):
 y7 P (ρ.f 189) [.v s.v] [.row s.v 1 T (xs.map numR)] (fun r h'=>h'= [.row s.v 1 T ((xs.mergeSort fun x y=>decide (x≤y)).map numR)]∧r= .v (.tuple #[])):=by
 intro X w vs hh ha
 match vs,ha with
 | [v],⟨hv,_⟩=>
   obtain rfl:=hv.v_eq
   obtain ⟨a,n,cap⟩:=s
   cases a with
   |none=>
    obtain ⟨rfl,rfl,rfl⟩:=yca hh
    refine callsIn_wide.2 ((Any.slices_Sort_int_none Ly none 0 w).mono ?_)
    rintro e w' ⟨rfl,rfl⟩
    exact ⟨_,_,_,rfl,⟨rfl,rfl⟩,.v _,by simpa using hh,.refl _ _⟩
   |some a=>
    have hn:n=xs.length:=by
     have:=(hh.holds _ (List.mem_singleton.2 rfl)).2.1
     simpa using this
    subst hn
    obtain ⟨g1,g2,g3,g4⟩:=zxm hh
    obtain ⟨b,off,sp⟩:=a
    simp only at g1 g2 g4
    subst g4
    refine callsIn_wide.2 ((Any.slices_Sort_int Ly b off cap xs w g1 g2 hs).mono ?_)
    rintro e w' ⟨rfl,n,os,rfl⟩
    have hlen:(xs.mergeSort fun x y=>decide (x≤y)).length=xs.length:=List.length_mergeSort _
    obtain ⟨k1,k2⟩:=zxl (zs:=xs.mergeSort fun x y=>decide (x≤y)) hh hlen (List.take_length).symm n os
    rw [hlen] at k1
    exact ⟨_,_,_,rfl,⟨rfl,rfl⟩,.v _,k1,k2⟩
theorem zrx (Ly:Lays2.n20 P ρ) (s:SV) (T:TypeId) (xs:List Int) (hs:xs.length≤4611686018427387904):
 y7 P (ρ.f 20) [.v s.v] [.row s.v 1 T (xs.map numR)] (fun r h'=>∃s':SV,h'= [.row s'.v 1 T ((Lib.compact xs).map numR)]∧r= .v s'.v):=by
 intro X w vs hh ha
 match vs,ha with
 | [v],⟨hv,_⟩=>
   obtain rfl:=hv.v_eq
   obtain ⟨a,n,cap⟩:=s
   cases a with
   |none=>
    obtain ⟨rfl,rfl,rfl⟩:=yca hh
    refine callsIn_wide.2 ((Any.slices_Compact_int_empty Ly none 0 w).mono ?_)
    rintro e w' ⟨rfl,rfl⟩
    exact ⟨_,_,_,rfl,⟨⟨none,0,0⟩,rfl,rfl⟩,.v _,hh,.refl _ _⟩
   |some a=>
    have hn:n=xs.length:=by
     have:=(hh.holds _ (List.mem_singleton.2 rfl)).2.1
     simpa using this
    subst hn
    obtain ⟨g1,g2,g3,g4⟩:=zxm hh
    obtain ⟨b,off,sp⟩:=a
    simp only at g1 g2 g4
    subst g4
    refine callsIn_wide.2 ((Any.slices_Compact_int Ly b off cap xs w g1 (by omega) g3).mono ?_)
    rintro e w' ⟨rfl,q,rfl⟩
    have hle:(Lib.compact xs).length≤xs.length:=by
     unfold Lib.compact Lib.compactUpTo
     rw [oM]
     exact Nat.le_trans (List.length_filter_le _ _) (by simp)
    obtain ⟨k1,k2⟩:=zxl (ys:=Lib.compact xs++List.replicate (xs.length - (Lib.compact xs).length) 0) (zs:=Lib.compact xs) hh (by simp;omega) (by rw [List.take_left'];rfl) q #[]
    rw [grow_empty] at k1 k2
    exact ⟨_,_,_,rfl,⟨⟨some ⟨b,off,none⟩,(Lib.compact xs).length,cap⟩,rfl,rfl⟩,.v _,k1,k2⟩
end
end Go.Ab
namespace Go.H
open Go Go.Ab
theorem zqa (y:Int):∀l:List Int,zb7 (l++ [y])=zb7 l++(if l.getLast? =some y then [] else [y])
 | []=>by simp [zb7]
 | [x]=>by
   by_cases h:x=y
   ·subst h;simp [zb7]
   ·simp [zb7,h]
 |x::z::r=>by
  have ih:=zqa y (z::r)
  simp only [List.cons_append] at ih ⊢
  have hl:(x::z::r).getLast? =(z::r).getLast? :=by simp [List.getLast?_cons]
  rw [hl,zb7,zb7]
  by_cases h:x=z
  ·rw [if_pos h,if_pos h];exact ih
  ·rw [if_neg h,if_neg h,ih];rfl
theorem yak (xs:List Int):Lib.compact xs=zb7 xs:=by
 have key:∀m,m≤xs.length→Lib.compactUpTo xs.toArray m=zb7 (xs.take m):=by
  intro m
  induction m with
  |zero=>intro _;rfl
  |succ m ih=>
   intro hm
   have hlt:m < xs.length:=hm
   rw [Lib.compactUpTo_succ,ih (by omega),List.take_succ_eq_append_getElem hlt,zqa]
   congr 1
   have e1:xs.toArray[m]! =xs[m]:=by simp [hlt]
   by_cases h0:m=0
   ·subst h0
    simp [Lib.keeps,hlt]
   ·have hlt':m - 1 < xs.length:=by omega
    have e2:xs.toArray[m - 1]! =xs[m - 1]:=by simp [hlt']
    have e3:(xs.take m).getLast? =some xs[m - 1]:=by
     rw [List.getLast?_eq_getElem?,List.length_take,Nat.min_eq_left (by omega),List.getElem?_take_of_lt (by omega)]
     simp [hlt']
    rw [e3]
    unfold Lib.keeps
    rw [e1,e2]
    by_cases he:xs[m]=xs[m - 1]
    ·rw [if_neg (by simp [h0,he]),if_pos (by rw [he])]
    ·rw [if_pos (by simp [he]),if_neg (fun q=>he (Option.some.inj q).symm)]
 have:=key xs.length (Nat.le_refl _)
 rw [List.take_length] at this
 exact this
def yll (l:List Ev):List (Int×Bool):=l.foldl (fun m e=>zdy e.t ((za6 e.t m).getD false||e.kind==5) m) []
theorem yex (t:Int):∀(l:List Ev) (m:List (Int×Bool)),(za6 t (l.foldl (fun m e=>zdy e.t ((za6 e.t m).getD false||e.kind==5) m) m)).getD false=((za6 t m).getD false||l.any fun y=>y.t==t && y.kind==5)
 | [],m=>by simp
 |e::l,m=>by
  rw [List.foldl_cons,yex t l,List.any_cons,zce]
  by_cases h:e.t=t
  ·subst h;simp [Bool.or_assoc]
  ·have:(e.t==t)=false:=by simpa using h
   rw [if_neg h,this,Bool.false_and,Bool.false_or]
theorem zm1 (l:List Ev) (t:Int):(za6 t (yll l)).getD false=l.any fun y=>y.t==t && y.kind==5:=by
 rw [yll,yex];simp [za6]
theorem zks {l:List Ev} {k:Nat} (hk:k < l.length):yll (l.take (k+1))=zdy l[k].t ((za6 l[k].t (yll (l.take k))).getD false||l[k].kind==5) (yll (l.take k)):=by
 rw [List.take_succ_eq_append_getElem hk,yll,List.foldl_append];rfl
section
variable {α:Type} {l:List α} {k:Nat} {p:α→Bool}
theorem yvy (hk:k < l.length) (h:p l[k]=true):(l.take (k+1)).filter p=(l.take k).filter p++ [l[k]]:=by
 rw [List.take_succ_eq_append_getElem hk,List.filter_append];simp [h]
theorem yo7 (hk:k < l.length) (h:p l[k]=false):(l.take (k+1)).filter p=(l.take k).filter p:=by
 rw [List.take_succ_eq_append_getElem hk,List.filter_append];simp [h]
theorem yeh:((l.take k).filter p).length≤l.length:=Nat.le_trans (List.length_filter_le _ _) (by simp;omega)
end
def wrB (l:List Ev) (x:Int) (e:Ev):Bool:=e.kind==2 && e.o==x && l.any fun y=>y.t==e.t && y.kind==5
theorem zuh (l:List Ev) (x:Int):za3 l x=zb7 (srt ((l.filter (wrB l x)).map Ev.t)):=rfl
theorem ztv (l:List Int) (n:Int):(l.any fun a=>a==n)=l.contains n:=by
 rw [Bool.eq_iff_iff];simp
theorem zk0 (l:List Ev) (x:Int):(za3 l x).length≤l.length:=by
 rw [zuh]
 refine Nat.le_trans (zof _) ?_
 rw [(zcs _).length_eq,oM]
 exact List.length_filter_le _ _
theorem zlh (a b:Nat):((a:Int) !=(b:Int))= !decide (a=b):=by
 rw [Bool.eq_iff_iff];simp;omega
theorem y1.new {P:Program} {fv:AV} {args:List AV} {h:List Res} {R:AV→List Res→Prop} (hc:y1 P fv args [] R):y1 P fv args h (fun r h'=>∃h1,R r h1∧h'=h1++h):=
 (hc.frame h).mono fun _ _ ⟨h1,e,q⟩=>⟨h1,q,e⟩
def zhn (h:Hist) (n many:Int):Int:=if v7 h=0 then (if 0≤n∧n < many then 0 else 2) else v7 h
def onE (e:Int) (l:List Int):List Int:=if e=0 then l else []
theorem ypp {h:Hist} {n many:Int} (he:zhn h n many=0):zar h=true∧0≤n∧n < many:=by
 unfold zhn at he
 split at he
 ·rename_i hc
  split at he
  ·rename_i hn;exact ⟨za4.1 hc,hn⟩
  ·cases he
 ·rename_i hc;exact absurd he hc
theorem ask_c {h:Hist} {n many:Int} (hc:v7 h≠0):zhn h n many=v7 h:=by rw [zhn,if_neg hc]
theorem yan {h:Hist} {n many:Int} (hc:v7 h=0) (hn:¬(0≤n∧n < many)):zhn h n many=2:=by rw [zhn,if_pos hc,if_neg hn]
theorem zwn {h:Hist} {n many:Int} (hc:v7 h=0) (hn:0≤n∧n < many):zhn h n many=0:=by rw [zhn,if_pos hc,if_pos hn]
theorem ylt (h:Hist):zhn h 0 1=v7 h:=by
 unfold zhn;split
 ·rename_i h0;rw [h0];rfl
 ·rfl
def zp6 (l:List Ev):List (Int×Bool):=zsj (fun e:Ev=>e.kind==5) Ev.t [] l
theorem yjm (l:List Ev) (t:Int):(za6 t (zp6 l)).getD false=zfb l t 5:=by
 rw [zp6,zgw,zf1]
 have:(l.any fun e=>e.kind==5 && decide (e.t=t))=l.any fun y=>y.t==t && y.kind==5:=by
  congr 1;funext e;rw [Bool.and_comm];rfl
 rw [this]
 cases l.any fun y=>y.t==t && y.kind==5 <;> rfl
theorem ys8 {l:List Ev} {k:Nat} (hk:k < l.length) (h5:(l[k].kind==5)=true):zp6 (l.take (k+1))=zdy l[k].t true (zp6 (l.take k)):=by
 rw [List.take_succ_eq_append_getElem hk,zp6,zsj,List.foldl_append,List.foldl_cons,List.foldl_nil,if_pos h5];rfl
theorem ys9 {l:List Ev} {k:Nat} (hk:k < l.length) (h5:(l[k].kind==5)=false):zp6 (l.take (k+1))=zp6 (l.take k):=by
 rw [List.take_succ_eq_append_getElem hk,zp6,zsj,List.foldl_append,List.foldl_cons,List.foldl_nil,if_neg (by rw [h5];decide)];rfl
section
variable {α:Type} (cmp:α→α→Int)
def mrg:List α→List α→List α
 | [],b=>b
 |x::a,[]=>x::a
 |x::a,y::b=>if cmp y x < 0 then y::mrg (x::a) b else x::mrg a (y::b)
termination_by a b=>a.length+b.length
theorem zki:∀(a b:List α),(mrg cmp a b).Perm (a++b)
 | [],b=>by simp [mrg]
 |x::a,[]=>by simp [mrg]
 |x::a,y::b=>by
  rw [mrg]
  split
  ·exact ((zki (x::a) b).cons y).trans (List.perm_middle (l₁:=x::a)).symm
  ·exact (zki a (y::b)).cons x
termination_by a b=>a.length+b.length
def LeC (a b:α):Prop:=cmp a b≤0
structure CmpOk:Prop where
 trans:∀a b c,cmp a b≤0→cmp b c≤0→cmp a c≤0
 anti:∀a b,cmp b a= - cmp a b
variable {cmp}
theorem zlf (ok:CmpOk cmp):∀(a b:List α),a.Pairwise (LeC cmp)→b.Pairwise (LeC cmp)→(mrg cmp a b).Pairwise (LeC cmp)
 | [],b,_,hb=>by simpa [mrg] using hb
 |x::a,[],ha,_=>by simpa [mrg] using ha
 |x::a,y::b,ha,hb=>by
  rw [mrg]
  have ha':=List.pairwise_cons.1 ha
  have hb':=List.pairwise_cons.1 hb
  split
  ·rename_i h
   refine List.pairwise_cons.2 ⟨fun z hz=> ?_,zlf ok (x::a) b ha hb'.2⟩
   have hz':=(zki cmp (x::a) b).mem_iff.1 hz
   rcases List.mem_append.1 hz' with hz'|hz'
   ·have hyx:LeC cmp y x:=Int.le_of_lt h
    rcases List.mem_cons.1 hz' with rfl|hz'
    ·exact hyx
    ·exact ok.trans _ _ _ hyx (ha'.1 z hz')
   ·exact hb'.1 z hz'
  ·rename_i h
   have hxy:LeC cmp x y:=by have:=ok.anti x y;show cmp x y≤0;omega
   refine List.pairwise_cons.2 ⟨fun z hz=> ?_,zlf ok a (y::b) ha'.2 hb⟩
   have hz':=(zki cmp a (y::b)).mem_iff.1 hz
   rcases List.mem_append.1 hz' with hz'|hz'
   ·exact ha'.1 z hz'
   ·rcases List.mem_cons.1 hz' with rfl|hz'
    ·exact hxy
    ·exact ok.trans _ _ _ hxy (hb'.1 z hz')
termination_by a b=>a.length+b.length
variable (cmp)
def zex:List (List α)→List (List α)
 |a::b::r=>mrg cmp a b::zex r
 |l=>l
theorem zgj:∀l:List (List α),(zex cmp l).length=(l.length+1) / 2
 | []=>by simp [zex]
 | [a]=>by simp [zex]
 |a::b::r=>by rw [zex,List.length_cons,zgj r,List.length_cons,List.length_cons];omega
theorem zny:∀l:List (List α),(zex cmp l).flatten.Perm l.flatten
 | []=> .refl _
 | [a]=> .refl _
 |a::b::r=>by
  rw [zex,List.flatten_cons,List.flatten_cons,List.flatten_cons,←List.append_assoc]
  exact (zki cmp a b).append (zny r)
def ybp (l:List (List α)):List (List α):=if h:1 < l.length then ybp (zex cmp l) else l
termination_by l.length
decreasing_by rw [zgj];omega
theorem zuq {l:List (List α)} (h:1 < l.length):ybp cmp l=ybp cmp (zex cmp l):=by rw [ybp,dif_pos h]
theorem zqw {l:List (List α)} (h:¬1 < l.length):ybp cmp l=l:=by rw [ybp,dif_neg h]
theorem zsb (l:List (List α)):(ybp cmp l).flatten.Perm l.flatten:=by
 by_cases h:1 < l.length
 ·rw [zuq cmp h]
  have:(zex cmp l).length < l.length:=by rw [zgj];omega
  exact (zsb (zex cmp l)).trans (zny cmp l)
 ·rw [zqw cmp h]
termination_by l.length
theorem zqv (l:List (List α)):(ybp cmp l).length≤1:=by
 by_cases h:1 < l.length
 ·rw [zuq cmp h]
  have:(zex cmp l).length < l.length:=by rw [zgj];omega
  exact zqv (zex cmp l)
 ·rw [zqw cmp h];omega
termination_by l.length
def ybq (l:List α):List α:=((ybp cmp (l.map fun x=> [x]))[0]?).getD []
theorem yac (l:List (List α)) (h:l.length≤1):(l[0]?).getD []=l.flatten:=by
 match l,h with
 | [],_=>rfl
 | [a],_=>simp
theorem yej (l:List α):(l.map fun x=> [x]).flatten=l:=by
 induction l with
 |nil=>rfl
 |cons a r ih=>rw [List.map_cons,List.flatten_cons,ih];rfl
theorem zk6 (l:List α):(ybq cmp l).Perm l:=by
 rw [ybq,yac _ (zqv cmp _)]
 have:=zsb cmp (l.map fun x=> [x])
 rwa [yej] at this
variable {cmp}
theorem zkd (ok:CmpOk cmp):∀l:List (List α),(∀r∈l,r.Pairwise (LeC cmp))→∀r∈zex cmp l,r.Pairwise (LeC cmp)
 | [],_,r,h=>by cases h
 | [a],hl,r,h=>hl r h
 |a::b::q,hl,r,h=>by
  rw [zex] at h
  rcases List.mem_cons.1 h with rfl|h
  ·exact zlf ok a b (hl a (by simp)) (hl b (by simp))
  ·exact zkd ok q (fun r hr=>hl r (by simp [hr])) r h
theorem zni (ok:CmpOk cmp) (l:List (List α)) (hl:∀r∈l,r.Pairwise (LeC cmp)):∀r∈ybp cmp l,r.Pairwise (LeC cmp):=by
 by_cases h:1 < l.length
 ·rw [zuq cmp h]
  have:(zex cmp l).length < l.length:=by rw [zgj];omega
  exact zni ok (zex cmp l) (zkd ok l hl)
 ·rw [zqw cmp h];exact hl
termination_by l.length
theorem zsd (ok:CmpOk cmp) (l:List α):(ybq cmp l).Pairwise (LeC cmp):=by
 have h:=zni ok (l.map fun x=> [x]) (fun r hr=>by obtain ⟨x,_,rfl⟩:=List.mem_map.1 hr;exact List.pairwise_singleton _ _)
 have hl:=zqv cmp (l.map fun x=> [x])
 rw [ybq]
 match hs:ybp cmp (l.map fun x=> [x]),hl with
 | [],_=>exact .nil
 | [a],_=>exact h a (by rw [hs];simp)
def LtC (cmp:α→α→Int) (a b:α):Prop:=cmp a b < 0
theorem zx1 (hz:∀a b,cmp a b=0→a=b):∀{l:List α},l.Pairwise (LeC cmp)→l.Nodup→l.Pairwise (LtC cmp):=by
 intro l h hn
 induction l with
 |nil=>exact .nil
 |cons a r ih=>
  rw [List.nodup_cons] at hn
  rw [List.pairwise_cons] at h ⊢
  refine ⟨fun b hb=> ?_,ih h.2 hn.2⟩
  have h1:=h.1 b hb
  have h2:cmp a b≠0:=fun e=>hn.1 (by rw [hz a b e];exact hb)
  show cmp a b < 0
  have:cmp a b≤0:=h1
  omega
theorem zvq (ok:CmpOk cmp):∀(l m:List α),l.Pairwise (LtC cmp)→m.Pairwise (LtC cmp)→(∀z,z∈l ↔ z∈m)→l=m
 | [],[],_,_,_=>rfl
 | [],b::m,_,_,h=>by have:=(h b).2 (by simp);cases this
 |a::l,[],_,_,h=>by have:=(h a).1 (by simp);cases this
 |a::l,b::m,hl,hm,h=>by
  have hl':=List.pairwise_cons.1 hl
  have hm':=List.pairwise_cons.1 hm
  have irr:∀z,¬LtC cmp z z:=fun z hz=>by have:=ok.anti z z;have:cmp z z < 0:=hz;omega
  have e:a=b:=by
   rcases List.mem_cons.1 ((h a).1 (by simp)) with e|h1
   ·exact e
   ·rcases List.mem_cons.1 ((h b).2 (by simp)) with e|h2
    ·exact e.symm
    ·have h3:cmp b a < 0:=hm'.1 a h1
     have h4:cmp a b < 0:=hl'.1 b h2
     have:=ok.anti a b;omega
  subst e
  congr 1
  refine zvq ok l m hl'.2 hm'.2 fun z=> ?_
  have hz:=h z
  simp only [List.mem_cons] at hz
  constructor
  ·intro q
   rcases hz.1 (.inr q) with rfl|q'
   ·exact absurd (hl'.1 _ q) (irr _)
   ·exact q'
  ·intro q
   rcases hz.2 (.inr q) with rfl|q'
   ·exact absurd (hm'.1 _ q) (irr _)
   ·exact q'
end
section
variable {α:Type} [DecidableEq α] (cmp:α→α→Int)
variable {cmp}
end
section
variable {α:Type}
end
variable {α:Type} (cmp:α→α→Int)
structure Conf where
 f:Int
 t:Int
 k:Int
 a:Int
 b:Int
 o:Int
 p:Int
 deriving DecidableEq
def j3 (c:Conf):List AV:= [iv c.f,iv c.t,iv c.k,iv c.a,iv c.b,iv c.o,iv c.p]
def zih (l:List Conf):AV:= .list false 7 (l.map j3)
theorem ze9 (l:List Conf):∀r∈l.map j3,r.all AV.one=true:=by
 intro r hr;obtain ⟨a,_,rfl⟩:=List.mem_map.1 hr;rfl
def yo8 (c:Conf):List Int:= [c.f,c.t,c.k,c.a,c.b,c.o,c.p]
def zjt:List Int→List Int→Int
 | [],[]=>0
 | [],_::_=> -1
 |_::_,[]=>1
 |x::a,y::b=>if x < y then -1 else if y < x then 1 else zjt a b
def zi2 (a b:Conf):Int:=zjt (yo8 a) (yo8 b)
theorem zoj:∀a b:List Int,zjt b a= - zjt a b
 | [],[]=>rfl
 | [],_::_=>rfl
 |_::_,[]=>rfl
 |x::a,y::b=>by
  rw [zjt,zjt]
  by_cases h:x < y
  ·rw [if_neg (show ¬y < x by omega),if_pos h,if_pos h];rfl
  ·by_cases h':y < x
   ·rw [if_pos h',if_neg h,if_pos h']
   ·rw [if_neg h',if_neg h,if_neg h,if_neg h',zoj a b]
theorem zoi:∀a:List Int,zjt a a=0
 | []=>rfl
 |x::a=>by rw [zjt,if_neg (by omega),if_neg (by omega),zoi a]
theorem zty:∀a b:List Int,zjt a b=0→a=b
 | [],[],_=>rfl
 | [],_::_,h=>by simp [zjt] at h
 |_::_,[],h=>by simp [zjt] at h
 |x::a,y::b,h=>by
  rw [zjt] at h
  split at h
  ·omega
  ·split at h
   ·omega
   ·rw [zty a b h,show x=y by omega]
theorem ziw:∀a b c:List Int,zjt a b≤0→zjt b c≤0→zjt a c≤0
 | [],[],c,_,h=>h
 | [],_::_,[],_,_=>by simp [zjt]
 | [],_::_,_::_,_,_=>by simp [zjt]
 |_::_,[],c,h,_=>by simp [zjt] at h
 |_::_,_::_,[],_,h=>by simp [zjt] at h
 |x::a,y::b,z::c,h1,h2=>by
  rw [zjt] at h1 h2 ⊢
  split at h1
  ·split at h2
   ·rw [if_pos (by omega)];omega
   ·split at h2
    ·omega
    ·rw [if_pos (by omega)];omega
  ·split at h1
   ·omega
   ·split at h2
    ·rw [if_pos (by omega)];omega
    ·split at h2
     ·omega
     ·rw [if_neg (by omega),if_neg (by omega)];exact ziw a b c h1 h2
theorem yjc {a b:Conf} (h:yo8 a=yo8 b):a=b:=by
 cases a;cases b;simp only [yo8,List.cons.injEq,and_true] at h;simp only [Conf.mk.injEq];exact h
theorem zgb:CmpOk zi2:=⟨fun a b c h k=>ziw _ _ _ h k,fun a b=>zoj _ _⟩
theorem zij (a b:Conf) (h:zi2 a b=0):a=b:=yjc (zty _ _ h)
theorem ye7 (a:Conf):zi2 a a=0:=zoi _
def zc5 (h:Hist) (t x:Int):Int:=atO (zjc h.evs t x)
def zmf (c:Conf):Int×Int:=(c.f,c.t)
theorem zlc {K V:Type} [DecidableEq K] (k:K) (v:V):∀m:List (K×V),(m.map Prod.fst).Nodup→((zdy k v m).map Prod.fst).Nodup∧∀z,z∈(zdy k v m).map Prod.fst ↔ z=k∨z∈m.map Prod.fst
 | [],_=>⟨by simp [zdy],by simp [zdy]⟩
 |p::r,h=>by
  rw [List.map_cons,List.nodup_cons] at h
  obtain ⟨i1,i2⟩:=zlc k v r h.2
  rw [zdy]
  by_cases e:p.1=k
  ·rw [if_pos e]
   exact ⟨by rw [List.map_cons,List.nodup_cons];exact h,fun z=>by simp [e]⟩
  ·rw [if_neg e]
   have hnm:p.1 ∉ (zdy k v r).map Prod.fst:=fun q=>by
    rcases (i2 _).1 q with q|q
    ·exact e q
    ·exact h.1 q
   refine ⟨by rw [List.map_cons,List.nodup_cons];exact ⟨hnm,i1⟩,fun z=> ?_⟩
   ·rw [List.map_cons,List.mem_cons,i2,List.map_cons,List.mem_cons]
    constructor
    ·rintro (q|q|q) <;> simp [q]
    ·rintro (q|q|q) <;> simp [q]
def zre (p o:Int) (r:Mat):Bool:=r.p==p && r.o==o
def yk4 (h:Hist) (p o:Int):Option Mat:=h.mats.find? (zre p o)
def yp0:Mat:=⟨0,0,false,[]⟩
def yf9 (h:Hist) (p o:Int):Mat:=(yk4 h p o).getD yp0
def ykj (m:Mat) (ts:List Int):List Bool:=m.first::ts.map (fun t=>m.ts.contains t)
def zxa (h:Hist) (p o:Int):List Bool:=ykj (yf9 h p o) (zax h o)
def zoo (l:List Bool):AV:= .list false 1 (l.map zop)
theorem yia (l:List Bool):∀r∈l.map zop,r.all AV.one=true:=by
 intro r hr;obtain ⟨a,_,rfl⟩:=List.mem_map.1 hr;rfl
theorem zw9 (m:Mat) (ts:List Int):(ykj m ts).length=ts.length+1:=by simp [ykj]
def ygc (h:Hist) (o:Int):Int:=zhn h o h.os.length
def zj6 (h:Hist) (p o:Int):Int:=if ygc h o=0 then (if 0≤p∧p < h.ps.length then 0 else 2) else ygc h o
def mtE (h:Hist) (p o r:Int):Int:=if zj6 h p o=0 then (if 0≤r∧r < (zxa h p o).length then 0 else 2) else zj6 h p o
def mtB (h:Hist) (p o r:Int):Bool:=if mtE h p o r=0 then ((zxa h p o)[r.toNat]?).getD false else false
def zt3 (l:List Bool):Nat→List Int
 |0=> []
 |k+1=>zt3 l k++(if 0 < k∧l[k]? ≠l[k - 1]? then [(k:Int)] else [])
def yp3 (l:List Bool):List Int:=zt3 l l.length
def chL (h:Hist) (p o:Int):List Int:=if zj6 h p o=0 then yp3 (zxa h p o) else []
theorem zm3 (l:List Bool):∀(n:Nat) (z:Int),z∈zt3 l n ↔ ∃k:Nat,z=k∧0 < k∧k < n∧l[k]? ≠l[k - 1]?
 |0,z=>by simp [zt3]
 |n+1,z=>by
  rw [zt3,List.mem_append,zm3 l n z]
  constructor
  ·rintro (⟨k,h1,h2,h3,h4⟩|h)
   ·exact ⟨k,h1,h2,by omega,h4⟩
   ·split at h
    ·rename_i hc
     rw [List.mem_singleton] at h
     exact ⟨n,h,hc.1,by omega,hc.2⟩
    ·cases h
  ·rintro ⟨k,h1,h2,h3,h4⟩
   by_cases e:k=n
   ·subst e;right;rw [if_pos ⟨h2,h4⟩,h1];simp
   ·left;exact ⟨k,h1,h2,by omega,h4⟩
theorem yfa (l:List Bool):∀n:Nat,(zt3 l n).Pairwise (· < ·)
 |0=> .nil
 |n+1=>by
  rw [zt3,List.pairwise_append]
  refine ⟨yfa l n,by split <;> simp,fun a ha b hb=> ?_⟩
  obtain ⟨k,rfl,_,h3,_⟩:=(zm3 l n a).1 ha
  split at hb
  ·rw [List.mem_singleton] at hb;subst hb;omega
  ·cases hb
theorem zym (l:List Bool):∀n:Nat,(zt3 l n).length≤n
 |0=>by simp [zt3]
 |n+1=>by
  have:=zym l n
  rw [zt3,List.length_append]
  split <;> simp <;> omega
theorem yte {l:List Bool} {k:Nat} (h:k=0):zt3 l (k+1)=zt3 l k:=by rw [zt3,if_neg (by omega)];simp
def mtM (m:Option Mat) (ts:List Int) (r:Int):Bool:=match m with
 |none=>false
 |some m=>if r=0 then m.first else m.ts.contains ((ts[(r - 1).toNat]?).getD 0)
def zub (h:Hist) (p x r:Int):Bool:=mtM (yk4 h p x) (zbz h x) r
def chR (f:Nat→Bool):Nat→List Int
 |0=> []
 |k+1=>chR f k++(if f (k+1)≠f k then [((k+1:Nat):Int)] else [])
theorem chR_len (f:Nat→Bool):∀n:Nat,(chR f n).length≤n
 |0=>by simp [chR]
 |n+1=>by
  have:=chR_len f n
  rw [chR,List.length_append]
  split <;> simp <;> omega
theorem zyn {l:List Bool} {f:Nat→Bool} (hf:∀k,(h:k < l.length)→l[k]=f k):∀k,k < l.length→zt3 l (k+1)=chR f k
 |0,h=>yte rfl
 |k+1,h=>by
  rw [zt3,zyn hf k (by omega),chR]
  congr 1
  rw [List.getElem?_eq_getElem h,show k+1 - 1=k by omega,List.getElem?_eq_getElem (show k < l.length by omega),hf _ h,hf k (by omega)]
  by_cases e:f (k+1)=f k
  ·rw [if_neg (by rw [e];simp),if_neg (by simpa using e)]
  ·rw [if_pos ⟨by omega,by simpa using e⟩,if_pos e]
theorem znh (h:Hist) (p o:Int):(zxa h p o).length=(zax h o).length+1:=zw9 _ _
theorem ygy (m:Option Mat) (ts:List Int) {k:Nat} (hk:k < (ykj (m.getD yp0) ts).length):(ykj (m.getD yp0) ts)[k]=mtM m ts k:=by
 unfold mtM
 have hl:=zw9 (m.getD yp0) ts
 cases m with
 |none=>cases k with
  |zero=>rfl
  |succ k=>simp only [ykj,List.getElem_cons_succ,List.getElem_map];rfl
 |some m=>cases k with
  |zero=>rfl
  |succ k=>
   have hk':k < ts.length:=by omega
   simp only [ykj,List.getElem_cons_succ,List.getElem_map]
   rw [if_neg (by omega),show (((k+1:Nat):Int) - 1).toNat=k by omega,List.getElem?_eq_getElem hk'];rfl
theorem ymm {h:Hist} {p x:Int} (hi:zax h x=zbz h x) {k:Nat} (hk:k < (zxa h p x).length):(zxa h p x)[k]=zub h p x k:=by
 rw [zub,←hi];exact ygy (yk4 h p x) (zax h x) hk
theorem yd9 {h:Hist} {x:Int}:ygc h x=0 ↔ v7 h=0∧0≤x∧x < h.os.length:=by
 constructor
 ·intro e
  obtain ⟨a,b⟩:=ypp e
  exact ⟨za4.2 a,b⟩
 ·rintro ⟨a,b⟩;exact zwn a b
theorem ybm {h:Hist} {p x:Int}:zj6 h p x=0 ↔ v7 h=0∧(0≤x∧x < h.os.length)∧0≤p∧p < h.ps.length:=by
 unfold zj6
 by_cases e:ygc h x=0
 ·rw [if_pos e]
  obtain ⟨a,b⟩:=yd9.1 e
  by_cases hp:0≤p∧p < h.ps.length
  ·rw [if_pos hp];exact ⟨fun _=>⟨a,b,hp⟩,fun _=>rfl⟩
  ·rw [if_neg hp];exact ⟨fun q=>(by cases q),fun q=>absurd q.2.2 hp⟩
 ·rw [if_neg e];exact ⟨fun q=>absurd q e,fun q=>absurd (yd9.2 ⟨q.1,q.2.1⟩) e⟩
theorem yxq {h:Hist} {p x r:Int} (he:zj6 h p x≠0):mtE h p x r=zj6 h p x∧mtB h p x r=false∧chL h p x= []:=by
 have e:mtE h p x r=zj6 h p x:=by rw [mtE,if_neg he]
 exact ⟨e,by rw [mtB,e,if_neg he],by rw [chL,if_neg he]⟩
theorem zuo {h:Hist} {p x:Int} (he:zj6 h p x=0):zax h x=zbz h x:=by
 obtain ⟨a,⟨b,c⟩,_⟩:=ybm.1 he
 exact zn6 (za4.1 a) b c
theorem yxt {h:Hist} {p x:Int} (he:zj6 h p x=0):chL h p x=chR (fun k=>zub h p x k) (zbz h x).length:=by
 have hi:=zuo he
 have hl:=znh h p x
 rw [chL,if_pos he,yp3,hl,←hi]
 exact zyn (f:=fun k=>zub h p x k) (fun k hk=>ymm hi hk) _ (by omega)
def zut (scan:List Seen) (x:Int):Option Ver:=(scan.filter fun s=>s.o==x).getLast?.map Seen.v
def yf5 (l:List Ev) (t:Int) (n:Nat) (scan:List Seen) (x:Int):Ver:=match zut scan x with
 |some v=>v
 |none=>zqs (zc4 l t x n)
def yar (l:List Ev) (t:Int):List (Int×Ver):=yga (fun e:Ev=>e.t==t && e.kind==2) Ev.o Ev.v [] l
def ymz (m:List (Int×Ver)) (scan:List Seen):List (Int×Ver):=yga (fun _:Seen=>true) Seen.o Seen.v m scan
theorem yc6 {l:List Ev} {t:Int} {k:Nat} (hk:k < l.length) (h:(l[k].t==t && l[k].kind==2)=true):yar (l.take (k+1)) t=zdy l[k].o l[k].v (yar (l.take k) t):=by
 rw [List.take_succ_eq_append_getElem hk,yar,yga,List.foldl_append,List.foldl_cons,List.foldl_nil,if_pos h];rfl
theorem yc7 {l:List Ev} {t:Int} {k:Nat} (hk:k < l.length) (h:(l[k].t==t && l[k].kind==2)=false):yar (l.take (k+1)) t=yar (l.take k) t:=by
 rw [List.take_succ_eq_append_getElem hk,yar,yga,List.foldl_append,List.foldl_cons,List.foldl_nil,if_neg (by rw [h];decide)];rfl
theorem yqm {m:List (Int×Ver)} {l:List Seen} {k:Nat} (hk:k < l.length):ymz m (l.take (k+1))=zdy l[k].o l[k].v (ymz m (l.take k)):=by
 rw [List.take_succ_eq_append_getElem hk,ymz,yga,List.foldl_append,List.foldl_cons,List.foldl_nil,if_pos rfl];rfl
theorem zl2 (l:List Ev) (t x:Int):∀n,n≤l.length→(zc4 l t x n).map Prod.fst=(((l.take n).filter (zam t x)).getLast?).map Ev.v
 |0,_=>by simp [zc4]
 |n+1,hn=>by
  have hk:n < l.length:=hn
  rw [zc4,List.getElem?_eq_getElem hk,List.take_succ_eq_append_getElem hk,List.filter_append]
  simp only
  by_cases hw:zam t x l[n]=true
  ·rw [if_pos hw,List.filter_cons_of_pos hw];simp
  ·rw [if_neg hw,List.filter_cons_of_neg hw,zl2 l t x n (by omega)];simp
theorem ynu {l:List Ev} {t x:Int} {n:Nat} (scan:List Seen) (hn:n≤l.length):(za6 x (ymz (yar (l.take n) t) scan)).getD ⟨0,0⟩=yf5 l t n scan x:=by
 have h1:za6 x (yar (l.take n) t)=(zc4 l t x n).map Prod.fst:=by
  rw [zl2 l t x n hn,yar,zmv]
  have:((l.take n).filter fun e=>(e.t==t && e.kind==2) && decide (e.o=x))=(l.take n).filter (zam t x):=by
   refine List.filter_congr fun e _=> ?_
   rw [zam,Bool.eq_iff_iff];simp only [Bool.and_eq_true,beq_iff_eq,decide_eq_true_eq]
   exact ⟨fun ⟨⟨a,b⟩,c⟩=>⟨⟨b,a⟩,c⟩,fun ⟨⟨a,b⟩,c⟩=>⟨⟨b,a⟩,c⟩⟩
  rw [this]
  cases (((l.take n).filter (zam t x)).getLast?).map Ev.v <;> rfl
 have h2:(scan.filter fun e=>true && decide (e.o=x))=scan.filter fun s=>s.o==x:=by
  refine List.filter_congr fun e _=> ?_
  rw [Bool.true_and];rfl
 rw [ymz,zmv,h1,h2,yf5,zut]
 cases ((scan.filter fun s=>s.o==x).getLast?).map Seen.v with
 |some v=>rfl
 |none=>cases zc4 l t x n <;> rfl
def j9 (h:Hist) (e:Ev) (n:Nat):List Seen:=(upR h.os.length).map fun x=>⟨x,yf5 h.evs e.t n e.scan x⟩
theorem yb3 {scan:List Seen} {x:Int} {k:Nat} (hk:k < scan.length):zut (scan.take (k+1)) x=if (scan[k].o==x)=true then some scan[k].v else zut (scan.take k) x:=by
 rw [zut,List.take_succ_eq_append_getElem hk,List.filter_append]
 by_cases e:(scan[k].o==x)=true
 ·rw [if_pos e,List.filter_cons_of_pos (p:=fun s:Seen=>s.o==x) e];simp
 ·rw [if_neg e,List.filter_cons_of_neg (p:=fun s:Seen=>s.o==x) e];simp [zut]
theorem yus {h:Hist} {e:Ev} {n m:Nat} (hm:m < (j9 h e n).length):(j9 h e n)[m].o=m:=by
 simp only [j9,List.getElem_map];simp [upR]
theorem zjk (h:Hist) (e:Ev) (n:Nat):(j9 h e n).length=h.os.length:=by rw [j9,oM,upR,oM,List.length_range]
def bt1:ByteArray:=⟨#[116,49]⟩
def bt2:ByteArray:=⟨#[116,50]⟩
def bP:ByteArray:=⟨#[112]⟩
def zky (l:List Conf) (z:Conf):Prop:=z∈l∧∀c∈l,zmf c=zmf z→zi2 z c≤0
theorem zt0 {a b:Conf} (h:zi2 a b≤0) (k:zi2 b a≤0):a=b:=by
 have:=zgb.anti a b
 exact zij a b (by omega)
def zfu (m:List ((Int×Int)×Conf)) (c:Conf):List ((Int×Int)×Conf):=match za6 (zmf c) m with
 |none=>zdy (zmf c) c m
 |some b=>if zi2 c b < 0 then zdy (zmf c) c m else m
def zbi (l:List Conf):List ((Int×Int)×Conf):=l.foldl zfu []
theorem zwi {l:List Conf} {c:Conf}:zbi (l++ [c])=zfu (zbi l) c:=by rw [zbi,List.foldl_append];rfl
def zot (l:List Conf) (m:List ((Int×Int)×Conf)):Prop:=∀k,match za6 k m with
 |none=>∀c∈l,zmf c≠k
 |some z=>zmf z=k∧zky l z
theorem zqg {l:List Conf} {m:List ((Int×Int)×Conf)} {c:Conf} (h:zot l m) (hc:∀d∈l,zmf d=zmf c→zi2 c d≤0):zot (l++ [c]) (zdy (zmf c) c m):=by
 intro k
 rw [zce]
 by_cases e:zmf c=k
 ·rw [if_pos e]
  refine ⟨e,by simp,fun d hd ed=> ?_⟩
  rcases List.mem_append.1 hd with hd|hd
  ·exact hc d hd ed
  ·rw [List.mem_singleton] at hd;rw [hd,ye7];exact Int.le_refl _
 ·rw [if_neg e]
  have:=h k
  cases hg:za6 k m with
  |none=>
   rw [hg] at this
   intro d hd
   rcases List.mem_append.1 hd with hd|hd
   ·exact this d hd
   ·rw [List.mem_singleton] at hd;rw [hd];exact e
  |some z=>
   rw [hg] at this
   obtain ⟨h1,h2,h3⟩:=this
   refine ⟨h1,List.mem_append_left _ h2,fun d hd ed=> ?_⟩
   rcases List.mem_append.1 hd with hd|hd
   ·exact h3 d hd ed
   ·rw [List.mem_singleton] at hd;rw [hd,h1] at ed;exact absurd ed e
theorem yj1 {l:List Conf} {m:List ((Int×Int)×Conf)} (h:zot l m) (c:Conf):zot (l++ [c]) (zfu m c):=by
 unfold zfu
 have hk:=h (zmf c)
 cases hg:za6 (zmf c) m with
 |none=>
  rw [hg] at hk
  simp only
  exact zqg h fun d hd e=>absurd e (hk d hd)
 |some b=>
  rw [hg] at hk
  obtain ⟨h1,h2,h3⟩:=hk
  simp only
  by_cases hlt:zi2 c b < 0
  ·rw [if_pos hlt]
   exact zqg h fun d hd e=>zgb.trans _ _ _ (Int.le_of_lt hlt) (h3 d hd (e.trans h1.symm))
  ·rw [if_neg hlt]
   intro k
   have hq:=h k
   cases hg2:za6 k m with
   |none=>
    rw [hg2] at hq
    intro d hd
    rcases List.mem_append.1 hd with hd|hd
    ·exact hq d hd
    ·rw [List.mem_singleton] at hd;rw [hd]
     intro e;rw [e,hg2] at hg;cases hg
   |some z=>
    rw [hg2] at hq
    obtain ⟨q1,q2,q3⟩:=hq
    refine ⟨q1,List.mem_append_left _ q2,fun d hd ed=> ?_⟩
    rcases List.mem_append.1 hd with hd|hd
    ·exact q3 d hd ed
    ·rw [List.mem_singleton] at hd
     rw [hd] at ed ⊢
     have e2:k=zmf c:=q1.symm.trans ed.symm
     rw [e2,hg] at hg2
     injection hg2 with hg2
     rw [←hg2]
     have:=zgb.anti c b;omega
theorem zyr (l:List Conf):zot l (zbi l):=by
 suffices h:∀(l p:List Conf) (m:List ((Int×Int)×Conf)),zot p m→zot (p++l) (l.foldl zfu m) by
  have:=h l [] [] (fun k=>by simp [za6])
  simpa [zbi] using this
 intro l
 induction l with
 |nil=>intro p m h;simpa using h
 |cons c r ih=>
  intro p m h
  have:=ih (p++ [c]) (zfu m c) (yj1 h c)
  simpa using this
theorem zwh {m:List ((Int×Int)×Conf)} (h:(m.map Prod.fst).Nodup) (c:Conf):((zfu m c).map Prod.fst).Nodup:=by
 unfold zfu
 split
 ·exact (zlc _ _ _ h).1
 ·split
  ·exact (zlc _ _ _ h).1
  ·exact h
theorem zju (l:List Conf):((zbi l).map Prod.fst).Nodup:=by
 suffices h:∀(l:List Conf) (m:List ((Int×Int)×Conf)),(m.map Prod.fst).Nodup→((l.foldl zfu m).map Prod.fst).Nodup by exact h l [] .nil
 intro l
 induction l with
 |nil=>intro m h;exact h
 |cons c r ih=>intro m h;exact ih _ (zwh h c)
theorem zmy {K V:Type} [DecidableEq K] {k:K} {v:V}:∀{m:List (K×V)},(m.map Prod.fst).Nodup→(za6 k m=some v ↔ (k,v)∈m)
 | [],_=>by simp [za6]
 |p::r,h=>by
  rw [List.map_cons,List.nodup_cons] at h
  rw [za6,List.mem_cons]
  by_cases e:p.1=k
  ·rw [if_pos e]
   constructor
   ·intro q;injection q with q;left;rw [←e,←q]
   ·rintro (q|q)
    ·rw [←q]
    ·exact absurd (List.mem_map.2 ⟨_,q,e.symm⟩) h.1
  ·rw [if_neg e,zmy h.2]
   constructor
   ·exact .inr
   ·rintro (q|q)
    ·exact absurd (by rw [←q]) e
    ·exact q
theorem zor {l:List Conf} {z:Conf}:z∈(zbi l).map Prod.snd ↔ zky l z:=by
 have hn:=zju l
 constructor
 ·intro h
  obtain ⟨p,hp,rfl⟩:=List.mem_map.1 h
  have hg:=(zmy (k:=p.1) (v:=p.2) hn).2 hp
  have:=zyr l p.1
  rw [hg] at this
  exact this.2
 ·intro h
  have:=zyr l (zmf z)
  cases hg:za6 (zmf z) (zbi l) with
  |none=>rw [hg] at this;exact absurd rfl (this z h.1)
  |some y=>
   rw [hg] at this
   obtain ⟨h1,h2,h3⟩:=this
   have:y=z:=zt0 (h3 z h.1 h1.symm) (h.2 y h2 h1)
   subst this
   exact List.mem_map.2 ⟨_,(zmy hn).1 hg,rfl⟩
abbrev RkM:=List ((Int×Int×Int)×Int)
def zr5 (x:Int) (v:Ver):Int×Int×Int:=(x,v.t,v.k)
theorem zj4 {x y:Int} {v w:Ver}:zr5 x v=zr5 y w ↔ x=y∧v=w:=by
 cases v;cases w;simp [zr5]
def zhr (h:Hist) (x t:Int):Ver:=zqs (zjc h.evs t x)
def zh2 (h:Hist) (x:Int):Nat→List Int→RkM→RkM
 |_,[],m=>m
 |i,t::r,m=>zh2 h x (i+1) r (zdy (zr5 x (zhr h x t)) ((i:Int)+1) m)
def yhe (h:Hist) (x:Int) (m:RkM):RkM:=zh2 h x 0 (zax h x) (zdy (zr5 x ⟨0,0⟩) 0 m)
def rkM (h:Hist):Nat→RkM
 |0=> []
 |n+1=>yhe h n (rkM h n)
theorem zpo (h:Hist) (x:Int):∀(l:List Int) (i:Nat) (t:Int) (m:RkM),zh2 h x i (l++ [t]) m=zdy (zr5 x (zhr h x t)) (((i+l.length:Nat):Int)+1) (zh2 h x i l m)
 | [],i,t,m=>by simp [zh2]
 |a::r,i,t,m=>by
  rw [List.cons_append,zh2,zpo h x r (i+1) t,zh2,List.length_cons,show i+1+r.length=i+(r.length+1) by omega]
theorem yce {h:Hist} {x:Int} {l:List Int} {k:Nat} (hk:k < l.length) (m:RkM):zh2 h x 0 (l.take (k+1)) m=zdy (zr5 x (zhr h x l[k])) ((k:Int)+1) (zh2 h x 0 (l.take k) m):=by
 rw [List.take_succ_eq_append_getElem hk,zpo,List.length_take,Nat.min_eq_left (by omega),Nat.zero_add]
theorem zjm (h:Hist) {x y:Int} (hxy:y≠x) (v:Ver):∀(l:List Int) (i:Nat) (m:RkM),za6 (zr5 y v) (zh2 h x i l m)=za6 (zr5 y v) m
 | [],_,_=>rfl
 |t::r,i,m=>by
  rw [zh2,zjm h hxy v r (i+1),zce,if_neg]
  intro e;exact hxy ((zj4.1 e).1).symm
theorem zsn (h:Hist) (x:Int) (v:Ver):∀(l:List Int) (i:Nat) (m:RkM),(l.map (zhr h x)).Nodup→za6 (zr5 x v) (zh2 h x i l m)=if zbq (fun t=>zhr h x t==v) i l ≥ 0 then some (zbq (fun t=>zhr h x t==v) i l+1) else za6 (zr5 x v) m
 | [],i,m,_=>by rw [zh2,zbq,if_neg (by decide)]
 |t::r,i,m,hn=>by
  rw [List.map_cons,List.nodup_cons] at hn
  rw [zh2,zsn h x v r (i+1) _ hn.2]
  by_cases e:zhr h x t=v
  ·have hno:decide (zbq (fun t=>zhr h x t==v) (i+1) r ≥ 0)=false:=by
    rw [zeq,List.any_eq_false]
    intro z hz q
    exact hn.1 (by rw [e,←eq_of_beq q];exact List.mem_map_of_mem hz)
   have e1:zbq (fun t=>zhr h x t==v) i (t::r)=(i:Int):=by rw [zbq,if_pos (by simpa using e)]
   rw [e1,if_neg (oF hno),if_pos (by omega),zce,if_pos (by rw [e])]
  ·have e1:zbq (fun t=>zhr h x t==v) i (t::r)=zbq (fun t=>zhr h x t==v) (i+1) r:=by rw [zbq,if_neg (by simpa using e)]
   rw [e1]
   by_cases q:zbq (fun t=>zhr h x t==v) (i+1) r ≥ 0
   ·rw [if_pos q,if_pos q]
   ·rw [if_neg q,if_neg q,zce,if_neg]
    intro e2;exact e ((zj4.1 e2).2)
theorem yeo {h:Hist} (hs:zar h=true) {x:Int} (h0:0≤x) (h1:x < h.os.length):((zax h x).map (zhr h x)).Nodup∧∀t∈zax h x,zhr h x t≠⟨0,0⟩:=by
 obtain ⟨hn,_,hm⟩:=zjq hs h0 h1
 have hv:∀t∈zax h x,(zhr h x t).t=t∧0 < (zhr h x t).k:=fun t ht=>by
  obtain ⟨w1,_⟩:=zjh.1 ((hm t).1 ht)
  obtain ⟨v,i,hf⟩:=yep w1
  obtain ⟨_,_,_,vt,vk,_⟩:=zko hs hf
  rw [zhr,hf];exact ⟨vt,vk⟩
 constructor
 ·rw [List.Nodup,List.pairwise_map]
  refine (List.pairwise_iff_getElem).2 fun i j hi hj hij e=> ?_
  have a:=(hv _ (List.getElem_mem hi)).1
  have b:=(hv _ (List.getElem_mem hj)).1
  rw [e] at a
  exact (List.pairwise_iff_getElem.1 hn) i j hi hj hij (a.symm.trans b)
 ·intro t ht e
  have:=(hv t ht).2
  rw [e] at this;exact absurd this (by decide)
theorem ycf (h:Hist) (x:Int) (v:Ver):∀n:Nat,(n:Int)≤x∨x < 0→za6 (zr5 x v) (rkM h n)=none
 |0,_=>rfl
 |n+1,hx=>by
  have hne:x≠(n:Int):=by omega
  rw [rkM,yhe,zjm h hne,zce,if_neg,ycf h x v n (by omega)]
  intro e;exact hne ((zj4.1 e).1).symm
theorem zno {h:Hist} (hs:zar h=true) {x:Int} (v:Ver) (h0:0≤x) (h1:x < h.os.length):∀n:Nat,n≤h.os.length→x < n→za6 (zr5 x v) (rkM h n)=if v=⟨0,0⟩ then some 0 else if zmd h x v ≥ 0 then some (zmd h x v+1) else none
 |0,_,hx=>absurd hx (by omega)
 |n+1,hn,hx=>by
  by_cases e:x=(n:Int)
  ·subst e
   obtain ⟨a,b⟩:=yeo hs h0 h1
   rw [rkM,yhe,zsn h _ v _ _ _ a,zce]
   have hr:zbq (fun t=>zhr h (n:Int) t==v) 0 (zax h n)=zmd h n v:=rfl
   rw [hr]
   by_cases hv:v=⟨0,0⟩
   ·subst hv
    have:decide (zmd h n ⟨0,0⟩ ≥ 0)=false:=by
     rw [zmd,zeq,List.any_eq_false]
     intro t ht q
     exact b t ht (eq_of_beq q)
    rw [if_neg (oF this),if_pos rfl,if_pos rfl]
   ·rw [if_neg hv,if_neg (fun e=>hv ((zj4.1 e).2).symm),ycf h _ v n (.inl (Int.le_refl _))]
  ·rw [rkM,yhe,zjm h e,zce,if_neg (fun q=>e ((zj4.1 q).1).symm)]
   exact zno hs v h0 h1 n (by omega) (by omega)
def zgk (h:Hist) (e:Ev) (c:Int) (a:Nat) (x r:Int):Option Conf:=
 if r > ((zax h x).length:Int) then none else if (((zax h x)[(r - 1).toNat]?).getD 0==e.t)=true then none
 else some ⟨e.t,((zax h x)[(r - 1).toNat]?).getD 0,c,a,zc5 h (((zax h x)[(r - 1).toNat]?).getD 0) x,x,e.p⟩
def zir (h:Hist) (x:Int) (v:Ver):Option Int:=za6 (zr5 x v) (rkM h h.os.length)
def zg0 (h:Hist) (e:Ev):List (Int×List Int):=match zir h e.o e.v with
 |none=> []
 |some r=> [(e.o,[r+1])]
def rwOver (h:Hist) (p x r:Int):List Int:=(chL h p x).dropWhile fun k=> !decide (k > r)
def zfk (h:Hist) (e:Ev) (s:Seen):Option (Int×List Int):=match zir h s.o s.v with
 |none=>none
 |some r=>if (chL h e.p s.o).any (fun k=>decide (k > r))=true then some (s.o,rwOver h e.p s.o r) else none
def zq0 (h:Hist) (e:Ev) (a:Nat):List (Int×List Int):=(j9 h e a).filterMap (zfk h e)
def u5 (h:Hist) (e:Ev) (a:Nat):List (Int×List Int):=if e.kind=3 then zg0 h e else if e.kind=4 then zq0 h e a else []
def zhq (e:Ev):Int:=if e.kind=3 then 3 else if e.kind=4 then 4 else 0
def zid (h:Hist) (e:Ev) (a:Nat):List Conf:=if zfb h.evs e.t 5=true then (u5 h e a).flatMap fun p=>p.2.filterMap (zgk h e (zhq e) a p.1) else []
def rkR (h:Hist) (x:Int) (v:Ver):Option Int:=if v=⟨0,0⟩ then some 0 else if zbq (fun t=>zhr h x t==v) 0 (zbz h x) ≥ 0 then some (zbq (fun t=>zhr h x t==v) 0 (zbz h x)+1) else none
def zjx (h:Hist) (p x:Int):List Int:=chR (fun k=>zub h p x (k:Nat)) (zbz h x).length
theorem yuz {h:Hist} (hs:zar h=true) {x:Int} (h0:0≤x) (h1:x < h.os.length) (v:Ver):zir h x v=rkR h x v:=by
 rw [zir,zno hs v h0 h1 _ (Nat.le_refl _) h1,rkR,zmd,←zn6 hs h0 h1];rfl
theorem zpq {h:Hist} {e:Ev} (he:zb6 h e=true) (h3:e.kind=3):(0≤e.o∧e.o < h.os.length)∧e.p=0:=by
 obtain ⟨_,_,_,hc,hq⟩:=zcl he
 constructor
 ·rw [zgd,if_neg (by omega),if_neg (by omega),if_pos h3] at hc
  simp only [zeo,Bool.and_eq_true,zbs] at hc
  exact hc.1
 ·rw [←hq];simp only [zgd];rw [if_neg (by omega),if_neg (by omega),if_pos h3]
theorem yqn {h:Hist} {e:Ev} (he:zb6 h e=true) (h4:e.kind=4):0≤e.p∧e.p < h.ps.length:=by
 obtain ⟨_,_,_,hc,_⟩:=zcl he
 rw [zgd,if_neg (by omega),if_neg (by omega),if_neg (by omega),if_pos h4] at hc
 simp only [zc3,Bool.and_eq_true,zbs] at hc
 exact hc.1.1
theorem zyb {α β:Type} {f g:α→Option β}:∀{l:List α},(∀a∈l,f a=g a)→l.filterMap f=l.filterMap g
 | [],_=>rfl
 |a::r,h=>by rw [List.filterMap_cons,List.filterMap_cons,h a (by simp),zyb fun b hb=>h b (by simp [hb])]
def zo8 (a b:Conf):Int:=zjt [a.f,a.t,a.a,a.b,a.o,a.p] [b.f,b.t,b.a,b.b,b.o,b.p]
theorem zoh {a b:Conf} (h:a.k=b.k):zo8 a b=zi2 a b:=by
 rw [zo8,zi2,yo8,yo8]
 simp only [zjt,h,Int.lt_irrefl,if_false]
def zou (h:Hist) (x r:Int):Int:=((zax h x)[(r - 1).toNat]?).getD 0
def wrC (h:Hist) (e:Ev) (a:Nat) (k f x p:Int):Conf:=⟨f,e.t,k,zc5 h f x,a,x,p⟩
def zcy (h:Hist) (e:Ev) (a:Nat):List Conf:=if (e.kind==3)=true then
    (if ((zir h e.o e.v).getD 0==0)=true then [] else if (zou h e.o ((zir h e.o e.v).getD 0)==e.t)=true then [] else [wrC h e a 1 (zou h e.o ((zir h e.o e.v).getD 0)) e.o 0]) else []
def wrQ (h:Hist) (e:Ev) (a:Nat) (x k:Int):Option Conf:=if (zou h x k==e.t)=true then none else some (wrC h e a 2 (zou h x k) x e.p)
def za5 (h:Hist) (e:Ev) (a:Nat) (s:Seen):List Conf:=match zir h s.o s.v with
 |none=> []
 |some r=>((chL h e.p s.o).takeWhile fun k=>decide (k≤r)).filterMap (wrQ h e a s.o)
def zet (h:Hist) (e:Ev) (a:Nat):List Conf:=if (e.kind==4)=true then (j9 h e a).flatMap (za5 h e a) else []
def zaf (h:Hist) (F:Ev→Nat→List Conf):Nat→List Conf
 |0=> []
 |n+1=>zaf h F n++(match h.evs[n]? with|some e=>if zfb h.evs e.t 5=true then F e n else []|none=> [])
def zff (h:Hist):List Conf:=zaf h (zcy h) h.evs.length
def zfd (h:Hist):List Conf:=zaf h (zet h) h.evs.length
def zcz (l:List Conf):List Conf:=ybq zi2 ((zbi l).map Prod.snd)
def zfg (h:Hist) (x f:Int) (j:Nat) (e:Ev):Option Conf:=if (e.kind==3 && (e.o==x && (e.v==zhr h x f && (!(e.t==f) && zfb h.evs e.t 5))))=true then some (wrC h e j 1 f x 0) else none
def ze0 (h:Hist):List Conf:=(upR h.os.length).flatMap fun x=>(zbz h x).flatMap fun f=>zec (zfg h x f) h.evs h.evs.length
def zev (h:Hist) (e:Ev) (a:Nat) (s:Seen) (k:Int):Option Conf:=match rkR h s.o s.v with
 |none=>none
 |some r=>if k≤r then (if (((zbz h s.o)[(k - 1).toNat]?).getD 0==e.t)=true then none else some (wrC h e a 2 (((zbz h s.o)[(k - 1).toNat]?).getD 0) s.o e.p)) else none
def zeu (h:Hist) (e:Ev) (a:Nat):List Conf:=if (e.kind==4)=true then (j9 h e a).flatMap fun s=>(zjx h e.p s.o).filterMap (zev h e a s) else []
def zfe (h:Hist):List Conf:=zaf h (zeu h) h.evs.length
def zb1 (a b:Conf):Bool:=decide (zo8 a b < 0)
def ygb (out:List Conf) (c:Conf):List Conf:=out.takeWhile (zb1 · c)++c::out.dropWhile (zb1 · c)
def zf0 (l out:List Conf) (c:Conf):List Conf:=if (l.any fun d=>d.f==c.f && (d.t==c.t && zb1 d c))=true then out else if out.contains c=true then out else ygb out c
def zia (l:List Conf):List Conf:=l.foldl (zf0 l) []
theorem zun {l:List Int} (hl:l.Pairwise (· < ·)) (r:Int):(l.takeWhile fun k=>decide (k≤r))=l.filter fun k=>decide (k≤r):=by
 induction l with
 |nil=>rfl
 |cons a l ih=>
  have h':=List.pairwise_cons.1 hl
  rw [List.takeWhile_cons,List.filter_cons]
  by_cases h:a≤r
  ·rw [decide_eq_true h,if_pos rfl,if_pos rfl,ih h'.2]
  ·rw [decide_eq_false h]
   simp only [Bool.false_eq_true,if_false]
   symm
   rw [List.filter_eq_nil_iff]
   intro b hb q
   have:=h'.1 b hb
   have:=oT q
   omega
theorem yay {h:Hist} (hs:zar h=true) {e:Ev} (he:e∈h.evs) (a:Nat):zet h e a=zeu h e a:=by
 rw [zet,zeu]
 by_cases h4:e.kind=4
 ·rw [if_pos (by simpa using h4),if_pos (by simpa using h4)]
  have hp:=yqn (ze6 hs _ he) h4
  have key:∀s∈j9 h e a,za5 h e a s=(zjx h e.p s.o).filterMap (zev h e a s):=fun s hsm=>by
   have ho:0≤s.o∧s.o < h.os.length:=by
    rw [j9,List.mem_map] at hsm
    obtain ⟨x,hx,rfl⟩:=hsm
    exact (zng _ _).1 hx
   have ht:zj6 h e.p s.o=0:=ybm.2 ⟨za4.2 hs,ho,hp⟩
   have hch:chL h e.p s.o=zjx h e.p s.o:=yxt ht
   have hlt:(chL h e.p s.o).Pairwise (· < ·):=by rw [chL,if_pos ht];exact yfa _ _
   rw [za5,yuz hs ho.1 ho.2]
   cases hr:rkR h s.o s.v with
   |none=>
    symm
    simp only
    rw [List.filterMap_eq_nil_iff]
    intro k _;rw [zev,hr]
   |some r=>
    simp only
    rw [zun hlt,←hch,List.filterMap_filter]
    refine zyb fun k hk=> ?_
    rw [zev,hr]
    simp only
    by_cases q:k≤r
    ·rw [if_pos (decide_eq_true q),if_pos q,wrQ,zou,zn6 hs ho.1 ho.2]
    ·rw [if_neg (by simpa using q),if_neg q]
  generalize j9 h e a=L at key
  induction L with
  |nil=>rfl
  |cons s r ih=>rw [List.flatMap_cons,List.flatMap_cons,key s (by simp),ih fun s hs=>key s (by simp [hs])]
 ·rw [if_neg (by simpa using h4),if_neg (by simpa using h4)]
theorem znd {h:Hist} {F G:Ev→Nat→List Conf} (hf:∀e∈h.evs,∀a,F e a=G e a):∀n,zaf h F n=zaf h G n
 |0=>rfl
 |n+1=>by
  rw [zaf,zaf,znd hf n]
  cases hn:h.evs[n]? with
  |none=>rfl
  |some e=>simp only;rw [hf e (List.mem_of_getElem? hn)]
theorem zmj {h:Hist} (hs:zar h=true):zfd h=zfe h:=znd (fun e he a=>yay hs he a) _
theorem znc {h:Hist} {F:Ev→Nat→List Conf} {z:Conf}:∀{n:Nat},n≤h.evs.length→(z∈zaf h F n ↔ ∃j,∃hj:j < h.evs.length,j < n∧zfb h.evs h.evs[j].t 5=true∧z∈F h.evs[j] j)
 |0,_=>by simp [zaf]
 |n+1,hn=>by
  rw [zaf,List.mem_append,znc (n:=n) (by omega),List.getElem?_eq_getElem (by omega)]
  simp only
  constructor
  ·rintro (⟨j,hj,q,r⟩|q)
   ·exact ⟨j,hj,by omega,r⟩
   ·split at q
    ·exact ⟨n,by omega,by omega, ‹_›,q⟩
    ·cases q
  ·rintro ⟨j,hj,q,r,w⟩
   by_cases e:j=n
   ·subst e;right;rw [if_pos r];exact w
   ·left;exact ⟨j,hj,by omega,r,w⟩
theorem zmz {α:Type} {f:Nat→Ev→Option α} {l:List Ev} {z:α}:∀{n:Nat},n≤l.length→(z∈zec f l n ↔ ∃j,∃hj:j < l.length,j < n∧f j l[j]=some z)
 |0,_=>by simp [zec]
 |n+1,hn=>by
  rw [zn9 (by omega),List.mem_append,zmz (n:=n) (by omega),Option.mem_toList]
  constructor
  ·rintro (⟨j,hj,q,r⟩|q)
   ·exact ⟨j,hj,by omega,r⟩
   ·exact ⟨n,by omega,by omega,q⟩
  ·rintro ⟨j,hj,q,r⟩
   by_cases e:j=n
   ·subst e;exact .inr r
   ·exact .inl ⟨j,hj,by omega,r⟩
theorem yqv {h:Hist} (hs:zar h=true) {x:Int} (h0:0≤x) (h1:x < h.os.length) {v:Ver} {r:Int} (hr:zir h x v=some r) (hn:r≠0):∃k,∃hk:k < (zax h x).length,r=(k:Int)+1∧zhr h x (zax h x)[k]=v:=by
 rw [zir,zno hs v h0 h1 _ (Nat.le_refl _) h1] at hr
 split at hr
 ·injection hr with hr;omega
 ·split at hr
  ·rename_i q
   injection hr with hr
   have:=zfp (fun t=>zqs (zjc h.evs t x)==v) (zax h x) 0
   split at this
   ·obtain ⟨k,hk,e,e1,e2⟩:=this
    refine ⟨k,hk,?_,?_⟩
    ·rw [zmd,e] at hr;omega
    ·rw [e1];exact eq_of_beq e2
   ·rw [zmd,this] at q;omega
  ·cases hr
theorem yqx {h:Hist} (hs:zar h=true) {x:Int} (h0:0≤x) (h1:x < h.os.length) {k:Nat} (hk:k < (zax h x).length):zir h x (zhr h x (zax h x)[k])=some ((k:Int)+1):=by
 obtain ⟨v,i,hf,⟨hi,_⟩,hv,hr,_⟩:=zw2 hs h0 h1 hk
 have e:zhr h x (zax h x)[k]=v:=by rw [zhr,hf];rfl
 rw [e,zir,zno hs v h0 h1 _ (Nat.le_refl _) h1,if_neg (by rintro rfl;exact absurd hv (by decide)),hr,if_pos (by omega)]
theorem zpc {h:Hist} (hs:zar h=true) {j:Nat} (hj:j < h.evs.length) {z:Conf}:z∈zcy h h.evs[j] j ↔ h.evs[j].kind=3∧∃k,∃hk:k < (zax h h.evs[j].o).length,zhr h h.evs[j].o (zax h h.evs[j].o)[k]=h.evs[j].v∧(zax h h.evs[j].o)[k]≠h.evs[j].t∧z=wrC h h.evs[j] j 1 (zax h h.evs[j].o)[k] h.evs[j].o 0:=by
 rw [zcy]
 by_cases h3:h.evs[j].kind=3
 ·rw [if_pos (by simpa using h3)]
  obtain ⟨⟨o0,o1⟩,_⟩:=zpq (ze6 hs _ (List.getElem_mem hj)) h3
  constructor
  ·intro q
   split at q
   ·cases q
   ·rename_i q0
    split at q
    ·cases q
    ·rename_i q2
     rw [List.mem_singleton] at q
     cases hr:zir h h.evs[j].o h.evs[j].v with
     |none=>rw [hr] at q0;simp at q0
     |some r=>
      rw [hr] at q q0 q2
      simp only [Option.getD_some] at q q0 q2
      obtain ⟨k,hk,e1,e2⟩:=yqv hs o0 o1 hr (by simpa using q0)
      have ea:zou h h.evs[j].o r=(zax h h.evs[j].o)[k]:=by
       rw [zou,show (r - 1).toNat=k by omega,List.getElem?_eq_getElem hk];rfl
      rw [ea] at q q2
      exact ⟨h3,k,hk,e2,by simpa using q2,q⟩
  ·rintro ⟨_,k,hk,e1,e2,rfl⟩
   have hr:=yqx hs o0 o1 hk
   rw [e1] at hr
   rw [hr]
   simp only [Option.getD_some]
   have ea:zou h h.evs[j].o ((k:Int)+1)=(zax h h.evs[j].o)[k]:=by
    rw [zou,show ((k:Int)+1 - 1).toNat=k by omega,List.getElem?_eq_getElem hk];rfl
   rw [if_neg (by simp;omega),ea,if_neg (by simpa using e2)]
   simp
 ·rw [if_neg (by simpa using h3)]
  simp [h3]
theorem zmk {h:Hist} (hs:zar h=true) (z:Conf):z∈zff h ↔ z∈ze0 h:=by
 rw [zff,znc (Nat.le_refl _),ze0,List.mem_flatMap]
 constructor
 ·rintro ⟨j,hj,_,hc,hz⟩
  obtain ⟨h3,k,hk,e1,e2,rfl⟩:=(zpc hs hj).1 hz
  obtain ⟨⟨o0,o1⟩,_⟩:=zpq (ze6 hs _ (List.getElem_mem hj)) h3
  refine ⟨h.evs[j].o,(zng _ _).2 ⟨o0,o1⟩,?_⟩
  rw [List.mem_flatMap]
  refine ⟨(zax h h.evs[j].o)[k],by rw [←zn6 hs o0 o1];exact List.getElem_mem hk,?_⟩
  rw [zmz (Nat.le_refl _)]
  refine ⟨j,hj,hj,?_⟩
  rw [zfg,if_pos (by simp only [h3,hc,e1,Bool.and_eq_true,beq_self_eq_true,true_and,and_true,Bool.not_eq_true',beq_eq_false_iff_ne];exact fun q=>e2 q.symm)]
 ·rintro ⟨x,hx,hz⟩
  obtain ⟨x0,x1⟩:=(zng _ _).1 hx
  rw [List.mem_flatMap] at hz
  obtain ⟨f,hf,hz⟩:=hz
  rw [zmz (Nat.le_refl _)] at hz
  obtain ⟨j,hj,_,hz⟩:=hz
  unfold zfg at hz
  split at hz
  ·rename_i q
   injection hz with hz
   simp only [Bool.and_eq_true,beq_iff_eq,Bool.not_eq_true',beq_eq_false_iff_ne] at q
   obtain ⟨q3,qo,qv,qt,qc⟩:=q
   rw [←zn6 hs x0 x1] at hf
   obtain ⟨k,hk,ek⟩:=List.mem_iff_getElem.1 hf
   refine ⟨j,hj,hj,qc,(zpc hs hj).2 ⟨q3,k,by rw [qo];exact hk,?_⟩⟩
   simp only [qo]
   rw [ek]
   exact ⟨qv.symm,fun q=>qt q.symm,hz.symm⟩
  ·cases hz
def yav (l:List Conf):Prop:=∀a∈l,∀b∈l,a.k=b.k
theorem zp7 {α:Type} {p:α→Bool}:∀{l:List α} {a:α} {r:List α},l.dropWhile p=a::r→p a=false
 | [],_,_,h=>by simp at h
 |x::l,a,r,h=>by
  rw [List.dropWhile_cons] at h
  split at h
  ·exact zp7 h
  ·injection h with h _;subst h;simpa using ‹¬p x=true›
theorem zr8 {α:Type} {p:α→Bool}:∀{l:List α} {a:α},a∈l.takeWhile p→p a=true
 |x::l,a,h=>by
  rw [List.takeWhile_cons] at h
  split at h
  ·rcases List.mem_cons.1 h with h|h
   ·subst h;assumption
   ·exact zr8 h
  ·cases h
theorem yi1 {out:List Conf} {c z:Conf}:z∈ygb out c ↔ z=c∨z∈out:=by
 rw [ygb,List.mem_append,List.mem_cons]
 have:z∈out ↔ z∈out.takeWhile (zb1 · c)∨z∈out.dropWhile (zb1 · c):=by
  rw [←List.mem_append,List.takeWhile_append_dropWhile]
 rw [this]
 constructor
 ·rintro (h|h|h)
  ·exact .inr (.inl h)
  ·exact .inl h
  ·exact .inr (.inr h)
 ·rintro (h|h|h)
  ·exact .inr (.inl h)
  ·exact .inl h
  ·exact .inr (.inr h)
theorem zn2 {a b c:Conf} (h:zi2 a b < 0) (k:zi2 b c≤0):zi2 a c < 0:=by
 have h1:=ziw _ _ _ (Int.le_of_lt h) k
 rcases Int.lt_or_eq_of_le (show zi2 a c≤0 from h1) with q|q
 ·exact q
 ·have e:=zij a c q
  subst e
  have:=zgb.anti a b
  omega
theorem zvx {out:List Conf} {c:Conf} (hk:∀z∈out,z.k=c.k) (hs:out.Pairwise (LtC zi2)) (hc:c ∉ out):(ygb out c).Pairwise (LtC zi2):=by
 have hd:=(List.takeWhile_append_dropWhile (p:=(zb1 · c)) (l:=out)).symm
 have ha:∀z∈out,zb1 z c=decide (zi2 z c < 0):=fun z hz=>by rw [zb1,zoh (hk z hz)]
 have hs1:=hs
 rw [hd,List.pairwise_append] at hs1
 obtain ⟨p1,p2,p3⟩:=hs1
 have hsub:∀z∈out.dropWhile (zb1 · c),z∈out:=fun z hz=>(List.dropWhile_sublist _).subset hz
 have hD:∀z∈out.dropWhile (zb1 · c),zi2 c z < 0:=fun z hz=>by
  cases hq:out.dropWhile (zb1 · c) with
  |nil=>rw [hq] at hz;cases hz
  |cons a r=>
   have h1:=zp7 hq
   rw [ha a (hsub a (by rw [hq];simp))] at h1
   have h1:=oF h1
   have h2:zi2 c a < 0:=by
    have:=zgb.anti c a
    rcases Int.lt_or_eq_of_le (show zi2 c a≤0 by omega) with q|q
    ·exact q
    ·exact absurd (zij _ _ q) fun e=>hc (by rw [e];exact hsub a (by rw [hq];simp))
   rw [hq] at hz p2
   rcases List.mem_cons.1 hz with rfl|hz
   ·exact h2
   ·exact zn2 h2 (Int.le_of_lt ((List.pairwise_cons.1 p2).1 z hz))
 rw [ygb,List.pairwise_append]
 refine ⟨p1,List.pairwise_cons.2 ⟨hD,p2⟩,fun a h1 b hb=> ?_⟩
 have hac:zi2 a c < 0:=by
  have:=zr8 h1
  rw [ha a ((List.takeWhile_sublist _).subset h1)] at this
  exact oT this
 rcases List.mem_cons.1 hb with rfl|hb
 ·exact hac
 ·exact zn2 hac (Int.le_of_lt (hD b hb))
theorem ydh {l:List Conf} (hk:yav l) {c:Conf} (hc:c∈l):(l.any fun d=>d.f==c.f && (d.t==c.t && zb1 d c))=true ↔ ¬zky l c:=by
 rw [List.any_eq_true]
 constructor
 ·rintro ⟨d,hd,q⟩ hm
  simp only [Bool.and_eq_true,beq_iff_eq] at q
  obtain ⟨q1,q2,q3⟩:=q
  rw [zb1,zoh (hk d hd c hc)] at q3
  have q3:=oT q3
  have:=hm.2 d hd (by rw [zmf,zmf,q1,q2])
  have:=zgb.anti c d
  omega
 ·intro hm
  apply Classical.byContradiction
  intro hn
  refine hm ⟨hc,fun d hd e=> ?_⟩
  have e':d.f=c.f∧d.t=c.t:=by simpa [zmf] using e
  apply Classical.byContradiction
  intro q
  have:=zgb.anti c d
  exact hn ⟨d,hd,by rw [zb1,zoh (hk d hd c hc),e'.1,e'.2];simp;omega⟩
theorem zs9 {l:List Conf} (hk:yav l):∀(r p out:List Conf),p++r=l→out.Pairwise (LtC zi2)→(∀z,z∈out ↔ z∈p∧zky l z)→(r.foldl (zf0 l) out).Pairwise (LtC zi2)∧∀z,z∈r.foldl (zf0 l) out ↔ z∈l∧zky l z
 | [],p,out,e,h1,h2=>by
   rw [List.append_nil] at e;subst e;exact ⟨h1,h2⟩
 |c::r,p,out,e,h1,h2=>by
  have hc:c∈l:=by rw [←e];simp
  rw [List.foldl_cons]
  refine zs9 hk r (p++ [c]) _ (by rw [←e];simp) ?_ ?_
  ·rw [zf0]
   split
   ·exact h1
   ·split
    ·exact h1
    ·rename_i q
     exact zvx (fun z hz=>hk z ((h2 z).1 hz).2.1 c hc) h1 (by simpa using q)
  ·intro z
   rw [List.mem_append,List.mem_singleton]
   by_cases q:(l.any fun d=>d.f==c.f && (d.t==c.t && zb1 d c))=true
   ·rw [zf0,if_pos q,h2]
    have:=(ydh hk hc).1 q
    constructor
    ·rintro ⟨a,b⟩;exact ⟨.inl a,b⟩
    ·rintro ⟨a|a,b⟩
     ·exact ⟨a,b⟩
     ·subst a;exact absurd b this
   ·rw [zf0,if_neg q]
    have hm:zky l c:=Classical.byContradiction fun h=>q ((ydh hk hc).2 h)
    split
    ·rename_i q2
     rw [h2]
     constructor
     ·rintro ⟨a,b⟩;exact ⟨.inl a,b⟩
     ·rintro ⟨a|a,b⟩
      ·exact ⟨a,b⟩
      ·subst a;exact (h2 z).1 (by simpa using q2)
    ·rw [yi1,h2]
     constructor
     ·rintro (a|⟨a,b⟩)
      ·subst a;exact ⟨.inr rfl,hm⟩
      ·exact ⟨.inl a,b⟩
     ·rintro ⟨a|a,b⟩
      ·exact .inr ⟨a,b⟩
      ·exact .inl a
theorem zz8 {l:List Conf} (hk:yav l):(zia l).Pairwise (LtC zi2)∧∀z,z∈zia l ↔ zky l z:=by
 obtain ⟨h1,h2⟩:=zs9 hk l [] [] rfl .nil (fun z=>by simp)
 exact ⟨h1,fun z=>by rw [zia,h2];exact ⟨fun h=>h.2,fun h=>⟨h.1,h⟩⟩⟩
theorem yfh (l:List Conf):((zbi l).map Prod.snd).Pairwise fun a b=>zmf a≠zmf b:=by
 rw [List.pairwise_map]
 have hn:=zju l
 rw [List.Nodup,List.pairwise_map] at hn
 rw [List.pairwise_iff_getElem] at hn ⊢
 intro i j hi hj hij e
 have k1:∀p∈zbi l,zmf p.2=p.1:=fun p hp=>by
  have hg:=(zmy (k:=p.1) (v:=p.2) (zju l)).2 hp
  have:=zyr l p.1
  rw [hg] at this
  exact this.1
 have:=hn i j hi hj hij
 rw [←k1 _ (List.getElem_mem hi),←k1 _ (List.getElem_mem hj)] at this
 exact this e
theorem zqf (l:List Conf):((zbi l).map Prod.snd).Nodup:=(yfh l).imp fun h e=>h (by rw [e])
theorem zna (l:List Conf) (z:Conf):z∈zcz l ↔ zky l z:=by
 rw [zcz,(zk6 zi2 _).mem_iff,zor]
theorem zm9 (l:List Conf):(zcz l).Pairwise (LtC zi2):=zx1 zij (zsd zgb _) ((zk6 _ _).nodup_iff.2 (zqf l))
theorem zx3 {l m:List Conf} (hk:yav m) (h:∀z,z∈l ↔ z∈m):zcz l=zia m:=by
 obtain ⟨h1,h2⟩:=zz8 hk
 refine zvq zgb _ _ (zm9 l) h1 fun z=> ?_
 rw [zna,h2]
 unfold zky
 rw [h]
 exact ⟨fun q=>⟨q.1,fun c hc=>q.2 c ((h c).2 hc)⟩,fun q=>⟨q.1,fun c hc=>q.2 c ((h c).1 hc)⟩⟩
theorem zz7 {l out:List Conf} (hk:yav l) (hp:out.Perm ((zbi l).map Prod.snd)) (hs:out.Pairwise fun a b=>zo8 a b≤0):out=zcz l:=by
 have hm:∀z∈out,z∈l:=fun z hz=>(zor.1 (hp.mem_iff.1 hz)).1
 have hs':out.Pairwise (LeC zi2):=by
  rw [List.pairwise_iff_getElem] at hs ⊢
  intro i j hi hj hij
  have:=hs i j hi hj hij
  rw [zoh (hk _ (hm _ (List.getElem_mem hi)) _ (hm _ (List.getElem_mem hj)))] at this
  exact this
 refine zvq zgb _ _ (zx1 zij hs' (hp.nodup_iff.2 (zqf l))) (zm9 l) fun z=> ?_
 rw [hp.mem_iff,zna,zor]
theorem zj0 {h:Hist} {z:Conf} (hz:z∈ze0 h):z.k=1:=by
 rw [ze0,List.mem_flatMap] at hz
 obtain ⟨x,_,hz⟩:=hz
 rw [List.mem_flatMap] at hz
 obtain ⟨f,_,hz⟩:=hz
 rw [zmz (Nat.le_refl _)] at hz
 obtain ⟨j,hj,_,hz⟩:=hz
 unfold zfg at hz
 split at hz
 ·injection hz with hz;rw [←hz];rfl
 ·cases hz
theorem yl5 {h:Hist} {e:Ev} {a:Nat} {z:Conf} (hz:z∈zeu h e a):z.k=2:=by
 rw [zeu] at hz
 split at hz
 ·rw [List.mem_flatMap] at hz
  obtain ⟨s,_,hz⟩:=hz
  rw [List.mem_filterMap] at hz
  obtain ⟨k,_,hz⟩:=hz
  unfold zev at hz
  split at hz
  ·cases hz
  ·split at hz
   ·split at hz
    ·cases hz
    ·injection hz with hz;rw [←hz];rfl
   ·cases hz
 ·cases hz
theorem zjz {h:Hist} {z:Conf} (hz:z∈zfe h):z.k=2:=by
 rw [zfe,znc (Nat.le_refl _)] at hz
 obtain ⟨j,hj,_,_,hz⟩:=hz
 exact yl5 hz
theorem zpb {h:Hist} (hs:zar h=true):zcz (zff h)=zia (ze0 h):=zx3 (fun a ha b hb=>by rw [zj0 ha,zj0 hb]) (zmk hs)
theorem zpa {h:Hist} (hs:zar h=true):zcz (zfd h)=zia (zfe h):=zx3 (fun a ha b hb=>by rw [zjz ha,zjz hb]) (fun z=>by rw [zmj hs])
theorem yd6 {h:Hist} (hs:zar h=true):yav (zff h):=fun a ha b hb=>by rw [zj0 ((zmk hs a).1 ha),zj0 ((zmk hs b).1 hb)]
theorem yb2 {h:Hist} (hs:zar h=true):yav (zfd h):=fun a ha b hb=>by rw [zmj hs] at ha hb;rw [zjz ha,zjz hb]
theorem yi0 {h:Hist} (hs:zar h=true) {x:Int} (h0:0≤x) (h1:x < h.os.length) {k:Nat} (hk:k < (zax h x).length):∃i,∃hi:i < h.evs.length,zjc h.evs (zax h x)[k] x=some (h.evs[i].v,i)∧zc5 h (zax h x)[k] x=(i:Int)∧h.evs[i].kind=2∧h.evs[i].t=(zax h x)[k]∧h.evs[i].o=x∧0 < h.evs[i].v.k∧h.evs[i].v.t=(zax h x)[k]:=by
 obtain ⟨v,i,hf,_,hv,_⟩:=zw2 hs h0 h1 hk
 obtain ⟨hi,e1,e2,e3,_⟩:=zko hs hf
 obtain ⟨w1,w2,w3⟩:=zim.1 e2
 exact ⟨i,hi,by rw [hf,e1],by rw [zc5,hf];rfl,w1,w2,w3,by rw [e1];exact hv,by rw [e1];exact e3⟩
theorem zqy {h:Hist} {e:Ev} {n:Nat} {s:Seen} (hs:s∈j9 h e n):(0≤s.o∧s.o < h.os.length)∧∃hk:s.o.toNat < (j9 h e n).length,(j9 h e n)[s.o.toNat]=s:=by
 obtain ⟨k,hk,rfl⟩:=List.mem_iff_getElem.1 hs
 have e1:=yus hk
 have e2:=zjk h e n
 refine ⟨by omega,by omega,?_⟩
 congr 1
 omega
def yrm (h:Hist) (e:Ev) (a:Nat):List Int:=zb7 (srt ((zid h e a).map Conf.t))
def we5:Ev:=⟨4,1,0,0,0,⟨0,0⟩,0,[⟨0,⟨0,1⟩⟩]⟩
def weE:List Ev:= [⟨1,0,0,4,0,⟨0,0⟩,0,[]⟩,⟨2,0,0,0,0,⟨0,1⟩,0,[]⟩,⟨5,0,0,0,0,⟨0,0⟩,0,[]⟩,⟨1,1,0,4,0,⟨0,0⟩,0,[]⟩,⟨3,1,0,0,0,⟨0,1⟩,0,[]⟩,we5,⟨5,1,0,0,0,⟨0,0⟩,0,[]⟩]
def weH:Hist:=⟨[bt1,bt2],[bS],[bX],[bP],weE,[],[⟨0,0,false,[0]⟩],[]⟩
theorem yke:zfz weH=true:=by decide+kernel
theorem zio:zar weH=true:=by
 have:zkn weH=none:=(zyd yke).trans (by decide+kernel)
 rw [zar,yke,this];rfl
theorem zj3:v7 weH=0:=za4.2 zio
theorem zw3:ze0 weH= [⟨0,1,1,1,4,0,0⟩]:=by decide+kernel
theorem zqr:zfe weH= [⟨0,1,2,1,5,0,0⟩]:=by decide+kernel
theorem ygs:zcz (zff weH)= [⟨0,1,1,1,4,0,0⟩]:=(zpb zio).trans (by rw [zw3];decide+kernel)
theorem ygr:zcz (zfd weH)= [⟨0,1,2,1,5,0,0⟩]:=(zpa zio).trans (by rw [zqr];decide+kernel)
theorem yui:(⟨0,1,2,1,5,0,0⟩:Conf)∈zfd weH:=by rw [zmj zio,zqr];simp
theorem ykd:¬(⟨0,1,1,1,6,0,0⟩:Conf)∈zff weH∧¬(⟨0,1,1,1,6,0,0⟩:Conf)∈zfd weH:=by
 rw [zmk zio,zmj zio,zw3,zqr]
 constructor <;> decide
end Go.H
