/- The abstract logic, part 28: slices.Sort and slices.Compact at []int, as contracts over a row of one's own (the kit's shelf has walked them). .. -/
import Derived.Test.YtfmcbdjnmlcacaaGreatDoorRScE
import Derived.Shelf.Sort.Plain
import Derived.Shelf.Slices.In.SortNone
import Derived.Shelf.Slices.CompactI
set_option linter.unusedSectionVars false
set_option linter.unusedSimpArgs false
set_option linter.unusedVariables false
namespace Go.Ab
open Go Go.Shelf Go.Sort Go.Proofs
def numR (n:Int):List AV:= [.v (.int .i64 n)]
theorem zth {X:Nat→Prop} {w:World} {a:Addr} {cap:Nat} {T:TypeId} {xs ys zs:List Int} (hh:HRel X w [.row (.slice (some a) xs.length cap) 1 T (xs.map numR)]) (hl:ys.length=xs.length) (hz:zs=ys.take zs.length) (n:Nat) (os:Array Obj):
 HRel X (grow (putRow (Value.int .i64) (Sort.ahead w n) a.block a.off ys.toArray) os) [.row (.slice (some a) zs.length cap) 1 T (zs.map numR)]∧
 Keep [a.block] w [a.block] (grow (putRow (Value.int .i64) (Sort.ahead w n) a.block a.off ys.toArray) os):=by
 obtain ⟨h1,h2,h3,h4,c,h5,h6,h7⟩:=hh.holds _ (List.mem_singleton.2 rfl)
 have hb:a.block < w.heap.size:=(hh.lt a.block (by simp [u9,Res.own])).1
 have hX:¬X a.block:=(hh.lt a.block (by simp [u9,Res.own])).2
 obtain ⟨w',hw'⟩:∃w',w'=grow (putRow (Value.int .i64) (Sort.ahead w n) a.block a.off ys.toArray) os:=⟨_,rfl⟩
 rw [←hw']
 have hheap:w'.heap=(w.heap.modify a.block (onCells (putCells (Value.int .i64) a.off ys.toArray)))++os:=by rw [hw'];rfl
 have hos:zhc w w':=by rw [hw'];exact ⟨⟨rfl,rfl⟩,rfl,Nat.le_add_right _ _⟩
 have hsize:w.heap.size≤w'.heap.size:=by rw [hheap];simp
 have hold:∀b,b < w.heap.size→b≠a.block→w'.heap[b]? =w.heap[b]? :=fun b hb hne=>by
  rw [hheap,Array.getElem?_append_left (by simpa using hb),Array.getElem?_modify,if_neg (Ne.symm hne)]
 have hnew:w'.heap[a.block]? =some (.cells (putCells (Value.int .i64) a.off ys.toArray c) T (0,0)):=by
  rw [hheap,Array.getElem?_append_left (by simpa using hb),Array.getElem?_modify,if_pos rfl,h5];rfl
 have hlen:zs.length≤ys.length:=by
  have:=congrArg List.length hz
  rw [List.length_take] at this;omega
 refine ⟨⟨by simp [u9,Res.own],fun b hb2=> ?_,fun b hb2=>Nat.lt_of_lt_of_le (hh.xlt b hb2) hsize,fun r hr=> ?_⟩,⟨hsize,fun b hb2 hne=> ?_,hos⟩⟩
 ·have:b=a.block:=by simpa [u9,Res.own] using hb2
  subst this;exact ⟨Nat.lt_of_lt_of_le hb hsize,hX⟩
 ·rw [List.mem_singleton] at hr
  subst hr
  refine ⟨h1,by simp,by simp at h2 h3;omega,fun i hi=>by simp [numR],_,hnew,by simpa [putCells] using h6,fun i hi j hj=> ?_⟩
  have hi2:i < zs.length:=by simpa using hi
  have hj0:j=0:=by simp [numR] at hj;omega
  subst hj0
  have hc:a.off+i < c.size:=by simp at h2 h3;omega
  refine ⟨.int .i64 (zs[i]),?_,?_⟩
  ·have hz2:zs[i]=ys[i]'(by omega):=by
    have:zs[i]? =(ys.take zs.length)[i]? :=by rw [←hz]
    rw [List.getElem?_take_of_lt hi2,List.getElem?_eq_getElem hi2,List.getElem?_eq_getElem (by omega)] at this
    exact Option.some.inj this
   have e:a.off+i * 1+0=a.off+i:=by omega
   rw [e]
   simp only [putCells,Array.getElem?_mapIdx]
   rw [Array.getElem?_eq_getElem hc]
   simp only [Option.map_some]
   rw [if_pos ⟨by omega,by simp;omega⟩,hz2]
   have e2:a.off+i - a.off=i:=by omega
   rw [e2]
   congr 2
   exact getElem!_pos _ _ (by simp;omega)
  ·simp only [List.getElem_map,numR]
   exact .v _
 ·have hne2:b≠a.block:=by simpa using hne
  exact ⟨hold b hb2 hne2,hne⟩
theorem zti {X:Nat→Prop} {w:World} {a:Addr} {cap:Nat} {T:TypeId} {xs:List Int} (hh:HRel X w [.row (.slice (some a) xs.length cap) 1 T (xs.map numR)]):Holds (Value.int .i64) w a.block a.off xs.toArray∧a.block < w.heap.size∧xs.length≤cap∧a.spot=none:=by
 obtain ⟨h1,h2,h3,h4,c,h5,h6,h7⟩:=hh.holds _ (List.mem_singleton.2 rfl)
 refine ⟨fun j hj=> ?_,(hh.lt a.block (by simp [u9,Res.own])).1,h3,h1⟩
 have hj2:j < xs.length:=by simpa using hj
 obtain ⟨v,e,r⟩:=h7 j (by simpa using hj2) 0 (by simp [numR])
 simp only [List.getElem_map,numR] at r
 have hv:v= .int .i64 xs[j]:=r.v_eq
 subst hv
 have e0:a.off+j * 1+0=a.off+j:=by omega
 rw [e0] at e
 refine ⟨?_,?_⟩
 ·have e2:w.cell? ⟨a.block,a.off+j,none⟩=some (.int .i64 xs[j]):=by simp [World.cell?,h5,e]
  have e3:xs.toArray[j]! =xs[j]:=getElem!_pos xs.toArray j hj
  rw [e2,e3]
 ·simp [World.frozen?,h5]
theorem zxf {X:Nat→Prop} {w:World} {n cap:Nat} {T:TypeId} {xs:List Int} (hh:HRel X w [.row (.slice none n cap) 1 T (xs.map numR)]):xs= []∧n=0∧cap=0:=by
 obtain ⟨h1,h2,h3⟩:=hh.holds _ (List.mem_singleton.2 rfl)
 exact ⟨by simpa using h1,h2,h3⟩
section
variable {P:Program} {ρ:Ren}
theorem zv9 (Ly:Lays.n189 P ρ) (s:SV) (T:TypeId) (xs:List Int) (hs:xs.length < 4611686018427387904):
 y8 P (ρ.f 189) [.v s.v] [.row s.v 1 T (xs.map numR)] (fun r h'=>h'= [.row s.v 1 T ((xs.mergeSort fun x y=>decide (x≤y)).map numR)]∧r= .v (.tuple #[])):=by
 intro X w vs hh ha
 match vs,ha with
 | [v],⟨hv,_⟩=>
   obtain rfl:=hv.v_eq
   obtain ⟨a,n,cap⟩:=s
   cases a with
   |none=>
    obtain ⟨rfl,rfl,rfl⟩:=zxf hh
    refine callsIn_wide.2 ((Any.slices_Sort_int_none Ly none 0 w).mono ?_)
    rintro e w' ⟨rfl,rfl⟩
    exact ⟨_,_,_,rfl,⟨rfl,rfl⟩,.v _,by simpa using hh,.refl _ _⟩
   |some a=>
    have hn:n=xs.length:=by
     have:=(hh.holds _ (List.mem_singleton.2 rfl)).2.1
     simpa using this
    subst hn
    obtain ⟨g1,g2,g3,g4⟩:=zti hh
    obtain ⟨b,off,sp⟩:=a
    simp only at g1 g2 g4
    subst g4
    refine callsIn_wide.2 ((Any.slices_Sort_int Ly b off cap xs w g1 g2 hs).mono ?_)
    rintro e w' ⟨rfl,n,os,rfl⟩
    have hlen:(xs.mergeSort fun x y=>decide (x≤y)).length=xs.length:=List.length_mergeSort _
    obtain ⟨k1,k2⟩:=zth (zs:=xs.mergeSort fun x y=>decide (x≤y)) hh hlen (List.take_length).symm n os
    rw [hlen] at k1
    exact ⟨_,_,_,rfl,⟨rfl,rfl⟩,.v _,k1,k2⟩
theorem zot (Ly:Lays2.n20 P ρ) (s:SV) (T:TypeId) (xs:List Int) (hs:xs.length≤4611686018427387904):
 y8 P (ρ.f 20) [.v s.v] [.row s.v 1 T (xs.map numR)] (fun r h'=>∃s':SV,h'= [.row s'.v 1 T ((Lib.compact xs).map numR)]∧r= .v s'.v):=by
 intro X w vs hh ha
 match vs,ha with
 | [v],⟨hv,_⟩=>
   obtain rfl:=hv.v_eq
   obtain ⟨a,n,cap⟩:=s
   cases a with
   |none=>
    obtain ⟨rfl,rfl,rfl⟩:=zxf hh
    refine callsIn_wide.2 ((Any.slices_Compact_int_empty Ly none 0 w).mono ?_)
    rintro e w' ⟨rfl,rfl⟩
    exact ⟨_,_,_,rfl,⟨⟨none,0,0⟩,rfl,rfl⟩,.v _,hh,.refl _ _⟩
   |some a=>
    have hn:n=xs.length:=by
     have:=(hh.holds _ (List.mem_singleton.2 rfl)).2.1
     simpa using this
    subst hn
    obtain ⟨g1,g2,g3,g4⟩:=zti hh
    obtain ⟨b,off,sp⟩:=a
    simp only at g1 g2 g4
    subst g4
    refine callsIn_wide.2 ((Any.slices_Compact_int Ly b off cap xs w g1 (by omega) g3).mono ?_)
    rintro e w' ⟨rfl,q,rfl⟩
    have hle:(Lib.compact xs).length≤xs.length:=by
     unfold Lib.compact Lib.compactUpTo
     rw [oM]
     exact Nat.le_trans (List.length_filter_le _ _) (by simp)
    obtain ⟨k1,k2⟩:=zth (ys:=Lib.compact xs++List.replicate (xs.length - (Lib.compact xs).length) 0) (zs:=Lib.compact xs) hh (by simp;omega) (by rw [List.take_left'];rfl) q #[]
    rw [grow_empty] at k1 k2
    exact ⟨_,_,_,rfl,⟨⟨some ⟨b,off,none⟩,(Lib.compact xs).length,cap⟩,rfl,rfl⟩,.v _,k1,k2⟩
end
end Go.Ab
namespace Go.H
open Go Go.Ab
theorem zng (y:Int):∀l:List Int,zbm (l++ [y])=zbm l++(if l.getLast? =some y then [] else [y])
 | []=>by simp [zbm]
 | [x]=>by
   by_cases h:x=y
   ·subst h;simp [zbm]
   ·simp [zbm,h]
 |x::z::r=>by
  have ih:=zng y (z::r)
  simp only [List.cons_append] at ih ⊢
  have hl:(x::z::r).getLast? =(z::r).getLast? :=by simp [List.getLast?_cons]
  rw [hl,zbm,zbm]
  by_cases h:x=z
  ·rw [if_pos h,if_pos h];exact ih
  ·rw [if_neg h,if_neg h,ih];rfl
theorem zvx (xs:List Int):Lib.compact xs=zbm xs:=by
 have key:∀m,m≤xs.length→Lib.compactUpTo xs.toArray m=zbm (xs.take m):=by
  intro m
  induction m with
  |zero=>intro _;rfl
  |succ m ih=>
   intro hm
   have hlt:m < xs.length:=hm
   rw [Lib.compactUpTo_succ,ih (by omega),List.take_succ_eq_append_getElem hlt,zng]
   congr 1
   have e1:xs.toArray[m]! =xs[m]:=by simp [hlt]
   by_cases h0:m=0
   ·subst h0
    simp [Lib.keeps,hlt]
   ·have hlt':m - 1 < xs.length:=by omega
    have e2:xs.toArray[m - 1]! =xs[m - 1]:=by simp [hlt']
    have e3:(xs.take m).getLast? =some xs[m - 1]:=by
     rw [List.getLast?_eq_getElem?,List.length_take,Nat.min_eq_left (by omega),List.getElem?_take_of_lt (by omega)]
     simp [hlt']
    rw [e3]
    unfold Lib.keeps
    rw [e1,e2]
    by_cases he:xs[m]=xs[m - 1]
    ·rw [if_neg (by simp [h0,he]),if_pos (by rw [he])]
    ·rw [if_pos (by simp [he]),if_neg (fun q=>he (Option.some.inj q).symm)]
 have:=key xs.length (Nat.le_refl _)
 rw [List.take_length] at this
 exact this
def yex (l:List Ev):List (Int×Bool):=l.foldl (fun m e=>zdp e.t ((za8 e.t m).getD false||e.kind==5) m) []
theorem zzi (t:Int):∀(l:List Ev) (m:List (Int×Bool)),(za8 t (l.foldl (fun m e=>zdp e.t ((za8 e.t m).getD false||e.kind==5) m) m)).getD false=((za8 t m).getD false||l.any fun y=>y.t==t && y.kind==5)
 | [],m=>by simp
 |e::l,m=>by
  rw [List.foldl_cons,zzi t l,List.any_cons,zce]
  by_cases h:e.t=t
  ·subst h;simp [Bool.or_assoc]
  ·have:(e.t==t)=false:=by simpa using h
   rw [if_neg h,this,Bool.false_and,Bool.false_or]
theorem zkh (l:List Ev) (t:Int):(za8 t (yex l)).getD false=l.any fun y=>y.t==t && y.kind==5:=by
 rw [yex,zzi];simp [za8]
theorem zh9 {l:List Ev} {k:Nat} (hk:k < l.length):yex (l.take (k+1))=zdp l[k].t ((za8 l[k].t (yex (l.take k))).getD false||l[k].kind==5) (yex (l.take k)):=by
 rw [List.take_succ_eq_append_getElem hk,yex,List.foldl_append];rfl
section
variable {α:Type} {l:List α} {k:Nat} {p:α→Bool}
theorem yoc (hk:k < l.length) (h:p l[k]=true):(l.take (k+1)).filter p=(l.take k).filter p++ [l[k]]:=by
 rw [List.take_succ_eq_append_getElem hk,List.filter_append];simp [h]
theorem yh6 (hk:k < l.length) (h:p l[k]=false):(l.take (k+1)).filter p=(l.take k).filter p:=by
 rw [List.take_succ_eq_append_getElem hk,List.filter_append];simp [h]
theorem zy3:((l.take k).filter p).length≤l.length:=Nat.le_trans (List.length_filter_le _ _) (by simp;omega)
end
def wrB (l:List Ev) (x:Int) (e:Ev):Bool:=e.kind==2 && e.o==x && l.any fun y=>y.t==e.t && y.kind==5
theorem zq7 (l:List Ev) (x:Int):zam l x=zbm (srt ((l.filter (wrB l x)).map Ev.t)):=rfl
theorem zqk (l:List Int) (n:Int):(l.any fun a=>a==n)=l.contains n:=by
 rw [Bool.eq_iff_iff];simp
theorem zik (l:List Ev) (x:Int):(zam l x).length≤l.length:=by
 rw [zq7]
 refine Nat.le_trans (zls _) ?_
 rw [(zch _).length_eq,oM]
 exact List.length_filter_le _ _
theorem ziy (a b:Nat):((a:Int) !=(b:Int))= !decide (a=b):=by
 rw [Bool.eq_iff_iff];simp;omega
theorem z8.new {P:Program} {fv:AV} {args:List AV} {h:List Res} {R:AV→List Res→Prop} (hc:z8 P fv args [] R):z8 P fv args h (fun r h'=>∃h1,R r h1∧h'=h1++h):=
 (hc.frame h).mono fun _ _ ⟨h1,e,q⟩=>⟨h1,q,e⟩
def zex (h:Hist) (n many:Int):Int:=if u3 h=0 then (if 0≤n∧n < many then 0 else 2) else u3 h
def onE (e:Int) (l:List Int):List Int:=if e=0 then l else []
theorem zv7 {h:Hist} {n many:Int} (he:zex h n many=0):zap h=true∧0≤n∧n < many:=by
 unfold zex at he
 split at he
 ·rename_i hc
  split at he
  ·rename_i hn;exact ⟨zaz.1 hc,hn⟩
  ·cases he
 ·rename_i hc;exact absurd he hc
theorem ask_c {h:Hist} {n many:Int} (hc:u3 h≠0):zex h n many=u3 h:=by rw [zex,if_neg hc]
theorem zv6 {h:Hist} {n many:Int} (hc:u3 h=0) (hn:¬(0≤n∧n < many)):zex h n many=2:=by rw [zex,if_pos hc,if_neg hn]
theorem zqz {h:Hist} {n many:Int} (hc:u3 h=0) (hn:0≤n∧n < many):zex h n many=0:=by rw [zex,if_pos hc,if_pos hn]
theorem ye3 (h:Hist):zex h 0 1=u3 h:=by
 unfold zex;split
 ·rename_i h0;rw [h0];rfl
 ·rfl
def znc (l:List Ev):List (Int×Bool):=zpa (fun e:Ev=>e.kind==5) Ev.t [] l
theorem ydj (l:List Ev) (t:Int):(za8 t (znc l)).getD false=zhq l t 5:=by
 rw [znc,zfb,zfl]
 have:(l.any fun e=>e.kind==5 && decide (e.t=t))=l.any fun y=>y.t==t && y.kind==5:=by
  congr 1;funext e;rw [Bool.and_comm];rfl
 rw [this]
 cases l.any fun y=>y.t==t && y.kind==5 <;> rfl
theorem yl8 {l:List Ev} {k:Nat} (hk:k < l.length) (h5:(l[k].kind==5)=true):znc (l.take (k+1))=zdp l[k].t true (znc (l.take k)):=by
 rw [List.take_succ_eq_append_getElem hk,znc,zpa,List.foldl_append,List.foldl_cons,List.foldl_nil,if_pos h5];rfl
theorem yl9 {l:List Ev} {k:Nat} (hk:k < l.length) (h5:(l[k].kind==5)=false):znc (l.take (k+1))=znc (l.take k):=by
 rw [List.take_succ_eq_append_getElem hk,znc,zpa,List.foldl_append,List.foldl_cons,List.foldl_nil,if_neg (by rw [h5];decide)];rfl
section
variable {α:Type} (cmp:α→α→Int)
def mrg:List α→List α→List α
 | [],b=>b
 |x::a,[]=>x::a
 |x::a,y::b=>if cmp y x < 0 then y::mrg (x::a) b else x::mrg a (y::b)
termination_by a b=>a.length+b.length
theorem yg9 (a:List α):mrg cmp a []=a:=by cases a <;> simp [mrg]
theorem zh5:∀(a b:List α),(mrg cmp a b).Perm (a++b)
 | [],b=>by simp [mrg]
 |x::a,[]=>by simp [mrg]
 |x::a,y::b=>by
  rw [mrg]
  split
  ·exact ((zh5 (x::a) b).cons y).trans (List.perm_middle (l₁:=x::a)).symm
  ·exact (zh5 a (y::b)).cons x
termination_by a b=>a.length+b.length
def LeC (a b:α):Prop:=cmp a b≤0
structure CmpOk:Prop where
 trans:∀a b c,cmp a b≤0→cmp b c≤0→cmp a c≤0
 anti:∀a b,cmp b a= - cmp a b
variable {cmp}
theorem ziw (ok:CmpOk cmp):∀(a b:List α),a.Pairwise (LeC cmp)→b.Pairwise (LeC cmp)→(mrg cmp a b).Pairwise (LeC cmp)
 | [],b,_,hb=>by simpa [mrg] using hb
 |x::a,[],ha,_=>by simpa [mrg] using ha
 |x::a,y::b,ha,hb=>by
  rw [mrg]
  have ha':=List.pairwise_cons.1 ha
  have hb':=List.pairwise_cons.1 hb
  split
  ·rename_i h
   refine List.pairwise_cons.2 ⟨fun z hz=> ?_,ziw ok (x::a) b ha hb'.2⟩
   have hz':=(zh5 cmp (x::a) b).mem_iff.1 hz
   rcases List.mem_append.1 hz' with hz'|hz'
   ·have hyx:LeC cmp y x:=Int.le_of_lt h
    rcases List.mem_cons.1 hz' with rfl|hz'
    ·exact hyx
    ·exact ok.trans _ _ _ hyx (ha'.1 z hz')
   ·exact hb'.1 z hz'
  ·rename_i h
   have hxy:LeC cmp x y:=by have:=ok.anti x y;show cmp x y≤0;omega
   refine List.pairwise_cons.2 ⟨fun z hz=> ?_,ziw ok a (y::b) ha'.2 hb⟩
   have hz':=(zh5 cmp a (y::b)).mem_iff.1 hz
   rcases List.mem_append.1 hz' with hz'|hz'
   ·exact ha'.1 z hz'
   ·rcases List.mem_cons.1 hz' with rfl|hz'
    ·exact hxy
    ·exact ok.trans _ _ _ hxy (hb'.1 z hz')
termination_by a b=>a.length+b.length
variable (cmp)
def zbc:List (List α)→List (List α)
 |a::b::r=>mrg cmp a b::zbc r
 |l=>l
theorem zca:∀l:List (List α),(zbc cmp l).length=(l.length+1) / 2
 | []=>by simp [zbc]
 | [a]=>by simp [zbc]
 |a::b::r=>by rw [zbc,List.length_cons,zca r,List.length_cons,List.length_cons];omega
theorem zhi:∀l:List (List α),(zbc cmp l).flatten.Perm l.flatten
 | []=> .refl _
 | [a]=> .refl _
 |a::b::r=>by
  rw [zbc,List.flatten_cons,List.flatten_cons,List.flatten_cons,←List.append_assoc]
  exact (zh5 cmp a b).append (zhi r)
def zoq (l:List (List α)) (k:Nat):List α:=if k+1=l.length then (l[k]?).getD [] else mrg cmp ((l[k]?).getD []) ((l[k+1]?).getD [])
theorem zm4:∀(l:List (List α)) (i:Nat),i < (zbc cmp l).length→(zbc cmp l)[i]? =some (zoq cmp l (2 * i))
 | [],i,h=>by simp [zbc] at h
 | [a],i,h=>by
   have:i=0:=by simpa [zbc] using h
   subst this;rfl
 |a::b::r,0,h=>by
  rw [zbc,zoq,if_neg (by simp)];rfl
 |a::b::r,i+1,h=>by
  have h':i < (zbc cmp r).length:=by simpa [zbc] using h
  rw [zbc,List.getElem?_cons_succ,zm4 r i h',zoq,zoq,show 2 * (i+1)=2 * i+1+1 by omega]
  simp only [List.length_cons,List.getElem?_cons_succ]
  by_cases e:2 * i+1=r.length
  ·rw [if_pos e,if_pos (by omega)]
  ·rw [if_neg e,if_neg (by omega)]
def zo5 (l:List (List α)):List (List α):=if h:1 < l.length then zo5 (zbc cmp l) else l
termination_by l.length
decreasing_by rw [zca];omega
theorem zns {l:List (List α)} (h:1 < l.length):zo5 cmp l=zo5 cmp (zbc cmp l):=by rw [zo5,dif_pos h]
theorem zgm {l:List (List α)} (h:¬1 < l.length):zo5 cmp l=l:=by rw [zo5,dif_neg h]
theorem zo4 (l:List (List α)):(zo5 cmp l).flatten.Perm l.flatten:=by
 by_cases h:1 < l.length
 ·rw [zns cmp h]
  have:(zbc cmp l).length < l.length:=by rw [zca];omega
  exact (zo4 (zbc cmp l)).trans (zhi cmp l)
 ·rw [zgm cmp h]
termination_by l.length
theorem znr (l:List (List α)):(zo5 cmp l).length≤1:=by
 by_cases h:1 < l.length
 ·rw [zns cmp h]
  have:(zbc cmp l).length < l.length:=by rw [zca];omega
  exact znr (zbc cmp l)
 ·rw [zgm cmp h];omega
termination_by l.length
def zhe (l:List α):List α:=((zo5 cmp (l.map fun x=> [x]))[0]?).getD []
theorem zvr (l:List (List α)) (h:l.length≤1):(l[0]?).getD []=l.flatten:=by
 match l,h with
 | [],_=>rfl
 | [a],_=>simp
theorem zy4 (l:List α):(l.map fun x=> [x]).flatten=l:=by
 induction l with
 |nil=>rfl
 |cons a r ih=>rw [List.map_cons,List.flatten_cons,ih];rfl
theorem zd9 (l:List α):(zhe cmp l).Perm l:=by
 rw [zhe,zvr _ (znr cmp _)]
 have:=zo4 cmp (l.map fun x=> [x])
 rwa [zy4] at this
variable {cmp}
theorem zh1 (ok:CmpOk cmp):∀l:List (List α),(∀r∈l,r.Pairwise (LeC cmp))→∀r∈zbc cmp l,r.Pairwise (LeC cmp)
 | [],_,r,h=>by cases h
 | [a],hl,r,h=>hl r h
 |a::b::q,hl,r,h=>by
  rw [zbc] at h
  rcases List.mem_cons.1 h with rfl|h
  ·exact ziw ok a b (hl a (by simp)) (hl b (by simp))
  ·exact zh1 ok q (fun r hr=>hl r (by simp [hr])) r h
theorem zkt (ok:CmpOk cmp) (l:List (List α)) (hl:∀r∈l,r.Pairwise (LeC cmp)):∀r∈zo5 cmp l,r.Pairwise (LeC cmp):=by
 by_cases h:1 < l.length
 ·rw [zns cmp h]
  have:(zbc cmp l).length < l.length:=by rw [zca];omega
  exact zkt ok (zbc cmp l) (zh1 ok l hl)
 ·rw [zgm cmp h];exact hl
termination_by l.length
theorem zjb (ok:CmpOk cmp) (l:List α):(zhe cmp l).Pairwise (LeC cmp):=by
 have h:=zkt ok (l.map fun x=> [x]) (fun r hr=>by obtain ⟨x,_,rfl⟩:=List.mem_map.1 hr;exact List.pairwise_singleton _ _)
 have hl:=znr cmp (l.map fun x=> [x])
 rw [zhe]
 match hs:zo5 cmp (l.map fun x=> [x]),hl with
 | [],_=>exact .nil
 | [a],_=>exact h a (by rw [hs];simp)
def LtC (cmp:α→α→Int) (a b:α):Prop:=cmp a b < 0
theorem ztv (hz:∀a b,cmp a b=0→a=b):∀{l:List α},l.Pairwise (LeC cmp)→l.Nodup→l.Pairwise (LtC cmp):=by
 intro l h hn
 induction l with
 |nil=>exact .nil
 |cons a r ih=>
  rw [List.nodup_cons] at hn
  rw [List.pairwise_cons] at h ⊢
  refine ⟨fun b hb=> ?_,ih h.2 hn.2⟩
  have h1:=h.1 b hb
  have h2:cmp a b≠0:=fun e=>hn.1 (by rw [hz a b e];exact hb)
  show cmp a b < 0
  have:cmp a b≤0:=h1
  omega
theorem zyf (ok:CmpOk cmp):∀(l m:List α),l.Pairwise (LtC cmp)→m.Pairwise (LtC cmp)→(∀z,z∈l ↔ z∈m)→l=m
 | [],[],_,_,_=>rfl
 | [],b::m,_,_,h=>by have:=(h b).2 (by simp);cases this
 |a::l,[],_,_,h=>by have:=(h a).1 (by simp);cases this
 |a::l,b::m,hl,hm,h=>by
  have hl':=List.pairwise_cons.1 hl
  have hm':=List.pairwise_cons.1 hm
  have irr:∀z,¬LtC cmp z z:=fun z hz=>by have:=ok.anti z z;have:cmp z z < 0:=hz;omega
  have e:a=b:=by
   rcases List.mem_cons.1 ((h a).1 (by simp)) with e|h1
   ·exact e
   ·rcases List.mem_cons.1 ((h b).2 (by simp)) with e|h2
    ·exact e.symm
    ·have h3:cmp b a < 0:=hm'.1 a h1
     have h4:cmp a b < 0:=hl'.1 b h2
     have:=ok.anti a b;omega
  subst e
  congr 1
  refine zyf ok l m hl'.2 hm'.2 fun z=> ?_
  have hz:=h z
  simp only [List.mem_cons] at hz
  constructor
  ·intro q
   rcases hz.1 (.inr q) with rfl|q'
   ·exact absurd (hl'.1 _ q) (irr _)
   ·exact q'
  ·intro q
   rcases hz.2 (.inr q) with rfl|q'
   ·exact absurd (hm'.1 _ q) (irr _)
   ·exact q'
end
section
variable {α:Type} [DecidableEq α] (cmp:α→α→Int)
def yb4:List α→α→List α
 | [],c=> [c]
 |x::r,c=>if cmp x c < 0 then x::yb4 r c else if x=c then x::r else c::x::r
variable {cmp}
theorem zn0 {c z:α}:∀{l:List α},z∈yb4 cmp l c ↔ z=c∨z∈l
 | []=>by simp [yb4]
 |x::r=>by
  rw [yb4]
  split
  ·rw [List.mem_cons,zn0,List.mem_cons];constructor <;> (rintro (h|h|h) <;> simp [h])
  ·split
   ·rename_i e;subst e;simp
   ·simp
theorem zk7 (ok:CmpOk cmp) (hz:∀a b,cmp a b=0→a=b) {c:α}:∀{l:List α},l.Pairwise (LtC cmp)→(yb4 cmp l c).Pairwise (LtC cmp)
 | [],_=>List.pairwise_singleton _ _
 |x::r,h=>by
  have h':=List.pairwise_cons.1 h
  rw [yb4]
  split
  ·rename_i hx
   refine List.pairwise_cons.2 ⟨fun z q=> ?_,zk7 ok hz h'.2⟩
   rcases zn0.1 q with rfl|q
   ·exact hx
   ·exact h'.1 z q
  ·split
   ·exact h
   ·rename_i hx he
    have hne:cmp x c≠0:=fun e=>he (hz x c e)
    have hcx:cmp c x < 0:=by have:=ok.anti x c;omega
    refine List.pairwise_cons.2 ⟨fun z q=> ?_,h⟩
    rcases List.mem_cons.1 q with rfl|q
    ·exact hcx
    ·have h1:cmp x z < 0:=h'.1 z q
     show cmp c z < 0
     have h2:cmp c z≤0:=ok.trans _ _ _ (Int.le_of_lt hcx) (Int.le_of_lt h1)
     by_cases e:cmp c z=0
     ·have:=hz _ _ e;subst this
      have:=ok.anti x c;omega
     ·omega
end
section
variable {α:Type}
def zi6 (q:α→α→Bool):α→List α→List α
 |_,[]=> []
 |p,y::r=>if q y p=true then zi6 q y r else y::zi6 q y r
def zi7 (q:α→α→Bool):List α→List α
 | []=> []
 |x::r=>x::zi6 q x r
def zn7 (q:α→α→Bool):α→List α→List α
 |_,[]=> []
 |k,y::r=>if q y k=true then zn7 q k r else y::zn7 q y r
def zyo (q:α→α→Bool):List α→List α
 | []=> []
 |x::r=>x::zn7 q x r
theorem zlo {κ:Type} [DecidableEq κ] {key:α→κ} {q:α→α→Bool} (hq:∀a b,q a b=decide (key a=key b)):∀(l:List α) (p k:α),key p=key k→zi6 q p l=zn7 q k l
 | [],_,_,_=>rfl
 |y::r,p,k,h=>by
  rw [zi6,zn7,hq,hq,h]
  by_cases e:key y=key k
  ·rw [if_pos (by simpa using e),if_pos (by simpa using e)];exact zlo hq r y k e
  ·rw [if_neg (by simpa using e),if_neg (by simpa using e),zlo hq r y y rfl]
theorem zsr {κ:Type} [DecidableEq κ] {key:α→κ} {q:α→α→Bool} (hq:∀a b,q a b=decide (key a=key b)):∀l:List α,zi7 q l=zyo q l
 | []=>rfl
 |x::r=>by rw [zi7,zyo,zlo hq r x x rfl]
theorem zlp (q:α→α→Bool):∀(l:List α) (p:α),(zi6 q p l).Sublist l
 | [],_=> .slnil
 |y::r,p=>by
  rw [zi6];split
  ·exact (zlp q r y).cons y
  ·exact (zlp q r y).cons_cons y
theorem zlq (q:α→α→Bool):∀l:List α,(zi7 q l).Sublist l
 | []=> .slnil
 |x::r=>(zlp q r x).cons_cons x
end
variable {α:Type} (cmp:α→α→Int)
theorem ynw {a b:List α} {i j:Nat} (hi:i < a.length) (hj:j < b.length) (h:cmp b[j] a[i] < 0):mrg cmp (a.drop i) (b.drop j)=b[j]::mrg cmp (a.drop i) (b.drop (j+1)):=by
 rw [List.drop_eq_getElem_cons hi,List.drop_eq_getElem_cons hj,mrg,if_pos h]
theorem ynx {a b:List α} {i j:Nat} (hi:i < a.length) (hj:j < b.length) (h:¬cmp b[j] a[i] < 0):mrg cmp (a.drop i) (b.drop j)=a[i]::mrg cmp (a.drop (i+1)) (b.drop j):=by
 rw [List.drop_eq_getElem_cons hi,List.drop_eq_getElem_cons hj,mrg,if_neg h]
theorem zts {a b:List α} (h:a= []∨b= []):mrg cmp a b=a++b:=by
 rcases h with rfl|rfl
 ·simp [mrg]
 ·rw [yg9,List.append_nil]
theorem ydf {L:List (List α)} {r:List α} (h:r∈L):r.length≤L.flatten.length:=by
 induction L with
 |nil=>cases h
 |cons a L ih=>
  rw [List.flatten_cons,List.length_append]
  rcases List.mem_cons.1 h with rfl|h
  ·omega
  ·have:=ih h;omega
theorem yb8 {L:List (List α)} {i:Nat} (h:2 * i+1=L.length):zoq cmp L (2 * i)=L[2 * i]'(by omega):=by
 rw [zoq,if_pos h,List.getElem?_eq_getElem (by omega)];rfl
theorem yb7 {L:List (List α)} {i:Nat} (h:2 * i+1 < L.length):zoq cmp L (2 * i)=mrg cmp (L[2 * i]'(by omega)) L[2 * i+1]:=by
 rw [zoq,if_neg (by omega),List.getElem?_eq_getElem (by omega),List.getElem?_eq_getElem h];rfl
theorem zps {L:List (List α)} {i:Nat} (h:i < (L.length+1) / 2):(zbc cmp L).take (i+1)=(zbc cmp L).take i++ [zoq cmp L (2 * i)]:=by
 have hl:i < (zbc cmp L).length:=by rw [zca];exact h
 rw [List.take_succ_eq_append_getElem hl]
 congr 2
 have:=zm4 cmp L i hl
 rw [List.getElem?_eq_getElem hl] at this
 exact Option.some.inj this
theorem zj6 {L:List (List α)} {i:Nat} (h:i=(L.length+1) / 2):(zbc cmp L).take i=zbc cmp L:=by
 rw [List.take_of_length_le];rw [zca];omega
theorem ya6 {L:List (List α)} {l:List α} (h:zo5 cmp L=zo5 cmp (l.map fun a=> [a])) (h0:L.length=0):zhe cmp l= []:=by
 rw [zhe,←h,zgm cmp (by omega),List.length_eq_zero_iff.1 h0];rfl
theorem ya5 {r l:List α} (h:zo5 cmp [r]=zo5 cmp (l.map fun a=> [a])):zhe cmp l=r:=by
 rw [zhe,←h,zgm cmp (by simp)];rfl
theorem ycg (l:List α):(l.map fun a=> [a]).flatten=l:=by induction l <;> simp_all
structure Conf where
 f:Int
 t:Int
 k:Int
 a:Int
 b:Int
 o:Int
 p:Int
 deriving DecidableEq
def j7 (c:Conf):List AV:= [iv c.f,iv c.t,iv c.k,iv c.a,iv c.b,iv c.o,iv c.p]
def zib (l:List Conf):AV:= .list false 7 (l.map j7)
theorem zep (l:List Conf):∀r∈l.map j7,r.all AV.one=true:=by
 intro r hr;obtain ⟨a,_,rfl⟩:=List.mem_map.1 hr;rfl
def yap (c:Conf):List Int:= [c.f,c.t,c.k,c.a,c.b,c.o,c.p]
def zgf:List Int→List Int→Int
 | [],[]=>0
 | [],_::_=> -1
 |_::_,[]=>1
 |x::a,y::b=>if x < y then -1 else if y < x then 1 else zgf a b
def ze7 (a b:Conf):Int:=zgf (yap a) (yap b)
theorem zlw:∀a b:List Int,zgf b a= - zgf a b
 | [],[]=>rfl
 | [],_::_=>rfl
 |_::_,[]=>rfl
 |x::a,y::b=>by
  rw [zgf,zgf]
  by_cases h:x < y
  ·rw [if_neg (show ¬y < x by omega),if_pos h,if_pos h];rfl
  ·by_cases h':y < x
   ·rw [if_pos h',if_neg h,if_pos h']
   ·rw [if_neg h',if_neg h,if_neg h,if_neg h',zlw a b]
theorem zlv:∀a:List Int,zgf a a=0
 | []=>rfl
 |x::a=>by rw [zgf,if_neg (by omega),if_neg (by omega),zlv a]
theorem zlu:∀a b:List Int,zgf a b=0→a=b
 | [],[],_=>rfl
 | [],_::_,h=>by simp [zgf] at h
 |_::_,[],h=>by simp [zgf] at h
 |x::a,y::b,h=>by
  rw [zgf] at h
  split at h
  ·omega
  ·split at h
   ·omega
   ·rw [zlu a b h,show x=y by omega]
theorem zi8:∀a b c:List Int,zgf a b≤0→zgf b c≤0→zgf a c≤0
 | [],[],c,_,h=>h
 | [],_::_,[],_,_=>by simp [zgf]
 | [],_::_,_::_,_,_=>by simp [zgf]
 |_::_,[],c,h,_=>by simp [zgf] at h
 |_::_,_::_,[],_,h=>by simp [zgf] at h
 |x::a,y::b,z::c,h1,h2=>by
  rw [zgf] at h1 h2 ⊢
  split at h1
  ·split at h2
   ·rw [if_pos (by omega)];omega
   ·split at h2
    ·omega
    ·rw [if_pos (by omega)];omega
  ·split at h1
   ·omega
   ·split at h2
    ·rw [if_pos (by omega)];omega
    ·split at h2
     ·omega
     ·rw [if_neg (by omega),if_neg (by omega)];exact zi8 a b c h1 h2
theorem yde {a b:Conf} (h:yap a=yap b):a=b:=by
 cases a;cases b;simp only [yap,List.cons.injEq,and_true] at h;simp only [Conf.mk.injEq];exact h
theorem zhm:CmpOk ze7:=⟨fun a b c h k=>zi8 _ _ _ h k,fun a b=>zlw _ _⟩
theorem zif (a b:Conf) (h:ze7 a b=0):a=b:=yde (zlu _ _ h)
theorem zig (a:Conf):ze7 a a=0:=zlv _
def zg7 (h:Hist) (t x:Int):Int:=atO (zog h.evs t x)
def zec (a b:Conf):Bool:=a.f==b.f && a.t==b.t
def zm3 (out l:List Conf):List Conf:=l.foldl (yb4 ze7) out
theorem zh0:∀(l out:List Conf),out.Pairwise (LtC ze7)→(zm3 out l).Pairwise (LtC ze7)
 | [],_,h=>h
 |c::r,out,h=>zh0 r (yb4 ze7 out c) (zk7 zhm zif h)
theorem zit {z:Conf}:∀(l out:List Conf),z∈zm3 out l ↔ z∈out∨z∈l
 | [],out=>by simp [zm3]
 |c::r,out=>by
  rw [show zm3 out (c::r)=zm3 (yb4 ze7 out c) r from rfl,zit r,zn0,List.mem_cons]
  constructor
  ·rintro ((h|h)|h) <;> simp [h]
  ·rintro (h|h|h) <;> simp [h]
def zw4 (a b:Conf):Bool:=a.f==b.f && a.t==b.t && a.k==b.k
def yo2 (l:List Conf):List Conf:=zyo zw4 l
theorem zhk {α:Type} {q r:α→α→Bool}:∀(l:List α) (k:α),(∀a∈l,∀b∈k::l,q a b=r a b)→zn7 q k l=zn7 r k l
 | [],_,_=>rfl
 |y::l,k,h=>by
  rw [zn7,zn7,h y (by simp) k (by simp),zhk l k (fun a ha b hb=>h a (by simp [ha]) b (by rcases List.mem_cons.1 hb with rfl|hb <;> simp [*])),zhk l y (fun a ha b hb=>h a (by simp [ha]) b (by rcases List.mem_cons.1 hb with rfl|hb <;> simp [*]))]
def zea (c:Conf):Int×Int:=(c.f,c.t)
def zss (a b:Conf):Int:=zgf [a.f,a.t] [b.f,b.t]
theorem yie {a b:Conf} (h:ze7 a b≤0):zss a b≤0:=by
 simp only [ze7,yap,zgf] at h
 simp only [zss,zgf]
 split
 ·omega
 ·rename_i h1
  rw [if_neg h1] at h
  split
  ·rename_i h2;rw [if_pos h2] at h;omega
  ·rename_i h2
   rw [if_neg h2] at h
   split
   ·omega
   ·rename_i h3
    rw [if_neg h3] at h
    split
    ·rename_i h4;rw [if_pos h4] at h;omega
    ·omega
theorem zek {a b:Conf}:zss a b=0 ↔ zea a=zea b:=by
 constructor
 ·intro h
  have:=zlu _ _ h
  simp only [List.cons.injEq,and_true] at this
  rw [zea,zea,this.1,this.2]
 ·intro h
  simp only [zea,Prod.mk.injEq] at h
  rw [zss,h.1,h.2,zlv]
theorem zni {a b c:Conf} (h:zss a b≤0) (k:zss b c≤0):zss a c≤0:=zi8 _ _ _ h k
theorem zu2 (a b:Conf):zec a b=decide (zea a=zea b):=by rw [zec,Bool.eq_iff_iff];simp [zea]
theorem zql:∀(l:List Conf) (p:Conf),(p::l).Pairwise (LeC ze7)→(∀y∈zi6 zec p l,zss p y < 0)∧(zi6 zec p l).Pairwise (fun a b=>zss a b < 0)∧∀c∈l,zea c=zea p∨∃a∈zi6 zec p l,zea a=zea c∧ze7 a c≤0
 | [],p,_=>⟨by simp [zi6],by simp [zi6],by simp⟩
 |y::r,p,h=>by
  have h':=List.pairwise_cons.1 h
  have hy:=List.pairwise_cons.1 h'.2
  obtain ⟨i1,i2,i3⟩:=zql r y h'.2
  have hpy:zss p y≤0:=yie (h'.1 y (by simp))
  rw [zi6,zu2]
  by_cases e:zea y=zea p
  ·rw [if_pos (by simpa using e)]
   have e0:=zek.2 e
   refine ⟨fun z hz=> ?_,i2,fun c hc=> ?_⟩
   ·have a1:=i1 z hz
    have a2:=zni hpy (Int.le_of_lt a1)
    rcases Int.lt_or_eq_of_le a2 with q|q
    ·exact q
    ·have:=zek.1 q
     rw [←e] at this
     have:=zek.2 this;omega
   ·rcases List.mem_cons.1 hc with rfl|hc
    ·exact .inl e
    ·rcases i3 c hc with q|q
     ·exact .inl (q.trans e)
     ·exact .inr q
  ·rw [if_neg (by simpa using e)]
   have lt:zss p y < 0:=by
    rcases Int.lt_or_eq_of_le hpy with q|q
    ·exact q
    ·exact absurd (zek.1 q).symm e
   refine ⟨fun z hz=> ?_,List.pairwise_cons.2 ⟨i1,i2⟩,fun c hc=> ?_⟩
   ·rcases List.mem_cons.1 hz with rfl|hz
    ·exact lt
    ·have a1:=i1 z hz
     have a2:=zni hpy (Int.le_of_lt a1)
     rcases Int.lt_or_eq_of_le a2 with q|q
     ·exact q
     ·have hk:=zek.1 q
      have a3:zss y z < 0:=a1
      have a4:zgf [z.f,z.t] [y.f,y.t]= - zgf [y.f,y.t] [z.f,z.t]:=zlw _ _
      have a5:zgf [p.f,p.t] [y.f,y.t]=zgf [z.f,z.t] [y.f,y.t]:=by
       simp only [zea,Prod.mk.injEq] at hk;rw [hk.1,hk.2]
      simp only [zss] at lt a3
      omega
   ·rcases List.mem_cons.1 hc with rfl|hc
    ·exact .inr ⟨c,by simp,rfl,by rw [zig];exact Int.le_refl _⟩
    ·rcases i3 c hc with q|⟨a,ha,q1,q2⟩
     ·exact .inr ⟨y,by simp,q.symm,hy.1 c hc⟩
     ·exact .inr ⟨a,by simp [ha],q1,q2⟩
theorem zzq (l:List Conf) (h:l.Pairwise (LeC ze7)):(zi7 zec l).Pairwise (fun a b=>zss a b < 0)∧∀c∈l,∃a∈zi7 zec l,zea a=zea c∧ze7 a c≤0:=by
 cases l with
 |nil=>exact ⟨.nil,by simp⟩
 |cons x r=>
  obtain ⟨i1,i2,i3⟩:=zql r x h
  have h':=List.pairwise_cons.1 h
  refine ⟨List.pairwise_cons.2 ⟨i1,i2⟩,fun c hc=> ?_⟩
  rcases List.mem_cons.1 hc with rfl|hc
  ·exact ⟨c,by simp [zi7],rfl,by rw [zig];exact Int.le_refl _⟩
  ·rcases i3 c hc with q|⟨a,ha,q1,q2⟩
   ·exact ⟨x,by simp [zi7],q.symm,h'.1 c hc⟩
   ·exact ⟨a,by simp [zi7,ha],q1,q2⟩
theorem zis {K V:Type} [DecidableEq K] (k:K) (v:V):∀m:List (K×V),(m.map Prod.fst).Nodup→((zdp k v m).map Prod.fst).Nodup∧∀z,z∈(zdp k v m).map Prod.fst ↔ z=k∨z∈m.map Prod.fst
 | [],_=>⟨by simp [zdp],by simp [zdp]⟩
 |p::r,h=>by
  rw [List.map_cons,List.nodup_cons] at h
  obtain ⟨i1,i2⟩:=zis k v r h.2
  rw [zdp]
  by_cases e:p.1=k
  ·rw [if_pos e]
   exact ⟨by rw [List.map_cons,List.nodup_cons];exact h,fun z=>by simp [e]⟩
  ·rw [if_neg e]
   have hnm:p.1 ∉ (zdp k v r).map Prod.fst:=fun q=>by
    rcases (i2 _).1 q with q|q
    ·exact e q
    ·exact h.1 q
   refine ⟨by rw [List.map_cons,List.nodup_cons];exact ⟨hnm,i1⟩,fun z=> ?_⟩
   ·rw [List.map_cons,List.mem_cons,i2,List.map_cons,List.mem_cons]
    constructor
    ·rintro (q|q|q) <;> simp [q]
    ·rintro (q|q|q) <;> simp [q]
def yi6 (t:Int):Ev:=⟨1,t,0,1,0,⟨0,0⟩,0,[]⟩
def ym4 (t o:Int):Ev:=⟨2,t,0,0,o,⟨t,1⟩,0,[]⟩
def yi5 (t:Int):Ev:=⟨5,t,0,0,0,⟨0,0⟩,0,[]⟩
def wT (n:UInt8):ByteArray:=⟨#[84,n]⟩
def zui:ByteArray:=⟨#[115]⟩
def bxx:ByteArray:=⟨#[120]⟩
def zq4 (l:List Conf) (z:Conf):Prop:=z∈l∧∀c∈l,zea c=zea z→ze7 z c≤0
theorem zjw {a b:Conf} (h:ze7 a b≤0) (k:ze7 b a≤0):a=b:=by
 have:=zhm.anti a b
 exact zif a b (by omega)
theorem zvy {l:List Conf} (h:(zi7 zec l).Pairwise (fun a b=>zss a b < 0)) {a z:Conf} (ha:a∈zi7 zec l) (hz:z∈zi7 zec l) (e:zea a=zea z):a=z:=by
 obtain ⟨i,hi,rfl⟩:=List.mem_iff_getElem.1 ha
 obtain ⟨j,hj,rfl⟩:=List.mem_iff_getElem.1 hz
 have e1:=zek.2 e
 have e2:=zek.2 e.symm
 by_cases hij:i=j
 ·subst hij;rfl
 ·rcases Nat.lt_or_gt_of_ne hij with q|q
  ·have:=(List.pairwise_iff_getElem.1 h) i j hi hj q;omega
  ·have:=(List.pairwise_iff_getElem.1 h) j i hj hi q;omega
theorem zzp {l:List Conf} (h:l.Pairwise (LeC ze7)) (z:Conf):z∈zi7 zec l ↔ zq4 l z:=by
 obtain ⟨hp,hq⟩:=zzq l h
 constructor
 ·intro hz
  refine ⟨(zlq _ _).subset hz,fun c hc e=> ?_⟩
  obtain ⟨a,ha,e1,e2⟩:=hq c hc
  have:=zvy hp ha hz (e1.trans e)
  rw [this] at e2;exact e2
 ·rintro ⟨hz,hm⟩
  obtain ⟨a,ha,e1,e2⟩:=hq z hz
  have:=zjw e2 (hm a ((zlq _ _).subset ha) e1)
  rw [←this];exact ha
def zg0 (m:List ((Int×Int)×Conf)) (c:Conf):List ((Int×Int)×Conf):=match za8 (zea c) m with
 |none=>zdp (zea c) c m
 |some b=>if ze7 c b < 0 then zdp (zea c) c m else m
def zbg (l:List Conf):List ((Int×Int)×Conf):=l.foldl zg0 []
theorem zsv {l:List Conf} {c:Conf}:zbg (l++ [c])=zg0 (zbg l) c:=by rw [zbg,List.foldl_append];rfl
def zmb (l:List Conf) (m:List ((Int×Int)×Conf)):Prop:=∀k,match za8 k m with
 |none=>∀c∈l,zea c≠k
 |some z=>zea z=k∧zq4 l z
theorem znl {l:List Conf} {m:List ((Int×Int)×Conf)} {c:Conf} (h:zmb l m) (hc:∀d∈l,zea d=zea c→ze7 c d≤0):zmb (l++ [c]) (zdp (zea c) c m):=by
 intro k
 rw [zce]
 by_cases e:zea c=k
 ·rw [if_pos e]
  refine ⟨e,by simp,fun d hd ed=> ?_⟩
  rcases List.mem_append.1 hd with hd|hd
  ·exact hc d hd ed
  ·rw [List.mem_singleton] at hd;rw [hd,zig];exact Int.le_refl _
 ·rw [if_neg e]
  have:=h k
  cases hg:za8 k m with
  |none=>
   rw [hg] at this
   intro d hd
   rcases List.mem_append.1 hd with hd|hd
   ·exact this d hd
   ·rw [List.mem_singleton] at hd;rw [hd];exact e
  |some z=>
   rw [hg] at this
   obtain ⟨h1,h2,h3⟩:=this
   refine ⟨h1,List.mem_append_left _ h2,fun d hd ed=> ?_⟩
   rcases List.mem_append.1 hd with hd|hd
   ·exact h3 d hd ed
   ·rw [List.mem_singleton] at hd;rw [hd,h1] at ed;exact absurd ed e
theorem yds {l:List Conf} {m:List ((Int×Int)×Conf)} (h:zmb l m) (c:Conf):zmb (l++ [c]) (zg0 m c):=by
 unfold zg0
 have hk:=h (zea c)
 cases hg:za8 (zea c) m with
 |none=>
  rw [hg] at hk
  simp only
  exact znl h fun d hd e=>absurd e (hk d hd)
 |some b=>
  rw [hg] at hk
  obtain ⟨h1,h2,h3⟩:=hk
  simp only
  by_cases hlt:ze7 c b < 0
  ·rw [if_pos hlt]
   exact znl h fun d hd e=>zhm.trans _ _ _ (Int.le_of_lt hlt) (h3 d hd (e.trans h1.symm))
  ·rw [if_neg hlt]
   intro k
   have hq:=h k
   cases hg2:za8 k m with
   |none=>
    rw [hg2] at hq
    intro d hd
    rcases List.mem_append.1 hd with hd|hd
    ·exact hq d hd
    ·rw [List.mem_singleton] at hd;rw [hd]
     intro e;rw [e,hg2] at hg;cases hg
   |some z=>
    rw [hg2] at hq
    obtain ⟨q1,q2,q3⟩:=hq
    refine ⟨q1,List.mem_append_left _ q2,fun d hd ed=> ?_⟩
    rcases List.mem_append.1 hd with hd|hd
    ·exact q3 d hd ed
    ·rw [List.mem_singleton] at hd
     rw [hd] at ed ⊢
     have e2:k=zea c:=q1.symm.trans ed.symm
     rw [e2,hg] at hg2
     injection hg2 with hg2
     rw [←hg2]
     have:=zhm.anti c b;omega
theorem zqt (l:List Conf):zmb l (zbg l):=by
 suffices h:∀(l p:List Conf) (m:List ((Int×Int)×Conf)),zmb p m→zmb (p++l) (l.foldl zg0 m) by
  have:=h l [] [] (fun k=>by simp [za8])
  simpa [zbg] using this
 intro l
 induction l with
 |nil=>intro p m h;simpa using h
 |cons c r ih=>
  intro p m h
  have:=ih (p++ [c]) (zg0 m c) (yds h c)
  simpa using this
theorem zsu {m:List ((Int×Int)×Conf)} (h:(m.map Prod.fst).Nodup) (c:Conf):((zg0 m c).map Prod.fst).Nodup:=by
 unfold zg0
 split
 ·exact (zis _ _ _ h).1
 ·split
  ·exact (zis _ _ _ h).1
  ·exact h
theorem zc2 (l:List Conf):((zbg l).map Prod.fst).Nodup:=by
 suffices h:∀(l:List Conf) (m:List ((Int×Int)×Conf)),(m.map Prod.fst).Nodup→((l.foldl zg0 m).map Prod.fst).Nodup by exact h l [] .nil
 intro l
 induction l with
 |nil=>intro m h;exact h
 |cons c r ih=>intro m h;exact ih _ (zsu h c)
theorem zgr {K V:Type} [DecidableEq K] {k:K} {v:V}:∀{m:List (K×V)},(m.map Prod.fst).Nodup→(za8 k m=some v ↔ (k,v)∈m)
 | [],_=>by simp [za8]
 |p::r,h=>by
  rw [List.map_cons,List.nodup_cons] at h
  rw [za8,List.mem_cons]
  by_cases e:p.1=k
  ·rw [if_pos e]
   constructor
   ·intro q;injection q with q;left;rw [←e,←q]
   ·rintro (q|q)
    ·rw [←q]
    ·exact absurd (List.mem_map.2 ⟨_,q,e.symm⟩) h.1
  ·rw [if_neg e,zgr h.2]
   constructor
   ·exact .inr
   ·rintro (q|q)
    ·exact absurd (by rw [←q]) e
    ·exact q
theorem zqu {l:List Conf} {z:Conf}:z∈(zbg l).map Prod.snd ↔ zq4 l z:=by
 have hn:=zc2 l
 constructor
 ·intro h
  obtain ⟨p,hp,rfl⟩:=List.mem_map.1 h
  have hg:=(zgr (k:=p.1) (v:=p.2) hn).2 hp
  have:=zqt l p.1
  rw [hg] at this
  exact this.2
 ·intro h
  have:=zqt l (zea z)
  cases hg:za8 (zea z) (zbg l) with
  |none=>rw [hg] at this;exact absurd rfl (this z h.1)
  |some y=>
   rw [hg] at this
   obtain ⟨h1,h2,h3⟩:=this
   have:y=z:=zjw (h3 z h.1 h1.symm) (h.2 y h2 h1)
   subst this
   exact List.mem_map.2 ⟨_,(zgr hn).1 hg,rfl⟩
theorem zz0 {l out:List Conf} (hp:out.Perm ((zbg l).map Prod.snd)) {L:List Conf} (hL:L.Pairwise (LtC ze7)) (hm:∀z,z∈L ↔ z∈l):zhe ze7 out=zi7 zec L:=by
 have hLe:L.Pairwise (LeC ze7):=hL.imp fun h=>Int.le_of_lt h
 have hnd:out.Nodup:=by
  rw [hp.nodup_iff,List.Nodup,List.pairwise_map]
  have hn:=zc2 l
  rw [List.Nodup,List.pairwise_map] at hn
  rw [List.pairwise_iff_getElem] at hn ⊢
  intro i j hi hj hij e
  have k1:∀p∈zbg l,zea p.2=p.1:=fun p hp=>by
   have hg:=(zgr (k:=p.1) (v:=p.2) (zc2 l)).2 hp
   have:=zqt l p.1
   rw [hg] at this
   exact this.1
  have:=hn i j hi hj hij
  rw [←k1 _ (List.getElem_mem hi),←k1 _ (List.getElem_mem hj),e] at this
  exact this rfl
 refine zyf zhm _ _ (ztv zif (zjb zhm _) ((zd9 _ _).nodup_iff.2 hnd)) (hL.sublist (zlq _ _)) fun z=> ?_
 rw [(zd9 ze7 _).mem_iff,hp.mem_iff,zqu,zzp hLe]
 unfold zq4
 rw [hm]
 exact ⟨fun h=>⟨h.1,fun c hc=>h.2 c ((hm c).1 hc)⟩,fun h=>⟨h.1,fun c hc=>h.2 c ((hm c).2 hc)⟩⟩
abbrev RkM:=List ((Int×Int×Int)×Int)
def zq5 (x:Int) (v:Ver):Int×Int×Int:=(x,v.t,v.k)
theorem zht {x y:Int} {v w:Ver}:zq5 x v=zq5 y w ↔ x=y∧v=w:=by
 cases v;cases w;simp [zq5]
def zjt (h:Hist) (x t:Int):Ver:=zwa (zog h.evs t x)
def zgw (h:Hist) (x:Int):Nat→List Int→RkM→RkM
 |_,[],m=>m
 |i,t::r,m=>zgw h x (i+1) r (zdp (zq5 x (zjt h x t)) ((i:Int)+1) m)
def ybp (h:Hist) (x:Int) (m:RkM):RkM:=zgw h x 0 (zba h x) (zdp (zq5 x ⟨0,0⟩) 0 m)
def rkM (h:Hist):Nat→RkM
 |0=> []
 |n+1=>ybp h n (rkM h n)
theorem zm0 (h:Hist) (x:Int):∀(l:List Int) (i:Nat) (t:Int) (m:RkM),zgw h x i (l++ [t]) m=zdp (zq5 x (zjt h x t)) (((i+l.length:Nat):Int)+1) (zgw h x i l m)
 | [],i,t,m=>by simp [zgw]
 |a::r,i,t,m=>by
  rw [List.cons_append,zgw,zm0 h x r (i+1) t,zgw,List.length_cons,show i+1+r.length=i+(r.length+1) by omega]
theorem yge {h:Hist} {x:Int} {l:List Int} {k:Nat} (hk:k < l.length) (m:RkM):zgw h x 0 (l.take (k+1)) m=zdp (zq5 x (zjt h x l[k])) ((k:Int)+1) (zgw h x 0 (l.take k) m):=by
 rw [List.take_succ_eq_append_getElem hk,zm0,List.length_take,Nat.min_eq_left (by omega),Nat.zero_add]
theorem zhh (h:Hist) {x y:Int} (hxy:y≠x) (v:Ver):∀(l:List Int) (i:Nat) (m:RkM),za8 (zq5 y v) (zgw h x i l m)=za8 (zq5 y v) m
 | [],_,_=>rfl
 |t::r,i,m=>by
  rw [zgw,zhh h hxy v r (i+1),zce,if_neg]
  intro e;exact hxy ((zht.1 e).1).symm
theorem zph (h:Hist) (x:Int) (v:Ver):∀(l:List Int) (i:Nat) (m:RkM),(l.map (zjt h x)).Nodup→za8 (zq5 x v) (zgw h x i l m)=if zbf (fun t=>zjt h x t==v) i l ≥ 0 then some (zbf (fun t=>zjt h x t==v) i l+1) else za8 (zq5 x v) m
 | [],i,m,_=>by rw [zgw,zbf,if_neg (by decide)]
 |t::r,i,m,hn=>by
  rw [List.map_cons,List.nodup_cons] at hn
  rw [zgw,zph h x v r (i+1) _ hn.2]
  by_cases e:zjt h x t=v
  ·have hno:decide (zbf (fun t=>zjt h x t==v) (i+1) r ≥ 0)=false:=by
    rw [zd0,List.any_eq_false]
    intro z hz q
    exact hn.1 (by rw [e,←eq_of_beq q];exact List.mem_map_of_mem hz)
   have e1:zbf (fun t=>zjt h x t==v) i (t::r)=(i:Int):=by rw [zbf,if_pos (by simpa using e)]
   rw [e1,if_neg (oF hno),if_pos (by omega),zce,if_pos (by rw [e])]
  ·have e1:zbf (fun t=>zjt h x t==v) i (t::r)=zbf (fun t=>zjt h x t==v) (i+1) r:=by rw [zbf,if_neg (by simpa using e)]
   rw [e1]
   by_cases q:zbf (fun t=>zjt h x t==v) (i+1) r ≥ 0
   ·rw [if_pos q,if_pos q]
   ·rw [if_neg q,if_neg q,zce,if_neg]
    intro e2;exact e ((zht.1 e2).2)
theorem zy6 {h:Hist} (hs:zap h=true) {x:Int} (h0:0≤x) (h1:x < h.os.length):((zba h x).map (zjt h x)).Nodup∧∀t∈zba h x,zjt h x t≠⟨0,0⟩:=by
 obtain ⟨hn,_,hm⟩:=zfk hs h0 h1
 have hv:∀t∈zba h x,(zjt h x t).t=t∧0 < (zjt h x t).k:=fun t ht=>by
  obtain ⟨w1,_⟩:=zhd.1 ((hm t).1 ht)
  obtain ⟨v,i,hf⟩:=zy7 w1
  obtain ⟨_,_,_,vt,vk,_⟩:=zh8 hs hf
  rw [zjt,hf];exact ⟨vt,vk⟩
 constructor
 ·rw [List.Nodup,List.pairwise_map]
  refine (List.pairwise_iff_getElem).2 fun i j hi hj hij e=> ?_
  have a:=(hv _ (List.getElem_mem hi)).1
  have b:=(hv _ (List.getElem_mem hj)).1
  rw [e] at a
  exact (List.pairwise_iff_getElem.1 hn) i j hi hj hij (a.symm.trans b)
 ·intro t ht e
  have:=(hv t ht).2
  rw [e] at this;exact absurd this (by decide)
theorem zxh (h:Hist) (x:Int) (v:Ver):∀n:Nat,(n:Int)≤x∨x < 0→za8 (zq5 x v) (rkM h n)=none
 |0,_=>rfl
 |n+1,hx=>by
  have hne:x≠(n:Int):=by omega
  rw [rkM,ybp,zhh h hne,zce,if_neg,zxh h x v n (by omega)]
  intro e;exact hne ((zht.1 e).1).symm
theorem zk3 {h:Hist} (hs:zap h=true) {x:Int} (v:Ver) (h0:0≤x) (h1:x < h.os.length):∀n:Nat,n≤h.os.length→x < n→za8 (zq5 x v) (rkM h n)=if v=⟨0,0⟩ then some 0 else if zhz h x v ≥ 0 then some (zhz h x v+1) else none
 |0,_,hx=>absurd hx (by omega)
 |n+1,hn,hx=>by
  by_cases e:x=(n:Int)
  ·subst e
   obtain ⟨a,b⟩:=zy6 hs h0 h1
   rw [rkM,ybp,zph h _ v _ _ _ a,zce]
   have hr:zbf (fun t=>zjt h (n:Int) t==v) 0 (zba h n)=zhz h n v:=rfl
   rw [hr]
   by_cases hv:v=⟨0,0⟩
   ·subst hv
    have:decide (zhz h n ⟨0,0⟩ ≥ 0)=false:=by
     rw [zhz,zd0,List.any_eq_false]
     intro t ht q
     exact b t ht (eq_of_beq q)
    rw [if_neg (oF this),if_pos rfl,if_pos rfl]
   ·rw [if_neg hv,if_neg (fun e=>hv ((zht.1 e).2).symm),zxh h _ v n (.inl (Int.le_refl _))]
  ·rw [rkM,ybp,zhh h e,zce,if_neg (fun q=>e ((zht.1 q).1).symm)]
   exact zk3 hs v h0 h1 n (by omega) (by omega)
def yi1 (p o:Int) (r:Mat):Bool:=r.p==p && r.o==o
def yhk (h:Hist) (p o:Int):Option Mat:=h.mats.find? (yi1 p o)
def yi2:Mat:=⟨0,0,false,[]⟩
def zyd (h:Hist) (p o:Int):Mat:=(yhk h p o).getD yi2
def ya2 (m:Mat) (ts:List Int):List Bool:=m.first::ts.map (fun t=>m.ts.contains t)
def zo3 (h:Hist) (p o:Int):List Bool:=ya2 (zyd h p o) (zba h o)
def zl1 (l:List Bool):AV:= .list false 1 (l.map zl2)
theorem ych (l:List Bool):∀r∈l.map zl2,r.all AV.one=true:=by
 intro r hr;obtain ⟨a,_,rfl⟩:=List.mem_map.1 hr;rfl
theorem zs7 (m:Mat) (ts:List Int):(ya2 m ts).length=ts.length+1:=by simp [ya2]
def yao (h:Hist) (o:Int):Int:=zex h o h.os.length
def zg3 (h:Hist) (p o:Int):Int:=if yao h o=0 then (if 0≤p∧p < h.ps.length then 0 else 2) else yao h o
def mtE (h:Hist) (p o r:Int):Int:=if zg3 h p o=0 then (if 0≤r∧r < (zo3 h p o).length then 0 else 2) else zg3 h p o
def mtB (h:Hist) (p o r:Int):Bool:=if mtE h p o r=0 then ((zo3 h p o)[r.toNat]?).getD false else false
def zqq (l:List Bool):Nat→List Int
 |0=> []
 |k+1=>zqq l k++(if 0 < k∧l[k]? ≠l[k - 1]? then [(k:Int)] else [])
def yig (l:List Bool):List Int:=zqq l l.length
def chL (h:Hist) (p o:Int):List Int:=if zg3 h p o=0 then yig (zo3 h p o) else []
theorem zih (l:List Bool):∀(n:Nat) (z:Int),z∈zqq l n ↔ ∃k:Nat,z=k∧0 < k∧k < n∧l[k]? ≠l[k - 1]?
 |0,z=>by simp [zqq]
 |n+1,z=>by
  rw [zqq,List.mem_append,zih l n z]
  constructor
  ·rintro (⟨k,h1,h2,h3,h4⟩|h)
   ·exact ⟨k,h1,h2,by omega,h4⟩
   ·split at h
    ·rename_i hc
     rw [List.mem_singleton] at h
     exact ⟨n,h,hc.1,by omega,hc.2⟩
    ·cases h
  ·rintro ⟨k,h1,h2,h3,h4⟩
   by_cases e:k=n
   ·subst e;right;rw [if_pos ⟨h2,h4⟩,h1];simp
   ·left;exact ⟨k,h1,h2,by omega,h4⟩
theorem zst (l:List Bool):∀n:Nat,(zqq l n).Pairwise (· < ·)
 |0=> .nil
 |n+1=>by
  rw [zqq,List.pairwise_append]
  refine ⟨zst l n,by split <;> simp,fun a ha b hb=> ?_⟩
  obtain ⟨k,rfl,_,h3,_⟩:=(zih l n a).1 ha
  split at hb
  ·rw [List.mem_singleton] at hb;subst hb;omega
  ·cases hb
theorem zud (l:List Bool):∀n:Nat,(zqq l n).length≤n
 |0=>by simp [zqq]
 |n+1=>by
  have:=zud l n
  rw [zqq,List.length_append]
  split <;> simp <;> omega
theorem ymc {l:List Bool} {k:Nat} (h:k=0):zqq l (k+1)=zqq l k:=by rw [zqq,if_neg (by omega)];simp
def mtM (m:Option Mat) (ts:List Int) (r:Int):Bool:=match m with
 |none=>false
 |some m=>if r=0 then m.first else m.ts.contains ((ts[(r - 1).toNat]?).getD 0)
def yky (h:Hist) (p x r:Int):Bool:=mtM (yhk h p x) (zlg h x) r
def chR (f:Nat→Bool):Nat→List Int
 |0=> []
 |k+1=>chR f k++(if f (k+1)≠f k then [((k+1:Nat):Int)] else [])
theorem zue {l:List Bool} {f:Nat→Bool} (hf:∀k,(h:k < l.length)→l[k]=f k):∀k,k < l.length→zqq l (k+1)=chR f k
 |0,h=>ymc rfl
 |k+1,h=>by
  rw [zqq,zue hf k (by omega),chR]
  congr 1
  rw [List.getElem?_eq_getElem h,show k+1 - 1=k by omega,List.getElem?_eq_getElem (show k < l.length by omega),hf _ h,hf k (by omega)]
  by_cases e:f (k+1)=f k
  ·rw [if_neg (by rw [e];simp),if_neg (by simpa using e)]
  ·rw [if_pos ⟨by omega,by simpa using e⟩,if_pos e]
theorem zks (h:Hist) (p o:Int):(zo3 h p o).length=(zba h o).length+1:=zs7 _ _
theorem ya1 (m:Option Mat) (ts:List Int) {k:Nat} (hk:k < (ya2 (m.getD yi2) ts).length):(ya2 (m.getD yi2) ts)[k]=mtM m ts k:=by
 unfold mtM
 have hl:=zs7 (m.getD yi2) ts
 cases m with
 |none=>cases k with
  |zero=>rfl
  |succ k=>simp only [ya2,List.getElem_cons_succ,List.getElem_map];rfl
 |some m=>cases k with
  |zero=>rfl
  |succ k=>
   have hk':k < ts.length:=by omega
   simp only [ya2,List.getElem_cons_succ,List.getElem_map]
   rw [if_neg (by omega),show (((k+1:Nat):Int) - 1).toNat=k by omega,List.getElem?_eq_getElem hk'];rfl
theorem yfk {h:Hist} {p x:Int} (hi:zba h x=zlg h x) {k:Nat} (hk:k < (zo3 h p x).length):(zo3 h p x)[k]=yky h p x k:=by
 rw [yky,←hi];exact ya1 (yhk h p x) (zba h x) hk
theorem zyt {h:Hist} {x:Int}:yao h x=0 ↔ u3 h=0∧0≤x∧x < h.os.length:=by
 constructor
 ·intro e
  obtain ⟨a,b⟩:=zv7 e
  exact ⟨zaz.2 a,b⟩
 ·rintro ⟨a,b⟩;exact zqz a b
theorem zrg {h:Hist} {p x:Int}:zg3 h p x=0 ↔ u3 h=0∧(0≤x∧x < h.os.length)∧0≤p∧p < h.ps.length:=by
 unfold zg3
 by_cases e:yao h x=0
 ·rw [if_pos e]
  obtain ⟨a,b⟩:=zyt.1 e
  by_cases hp:0≤p∧p < h.ps.length
  ·rw [if_pos hp];exact ⟨fun _=>⟨a,b,hp⟩,fun _=>rfl⟩
  ·rw [if_neg hp];exact ⟨fun q=>(by cases q),fun q=>absurd q.2.2 hp⟩
 ·rw [if_neg e];exact ⟨fun q=>absurd q e,fun q=>absurd (zyt.2 ⟨q.1,q.2.1⟩) e⟩
theorem ypu {h:Hist} {p x r:Int} (he:zg3 h p x≠0):mtE h p x r=zg3 h p x∧mtB h p x r=false∧chL h p x= []:=by
 have e:mtE h p x r=zg3 h p x:=by rw [mtE,if_neg he]
 exact ⟨e,by rw [mtB,e,if_neg he],by rw [chL,if_neg he]⟩
theorem znq {h:Hist} {p x:Int} (he:zg3 h p x=0):zba h x=zlg h x:=by
 obtain ⟨a,⟨b,c⟩,_⟩:=zrg.1 he
 exact zp3 (zaz.1 a) b c
theorem ypw {h:Hist} {p x:Int} (he:zg3 h p x=0):chL h p x=chR (fun k=>yky h p x k) (zlg h x).length:=by
 have hi:=znq he
 have hl:=zks h p x
 rw [chL,if_pos he,yig,hl,←hi]
 exact zue (f:=fun k=>yky h p x k) (fun k hk=>yfk hi hk) _ (by omega)
theorem zs6 {h:Hist} {p x:Int} (hn:yhk h p x=none) {k:Nat} (hk:k < (zo3 h p x).length):(zo3 h p x)[k]=false:=by
 simp only [zo3,zyd,hn,ya2]
 cases k with
 |zero=>rfl
 |succ k=>rw [List.getElem_cons_succ,List.getElem_map];rfl
def yjn (scan:List Seen) (x:Int):Option Ver:=(scan.filter fun s=>s.o==x).getLast?.map Seen.v
def ykl (l:List Ev) (t:Int) (n:Nat) (scan:List Seen) (x:Int):Ver:=match yjn scan x with
 |some v=>v
 |none=>zwa (zd7 l t x n)
def zwc (l:List Ev) (t:Int):List (Int×Ver):=yam (fun e:Ev=>e.t==t && e.kind==2) Ev.o Ev.v [] l
def yfz (m:List (Int×Ver)) (scan:List Seen):List (Int×Ver):=yam (fun _:Seen=>true) Seen.o Seen.v m scan
theorem zxw {l:List Ev} {t:Int} {k:Nat} (hk:k < l.length) (h:(l[k].t==t && l[k].kind==2)=true):zwc (l.take (k+1)) t=zdp l[k].o l[k].v (zwc (l.take k) t):=by
 rw [List.take_succ_eq_append_getElem hk,zwc,yam,List.foldl_append,List.foldl_cons,List.foldl_nil,if_pos h];rfl
theorem zxx {l:List Ev} {t:Int} {k:Nat} (hk:k < l.length) (h:(l[k].t==t && l[k].kind==2)=false):zwc (l.take (k+1)) t=zwc (l.take k) t:=by
 rw [List.take_succ_eq_append_getElem hk,zwc,yam,List.foldl_append,List.foldl_cons,List.foldl_nil,if_neg (by rw [h];decide)];rfl
theorem yjm {m:List (Int×Ver)} {l:List Seen} {k:Nat} (hk:k < l.length):yfz m (l.take (k+1))=zdp l[k].o l[k].v (yfz m (l.take k)):=by
 rw [List.take_succ_eq_append_getElem hk,yfz,yam,List.foldl_append,List.foldl_cons,List.foldl_nil,if_pos rfl];rfl
theorem zjn (l:List Ev) (t x:Int):∀n,n≤l.length→(zd7 l t x n).map Prod.fst=(((l.take n).filter (zbt t x)).getLast?).map Ev.v
 |0,_=>by simp [zd7]
 |n+1,hn=>by
  have hk:n < l.length:=hn
  rw [zd7,List.getElem?_eq_getElem hk,List.take_succ_eq_append_getElem hk,List.filter_append]
  simp only
  by_cases hw:zbt t x l[n]=true
  ·rw [if_pos hw,List.filter_cons_of_pos hw];simp
  ·rw [if_neg hw,List.filter_cons_of_neg hw,zjn l t x n (by omega)];simp
theorem ygx {l:List Ev} {t x:Int} {n:Nat} (scan:List Seen) (hn:n≤l.length):(za8 x (yfz (zwc (l.take n) t) scan)).getD ⟨0,0⟩=ykl l t n scan x:=by
 have h1:za8 x (zwc (l.take n) t)=(zd7 l t x n).map Prod.fst:=by
  rw [zjn l t x n hn,zwc,zke]
  have:((l.take n).filter fun e=>(e.t==t && e.kind==2) && decide (e.o=x))=(l.take n).filter (zbt t x):=by
   refine List.filter_congr fun e _=> ?_
   rw [zbt,Bool.eq_iff_iff];simp only [Bool.and_eq_true,beq_iff_eq,decide_eq_true_eq]
   exact ⟨fun ⟨⟨a,b⟩,c⟩=>⟨⟨b,a⟩,c⟩,fun ⟨⟨a,b⟩,c⟩=>⟨⟨b,a⟩,c⟩⟩
  rw [this]
  cases (((l.take n).filter (zbt t x)).getLast?).map Ev.v <;> rfl
 have h2:(scan.filter fun e=>true && decide (e.o=x))=scan.filter fun s=>s.o==x:=by
  refine List.filter_congr fun e _=> ?_
  rw [Bool.true_and];rfl
 rw [yfz,zke,h1,h2,ykl,yjn]
 cases ((scan.filter fun s=>s.o==x).getLast?).map Seen.v with
 |some v=>rfl
 |none=>cases zd7 l t x n <;> rfl
def zb3 (h:Hist) (e:Ev) (n:Nat):List Seen:=(upR h.os.length).map fun x=>⟨x,ykl h.evs e.t n e.scan x⟩
theorem ynb {h:Hist} {e:Ev} {n m:Nat} (hm:m < (zb3 h e n).length):(zb3 h e n)[m].o=m:=by
 simp only [zb3,List.getElem_map];simp [upR]
theorem zrj (h:Hist) (e:Ev) (n:Nat):(zb3 h e n).length=h.os.length:=by rw [zb3,oM,upR,oM,List.length_range]
def zdl (h:Hist) (e:Ev) (c:Int) (a:Nat) (x r:Int):Option Conf:=
 if r > ((zba h x).length:Int) then none else if (((zba h x)[(r - 1).toNat]?).getD 0==e.t)=true then none
 else some ⟨e.t,((zba h x)[(r - 1).toNat]?).getD 0,c,a,zg7 h (((zba h x)[(r - 1).toNat]?).getD 0) x,x,e.p⟩
def zij (h:Hist) (x:Int) (v:Ver):Option Int:=za8 (zq5 x v) (rkM h h.os.length)
def zdr (h:Hist) (e:Ev):List (Int×List Int):=match zij h e.o e.v with
 |none=> []
 |some r=> [(e.o,[r+1])]
def rwOver (h:Hist) (p x r:Int):List Int:=(chL h p x).dropWhile fun k=> !decide (k > r)
def zcj (h:Hist) (e:Ev) (s:Seen):Option (Int×List Int):=match zij h s.o s.v with
 |none=>none
 |some r=>if (chL h e.p s.o).any (fun k=>decide (k > r))=true then some (s.o,rwOver h e.p s.o r) else none
def zfc (h:Hist) (e:Ev) (a:Nat):List (Int×List Int):=(zb3 h e a).filterMap (zcj h e)
def v7 (h:Hist) (e:Ev) (a:Nat):List (Int×List Int):=if e.kind=3 then zdr h e else if e.kind=4 then zfc h e a else []
def zeu (e:Ev):Int:=if e.kind=3 then 3 else if e.kind=4 then 4 else 0
def zbl (h:Hist) (e:Ev) (a:Nat):List Conf:=if zhq h.evs e.t 5=true then (v7 h e a).flatMap fun p=>p.2.filterMap (zdl h e (zeu e) a p.1) else []
def rkR (h:Hist) (x:Int) (v:Ver):Option Int:=if v=⟨0,0⟩ then some 0 else if zbf (fun t=>zjt h x t==v) 0 (zlg h x) ≥ 0 then some (zbf (fun t=>zjt h x t==v) 0 (zlg h x)+1) else none
def ybq (h:Hist) (e:Ev) (a:Nat):List Conf:=match rkR h e.o e.v with
 |none=> []
 |some r=>match (zlg h e.o)[r.toNat]? with
  |none=> []
  |some t=>if (t==e.t)=true then [] else [⟨e.t,t,3,a,zg7 h t e.o,e.o,0⟩]
def zu0 (h:Hist) (e:Ev) (a:Nat) (s:Seen) (k:Int):Option Conf:=match rkR h s.o s.v with
 |none=>none
 |some r=>if k≤r then none else if (((zlg h s.o)[(k - 1).toNat]?).getD 0==e.t)=true then none
  else some ⟨e.t,((zlg h s.o)[(k - 1).toNat]?).getD 0,4,a,zg7 h (((zlg h s.o)[(k - 1).toNat]?).getD 0) s.o,s.o,e.p⟩
def yif (h:Hist) (p x:Int):List Int:=chR (fun k=>yky h p x (k:Nat)) (zlg h x).length
def ybg (h:Hist) (e:Ev) (a:Nat):List Conf:=(zb3 h e a).flatMap fun s=>(yif h e.p s.o).filterMap (zu0 h e a s)
def zsj (h:Hist) (e:Ev) (a:Nat):List Conf:=if zhq h.evs e.t 5=true then (if e.kind=3 then ybq h e a else if e.kind=4 then ybg h e a else []) else []
theorem ygd {h:Hist} (hs:zap h=true) {x:Int} (h0:0≤x) (h1:x < h.os.length) (v:Ver):zij h x v=rkR h x v:=by
 rw [zij,zk3 hs v h0 h1 _ (Nat.le_refl _) h1,rkR,zhz,←zp3 hs h0 h1];rfl
theorem yeb {h:Hist} {x:Int} {v:Ver} {r:Int} (e:rkR h x v=some r):0≤r:=by
 unfold rkR at e
 split at e
 ·injection e with e;omega
 ·split at e
  ·rename_i q;injection e with e;omega
  ·cases e
theorem zpj {h:Hist} {e:Ev} (he:zdw h e=true) (h3:e.kind=3):(0≤e.o∧e.o < h.os.length)∧e.p=0:=by
 obtain ⟨_,_,_,hc,hq⟩:=zb2 he
 constructor
 ·rw [zha,if_neg (by omega),if_neg (by omega),if_pos h3] at hc
  simp only [zdz,Bool.and_eq_true,za1] at hc
  exact hc.1
 ·rw [←hq];simp only [zha];rw [if_neg (by omega),if_neg (by omega),if_pos h3]
theorem yd7 {h:Hist} {e:Ev} (he:zdw h e=true) (h4:e.kind=4):0≤e.p∧e.p < h.ps.length:=by
 obtain ⟨_,_,_,hc,_⟩:=zb2 he
 rw [zha,if_neg (by omega),if_neg (by omega),if_neg (by omega),if_pos h4] at hc
 simp only [zck,Bool.and_eq_true,za1] at hc
 exact hc.1.1
theorem zlm {l:List Int} (hl:l.Pairwise (· < ·)) (r:Int):(l.dropWhile fun k=> !decide (k > r))=l.filter fun k=>decide (k > r):=by
 induction l with
 |nil=>rfl
 |cons a l ih=>
  have h':=List.pairwise_cons.1 hl
  rw [List.dropWhile_cons,List.filter_cons]
  by_cases h:a > r
  ·rw [decide_eq_true h]
   simp only [Bool.not_true,Bool.false_eq_true,if_false,if_true]
   congr 1
   symm
   rw [List.filter_eq_self]
   intro b hb;exact decide_eq_true (by have:=h'.1 b hb;omega)
  ·rw [decide_eq_false h]
   simp only [Bool.not_false,if_true,Bool.false_eq_true,if_false]
   exact ih h'.2
theorem zt4 {α β:Type} {f g:α→Option β}:∀{l:List α},(∀a∈l,f a=g a)→l.filterMap f=l.filterMap g
 | [],_=>rfl
 |a::r,h=>by rw [List.filterMap_cons,List.filterMap_cons,h a (by simp),zt4 fun b hb=>h b (by simp [hb])]
theorem zy0 {h:Hist} (hs:zap h=true) {e:Ev} (he:e∈h.evs) (h3:e.kind=3) (a:Nat):(zdr h e).flatMap (fun p=>p.2.filterMap (zdl h e 3 a p.1))=ybq h e a:=by
 obtain ⟨⟨o0,o1⟩,ep⟩:=zpj (zdq hs _ he) h3
 rw [zdr,ybq,ygd hs o0 o1]
 cases hr:rkR h e.o e.v with
 |none=>rfl
 |some r=>
  have r0:=yeb hr
  simp only [List.flatMap_cons,List.flatMap_nil,List.append_nil,List.filterMap_cons,List.filterMap_nil]
  rw [zdl,zp3 hs o0 o1,Int.add_sub_cancel]
  by_cases q:r+1 > ((zlg h e.o).length:Int)
  ·rw [if_pos q,List.getElem?_eq_none (by omega)]
  ·rw [if_neg q,List.getElem?_eq_getElem (by omega)]
   simp only [Option.getD_some]
   by_cases z:((zlg h e.o)[r.toNat]'(by omega)==e.t)=true
   ·rw [if_pos z,if_pos z]
   ·rw [if_neg z,if_neg z,ep]
theorem zyz {h:Hist} (hs:zap h=true) {e:Ev} (he:e∈h.evs) (h4:e.kind=4) (a:Nat):(zfc h e a).flatMap (fun p=>p.2.filterMap (zdl h e 4 a p.1))=ybg h e a:=by
 have hp:=yd7 (zdq hs _ he) h4
 rw [zfc,ybg]
 have key:∀s∈zb3 h e a,(match zcj h e s with|none=> []|some p=>p.2.filterMap (zdl h e 4 a p.1))=(yif h e.p s.o).filterMap (zu0 h e a s):=fun s hsm=>by
  have ho:0≤s.o∧s.o < h.os.length:=by
   rw [zb3,List.mem_map] at hsm
   obtain ⟨x,hx,rfl⟩:=hsm
   exact (zwm _ _).1 hx
  have ht:zg3 h e.p s.o=0:=zrg.2 ⟨zaz.2 hs,ho,hp⟩
  have hch:chL h e.p s.o=yif h e.p s.o:=ypw ht
  have hlt:(chL h e.p s.o).Pairwise (· < ·):=by rw [chL,if_pos ht];exact zst _ _
  have hin:∀k∈chL h e.p s.o,1≤k∧k≤((zlg h s.o).length:Int):=fun k hk=>by
   rw [chL,if_pos ht,yig,zih] at hk
   obtain ⟨j,rfl,j0,j1,_⟩:=hk
   rw [zks,znq ht] at j1
   omega
  rw [zcj,ygd hs ho.1 ho.2]
  cases hr:rkR h s.o s.v with
  |none=>
   symm
   simp only
   rw [List.filterMap_eq_nil_iff]
   intro k _;rw [zu0,hr]
  |some r=>
   simp only
   rw [hch] at hlt hin ⊢
   have e1:(yif h e.p s.o).filterMap (zu0 h e a s)=((yif h e.p s.o).filter fun k=>decide (k > r)).filterMap (zdl h e 4 a s.o):=by
    rw [List.filterMap_filter]
    refine zt4 fun k hk=> ?_
    obtain ⟨k1,k2⟩:=hin k hk
    rw [zu0,hr]
    simp only
    by_cases q:k > r
    ·rw [if_neg (show ¬k≤r by omega),if_pos (show decide (k > r)=true from decide_eq_true q),zdl,zp3 hs ho.1 ho.2,if_neg (show ¬k > ((zlg h s.o).length:Int) by omega)]
    ·rw [if_pos (show k≤r by omega),if_neg (show ¬decide (k > r)=true by simpa using q)]
   by_cases q:((yif h e.p s.o).any fun k=>decide (k > r))=true
   ·rw [if_pos q]
    simp only
    rw [rwOver,hch,zlm hlt,e1]
   ·rw [if_neg q,e1]
    symm
    have:((yif h e.p s.o).filter fun k=>decide (k > r))= []:=by
     rw [List.filter_eq_nil_iff]
     intro k hk z
     exact q (List.any_eq_true.2 ⟨k,hk,z⟩)
    rw [this];rfl
 generalize zb3 h e a=L at key
 induction L with
 |nil=>rfl
 |cons s r ih=>
  have k1:=key s (by simp)
  have ih':=ih fun s hs=>key s (by simp [hs])
  rw [List.flatMap_cons,←ih',←k1,List.filterMap_cons]
  cases zcj h e s with
  |none=>rfl
  |some p=>rfl
theorem yh4 {h:Hist} (hs:zap h=true) {e:Ev} (he:e∈h.evs) (a:Nat):zbl h e a=zsj h e a:=by
 rw [zbl,zsj,v7,zeu]
 by_cases hc:zhq h.evs e.t 5=true
 ·rw [if_pos hc,if_pos hc]
  by_cases h3:e.kind=3
  ·rw [if_pos h3,if_pos h3,if_pos h3];exact zy0 hs he h3 a
  ·rw [if_neg h3,if_neg h3,if_neg h3]
   by_cases h4:e.kind=4
   ·rw [if_pos h4,if_pos h4,if_pos h4];exact zyz hs he h4 a
   ·rw [if_neg h4,if_neg h4,if_neg h4];rfl
 ·rw [if_neg hc,if_neg hc]
def za0 (h:Hist) (kd:Int):Nat→List Conf
 |0=> []
 |n+1=>za0 h kd n++(match h.evs[n]? with|some e=>if (e.kind==kd)=true then zbl h e n else []|none=> [])
def zen (h:Hist) (kd:Int):List Conf:=zhe ze7 ((zbg (za0 h kd h.evs.length)).map Prod.snd)
def zmo (h:Hist) (c:Int):Nat→List Conf
 |0=> []
 |n+1=>zm3 (zmo h c n) (match h.evs[n]? with|some e=>(zsj h e n).filter (fun x=>x.k==c)|none=> [])
theorem zy1 {h:Hist} {e:Ev} {a:Nat} {c:Conf} (hc:c∈zsj h e a):(e.kind=3∧c.k=3)∨(e.kind=4∧c.k=4):=by
 unfold zsj at hc
 split at hc
 ·split at hc
  ·rename_i h3
   left;refine ⟨h3,?_⟩
   unfold ybq at hc
   split at hc
   ·cases hc
   ·split at hc
    ·cases hc
    ·split at hc
     ·cases hc
     ·rw [List.mem_singleton] at hc;rw [hc]
  ·split at hc
   ·rename_i h4
    right;refine ⟨h4,?_⟩
    rw [ybg,List.mem_flatMap] at hc
    obtain ⟨s,_,hc⟩:=hc
    rw [List.mem_filterMap] at hc
    obtain ⟨k,_,hc⟩:=hc
    unfold zu0 at hc
    split at hc
    ·cases hc
    ·split at hc
     ·cases hc
     ·split at hc
      ·cases hc
      ·injection hc with hc;rw [←hc]
   ·cases hc
 ·cases hc
theorem zjv (h:Hist) (c:Int):∀n,(zmo h c n).Pairwise (LtC ze7)
 |0=> .nil
 |n+1=>zh0 _ _ (zjv h c n)
theorem yd9 {h:Hist} (hs:zap h=true) {kd:Int} (hk:kd=3∨kd=4) (z:Conf):∀n,z∈zmo h kd n ↔ z∈za0 h kd n
 |0=>by simp [zmo,za0]
 |n+1=>by
  rw [zmo,zit,za0,List.mem_append,yd9 hs hk z n]
  cases hn:h.evs[n]? with
  |none=>simp
  |some e=>
   have he:e∈h.evs:=List.mem_of_getElem? hn
   simp only
   rw [yh4 hs he]
   have:z∈(zsj h e n).filter (fun x=>x.k==kd) ↔ z∈(if (e.kind==kd)=true then zsj h e n else []):=by
    rw [List.mem_filter]
    constructor
    ·rintro ⟨q1,q2⟩
     have q2:=eq_of_beq q2
     have:e.kind=kd:=by rcases zy1 q1 with ⟨a,b⟩|⟨a,b⟩ <;> omega
     rw [if_pos (by simpa using this)];exact q1
    ·intro q
     split at q
     ·rename_i e2
      have e2:=eq_of_beq e2
      refine ⟨q,?_⟩
      rw [beq_iff_eq]
      rcases zy1 q with ⟨a,b⟩|⟨a,b⟩ <;> omega
     ·cases q
   rw [this]
theorem zky {h:Hist} (hs:zap h=true) {kd:Int} (hk:kd=3∨kd=4) {out:List Conf} (hp:out.Perm ((zbg (za0 h kd h.evs.length)).map Prod.snd)):zhe ze7 out=yo2 (zmo h kd h.evs.length):=by
 rw [zz0 hp (zjv h kd _) (yd9 hs hk · _),zsr (key:=fun c:Conf=>(c.f,c.t)) (q:=zec) (fun a b=>by rw [zec,Bool.eq_iff_iff];simp),yo2]
 have hkk:∀c∈zmo h kd h.evs.length,c.k=kd:=by
  suffices ∀n,∀c∈zmo h kd n,c.k=kd by exact this _
  intro n
  induction n with
  |zero=>intro c hc;cases hc
  |succ n ih=>
   intro c hc
   rw [zmo,zit] at hc
   rcases hc with hc|hc
   ·exact ih c hc
   ·cases hn:h.evs[n]? with
    |none=>rw [hn] at hc;cases hc
    |some e=>
     rw [hn] at hc
     exact eq_of_beq (List.mem_filter.1 hc).2
 generalize zmo h kd h.evs.length=L at hkk
 cases L with
 |nil=>rfl
 |cons x r=>
  rw [zyo,zyo,zhk r x fun a ha b hb=> ?_]
  rw [zw4,hkk a (by simp [ha]),hkk b hb];simp [zec]
def zkm (l:List Conf):List Conf:=zhe ze7 ((zbg l).map Prod.snd)
theorem yjy {h:Hist} (hs:zap h=true) {x:Int} (h0:0≤x) (h1:x < h.os.length) {k:Nat} (hk:k < (zba h x).length):zij h x (zjt h x (zba h x)[k])=some ((k:Int)+1):=by
 obtain ⟨v,i,hf,⟨hi,_⟩,hv,hr,_⟩:=zs3 hs h0 h1 hk
 have e:zjt h x (zba h x)[k]=v:=by rw [zjt,hf];rfl
 rw [e,zij,zk3 hs v h0 h1 _ (Nat.le_refl _) h1,if_neg (by rintro rfl;exact absurd hv (by decide)),hr,if_pos (by omega)]
theorem zqs (l:List Conf):((zbg l).map Prod.snd).Pairwise fun a b=>zea a≠zea b:=by
 rw [List.pairwise_map]
 have hn:=zc2 l
 rw [List.Nodup,List.pairwise_map] at hn
 rw [List.pairwise_iff_getElem] at hn ⊢
 intro i j hi hj hij e
 have k1:∀p∈zbg l,zea p.2=p.1:=fun p hp=>by
  have hg:=(zgr (k:=p.1) (v:=p.2) (zc2 l)).2 hp
  have:=zqt l p.1
  rw [hg] at this
  exact this.1
 have:=hn i j hi hj hij
 rw [←k1 _ (List.getElem_mem hi),←k1 _ (List.getElem_mem hj)] at this
 exact this e
theorem zv3 (l:List Conf):((zbg l).map Prod.snd).Nodup:=(zqs l).imp fun h e=>h (by rw [e])
theorem zra (l:List Conf) (z:Conf):z∈zkm l ↔ zq4 l z:=by
 rw [zkm,(zd9 ze7 _).mem_iff,zqu]
theorem zq9 (l:List Conf):(zkm l).Pairwise (LtC ze7):=ztv zif (zjb zhm _) ((zd9 _ _).nodup_iff.2 (zv3 l))
theorem zoz (l:List Conf):(zkm l).Pairwise fun a b=>zea a≠zea b:=((zd9 ze7 _).pairwise_iff (fun {a b} (h:zea a≠zea b)=>h.symm)).2 (zqs l)
theorem zob {h:Hist} (hs:zap h=true) {x:Int} (h0:0≤x) (h1:x < h.os.length) {k:Nat} (hk:k < (zba h x).length):∃i,∃hi:i < h.evs.length,zog h.evs (zba h x)[k] x=some (h.evs[i].v,i)∧zg7 h (zba h x)[k] x=(i:Int)∧h.evs[i].kind=2∧h.evs[i].t=(zba h x)[k]∧h.evs[i].o=x∧0 < h.evs[i].v.k∧h.evs[i].v.t=(zba h x)[k]:=by
 obtain ⟨v,i,hf,_,hv,_⟩:=zs3 hs h0 h1 hk
 obtain ⟨hi,e1,e2,e3,_⟩:=zh8 hs hf
 obtain ⟨w1,w2,w3⟩:=zgj.1 e2
 exact ⟨i,hi,by rw [hf,e1],by rw [zg7,hf];rfl,w1,w2,w3,by rw [e1];exact hv,by rw [e1];exact e3⟩
theorem yih {h:Hist} (hm:h.mats= []) (p x:Int):chL h p x= []:=by
 rw [chL]
 split
 ·rw [List.eq_nil_iff_forall_not_mem]
  intro z hz
  rw [yig,zih] at hz
  obtain ⟨k,_,k0,k1,k2⟩:=hz
  have hn:yhk h p x=none:=by rw [yhk,hm];rfl
  rw [List.getElem?_eq_getElem k1,List.getElem?_eq_getElem (show k - 1 < _ by omega),zs6 hn,zs6 hn] at k2
  exact k2 rfl
 ·rfl
theorem zk0 {h:Hist} {kd:Int} {z:Conf}:∀{n:Nat},n≤h.evs.length→(z∈za0 h kd n ↔ ∃j,∃hj:j < h.evs.length,j < n∧h.evs[j].kind=kd∧z∈zbl h h.evs[j] j)
 |0,_=>by simp [za0]
 |n+1,hn=>by
  rw [za0,List.mem_append,zk0 (n:=n) (by omega),List.getElem?_eq_getElem (by omega)]
  simp only
  constructor
  ·rintro (⟨j,hj,q,r⟩|q)
   ·exact ⟨j,hj,by omega,r⟩
   ·split at q
    ·rename_i e;exact ⟨n,by omega,by omega,eq_of_beq e,q⟩
    ·cases q
  ·rintro ⟨j,hj,q,r,w⟩
   by_cases e:j=n
   ·subst e;right;rw [if_pos (by simpa using r)];exact w
   ·left;exact ⟨j,hj,by omega,r,w⟩
theorem znv (h:Hist) (kd:Int):zen h kd=zkm (za0 h kd h.evs.length):=rfl
theorem ygc {h:Hist} (hs:zap h=true) {x:Int} (h0:0≤x) (h1:x < h.os.length) {v:Ver} {r:Int} (hr:zij h x v=some r):(if v=⟨0,0⟩ then ((0:Int),true) else (zhz h x v+1,decide (zhz h x v ≥ 0)))=(r,true):=by
 rw [zij,zk3 hs v h0 h1 _ (Nat.le_refl _) h1] at hr
 by_cases q:v=⟨0,0⟩
 ·rw [if_pos q] at hr ⊢;injection hr with hr;rw [hr]
 ·rw [if_neg q] at hr ⊢
  split at hr
  ·rename_i q2;injection hr with hr;rw [hr,decide_eq_true q2]
  ·cases hr
theorem yjw {h:Hist} (hs:zap h=true) {x:Int} (h0:0≤x) (h1:x < h.os.length) {v:Ver} {r:Int} (hr:zij h x v=some r):0≤r:=by
 rw [ygd hs h0 h1] at hr;exact yeb hr
theorem zp2 {h:Hist} (hs:zap h=true) {e:Ev} {c:Int} {a:Nat} {x r:Int} (h0:0≤x) (h1:x < h.os.length) (r1:1≤r) {z:Conf} (hz:zdl h e c a x r=some z):∃k,∃hk:k < (zba h x).length,r=(k:Int)+1∧∃j,∃hj:j < h.evs.length,z=⟨e.t,(zba h x)[k],c,a,(j:Int),x,e.p⟩∧(zba h x)[k]≠e.t∧h.evs[j].kind=2∧h.evs[j].t=(zba h x)[k]∧h.evs[j].o=x∧zij h x h.evs[j].v=some r:=by
 unfold zdl at hz
 split at hz
 ·cases hz
 ·split at hz
  ·cases hz
  ·rename_i q1 q2
   have hk:(r - 1).toNat < (zba h x).length:=by omega
   rw [List.getElem?_eq_getElem hk] at hz q2
   simp only [Option.getD_some] at hz q2
   injection hz with hz
   obtain ⟨j,hj,a1,a2,a3,a4,a5,a6,a7⟩:=zob hs h0 h1 hk
   refine ⟨(r - 1).toNat,hk,by omega,j,hj,by rw [←hz,a2],fun q=>q2 (beq_iff_eq.2 q),a3,a4,a5,?_⟩
   have:=yjy hs h0 h1 hk
   rw [zjt,a1] at this
   rw [show h.evs[j].v=zwa (some (h.evs[j].v,j)) from rfl,this]
   congr 1;omega
theorem yer {h:Hist} (hs:zap h=true) {x:Int} (h0:0≤x) (h1:x < h.os.length) {t:Int} (ht:t∈zba h x):0≤t∧t < h.ts.length:=by
 obtain ⟨k,hk,rfl⟩:=List.mem_iff_getElem.1 ht
 obtain ⟨j,hj,_,_,_,a4,_⟩:=zob hs h0 h1 hk
 rw [←a4]
 exact yk1 (zdu hs).1 _ (List.getElem_mem hj)
theorem zpk {h:Hist} (hs:zap h=true) {i:Nat} (hi:i < h.evs.length) (h3:h.evs[i].kind=3) {z:Conf} (hz:z∈zbl h h.evs[i] i):(0≤z.o∧z.o < h.os.length)∧z.k=3∧z.p=0∧z.f≠z.t∧z.a=(i:Int)∧z.f=h.evs[i].t∧z.o=h.evs[i].o∧zhq h.evs z.f 5=true∧∃k,∃hk:k < (zba h z.o).length,zij h z.o h.evs[i].v=some (k:Int)∧(zba h z.o)[k]=z.t∧∃j,∃hj:j < h.evs.length,z.b=(j:Int)∧h.evs[j].kind=2∧h.evs[j].t=z.t∧h.evs[j].o=z.o:=by
 obtain ⟨⟨o0,o1⟩,ep⟩:=zpj (zdq hs _ (List.getElem_mem hi)) h3
 unfold zbl at hz
 split at hz
 ·rename_i hc
  rw [v7,if_pos h3,List.mem_flatMap] at hz
  obtain ⟨p,hp,hz⟩:=hz
  unfold zdr at hp
  split at hp
  ·cases hp
  ·rename_i r hr
   rw [List.mem_singleton] at hp
   subst hp
   rw [zeu,if_pos h3,List.mem_filterMap] at hz
   obtain ⟨q,hq,hz⟩:=hz
   rw [List.mem_singleton] at hq
   subst hq
   have r0:=yjw hs o0 o1 hr
   obtain ⟨k,hk,ek,j,hj,ez,a1,a2,a3,a4,_⟩:=zp2 hs o0 o1 (by omega) hz
   subst ez
   refine ⟨⟨o0,o1⟩,rfl,ep,fun q=>a1 q.symm,rfl,rfl,rfl,hc,k,hk,by rw [hr];congr 1;omega,rfl,j,hj,rfl,a2,a3,a4⟩
 ·cases hz
theorem zwz {h:Hist} {e:Ev} {n:Nat} {s:Seen} (hs:s∈zb3 h e n):(0≤s.o∧s.o < h.os.length)∧∃hk:s.o.toNat < (zb3 h e n).length,(zb3 h e n)[s.o.toNat]=s:=by
 obtain ⟨k,hk,rfl⟩:=List.mem_iff_getElem.1 hs
 have e1:=ynb hk
 have e2:=zrj h e n
 refine ⟨by omega,by omega,?_⟩
 congr 1
 omega
theorem zkx {h:Hist} (hs:zap h=true) {i:Nat} (hi:i < h.evs.length) (h4:h.evs[i].kind=4) {z:Conf} (hz:z∈zbl h h.evs[i] i):(0≤z.o∧z.o < h.os.length)∧z.k=4∧z.f≠z.t∧z.a=(i:Int)∧z.f=h.evs[i].t∧z.p=h.evs[i].p∧z.t∈zba h z.o∧(0≤z.p∧z.p < h.ps.length)∧∃r k:Int,(∃hk:z.o.toNat < (zb3 h h.evs[i] i).length,zij h z.o (zb3 h h.evs[i] i)[z.o.toNat].v=some r)∧r < k∧k∈chL h z.p z.o∧∃j,∃hj:j < h.evs.length,z.b=(j:Int)∧h.evs[j].kind=2∧h.evs[j].t=z.t∧h.evs[j].o=z.o∧zij h z.o h.evs[j].v=some k:=by
 have hp:=yd7 (zdq hs _ (List.getElem_mem hi)) h4
 unfold zbl at hz
 split at hz
 ·rw [v7,if_neg (by omega),if_pos h4,List.mem_flatMap] at hz
  obtain ⟨p,hpp,hz⟩:=hz
  rw [zfc,List.mem_filterMap] at hpp
  obtain ⟨s,hsm,hpp⟩:=hpp
  obtain ⟨⟨o0,o1⟩,hk1,hk2⟩:=zwz hsm
  unfold zcj at hpp
  split at hpp
  ·cases hpp
  ·rename_i r hr
   split at hpp
   ·injection hpp with hpp
    subst hpp
    rw [zeu,if_neg (by omega),if_pos h4,List.mem_filterMap] at hz
    obtain ⟨k,hk,hz⟩:=hz
    have ht:zg3 h h.evs[i].p s.o=0:=zrg.2 ⟨zaz.2 hs,⟨o0,o1⟩,hp⟩
    have hlt:(chL h h.evs[i].p s.o).Pairwise (· < ·):=by rw [chL,if_pos ht];exact zst _ _
    simp only at hk hz
    rw [rwOver,zlm hlt,List.mem_filter] at hk
    obtain ⟨hk,hkr⟩:=hk
    have hkr:=oT hkr
    have r0:=yjw hs o0 o1 hr
    obtain ⟨m,hm,em,j,hj,ez,a1,a2,a3,a4,a5⟩:=zp2 hs o0 o1 (by omega) hz
    subst ez
    refine ⟨⟨o0,o1⟩,rfl,fun q=>a1 q.symm,rfl,rfl,rfl,List.getElem_mem hm,hp,r,k,⟨hk1,by rw [hk2];exact hr⟩,by omega,hk,j,hj,rfl,a2,a3,a4,a5⟩
   ·cases hpp
 ·cases hz
theorem zji {h:Hist} {e:Ev} {a:Nat} (h3:e.kind≠3) (h4:e.kind≠4):zbl h e a= []:=by
 rw [zbl,v7,if_neg h3,if_neg h4];simp
def ykn (h:Hist) (e:Ev) (a:Nat):List Int:=zbm (srt ((zbl h e a).map Conf.t))
theorem yls {h:Hist} (hs:zap h=true) {i:Nat} (hi:i < h.evs.length) {z:Conf} (hz:z∈zbl h h.evs[i] i):0≤z.t∧z.t < h.ts.length:=by
 by_cases h3:h.evs[i].kind=3
 ·obtain ⟨⟨o0,o1⟩,_,_,_,_,_,_,_,k,hk,_,e,_⟩:=zpk hs hi h3 hz
  rw [←e];exact yer hs o0 o1 (List.getElem_mem hk)
 ·by_cases h4:h.evs[i].kind=4
  ·obtain ⟨⟨o0,o1⟩,_,_,_,_,_,e,_⟩:=zkx hs hi h4 hz
   exact yer hs o0 o1 e
  ·rw [zji h3 h4] at hz;cases hz
theorem zw6 {h:Hist} (hm:h.mats= []):∀n,za0 h 4 n= []
 |0=>rfl
 |n+1=>by
  rw [za0,zw6 hm n]
  cases h.evs[n]? with
  |none=>rfl
  |some e=>
   simp only [List.nil_append]
   split
   ·rename_i q
    have q:=eq_of_beq q
    rw [zbl]
    split
    ·rw [v7,if_neg (by omega),if_pos q,zfc,List.flatMap_eq_nil_iff]
     intro p hp
     rw [List.mem_filterMap] at hp
     obtain ⟨s,_,hp⟩:=hp
     unfold zcj at hp
     rw [yih hm] at hp
     split at hp
     ·cases hp
     ·simp at hp
    ·rfl
   ·rfl
theorem zpc {h:Hist} (hm:h.mats= []):zen h 4= []:=by rw [zen,zw6 hm];simp [zbg,zhe,zgm]
def bPP:ByteArray:=⟨#[80]⟩
def sr0:List Ev:= [yi6 0,⟨3,0,0,0,0,⟨0,0⟩,0,[]⟩,⟨4,0,0,0,0,⟨0,0⟩,0,[]⟩,yi5 0]
def srE:Nat→List Ev
 |0=>sr0
 |k+1=>srE k++ [yi6 (k+1:Nat),ym4 (k+1:Nat) 0,yi5 (k+1:Nat)]
theorem yjh (k:Nat):srE (k+1)=srE k++ [yi6 (k+1:Nat),ym4 (k+1:Nat) 0,yi5 (k+1:Nat)]:=rfl
theorem yfn (k:Nat):(srE k).length=4+3 * k:=by
 induction k with
 |zero=>rfl
 |succ k ih=>rw [yjh,List.length_append,ih];simp only [List.length_cons,List.length_nil];omega
def rwH:Hist:=⟨[wT 48,wT 49,wT 50],[zui],[bxx],[bPP],srE 2,[⟨0,[1,2]⟩],[⟨0,0,false,[2]⟩],[]⟩
theorem zw8:zfs rwH=true:=by decide+kernel
theorem zpb:zap rwH=true:=by
 have:zjs rwH=none:=(ydg zw8).trans (by decide+kernel)
 rw [zap,zw8,this];rfl
theorem zfx:u3 rwH=0:=zaz.2 zpb
theorem zw9:zen rwH 3= [⟨0,1,3,1,5,0,0⟩]:=by decide+kernel
theorem zw7:zen rwH 4= [⟨0,2,4,2,8,0,0⟩]:=(zky zpb (.inr rfl) (.refl _)).trans (by decide+kernel)
theorem ybk:(⟨0,1,3,1,5,0,0⟩:Conf)∈zbl rwH (rwH.evs[1]'(by decide)) 1:=by decide+kernel
def zae (h:Hist):Hist:={h with evs:=h.evs.take 60}
theorem zbv {h:Hist} {N:Nat} (la:Lim N h):Lim N (zae h):=
 ⟨la.ts,la.ss,la.os,la.ps,by have:=la.evs;simp only [zae,List.length_take];omega,la.ords,la.mats,la.wants,fun e he=>la.scans e (List.mem_of_mem_take he),la.ordts,la.matts⟩
theorem zvh (h:Hist):(zae h).evs.length≤60:=by simp only [zae,List.length_take];omega
end Go.H
