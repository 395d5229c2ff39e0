/- The abstract logic, part 28: slices.Sort and slices.Compact at []int, as contracts over a row of one's own (the kit's shelf has walked them). .. -/
import Derived.Test.YtfmcbdjnmlcacaaGreatDoorWJsE
import Derived.Shelf.Sort.Plain
import Derived.Shelf.Slices.In.SortNone
import Derived.Shelf.Slices.CompactI
set_option linter.unusedSectionVars false
set_option linter.unusedSimpArgs false
set_option linter.unusedVariables false
namespace Go.Ab
open Go Go.Shelf Go.Sort Go.Proofs
def numR (n:Int):List AV:= [.v (.int .i64 n)]
theorem zwx {X:Nat→Prop} {w:World} {a:Addr} {cap:Nat} {T:TypeId} {xs ys zs:List Int} (hh:HRel X w [.row (.slice (some a) xs.length cap) 1 T (xs.map numR)]) (hl:ys.length=xs.length) (hz:zs=ys.take zs.length) (n:Nat) (os:Array Obj):
 HRel X (grow (putRow (Value.int .i64) (Sort.ahead w n) a.block a.off ys.toArray) os) [.row (.slice (some a) zs.length cap) 1 T (zs.map numR)]∧
 Keep [a.block] w [a.block] (grow (putRow (Value.int .i64) (Sort.ahead w n) a.block a.off ys.toArray) os):=by
 obtain ⟨h1,h2,h3,h4,c,h5,h6,h7⟩:=hh.holds _ (List.mem_singleton.2 rfl)
 have hb:a.block < w.heap.size:=(hh.lt a.block (by simp [k8,Res.own])).1
 have hX:¬X a.block:=(hh.lt a.block (by simp [k8,Res.own])).2
 obtain ⟨w',hw'⟩:∃w',w'=grow (putRow (Value.int .i64) (Sort.ahead w n) a.block a.off ys.toArray) os:=⟨_,rfl⟩
 rw [←hw']
 have hheap:w'.heap=(w.heap.modify a.block (onCells (putCells (Value.int .i64) a.off ys.toArray)))++os:=by rw [hw'];rfl
 have hos:zi5 w w':=by rw [hw'];exact ⟨⟨rfl,rfl⟩,rfl,Nat.le_add_right _ _⟩
 have hsize:w.heap.size≤w'.heap.size:=by rw [hheap];simp
 have hold:∀b,b < w.heap.size→b≠a.block→w'.heap[b]? =w.heap[b]? :=fun b hb hne=>by
  rw [hheap,Array.getElem?_append_left (by simpa using hb),Array.getElem?_modify,if_neg (Ne.symm hne)]
 have hnew:w'.heap[a.block]? =some (.cells (putCells (Value.int .i64) a.off ys.toArray c) T (0,0)):=by
  rw [hheap,Array.getElem?_append_left (by simpa using hb),Array.getElem?_modify,if_pos rfl,h5];rfl
 have hlen:zs.length≤ys.length:=by
  have:=congrArg List.length hz
  rw [List.length_take] at this;omega
 refine ⟨⟨by simp [k8,Res.own],fun b hb2=> ?_,fun b hb2=>Nat.lt_of_lt_of_le (hh.xlt b hb2) hsize,fun r hr=> ?_⟩,⟨hsize,fun b hb2 hne=> ?_,hos⟩⟩
 ·have:b=a.block:=by simpa [k8,Res.own] using hb2
  subst this;exact ⟨Nat.lt_of_lt_of_le hb hsize,hX⟩
 ·rw [List.mem_singleton] at hr
  subst hr
  refine ⟨h1,by simp,by simp at h2 h3;omega,fun i hi=>by simp [numR],_,hnew,by simpa [putCells] using h6,fun i hi j hj=> ?_⟩
  have hi2:i < zs.length:=by simpa using hi
  have hj0:j=0:=by simp [numR] at hj;omega
  subst hj0
  have hc:a.off+i < c.size:=by simp at h2 h3;omega
  refine ⟨.int .i64 (zs[i]),?_,?_⟩
  ·have hz2:zs[i]=ys[i]'(by omega):=by
    have:zs[i]? =(ys.take zs.length)[i]? :=by rw [←hz]
    rw [List.getElem?_take_of_lt hi2,List.getElem?_eq_getElem hi2,List.getElem?_eq_getElem (by omega)] at this
    exact Option.some.inj this
   have e:a.off+i * 1+0=a.off+i:=by omega
   rw [e]
   simp only [putCells,Array.getElem?_mapIdx]
   rw [Array.getElem?_eq_getElem hc]
   simp only [Option.map_some]
   rw [if_pos ⟨by omega,by simp;omega⟩,hz2]
   have e2:a.off+i - a.off=i:=by omega
   rw [e2]
   congr 2
   exact getElem!_pos _ _ (by simp;omega)
  ·simp only [List.getElem_map,numR]
   exact .v _
 ·have hne2:b≠a.block:=by simpa using hne
  exact ⟨hold b hb2 hne2,hne⟩
theorem zwy {X:Nat→Prop} {w:World} {a:Addr} {cap:Nat} {T:TypeId} {xs:List Int} (hh:HRel X w [.row (.slice (some a) xs.length cap) 1 T (xs.map numR)]):Holds (Value.int .i64) w a.block a.off xs.toArray∧a.block < w.heap.size∧xs.length≤cap∧a.spot=none:=by
 obtain ⟨h1,h2,h3,h4,c,h5,h6,h7⟩:=hh.holds _ (List.mem_singleton.2 rfl)
 refine ⟨fun j hj=> ?_,(hh.lt a.block (by simp [k8,Res.own])).1,h3,h1⟩
 have hj2:j < xs.length:=by simpa using hj
 obtain ⟨v,e,r⟩:=h7 j (by simpa using hj2) 0 (by simp [numR])
 simp only [List.getElem_map,numR] at r
 have hv:v= .int .i64 xs[j]:=r.v_eq
 subst hv
 have e0:a.off+j * 1+0=a.off+j:=by omega
 rw [e0] at e
 refine ⟨?_,?_⟩
 ·have e2:w.cell? ⟨a.block,a.off+j,none⟩=some (.int .i64 xs[j]):=by simp [World.cell?,h5,e]
  have e3:xs.toArray[j]! =xs[j]:=getElem!_pos xs.toArray j hj
  rw [e2,e3]
 ·simp [World.frozen?,h5]
theorem ybh {X:Nat→Prop} {w:World} {n cap:Nat} {T:TypeId} {xs:List Int} (hh:HRel X w [.row (.slice none n cap) 1 T (xs.map numR)]):xs= []∧n=0∧cap=0:=by
 obtain ⟨h1,h2,h3⟩:=hh.holds _ (List.mem_singleton.2 rfl)
 exact ⟨by simpa using h1,h2,h3⟩
section
variable {P:Program} {ρ:Ren}
theorem zz0 (Ly:Lays.n189 P ρ) (s:SV) (T:TypeId) (xs:List Int) (hs:xs.length < 4611686018427387904):
 y7 P (ρ.f 189) [.v s.v] [.row s.v 1 T (xs.map numR)] (fun r h'=>h'= [.row s.v 1 T ((xs.mergeSort fun x y=>decide (x≤y)).map numR)]∧r= .v (.tuple #[])):=by
 intro X w vs hh ha
 match vs,ha with
 | [v],⟨hv,_⟩=>
   obtain rfl:=hv.v_eq
   obtain ⟨a,n,cap⟩:=s
   cases a with
   |none=>
    obtain ⟨rfl,rfl,rfl⟩:=ybh hh
    refine callsIn_wide.2 ((Any.slices_Sort_int_none Ly none 0 w).mono ?_)
    rintro e w' ⟨rfl,rfl⟩
    exact ⟨_,_,_,rfl,⟨rfl,rfl⟩,.v _,by simpa using hh,.refl _ _⟩
   |some a=>
    have hn:n=xs.length:=by
     have:=(hh.holds _ (List.mem_singleton.2 rfl)).2.1
     simpa using this
    subst hn
    obtain ⟨g1,g2,g3,g4⟩:=zwy hh
    obtain ⟨b,off,sp⟩:=a
    simp only at g1 g2 g4
    subst g4
    refine callsIn_wide.2 ((Any.slices_Sort_int Ly b off cap xs w g1 g2 hs).mono ?_)
    rintro e w' ⟨rfl,n,os,rfl⟩
    have hlen:(xs.mergeSort fun x y=>decide (x≤y)).length=xs.length:=List.length_mergeSort _
    obtain ⟨k1,k2⟩:=zwx (zs:=xs.mergeSort fun x y=>decide (x≤y)) hh hlen (List.take_length).symm n os
    rw [hlen] at k1
    exact ⟨_,_,_,rfl,⟨rfl,rfl⟩,.v _,k1,k2⟩
theorem zrp (Ly:Lays2.n20 P ρ) (s:SV) (T:TypeId) (xs:List Int) (hs:xs.length≤4611686018427387904):
 y7 P (ρ.f 20) [.v s.v] [.row s.v 1 T (xs.map numR)] (fun r h'=>∃s':SV,h'= [.row s'.v 1 T ((Lib.compact xs).map numR)]∧r= .v s'.v):=by
 intro X w vs hh ha
 match vs,ha with
 | [v],⟨hv,_⟩=>
   obtain rfl:=hv.v_eq
   obtain ⟨a,n,cap⟩:=s
   cases a with
   |none=>
    obtain ⟨rfl,rfl,rfl⟩:=ybh hh
    refine callsIn_wide.2 ((Any.slices_Compact_int_empty Ly none 0 w).mono ?_)
    rintro e w' ⟨rfl,rfl⟩
    exact ⟨_,_,_,rfl,⟨⟨none,0,0⟩,rfl,rfl⟩,.v _,hh,.refl _ _⟩
   |some a=>
    have hn:n=xs.length:=by
     have:=(hh.holds _ (List.mem_singleton.2 rfl)).2.1
     simpa using this
    subst hn
    obtain ⟨g1,g2,g3,g4⟩:=zwy hh
    obtain ⟨b,off,sp⟩:=a
    simp only at g1 g2 g4
    subst g4
    refine callsIn_wide.2 ((Any.slices_Compact_int Ly b off cap xs w g1 (by omega) g3).mono ?_)
    rintro e w' ⟨rfl,q,rfl⟩
    have hle:(Lib.compact xs).length≤xs.length:=by
     unfold Lib.compact Lib.compactUpTo
     rw [oM]
     exact Nat.le_trans (List.length_filter_le _ _) (by simp)
    obtain ⟨k1,k2⟩:=zwx (ys:=Lib.compact xs++List.replicate (xs.length - (Lib.compact xs).length) 0) (zs:=Lib.compact xs) hh (by simp;omega) (by rw [List.take_left'];rfl) q #[]
    rw [grow_empty] at k1 k2
    exact ⟨_,_,_,rfl,⟨⟨some ⟨b,off,none⟩,(Lib.compact xs).length,cap⟩,rfl,rfl⟩,.v _,k1,k2⟩
end
end Go.Ab
namespace Go.H
open Go Go.Ab
theorem zp1 (y:Int):∀l:List Int,zb6 (l++ [y])=zb6 l++(if l.getLast? =some y then [] else [y])
 | []=>by simp [zb6]
 | [x]=>by
   by_cases h:x=y
   ·subst h;simp [zb6]
   ·simp [zb6,h]
 |x::z::r=>by
  have ih:=zp1 y (z::r)
  simp only [List.cons_append] at ih ⊢
  have hl:(x::z::r).getLast? =(z::r).getLast? :=by simp [List.getLast?_cons]
  rw [hl,zb6,zb6]
  by_cases h:x=z
  ·rw [if_pos h,if_pos h];exact ih
  ·rw [if_neg h,if_neg h,ih];rfl
theorem zzt (xs:List Int):Lib.compact xs=zb6 xs:=by
 have key:∀m,m≤xs.length→Lib.compactUpTo xs.toArray m=zb6 (xs.take m):=by
  intro m
  induction m with
  |zero=>intro _;rfl
  |succ m ih=>
   intro hm
   have hlt:m < xs.length:=hm
   rw [Lib.compactUpTo_succ,ih (by omega),List.take_succ_eq_append_getElem hlt,zp1]
   congr 1
   have e1:xs.toArray[m]! =xs[m]:=by simp [hlt]
   by_cases h0:m=0
   ·subst h0
    simp [Lib.keeps,hlt]
   ·have hlt':m - 1 < xs.length:=by omega
    have e2:xs.toArray[m - 1]! =xs[m - 1]:=by simp [hlt']
    have e3:(xs.take m).getLast? =some xs[m - 1]:=by
     rw [List.getLast?_eq_getElem?,List.length_take,Nat.min_eq_left (by omega),List.getElem?_take_of_lt (by omega)]
     simp [hlt']
    rw [e3]
    unfold Lib.keeps
    rw [e1,e2]
    by_cases he:xs[m]=xs[m - 1]
    ·rw [if_neg (by simp [h0,he]),if_pos (by rw [he])]
    ·rw [if_pos (by simp [he]),if_neg (fun q=>he (Option.some.inj q).symm)]
 have:=key xs.length (Nat.le_refl _)
 rw [List.take_length] at this
 exact this
def ykt (l:List Ev):List (Int×Bool):=l.foldl (fun m e=>zdw e.t ((za9 e.t m).getD false||e.kind==5) m) []
theorem yd8 (t:Int):∀(l:List Ev) (m:List (Int×Bool)),(za9 t (l.foldl (fun m e=>zdw e.t ((za9 e.t m).getD false||e.kind==5) m) m)).getD false=((za9 t m).getD false||l.any fun y=>y.t==t && y.kind==5)
 | [],m=>by simp
 |e::l,m=>by
  rw [List.foldl_cons,yd8 t l,List.any_cons,zce]
  by_cases h:e.t=t
  ·subst h;simp [Bool.or_assoc]
  ·have:(e.t==t)=false:=by simpa using h
   rw [if_neg h,this,Bool.false_and,Bool.false_or]
theorem zmr (l:List Ev) (t:Int):(za9 t (ykt l)).getD false=l.any fun y=>y.t==t && y.kind==5:=by
 rw [ykt,yd8];simp [za9]
theorem zki {l:List Ev} {k:Nat} (hk:k < l.length):ykt (l.take (k+1))=zdw l[k].t ((za9 l[k].t (ykt (l.take k))).getD false||l[k].kind==5) (ykt (l.take k)):=by
 rw [List.take_succ_eq_append_getElem hk,ykt,List.foldl_append];rfl
section
variable {α:Type} {l:List α} {k:Nat} {p:α→Bool}
theorem yu8 (hk:k < l.length) (h:p l[k]=true):(l.take (k+1)).filter p=(l.take k).filter p++ [l[k]]:=by
 rw [List.take_succ_eq_append_getElem hk,List.filter_append];simp [h]
theorem yn8 (hk:k < l.length) (h:p l[k]=false):(l.take (k+1)).filter p=(l.take k).filter p:=by
 rw [List.take_succ_eq_append_getElem hk,List.filter_append];simp [h]
theorem ydt:((l.take k).filter p).length≤l.length:=Nat.le_trans (List.length_filter_le _ _) (by simp;omega)
end
def wrB (l:List Ev) (x:Int) (e:Ev):Bool:=e.kind==2 && e.o==x && l.any fun y=>y.t==e.t && y.kind==5
theorem zt6 (l:List Ev) (x:Int):za4 l x=zb6 (srt ((l.filter (wrB l x)).map Ev.t)):=rfl
theorem ztl (l:List Int) (n:Int):(l.any fun a=>a==n)=l.contains n:=by
 rw [Bool.eq_iff_iff];simp
theorem zkq (l:List Ev) (x:Int):(za4 l x).length≤l.length:=by
 rw [zt6]
 refine Nat.le_trans (zn2 _) ?_
 rw [(zcx _).length_eq,oM]
 exact List.length_filter_le _ _
theorem zk6 (a b:Nat):((a:Int) !=(b:Int))= !decide (a=b):=by
 rw [Bool.eq_iff_iff];simp;omega
theorem y0.new {P:Program} {fv:AV} {args:List AV} {h:List Res} {R:AV→List Res→Prop} (hc:y0 P fv args [] R):y0 P fv args h (fun r h'=>∃h1,R r h1∧h'=h1++h):=
 (hc.frame h).mono fun _ _ ⟨h1,e,q⟩=>⟨h1,q,e⟩
def zhe (h:Hist) (n many:Int):Int:=if v6 h=0 then (if 0≤n∧n < many then 0 else 2) else v6 h
def onE (e:Int) (l:List Int):List Int:=if e=0 then l else []
theorem yor {h:Hist} {n many:Int} (he:zhe h n many=0):zar h=true∧0≤n∧n < many:=by
 unfold zhe at he
 split at he
 ·rename_i hc
  split at he
  ·rename_i hn;exact ⟨za6.1 hc,hn⟩
  ·cases he
 ·rename_i hc;exact absurd he hc
theorem ask_c {h:Hist} {n many:Int} (hc:v6 h≠0):zhe h n many=v6 h:=by rw [zhe,if_neg hc]
theorem zzw {h:Hist} {n many:Int} (hc:v6 h=0) (hn:¬(0≤n∧n < many)):zhe h n many=2:=by rw [zhe,if_pos hc,if_neg hn]
theorem zv6 {h:Hist} {n many:Int} (hc:v6 h=0) (hn:0≤n∧n < many):zhe h n many=0:=by rw [zhe,if_pos hc,if_pos hn]
theorem yk0 (h:Hist):zhe h 0 1=v6 h:=by
 unfold zhe;split
 ·rename_i h0;rw [h0];rfl
 ·rfl
def zpx (l:List Ev):List (Int×Bool):=zsb (fun e:Ev=>e.kind==5) Ev.t [] l
theorem yis (l:List Ev) (t:Int):(za9 t (zpx l)).getD false=ze6 l t 5:=by
 rw [zpx,zgp,zft]
 have:(l.any fun e=>e.kind==5 && decide (e.t=t))=l.any fun y=>y.t==t && y.kind==5:=by
  congr 1;funext e;rw [Bool.and_comm];rfl
 rw [this]
 cases l.any fun y=>y.t==t && y.kind==5 <;> rfl
theorem ysg {l:List Ev} {k:Nat} (hk:k < l.length) (h5:(l[k].kind==5)=true):zpx (l.take (k+1))=zdw l[k].t true (zpx (l.take k)):=by
 rw [List.take_succ_eq_append_getElem hk,zpx,zsb,List.foldl_append,List.foldl_cons,List.foldl_nil,if_pos h5];rfl
theorem ysh {l:List Ev} {k:Nat} (hk:k < l.length) (h5:(l[k].kind==5)=false):zpx (l.take (k+1))=zpx (l.take k):=by
 rw [List.take_succ_eq_append_getElem hk,zpx,zsb,List.foldl_append,List.foldl_cons,List.foldl_nil,if_neg (by rw [h5];decide)];rfl
section
variable {α:Type} (cmp:α→α→Int)
def mrg:List α→List α→List α
 | [],b=>b
 |x::a,[]=>x::a
 |x::a,y::b=>if cmp y x < 0 then y::mrg (x::a) b else x::mrg a (y::b)
termination_by a b=>a.length+b.length
theorem zka:∀(a b:List α),(mrg cmp a b).Perm (a++b)
 | [],b=>by simp [mrg]
 |x::a,[]=>by simp [mrg]
 |x::a,y::b=>by
  rw [mrg]
  split
  ·exact ((zka (x::a) b).cons y).trans (List.perm_middle (l₁:=x::a)).symm
  ·exact (zka a (y::b)).cons x
termination_by a b=>a.length+b.length
def LeC (a b:α):Prop:=cmp a b≤0
structure CmpOk:Prop where
 trans:∀a b c,cmp a b≤0→cmp b c≤0→cmp a c≤0
 anti:∀a b,cmp b a= - cmp a b
variable {cmp}
theorem zk4 (ok:CmpOk cmp):∀(a b:List α),a.Pairwise (LeC cmp)→b.Pairwise (LeC cmp)→(mrg cmp a b).Pairwise (LeC cmp)
 | [],b,_,hb=>by simpa [mrg] using hb
 |x::a,[],ha,_=>by simpa [mrg] using ha
 |x::a,y::b,ha,hb=>by
  rw [mrg]
  have ha':=List.pairwise_cons.1 ha
  have hb':=List.pairwise_cons.1 hb
  split
  ·rename_i h
   refine List.pairwise_cons.2 ⟨fun z hz=> ?_,zk4 ok (x::a) b ha hb'.2⟩
   have hz':=(zka cmp (x::a) b).mem_iff.1 hz
   rcases List.mem_append.1 hz' with hz'|hz'
   ·have hyx:LeC cmp y x:=Int.le_of_lt h
    rcases List.mem_cons.1 hz' with rfl|hz'
    ·exact hyx
    ·exact ok.trans _ _ _ hyx (ha'.1 z hz')
   ·exact hb'.1 z hz'
  ·rename_i h
   have hxy:LeC cmp x y:=by have:=ok.anti x y;show cmp x y≤0;omega
   refine List.pairwise_cons.2 ⟨fun z hz=> ?_,zk4 ok a (y::b) ha'.2 hb⟩
   have hz':=(zka cmp a (y::b)).mem_iff.1 hz
   rcases List.mem_append.1 hz' with hz'|hz'
   ·exact ha'.1 z hz'
   ·rcases List.mem_cons.1 hz' with rfl|hz'
    ·exact hxy
    ·exact ok.trans _ _ _ hxy (hb'.1 z hz')
termination_by a b=>a.length+b.length
variable (cmp)
def zew:List (List α)→List (List α)
 |a::b::r=>mrg cmp a b::zew r
 |l=>l
theorem zgc:∀l:List (List α),(zew cmp l).length=(l.length+1) / 2
 | []=>by simp [zew]
 | [a]=>by simp [zew]
 |a::b::r=>by rw [zew,List.length_cons,zgc r,List.length_cons,List.length_cons];omega
theorem znl:∀l:List (List α),(zew cmp l).flatten.Perm l.flatten
 | []=> .refl _
 | [a]=> .refl _
 |a::b::r=>by
  rw [zew,List.flatten_cons,List.flatten_cons,List.flatten_cons,←List.append_assoc]
  exact (zka cmp a b).append (znl r)
def yaw (l:List (List α)):List (List α):=if h:1 < l.length then yaw (zew cmp l) else l
termination_by l.length
decreasing_by rw [zgc];omega
theorem zug {l:List (List α)} (h:1 < l.length):yaw cmp l=yaw cmp (zew cmp l):=by rw [yaw,dif_pos h]
theorem zqo {l:List (List α)} (h:¬1 < l.length):yaw cmp l=l:=by rw [yaw,dif_neg h]
theorem zr3 (l:List (List α)):(yaw cmp l).flatten.Perm l.flatten:=by
 by_cases h:1 < l.length
 ·rw [zug cmp h]
  have:(zew cmp l).length < l.length:=by rw [zgc];omega
  exact (zr3 (zew cmp l)).trans (znl cmp l)
 ·rw [zqo cmp h]
termination_by l.length
theorem zqn (l:List (List α)):(yaw cmp l).length≤1:=by
 by_cases h:1 < l.length
 ·rw [zug cmp h]
  have:(zew cmp l).length < l.length:=by rw [zgc];omega
  exact zqn (zew cmp l)
 ·rw [zqo cmp h];omega
termination_by l.length
def yax (l:List α):List α:=((yaw cmp (l.map fun x=> [x]))[0]?).getD []
theorem zzl (l:List (List α)) (h:l.length≤1):(l[0]?).getD []=l.flatten:=by
 match l,h with
 | [],_=>rfl
 | [a],_=>simp
theorem ydu (l:List α):(l.map fun x=> [x]).flatten=l:=by
 induction l with
 |nil=>rfl
 |cons a r ih=>rw [List.map_cons,List.flatten_cons,ih];rfl
theorem zo5 (l:List α):(yax cmp l).Perm l:=by
 rw [yax,zzl _ (zqn cmp _)]
 have:=zr3 cmp (l.map fun x=> [x])
 rwa [ydu] at this
variable {cmp}
theorem zj5 (ok:CmpOk cmp):∀l:List (List α),(∀r∈l,r.Pairwise (LeC cmp))→∀r∈zew cmp l,r.Pairwise (LeC cmp)
 | [],_,r,h=>by cases h
 | [a],hl,r,h=>hl r h
 |a::b::q,hl,r,h=>by
  rw [zew] at h
  rcases List.mem_cons.1 h with rfl|h
  ·exact zk4 ok a b (hl a (by simp)) (hl b (by simp))
  ·exact zj5 ok q (fun r hr=>hl r (by simp [hr])) r h
theorem zm9 (ok:CmpOk cmp) (l:List (List α)) (hl:∀r∈l,r.Pairwise (LeC cmp)):∀r∈yaw cmp l,r.Pairwise (LeC cmp):=by
 by_cases h:1 < l.length
 ·rw [zug cmp h]
  have:(zew cmp l).length < l.length:=by rw [zgc];omega
  exact zm9 ok (zew cmp l) (zj5 ok l hl)
 ·rw [zqo cmp h];exact hl
termination_by l.length
theorem zr5 (ok:CmpOk cmp) (l:List α):(yax cmp l).Pairwise (LeC cmp):=by
 have h:=zm9 ok (l.map fun x=> [x]) (fun r hr=>by obtain ⟨x,_,rfl⟩:=List.mem_map.1 hr;exact List.pairwise_singleton _ _)
 have hl:=zqn cmp (l.map fun x=> [x])
 rw [yax]
 match hs:yaw cmp (l.map fun x=> [x]),hl with
 | [],_=>exact .nil
 | [a],_=>exact h a (by rw [hs];simp)
def LtC (cmp:α→α→Int) (a b:α):Prop:=cmp a b < 0
theorem zxc (hz:∀a b,cmp a b=0→a=b):∀{l:List α},l.Pairwise (LeC cmp)→l.Nodup→l.Pairwise (LtC cmp):=by
 intro l h hn
 induction l with
 |nil=>exact .nil
 |cons a r ih=>
  rw [List.nodup_cons] at hn
  rw [List.pairwise_cons] at h ⊢
  refine ⟨fun b hb=> ?_,ih h.2 hn.2⟩
  have h1:=h.1 b hb
  have h2:cmp a b≠0:=fun e=>hn.1 (by rw [hz a b e];exact hb)
  show cmp a b < 0
  have:cmp a b≤0:=h1
  omega
theorem zu9 (ok:CmpOk cmp):∀(l m:List α),l.Pairwise (LtC cmp)→m.Pairwise (LtC cmp)→(∀z,z∈l ↔ z∈m)→l=m
 | [],[],_,_,_=>rfl
 | [],b::m,_,_,h=>by have:=(h b).2 (by simp);cases this
 |a::l,[],_,_,h=>by have:=(h a).1 (by simp);cases this
 |a::l,b::m,hl,hm,h=>by
  have hl':=List.pairwise_cons.1 hl
  have hm':=List.pairwise_cons.1 hm
  have irr:∀z,¬LtC cmp z z:=fun z hz=>by have:=ok.anti z z;have:cmp z z < 0:=hz;omega
  have e:a=b:=by
   rcases List.mem_cons.1 ((h a).1 (by simp)) with e|h1
   ·exact e
   ·rcases List.mem_cons.1 ((h b).2 (by simp)) with e|h2
    ·exact e.symm
    ·have h3:cmp b a < 0:=hm'.1 a h1
     have h4:cmp a b < 0:=hl'.1 b h2
     have:=ok.anti a b;omega
  subst e
  congr 1
  refine zu9 ok l m hl'.2 hm'.2 fun z=> ?_
  have hz:=h z
  simp only [List.mem_cons] at hz
  constructor
  ·intro q
   rcases hz.1 (.inr q) with rfl|q'
   ·exact absurd (hl'.1 _ q) (irr _)
   ·exact q'
  ·intro q
   rcases hz.2 (.inr q) with rfl|q'
   ·exact absurd (hm'.1 _ q) (irr _)
   ·exact q'
end
section
variable {α:Type} [DecidableEq α] (cmp:α→α→Int)
variable {cmp}
end
section
variable {α:Type}
end
variable {α:Type} (cmp:α→α→Int)
structure Conf where
 f:Int
 t:Int
 k:Int
 a:Int
 b:Int
 o:Int
 p:Int
 deriving DecidableEq
def zaf (c:Conf):List AV:= [iv c.f,iv c.t,iv c.k,iv c.a,iv c.b,iv c.o,iv c.p]
def zgh (l:List Conf):AV:= .list false 7 (l.map zaf)
theorem zmg (l:List Conf):∀r∈l.map zaf,r.all AV.one=true:=by
 intro r hr;obtain ⟨a,_,rfl⟩:=List.mem_map.1 hr;rfl
def yn9 (c:Conf):List Int:= [c.f,c.t,c.k,c.a,c.b,c.o,c.p]
def zl8:List Int→List Int→Int
 | [],[]=>0
 | [],_::_=> -1
 |_::_,[]=>1
 |x::a,y::b=>if x < y then -1 else if y < x then 1 else zl8 a b
def zi3 (a b:Conf):Int:=zl8 (yn9 a) (yn9 b)
theorem zn6:∀a b:List Int,zl8 b a= - zl8 a b
 | [],[]=>rfl
 | [],_::_=>rfl
 |_::_,[]=>rfl
 |x::a,y::b=>by
  rw [zl8,zl8]
  by_cases h:x < y
  ·rw [if_neg (show ¬y < x by omega),if_pos h,if_pos h];rfl
  ·by_cases h':y < x
   ·rw [if_pos h',if_neg h,if_pos h']
   ·rw [if_neg h',if_neg h,if_neg h,if_neg h',zn6 a b]
theorem zn5:∀a:List Int,zl8 a a=0
 | []=>rfl
 |x::a=>by rw [zl8,if_neg (by omega),if_neg (by omega),zn5 a]
theorem zto:∀a b:List Int,zl8 a b=0→a=b
 | [],[],_=>rfl
 | [],_::_,h=>by simp [zl8] at h
 |_::_,[],h=>by simp [zl8] at h
 |x::a,y::b,h=>by
  rw [zl8] at h
  split at h
  ·omega
  ·split at h
   ·omega
   ·rw [zto a b h,show x=y by omega]
theorem zim:∀a b c:List Int,zl8 a b≤0→zl8 b c≤0→zl8 a c≤0
 | [],[],c,_,h=>h
 | [],_::_,[],_,_=>by simp [zl8]
 | [],_::_,_::_,_,_=>by simp [zl8]
 |_::_,[],c,h,_=>by simp [zl8] at h
 |_::_,_::_,[],_,h=>by simp [zl8] at h
 |x::a,y::b,z::c,h1,h2=>by
  rw [zl8] at h1 h2 ⊢
  split at h1
  ·split at h2
   ·rw [if_pos (by omega)];omega
   ·split at h2
    ·omega
    ·rw [if_pos (by omega)];omega
  ·split at h1
   ·omega
   ·split at h2
    ·rw [if_pos (by omega)];omega
    ·split at h2
     ·omega
     ·rw [if_neg (by omega),if_neg (by omega)];exact zim a b c h1 h2
theorem yij {a b:Conf} (h:yn9 a=yn9 b):a=b:=by
 cases a;cases b;simp only [yn9,List.cons.injEq,and_true] at h;simp only [Conf.mk.injEq];exact h
theorem zf2:CmpOk zi3:=⟨fun a b c h k=>zim _ _ _ h k,fun a b=>zn6 _ _⟩
theorem zh9 (a b:Conf) (h:zi3 a b=0):a=b:=yij (zto _ _ h)
theorem yek (a:Conf):zi3 a a=0:=zn5 _
def zc9 (h:Hist) (t x:Int):Int:=atO (zi0 h.evs t x)
def zl7 (c:Conf):Int×Int:=(c.f,c.t)
theorem zk1 {K V:Type} [DecidableEq K] (k:K) (v:V):∀m:List (K×V),(m.map Prod.fst).Nodup→((zdw k v m).map Prod.fst).Nodup∧∀z,z∈(zdw k v m).map Prod.fst ↔ z=k∨z∈m.map Prod.fst
 | [],_=>⟨by simp [zdw],by simp [zdw]⟩
 |p::r,h=>by
  rw [List.map_cons,List.nodup_cons] at h
  obtain ⟨i1,i2⟩:=zk1 k v r h.2
  rw [zdw]
  by_cases e:p.1=k
  ·rw [if_pos e]
   exact ⟨by rw [List.map_cons,List.nodup_cons];exact h,fun z=>by simp [e]⟩
  ·rw [if_neg e]
   have hnm:p.1 ∉ (zdw k v r).map Prod.fst:=fun q=>by
    rcases (i2 _).1 q with q|q
    ·exact e q
    ·exact h.1 q
   refine ⟨by rw [List.map_cons,List.nodup_cons];exact ⟨hnm,i1⟩,fun z=> ?_⟩
   ·rw [List.map_cons,List.mem_cons,i2,List.map_cons,List.mem_cons]
    constructor
    ·rintro (q|q|q) <;> simp [q]
    ·rintro (q|q|q) <;> simp [q]
def zq5 (p o:Int) (r:Mat):Bool:=r.p==p && r.o==o
def ykc (h:Hist) (p o:Int):Option Mat:=h.mats.find? (zq5 p o)
def yo3:Mat:=⟨0,0,false,[]⟩
def yfo (h:Hist) (p o:Int):Mat:=(ykc h p o).getD yo3
def yjq (m:Mat) (ts:List Int):List Bool:=m.first::ts.map (fun t=>m.ts.contains t)
def zwn (h:Hist) (p o:Int):List Bool:=yjq (yfo h p o) (za0 h o)
def zob (l:List Bool):AV:= .list false 1 (l.map zoc)
theorem yhl (l:List Bool):∀r∈l.map zoc,r.all AV.one=true:=by
 intro r hr;obtain ⟨a,_,rfl⟩:=List.mem_map.1 hr;rfl
theorem zwm (m:Mat) (ts:List Int):(yjq m ts).length=ts.length+1:=by simp [yjq]
def yfq (h:Hist) (o:Int):Int:=zhe h o h.os.length
def zjx (h:Hist) (p o:Int):Int:=if yfq h o=0 then (if 0≤p∧p < h.ps.length then 0 else 2) else yfq h o
def mtE (h:Hist) (p o r:Int):Int:=if zjx h p o=0 then (if 0≤r∧r < (zwn h p o).length then 0 else 2) else zjx h p o
def mtB (h:Hist) (p o r:Int):Bool:=if mtE h p o r=0 then ((zwn h p o)[r.toNat]?).getD false else false
def zts (l:List Bool):Nat→List Int
 |0=> []
 |k+1=>zts l k++(if 0 < k∧l[k]? ≠l[k - 1]? then [(k:Int)] else [])
def yo6 (l:List Bool):List Int:=zts l l.length
def chL (h:Hist) (p o:Int):List Int:=if zjx h p o=0 then yo6 (zwn h p o) else []
theorem zmt (l:List Bool):∀(n:Nat) (z:Int),z∈zts l n ↔ ∃k:Nat,z=k∧0 < k∧k < n∧l[k]? ≠l[k - 1]?
 |0,z=>by simp [zts]
 |n+1,z=>by
  rw [zts,List.mem_append,zmt l n z]
  constructor
  ·rintro (⟨k,h1,h2,h3,h4⟩|h)
   ·exact ⟨k,h1,h2,by omega,h4⟩
   ·split at h
    ·rename_i hc
     rw [List.mem_singleton] at h
     exact ⟨n,h,hc.1,by omega,hc.2⟩
    ·cases h
  ·rintro ⟨k,h1,h2,h3,h4⟩
   by_cases e:k=n
   ·subst e;right;rw [if_pos ⟨h2,h4⟩,h1];simp
   ·left;exact ⟨k,h1,h2,by omega,h4⟩
theorem yen (l:List Bool):∀n:Nat,(zts l n).Pairwise (· < ·)
 |0=> .nil
 |n+1=>by
  rw [zts,List.pairwise_append]
  refine ⟨yen l n,by split <;> simp,fun a ha b hb=> ?_⟩
  obtain ⟨k,rfl,_,h3,_⟩:=(zmt l n a).1 ha
  split at hb
  ·rw [List.mem_singleton] at hb;subst hb;omega
  ·cases hb
theorem zxx (l:List Bool):∀n:Nat,(zts l n).length≤n
 |0=>by simp [zts]
 |n+1=>by
  have:=zxx l n
  rw [zts,List.length_append]
  split <;> simp <;> omega
theorem ysl {l:List Bool} {k:Nat} (h:k=0):zts l (k+1)=zts l k:=by rw [zts,if_neg (by omega)];simp
def mtM (m:Option Mat) (ts:List Int) (r:Int):Bool:=match m with
 |none=>false
 |some m=>if r=0 then m.first else m.ts.contains ((ts[(r - 1).toNat]?).getD 0)
def ztz (h:Hist) (p x r:Int):Bool:=mtM (ykc h p x) (zby h x) r
def chR (f:Nat→Bool):Nat→List Int
 |0=> []
 |k+1=>chR f k++(if f (k+1)≠f k then [((k+1:Nat):Int)] else [])
theorem chR_len (f:Nat→Bool):∀n:Nat,(chR f n).length≤n
 |0=>by simp [chR]
 |n+1=>by
  have:=chR_len f n
  rw [chR,List.length_append]
  split <;> simp <;> omega
theorem zxy {l:List Bool} {f:Nat→Bool} (hf:∀k,(h:k < l.length)→l[k]=f k):∀k,k < l.length→zts l (k+1)=chR f k
 |0,h=>ysl rfl
 |k+1,h=>by
  rw [zts,zxy hf k (by omega),chR]
  congr 1
  rw [List.getElem?_eq_getElem h,show k+1 - 1=k by omega,List.getElem?_eq_getElem (show k < l.length by omega),hf _ h,hf k (by omega)]
  by_cases e:f (k+1)=f k
  ·rw [if_neg (by rw [e];simp),if_neg (by simpa using e)]
  ·rw [if_pos ⟨by omega,by simpa using e⟩,if_pos e]
theorem zm8 (h:Hist) (p o:Int):(zwn h p o).length=(za0 h o).length+1:=zwm _ _
theorem yga (m:Option Mat) (ts:List Int) {k:Nat} (hk:k < (yjq (m.getD yo3) ts).length):(yjq (m.getD yo3) ts)[k]=mtM m ts k:=by
 unfold mtM
 have hl:=zwm (m.getD yo3) ts
 cases m with
 |none=>cases k with
  |zero=>rfl
  |succ k=>simp only [yjq,List.getElem_cons_succ,List.getElem_map];rfl
 |some m=>cases k with
  |zero=>rfl
  |succ k=>
   have hk':k < ts.length:=by omega
   simp only [yjq,List.getElem_cons_succ,List.getElem_map]
   rw [if_neg (by omega),show (((k+1:Nat):Int) - 1).toNat=k by omega,List.getElem?_eq_getElem hk'];rfl
theorem ylu {h:Hist} {p x:Int} (hi:za0 h x=zby h x) {k:Nat} (hk:k < (zwn h p x).length):(zwn h p x)[k]=ztz h p x k:=by
 rw [ztz,←hi];exact yga (ykc h p x) (za0 h x) hk
theorem ydk {h:Hist} {x:Int}:yfq h x=0 ↔ v6 h=0∧0≤x∧x < h.os.length:=by
 constructor
 ·intro e
  obtain ⟨a,b⟩:=yor e
  exact ⟨za6.2 a,b⟩
 ·rintro ⟨a,b⟩;exact zv6 a b
theorem yat {h:Hist} {p x:Int}:zjx h p x=0 ↔ v6 h=0∧(0≤x∧x < h.os.length)∧0≤p∧p < h.ps.length:=by
 unfold zjx
 by_cases e:yfq h x=0
 ·rw [if_pos e]
  obtain ⟨a,b⟩:=ydk.1 e
  by_cases hp:0≤p∧p < h.ps.length
  ·rw [if_pos hp];exact ⟨fun _=>⟨a,b,hp⟩,fun _=>rfl⟩
  ·rw [if_neg hp];exact ⟨fun q=>(by cases q),fun q=>absurd q.2.2 hp⟩
 ·rw [if_neg e];exact ⟨fun q=>absurd q e,fun q=>absurd (ydk.2 ⟨q.1,q.2.1⟩) e⟩
theorem yww {h:Hist} {p x r:Int} (he:zjx h p x≠0):mtE h p x r=zjx h p x∧mtB h p x r=false∧chL h p x= []:=by
 have e:mtE h p x r=zjx h p x:=by rw [mtE,if_neg he]
 exact ⟨e,by rw [mtB,e,if_neg he],by rw [chL,if_neg he]⟩
theorem zue {h:Hist} {p x:Int} (he:zjx h p x=0):za0 h x=zby h x:=by
 obtain ⟨a,⟨b,c⟩,_⟩:=yat.1 he
 exact znt (za6.1 a) b c
theorem ywz {h:Hist} {p x:Int} (he:zjx h p x=0):chL h p x=chR (fun k=>ztz h p x k) (zby h x).length:=by
 have hi:=zue he
 have hl:=zm8 h p x
 rw [chL,if_pos he,yo6,hl,←hi]
 exact zxy (f:=fun k=>ztz h p x k) (fun k hk=>ylu hi hk) _ (by omega)
def zuj (scan:List Seen) (x:Int):Option Ver:=(scan.filter fun s=>s.o==x).getLast?.map Seen.v
def yfk (l:List Ev) (t:Int) (n:Nat) (scan:List Seen) (x:Int):Ver:=match zuj scan x with
 |some v=>v
 |none=>zqk (zc8 l t x n)
def zz2 (l:List Ev) (t:Int):List (Int×Ver):=yfp (fun e:Ev=>e.t==t && e.kind==2) Ev.o Ev.v [] l
def yl7 (m:List (Int×Ver)) (scan:List Seen):List (Int×Ver):=yfp (fun _:Seen=>true) Seen.o Seen.v m scan
theorem ycd {l:List Ev} {t:Int} {k:Nat} (hk:k < l.length) (h:(l[k].t==t && l[k].kind==2)=true):zz2 (l.take (k+1)) t=zdw l[k].o l[k].v (zz2 (l.take k) t):=by
 rw [List.take_succ_eq_append_getElem hk,zz2,yfp,List.foldl_append,List.foldl_cons,List.foldl_nil,if_pos h];rfl
theorem yce {l:List Ev} {t:Int} {k:Nat} (hk:k < l.length) (h:(l[k].t==t && l[k].kind==2)=false):zz2 (l.take (k+1)) t=zz2 (l.take k) t:=by
 rw [List.take_succ_eq_append_getElem hk,zz2,yfp,List.foldl_append,List.foldl_cons,List.foldl_nil,if_neg (by rw [h];decide)];rfl
theorem yps {m:List (Int×Ver)} {l:List Seen} {k:Nat} (hk:k < l.length):yl7 m (l.take (k+1))=zdw l[k].o l[k].v (yl7 m (l.take k)):=by
 rw [List.take_succ_eq_append_getElem hk,yl7,yfp,List.foldl_append,List.foldl_cons,List.foldl_nil,if_pos rfl];rfl
theorem zls (l:List Ev) (t x:Int):∀n,n≤l.length→(zc8 l t x n).map Prod.fst=(((l.take n).filter (zam t x)).getLast?).map Ev.v
 |0,_=>by simp [zc8]
 |n+1,hn=>by
  have hk:n < l.length:=hn
  rw [zc8,List.getElem?_eq_getElem hk,List.take_succ_eq_append_getElem hk,List.filter_append]
  simp only
  by_cases hw:zam t x l[n]=true
  ·rw [if_pos hw,List.filter_cons_of_pos hw];simp
  ·rw [if_neg hw,List.filter_cons_of_neg hw,zls l t x n (by omega)];simp
theorem ym0 {l:List Ev} {t x:Int} {n:Nat} (scan:List Seen) (hn:n≤l.length):(za9 x (yl7 (zz2 (l.take n) t) scan)).getD ⟨0,0⟩=yfk l t n scan x:=by
 have h1:za9 x (zz2 (l.take n) t)=(zc8 l t x n).map Prod.fst:=by
  rw [zls l t x n hn,zz2,zmm]
  have:((l.take n).filter fun e=>(e.t==t && e.kind==2) && decide (e.o=x))=(l.take n).filter (zam t x):=by
   refine List.filter_congr fun e _=> ?_
   rw [zam,Bool.eq_iff_iff];simp only [Bool.and_eq_true,beq_iff_eq,decide_eq_true_eq]
   exact ⟨fun ⟨⟨a,b⟩,c⟩=>⟨⟨b,a⟩,c⟩,fun ⟨⟨a,b⟩,c⟩=>⟨⟨b,a⟩,c⟩⟩
  rw [this]
  cases (((l.take n).filter (zam t x)).getLast?).map Ev.v <;> rfl
 have h2:(scan.filter fun e=>true && decide (e.o=x))=scan.filter fun s=>s.o==x:=by
  refine List.filter_congr fun e _=> ?_
  rw [Bool.true_and];rfl
 rw [yl7,zmm,h1,h2,yfk,zuj]
 cases ((scan.filter fun s=>s.o==x).getLast?).map Seen.v with
 |some v=>rfl
 |none=>cases zc8 l t x n <;> rfl
def j8 (h:Hist) (e:Ev) (n:Nat):List Seen:=(upR h.os.length).map fun x=>⟨x,yfk h.evs e.t n e.scan x⟩
theorem ybb {scan:List Seen} {x:Int} {k:Nat} (hk:k < scan.length):zuj (scan.take (k+1)) x=if (scan[k].o==x)=true then some scan[k].v else zuj (scan.take k) x:=by
 rw [zuj,List.take_succ_eq_append_getElem hk,List.filter_append]
 by_cases e:(scan[k].o==x)=true
 ·rw [if_pos e,List.filter_cons_of_pos (p:=fun s:Seen=>s.o==x) e];simp
 ·rw [if_neg e,List.filter_cons_of_neg (p:=fun s:Seen=>s.o==x) e];simp [zuj]
theorem yt1 {h:Hist} {e:Ev} {n m:Nat} (hm:m < (j8 h e n).length):(j8 h e n)[m].o=m:=by
 simp only [j8,List.getElem_map];simp [upR]
theorem zi9 (h:Hist) (e:Ev) (n:Nat):(j8 h e n).length=h.os.length:=by rw [j8,oM,upR,oM,List.length_range]
def bt1:ByteArray:=⟨#[116,49]⟩
def bt2:ByteArray:=⟨#[116,50]⟩
def bP:ByteArray:=⟨#[112]⟩
def zkn (l:List Conf) (z:Conf):Prop:=z∈l∧∀c∈l,zl7 c=zl7 z→zi3 z c≤0
theorem ztp {a b:Conf} (h:zi3 a b≤0) (k:zi3 b a≤0):a=b:=by
 have:=zf2.anti a b
 exact zh9 a b (by omega)
def zfo (m:List ((Int×Int)×Conf)) (c:Conf):List ((Int×Int)×Conf):=match za9 (zl7 c) m with
 |none=>zdw (zl7 c) c m
 |some b=>if zi3 c b < 0 then zdw (zl7 c) c m else m
def zbk (l:List Conf):List ((Int×Int)×Conf):=l.foldl zfo []
theorem zv1 {l:List Conf} {c:Conf}:zbk (l++ [c])=zfo (zbk l) c:=by rw [zbk,List.foldl_append];rfl
def zof (l:List Conf) (m:List ((Int×Int)×Conf)):Prop:=∀k,match za9 k m with
 |none=>∀c∈l,zl7 c≠k
 |some z=>zl7 z=k∧zkn l z
theorem zp8 {l:List Conf} {m:List ((Int×Int)×Conf)} {c:Conf} (h:zof l m) (hc:∀d∈l,zl7 d=zl7 c→zi3 c d≤0):zof (l++ [c]) (zdw (zl7 c) c m):=by
 intro k
 rw [zce]
 by_cases e:zl7 c=k
 ·rw [if_pos e]
  refine ⟨e,by simp,fun d hd ed=> ?_⟩
  rcases List.mem_append.1 hd with hd|hd
  ·exact hc d hd ed
  ·rw [List.mem_singleton] at hd;rw [hd,yek];exact Int.le_refl _
 ·rw [if_neg e]
  have:=h k
  cases hg:za9 k m with
  |none=>
   rw [hg] at this
   intro d hd
   rcases List.mem_append.1 hd with hd|hd
   ·exact this d hd
   ·rw [List.mem_singleton] at hd;rw [hd];exact e
  |some z=>
   rw [hg] at this
   obtain ⟨h1,h2,h3⟩:=this
   refine ⟨h1,List.mem_append_left _ h2,fun d hd ed=> ?_⟩
   rcases List.mem_append.1 hd with hd|hd
   ·exact h3 d hd ed
   ·rw [List.mem_singleton] at hd;rw [hd,h1] at ed;exact absurd ed e
theorem yi7 {l:List Conf} {m:List ((Int×Int)×Conf)} (h:zof l m) (c:Conf):zof (l++ [c]) (zfo m c):=by
 unfold zfo
 have hk:=h (zl7 c)
 cases hg:za9 (zl7 c) m with
 |none=>
  rw [hg] at hk
  simp only
  exact zp8 h fun d hd e=>absurd e (hk d hd)
 |some b=>
  rw [hg] at hk
  obtain ⟨h1,h2,h3⟩:=hk
  simp only
  by_cases hlt:zi3 c b < 0
  ·rw [if_pos hlt]
   exact zp8 h fun d hd e=>zf2.trans _ _ _ (Int.le_of_lt hlt) (h3 d hd (e.trans h1.symm))
  ·rw [if_neg hlt]
   intro k
   have hq:=h k
   cases hg2:za9 k m with
   |none=>
    rw [hg2] at hq
    intro d hd
    rcases List.mem_append.1 hd with hd|hd
    ·exact hq d hd
    ·rw [List.mem_singleton] at hd;rw [hd]
     intro e;rw [e,hg2] at hg;cases hg
   |some z=>
    rw [hg2] at hq
    obtain ⟨q1,q2,q3⟩:=hq
    refine ⟨q1,List.mem_append_left _ q2,fun d hd ed=> ?_⟩
    rcases List.mem_append.1 hd with hd|hd
    ·exact q3 d hd ed
    ·rw [List.mem_singleton] at hd
     rw [hd] at ed ⊢
     have e2:k=zl7 c:=q1.symm.trans ed.symm
     rw [e2,hg] at hg2
     injection hg2 with hg2
     rw [←hg2]
     have:=zf2.anti c b;omega
theorem zx2 (l:List Conf):zof l (zbk l):=by
 suffices h:∀(l p:List Conf) (m:List ((Int×Int)×Conf)),zof p m→zof (p++l) (l.foldl zfo m) by
  have:=h l [] [] (fun k=>by simp [za9])
  simpa [zbk] using this
 intro l
 induction l with
 |nil=>intro p m h;simpa using h
 |cons c r ih=>
  intro p m h
  have:=ih (p++ [c]) (zfo m c) (yi7 h c)
  simpa using this
theorem zv0 {m:List ((Int×Int)×Conf)} (h:(m.map Prod.fst).Nodup) (c:Conf):((zfo m c).map Prod.fst).Nodup:=by
 unfold zfo
 split
 ·exact (zk1 _ _ _ h).1
 ·split
  ·exact (zk1 _ _ _ h).1
  ·exact h
theorem zjj (l:List Conf):((zbk l).map Prod.fst).Nodup:=by
 suffices h:∀(l:List Conf) (m:List ((Int×Int)×Conf)),(m.map Prod.fst).Nodup→((l.foldl zfo m).map Prod.fst).Nodup by exact h l [] .nil
 intro l
 induction l with
 |nil=>intro m h;exact h
 |cons c r ih=>intro m h;exact ih _ (zv0 h c)
theorem zmp {K V:Type} [DecidableEq K] {k:K} {v:V}:∀{m:List (K×V)},(m.map Prod.fst).Nodup→(za9 k m=some v ↔ (k,v)∈m)
 | [],_=>by simp [za9]
 |p::r,h=>by
  rw [List.map_cons,List.nodup_cons] at h
  rw [za9,List.mem_cons]
  by_cases e:p.1=k
  ·rw [if_pos e]
   constructor
   ·intro q;injection q with q;left;rw [←e,←q]
   ·rintro (q|q)
    ·rw [←q]
    ·exact absurd (List.mem_map.2 ⟨_,q,e.symm⟩) h.1
  ·rw [if_neg e,zmp h.2]
   constructor
   ·exact .inr
   ·rintro (q|q)
    ·exact absurd (by rw [←q]) e
    ·exact q
theorem zod {l:List Conf} {z:Conf}:z∈(zbk l).map Prod.snd ↔ zkn l z:=by
 have hn:=zjj l
 constructor
 ·intro h
  obtain ⟨p,hp,rfl⟩:=List.mem_map.1 h
  have hg:=(zmp (k:=p.1) (v:=p.2) hn).2 hp
  have:=zx2 l p.1
  rw [hg] at this
  exact this.2
 ·intro h
  have:=zx2 l (zl7 z)
  cases hg:za9 (zl7 z) (zbk l) with
  |none=>rw [hg] at this;exact absurd rfl (this z h.1)
  |some y=>
   rw [hg] at this
   obtain ⟨h1,h2,h3⟩:=this
   have:y=z:=ztp (h3 z h.1 h1.symm) (h.2 y h2 h1)
   subst this
   exact List.mem_map.2 ⟨_,(zmp hn).1 hg,rfl⟩
abbrev RkM:=List ((Int×Int×Int)×Int)
def zry (x:Int) (v:Ver):Int×Int×Int:=(x,v.t,v.k)
theorem zjv {x y:Int} {v w:Ver}:zry x v=zry y w ↔ x=y∧v=w:=by
 cases v;cases w;simp [zry]
def zhi (h:Hist) (x t:Int):Ver:=zqk (zi0 h.evs t x)
def zht (h:Hist) (x:Int):Nat→List Int→RkM→RkM
 |_,[],m=>m
 |i,t::r,m=>zht h x (i+1) r (zdw (zry x (zhi h x t)) ((i:Int)+1) m)
def ygr (h:Hist) (x:Int) (m:RkM):RkM:=zht h x 0 (za0 h x) (zdw (zry x ⟨0,0⟩) 0 m)
def rkM (h:Hist):Nat→RkM
 |0=> []
 |n+1=>ygr h n (rkM h n)
theorem zpc (h:Hist) (x:Int):∀(l:List Int) (i:Nat) (t:Int) (m:RkM),zht h x i (l++ [t]) m=zdw (zry x (zhi h x t)) (((i+l.length:Nat):Int)+1) (zht h x i l m)
 | [],i,t,m=>by simp [zht]
 |a::r,i,t,m=>by
  rw [List.cons_append,zht,zpc h x r (i+1) t,zht,List.length_cons,show i+1+r.length=i+(r.length+1) by omega]
theorem ybl {h:Hist} {x:Int} {l:List Int} {k:Nat} (hk:k < l.length) (m:RkM):zht h x 0 (l.take (k+1)) m=zdw (zry x (zhi h x l[k])) ((k:Int)+1) (zht h x 0 (l.take k) m):=by
 rw [List.take_succ_eq_append_getElem hk,zpc,List.length_take,Nat.min_eq_left (by omega),Nat.zero_add]
theorem zjb (h:Hist) {x y:Int} (hxy:y≠x) (v:Ver):∀(l:List Int) (i:Nat) (m:RkM),za9 (zry y v) (zht h x i l m)=za9 (zry y v) m
 | [],_,_=>rfl
 |t::r,i,m=>by
  rw [zht,zjb h hxy v r (i+1),zce,if_neg]
  intro e;exact hxy ((zjv.1 e).1).symm
theorem zsf (h:Hist) (x:Int) (v:Ver):∀(l:List Int) (i:Nat) (m:RkM),(l.map (zhi h x)).Nodup→za9 (zry x v) (zht h x i l m)=if zbq (fun t=>zhi h x t==v) i l ≥ 0 then some (zbq (fun t=>zhi h x t==v) i l+1) else za9 (zry x v) m
 | [],i,m,_=>by rw [zht,zbq,if_neg (by decide)]
 |t::r,i,m,hn=>by
  rw [List.map_cons,List.nodup_cons] at hn
  rw [zht,zsf h x v r (i+1) _ hn.2]
  by_cases e:zhi h x t=v
  ·have hno:decide (zbq (fun t=>zhi h x t==v) (i+1) r ≥ 0)=false:=by
    rw [zen,List.any_eq_false]
    intro z hz q
    exact hn.1 (by rw [e,←eq_of_beq q];exact List.mem_map_of_mem hz)
   have e1:zbq (fun t=>zhi h x t==v) i (t::r)=(i:Int):=by rw [zbq,if_pos (by simpa using e)]
   rw [e1,if_neg (oF hno),if_pos (by omega),zce,if_pos (by rw [e])]
  ·have e1:zbq (fun t=>zhi h x t==v) i (t::r)=zbq (fun t=>zhi h x t==v) (i+1) r:=by rw [zbq,if_neg (by simpa using e)]
   rw [e1]
   by_cases q:zbq (fun t=>zhi h x t==v) (i+1) r ≥ 0
   ·rw [if_pos q,if_pos q]
   ·rw [if_neg q,if_neg q,zce,if_neg]
    intro e2;exact e ((zjv.1 e2).2)
theorem ydz {h:Hist} (hs:zar h=true) {x:Int} (h0:0≤x) (h1:x < h.os.length):((za0 h x).map (zhi h x)).Nodup∧∀t∈za0 h x,zhi h x t≠⟨0,0⟩:=by
 obtain ⟨hn,_,hm⟩:=zjg hs h0 h1
 have hv:∀t∈za0 h x,(zhi h x t).t=t∧0 < (zhi h x t).k:=fun t ht=>by
  obtain ⟨w1,_⟩:=zi6.1 ((hm t).1 ht)
  obtain ⟨v,i,hf⟩:=yd0 w1
  obtain ⟨_,_,_,vt,vk,_⟩:=zkg hs hf
  rw [zhi,hf];exact ⟨vt,vk⟩
 constructor
 ·rw [List.Nodup,List.pairwise_map]
  refine (List.pairwise_iff_getElem).2 fun i j hi hj hij e=> ?_
  have a:=(hv _ (List.getElem_mem hi)).1
  have b:=(hv _ (List.getElem_mem hj)).1
  rw [e] at a
  exact (List.pairwise_iff_getElem.1 hn) i j hi hj hij (a.symm.trans b)
 ·intro t ht e
  have:=(hv t ht).2
  rw [e] at this;exact absurd this (by decide)
theorem ybm (h:Hist) (x:Int) (v:Ver):∀n:Nat,(n:Int)≤x∨x < 0→za9 (zry x v) (rkM h n)=none
 |0,_=>rfl
 |n+1,hx=>by
  have hne:x≠(n:Int):=by omega
  rw [rkM,ygr,zjb h hne,zce,if_neg,ybm h x v n (by omega)]
  intro e;exact hne ((zjv.1 e).1).symm
theorem zne {h:Hist} (hs:zar h=true) {x:Int} (v:Ver) (h0:0≤x) (h1:x < h.os.length):∀n:Nat,n≤h.os.length→x < n→za9 (zry x v) (rkM h n)=if v=⟨0,0⟩ then some 0 else if zl4 h x v ≥ 0 then some (zl4 h x v+1) else none
 |0,_,hx=>absurd hx (by omega)
 |n+1,hn,hx=>by
  by_cases e:x=(n:Int)
  ·subst e
   obtain ⟨a,b⟩:=ydz hs h0 h1
   rw [rkM,ygr,zsf h _ v _ _ _ a,zce]
   have hr:zbq (fun t=>zhi h (n:Int) t==v) 0 (za0 h n)=zl4 h n v:=rfl
   rw [hr]
   by_cases hv:v=⟨0,0⟩
   ·subst hv
    have:decide (zl4 h n ⟨0,0⟩ ≥ 0)=false:=by
     rw [zl4,zen,List.any_eq_false]
     intro t ht q
     exact b t ht (eq_of_beq q)
    rw [if_neg (oF this),if_pos rfl,if_pos rfl]
   ·rw [if_neg hv,if_neg (fun e=>hv ((zjv.1 e).2).symm),ybm h _ v n (.inl (Int.le_refl _))]
  ·rw [rkM,ygr,zjb h e,zce,if_neg (fun q=>e ((zjv.1 q).1).symm)]
   exact zne hs v h0 h1 n (by omega) (by omega)
def zgd (h:Hist) (e:Ev) (c:Int) (a:Nat) (x r:Int):Option Conf:=
 if r > ((za0 h x).length:Int) then none else if (((za0 h x)[(r - 1).toNat]?).getD 0==e.t)=true then none
 else some ⟨e.t,((za0 h x)[(r - 1).toNat]?).getD 0,c,a,zc9 h (((za0 h x)[(r - 1).toNat]?).getD 0) x,x,e.p⟩
def zig (h:Hist) (x:Int) (v:Ver):Option Int:=za9 (zry x v) (rkM h h.os.length)
def zgu (h:Hist) (e:Ev):List (Int×List Int):=match zig h e.o e.v with
 |none=> []
 |some r=> [(e.o,[r+1])]
def rwOver (h:Hist) (p x r:Int):List Int:=(chL h p x).dropWhile fun k=> !decide (k > r)
def zfd (h:Hist) (e:Ev) (s:Seen):Option (Int×List Int):=match zig h s.o s.v with
 |none=>none
 |some r=>if (chL h e.p s.o).any (fun k=>decide (k > r))=true then some (s.o,rwOver h e.p s.o r) else none
def zqs (h:Hist) (e:Ev) (a:Nat):List (Int×List Int):=(j8 h e a).filterMap (zfd h e)
def u5 (h:Hist) (e:Ev) (a:Nat):List (Int×List Int):=if e.kind=3 then zgu h e else if e.kind=4 then zqs h e a else []
def zhh (e:Ev):Int:=if e.kind=3 then 3 else if e.kind=4 then 4 else 0
def zh3 (h:Hist) (e:Ev) (a:Nat):List Conf:=if ze6 h.evs e.t 5=true then (u5 h e a).flatMap fun p=>p.2.filterMap (zgd h e (zhh e) a p.1) else []
def rkR (h:Hist) (x:Int) (v:Ver):Option Int:=if v=⟨0,0⟩ then some 0 else if zbq (fun t=>zhi h x t==v) 0 (zby h x) ≥ 0 then some (zbq (fun t=>zhi h x t==v) 0 (zby h x)+1) else none
def zjn (h:Hist) (p x:Int):List Int:=chR (fun k=>ztz h p x (k:Nat)) (zby h x).length
theorem yt8 {h:Hist} (hs:zar h=true) {x:Int} (h0:0≤x) (h1:x < h.os.length) (v:Ver):zig h x v=rkR h x v:=by
 rw [zig,zne hs v h0 h1 _ (Nat.le_refl _) h1,rkR,zl4,←znt hs h0 h1];rfl
theorem zpd {h:Hist} {e:Ev} (he:zb5 h e=true) (h3:e.kind=3):(0≤e.o∧e.o < h.os.length)∧e.p=0:=by
 obtain ⟨_,_,_,hc,hq⟩:=zco he
 constructor
 ·rw [zf5,if_neg (by omega),if_neg (by omega),if_pos h3] at hc
  simp only [zel,Bool.and_eq_true,zbs] at hc
  exact hc.1
 ·rw [←hq];simp only [zf5];rw [if_neg (by omega),if_neg (by omega),if_pos h3]
theorem ypt {h:Hist} {e:Ev} (he:zb5 h e=true) (h4:e.kind=4):0≤e.p∧e.p < h.ps.length:=by
 obtain ⟨_,_,_,hc,_⟩:=zco he
 rw [zf5,if_neg (by omega),if_neg (by omega),if_neg (by omega),if_pos h4] at hc
 simp only [zc7,Bool.and_eq_true,zbs] at hc
 exact hc.1.1
theorem zxm {α β:Type} {f g:α→Option β}:∀{l:List α},(∀a∈l,f a=g a)→l.filterMap f=l.filterMap g
 | [],_=>rfl
 |a::r,h=>by rw [List.filterMap_cons,List.filterMap_cons,h a (by simp),zxm fun b hb=>h b (by simp [hb])]
def zp3 (a b:Conf):Int:=zl8 [a.f,a.t,a.a,a.b,a.o,a.p] [b.f,b.t,b.a,b.b,b.o,b.p]
theorem zn4 {a b:Conf} (h:a.k=b.k):zp3 a b=zi3 a b:=by
 rw [zp3,zi3,yn9,yn9]
 simp only [zl8,h,Int.lt_irrefl,if_false]
def zoh (h:Hist) (x r:Int):Int:=((za0 h x)[(r - 1).toNat]?).getD 0
def wrC (h:Hist) (e:Ev) (a:Nat) (k f x p:Int):Conf:=⟨f,e.t,k,zc9 h f x,a,x,p⟩
def zc4 (h:Hist) (e:Ev) (a:Nat):List Conf:=if (e.kind==3)=true then
    (if ((zig h e.o e.v).getD 0==0)=true then [] else if (zoh h e.o ((zig h e.o e.v).getD 0)==e.t)=true then [] else [wrC h e a 1 (zoh h e.o ((zig h e.o e.v).getD 0)) e.o 0]) else []
def wrQ (h:Hist) (e:Ev) (a:Nat) (x k:Int):Option Conf:=if (zoh h x k==e.t)=true then none else some (wrC h e a 2 (zoh h x k) x e.p)
def za8 (h:Hist) (e:Ev) (a:Nat) (s:Seen):List Conf:=match zig h s.o s.v with
 |none=> []
 |some r=>((chL h e.p s.o).takeWhile fun k=>decide (k≤r)).filterMap (wrQ h e a s.o)
def zer (h:Hist) (e:Ev) (a:Nat):List Conf:=if (e.kind==4)=true then (j8 h e a).flatMap (za8 h e a) else []
def zad (h:Hist) (F:Ev→Nat→List Conf):Nat→List Conf
 |0=> []
 |n+1=>zad h F n++(match h.evs[n]? with|some e=>if ze6 h.evs e.t 5=true then F e n else []|none=> [])
def ze9 (h:Hist):List Conf:=zad h (zc4 h) h.evs.length
def ze8 (h:Hist):List Conf:=zad h (zer h) h.evs.length
def zdq (l:List Conf):List Conf:=yax zi3 ((zbk l).map Prod.snd)
def zfa (h:Hist) (x f:Int) (j:Nat) (e:Ev):Option Conf:=if (e.kind==3 && (e.o==x && (e.v==zhi h x f && (!(e.t==f) && ze6 h.evs e.t 5))))=true then some (wrC h e j 1 f x 0) else none
def zcv (h:Hist):List Conf:=(upR h.os.length).flatMap fun x=>(zby h x).flatMap fun f=>zd7 (zfa h x f) h.evs h.evs.length
def zet (h:Hist) (e:Ev) (a:Nat) (s:Seen) (k:Int):Option Conf:=match rkR h s.o s.v with
 |none=>none
 |some r=>if k≤r then (if (((zby h s.o)[(k - 1).toNat]?).getD 0==e.t)=true then none else some (wrC h e a 2 (((zby h s.o)[(k - 1).toNat]?).getD 0) s.o e.p)) else none
def zes (h:Hist) (e:Ev) (a:Nat):List Conf:=if (e.kind==4)=true then (j8 h e a).flatMap fun s=>(zjn h e.p s.o).filterMap (zet h e a s) else []
def zc3 (h:Hist):List Conf:=zad h (zes h) h.evs.length
def zfk (a b:Conf):Bool:=decide (zp3 a b < 0)
def yrr (out:List Conf) (c:Conf):List Conf:=out.takeWhile (zfk · c)++c::out.dropWhile (zfk · c)
def zpk (l out:List Conf) (c:Conf):List Conf:=if (l.any fun d=>d.f==c.f && (d.t==c.t && zfk d c))=true then out else if out.contains c=true then out else yrr out c
def zpl (l:List Conf):List Conf:=l.foldl (zpk l) []
theorem zud {l:List Int} (hl:l.Pairwise (· < ·)) (r:Int):(l.takeWhile fun k=>decide (k≤r))=l.filter fun k=>decide (k≤r):=by
 induction l with
 |nil=>rfl
 |cons a l ih=>
  have h':=List.pairwise_cons.1 hl
  rw [List.takeWhile_cons,List.filter_cons]
  by_cases h:a≤r
  ·rw [decide_eq_true h,if_pos rfl,if_pos rfl,ih h'.2]
  ·rw [decide_eq_false h]
   simp only [Bool.false_eq_true,if_false]
   symm
   rw [List.filter_eq_nil_iff]
   intro b hb q
   have:=h'.1 b hb
   have:=oT q
   omega
theorem zz8 {h:Hist} (hs:zar h=true) {e:Ev} (he:e∈h.evs) (a:Nat):zer h e a=zes h e a:=by
 rw [zer,zes]
 by_cases h4:e.kind=4
 ·rw [if_pos (by simpa using h4),if_pos (by simpa using h4)]
  have hp:=ypt (ze4 hs _ he) h4
  have key:∀s∈j8 h e a,za8 h e a s=(zjn h e.p s.o).filterMap (zet h e a s):=fun s hsm=>by
   have ho:0≤s.o∧s.o < h.os.length:=by
    rw [j8,List.mem_map] at hsm
    obtain ⟨x,hx,rfl⟩:=hsm
    exact (zm6 _ _).1 hx
   have ht:zjx h e.p s.o=0:=yat.2 ⟨za6.2 hs,ho,hp⟩
   have hch:chL h e.p s.o=zjn h e.p s.o:=ywz ht
   have hlt:(chL h e.p s.o).Pairwise (· < ·):=by rw [chL,if_pos ht];exact yen _ _
   rw [za8,yt8 hs ho.1 ho.2]
   cases hr:rkR h s.o s.v with
   |none=>
    symm
    simp only
    rw [List.filterMap_eq_nil_iff]
    intro k _;rw [zet,hr]
   |some r=>
    simp only
    rw [zud hlt,←hch,List.filterMap_filter]
    refine zxm fun k hk=> ?_
    rw [zet,hr]
    simp only
    by_cases q:k≤r
    ·rw [if_pos (decide_eq_true q),if_pos q,wrQ,zoh,znt hs ho.1 ho.2]
    ·rw [if_neg (by simpa using q),if_neg q]
  generalize j8 h e a=L at key
  induction L with
  |nil=>rfl
  |cons s r ih=>rw [List.flatMap_cons,List.flatMap_cons,key s (by simp),ih fun s hs=>key s (by simp [hs])]
 ·rw [if_neg (by simpa using h4),if_neg (by simpa using h4)]
theorem zm3 {h:Hist} {F G:Ev→Nat→List Conf} (hf:∀e∈h.evs,∀a,F e a=G e a):∀n,zad h F n=zad h G n
 |0=>rfl
 |n+1=>by
  rw [zad,zad,zm3 hf n]
  cases hn:h.evs[n]? with
  |none=>rfl
  |some e=>simp only;rw [hf e (List.mem_of_getElem? hn)]
theorem zjo {h:Hist} (hs:zar h=true):ze8 h=zc3 h:=zm3 (fun e he a=>zz8 hs he a) _
theorem zm2 {h:Hist} {F:Ev→Nat→List Conf} {z:Conf}:∀{n:Nat},n≤h.evs.length→(z∈zad h F n ↔ ∃j,∃hj:j < h.evs.length,j < n∧ze6 h.evs h.evs[j].t 5=true∧z∈F h.evs[j] j)
 |0,_=>by simp [zad]
 |n+1,hn=>by
  rw [zad,List.mem_append,zm2 (n:=n) (by omega),List.getElem?_eq_getElem (by omega)]
  simp only
  constructor
  ·rintro (⟨j,hj,q,r⟩|q)
   ·exact ⟨j,hj,by omega,r⟩
   ·split at q
    ·exact ⟨n,by omega,by omega, ‹_›,q⟩
    ·cases q
  ·rintro ⟨j,hj,q,r,w⟩
   by_cases e:j=n
   ·subst e;right;rw [if_pos r];exact w
   ·left;exact ⟨j,hj,by omega,r,w⟩
theorem zmq {α:Type} {f:Nat→Ev→Option α} {l:List Ev} {z:α}:∀{n:Nat},n≤l.length→(z∈zd7 f l n ↔ ∃j,∃hj:j < l.length,j < n∧f j l[j]=some z)
 |0,_=>by simp [zd7]
 |n+1,hn=>by
  rw [znw (by omega),List.mem_append,zmq (n:=n) (by omega),Option.mem_toList]
  constructor
  ·rintro (⟨j,hj,q,r⟩|q)
   ·exact ⟨j,hj,by omega,r⟩
   ·exact ⟨n,by omega,by omega,q⟩
  ·rintro ⟨j,hj,q,r⟩
   by_cases e:j=n
   ·subst e;exact .inr r
   ·exact .inl ⟨j,hj,by omega,r⟩
theorem yp0 {h:Hist} (hs:zar h=true) {x:Int} (h0:0≤x) (h1:x < h.os.length) {v:Ver} {r:Int} (hr:zig h x v=some r) (hn:r≠0):∃k,∃hk:k < (za0 h x).length,r=(k:Int)+1∧zhi h x (za0 h x)[k]=v:=by
 rw [zig,zne hs v h0 h1 _ (Nat.le_refl _) h1] at hr
 split at hr
 ·injection hr with hr;omega
 ·split at hr
  ·rename_i q
   injection hr with hr
   have:=zfg (fun t=>zqk (zi0 h.evs t x)==v) (za0 h x) 0
   split at this
   ·obtain ⟨k,hk,e,e1,e2⟩:=this
    refine ⟨k,hk,?_,?_⟩
    ·rw [zl4,e] at hr;omega
    ·rw [e1];exact eq_of_beq e2
   ·rw [zl4,this] at q;omega
  ·cases hr
theorem yp2 {h:Hist} (hs:zar h=true) {x:Int} (h0:0≤x) (h1:x < h.os.length) {k:Nat} (hk:k < (za0 h x).length):zig h x (zhi h x (za0 h x)[k])=some ((k:Int)+1):=by
 obtain ⟨v,i,hf,⟨hi,_⟩,hv,hr,_⟩:=zwf hs h0 h1 hk
 have e:zhi h x (za0 h x)[k]=v:=by rw [zhi,hf];rfl
 rw [e,zig,zne hs v h0 h1 _ (Nat.le_refl _) h1,if_neg (by rintro rfl;exact absurd hv (by decide)),hr,if_pos (by omega)]
theorem zoz {h:Hist} (hs:zar h=true) {j:Nat} (hj:j < h.evs.length) {z:Conf}:z∈zc4 h h.evs[j] j ↔ h.evs[j].kind=3∧∃k,∃hk:k < (za0 h h.evs[j].o).length,zhi h h.evs[j].o (za0 h h.evs[j].o)[k]=h.evs[j].v∧(za0 h h.evs[j].o)[k]≠h.evs[j].t∧z=wrC h h.evs[j] j 1 (za0 h h.evs[j].o)[k] h.evs[j].o 0:=by
 rw [zc4]
 by_cases h3:h.evs[j].kind=3
 ·rw [if_pos (by simpa using h3)]
  obtain ⟨⟨o0,o1⟩,_⟩:=zpd (ze4 hs _ (List.getElem_mem hj)) h3
  constructor
  ·intro q
   split at q
   ·cases q
   ·rename_i q0
    split at q
    ·cases q
    ·rename_i q2
     rw [List.mem_singleton] at q
     cases hr:zig h h.evs[j].o h.evs[j].v with
     |none=>rw [hr] at q0;simp at q0
     |some r=>
      rw [hr] at q q0 q2
      simp only [Option.getD_some] at q q0 q2
      obtain ⟨k,hk,e1,e2⟩:=yp0 hs o0 o1 hr (by simpa using q0)
      have ea:zoh h h.evs[j].o r=(za0 h h.evs[j].o)[k]:=by
       rw [zoh,show (r - 1).toNat=k by omega,List.getElem?_eq_getElem hk];rfl
      rw [ea] at q q2
      exact ⟨h3,k,hk,e2,by simpa using q2,q⟩
  ·rintro ⟨_,k,hk,e1,e2,rfl⟩
   have hr:=yp2 hs o0 o1 hk
   rw [e1] at hr
   rw [hr]
   simp only [Option.getD_some]
   have ea:zoh h h.evs[j].o ((k:Int)+1)=(za0 h h.evs[j].o)[k]:=by
    rw [zoh,show ((k:Int)+1 - 1).toNat=k by omega,List.getElem?_eq_getElem hk];rfl
   rw [if_neg (by simp;omega),ea,if_neg (by simpa using e2)]
   simp
 ·rw [if_neg (by simpa using h3)]
  simp [h3]
theorem zjp {h:Hist} (hs:zar h=true) (z:Conf):z∈ze9 h ↔ z∈zcv h:=by
 rw [ze9,zm2 (Nat.le_refl _),zcv,List.mem_flatMap]
 constructor
 ·rintro ⟨j,hj,_,hc,hz⟩
  obtain ⟨h3,k,hk,e1,e2,rfl⟩:=(zoz hs hj).1 hz
  obtain ⟨⟨o0,o1⟩,_⟩:=zpd (ze4 hs _ (List.getElem_mem hj)) h3
  refine ⟨h.evs[j].o,(zm6 _ _).2 ⟨o0,o1⟩,?_⟩
  rw [List.mem_flatMap]
  refine ⟨(za0 h h.evs[j].o)[k],by rw [←znt hs o0 o1];exact List.getElem_mem hk,?_⟩
  rw [zmq (Nat.le_refl _)]
  refine ⟨j,hj,hj,?_⟩
  rw [zfa,if_pos (by simp only [h3,hc,e1,Bool.and_eq_true,beq_self_eq_true,true_and,and_true,Bool.not_eq_true',beq_eq_false_iff_ne];exact fun q=>e2 q.symm)]
 ·rintro ⟨x,hx,hz⟩
  obtain ⟨x0,x1⟩:=(zm6 _ _).1 hx
  rw [List.mem_flatMap] at hz
  obtain ⟨f,hf,hz⟩:=hz
  rw [zmq (Nat.le_refl _)] at hz
  obtain ⟨j,hj,_,hz⟩:=hz
  unfold zfa at hz
  split at hz
  ·rename_i q
   injection hz with hz
   simp only [Bool.and_eq_true,beq_iff_eq,Bool.not_eq_true',beq_eq_false_iff_ne] at q
   obtain ⟨q3,qo,qv,qt,qc⟩:=q
   rw [←znt hs x0 x1] at hf
   obtain ⟨k,hk,ek⟩:=List.mem_iff_getElem.1 hf
   refine ⟨j,hj,hj,qc,(zoz hs hj).2 ⟨q3,k,by rw [qo];exact hk,?_⟩⟩
   simp only [qo]
   rw [ek]
   exact ⟨qv.symm,fun q=>qt q.symm,hz.symm⟩
  ·cases hz
def zz5 (l:List Conf):Prop:=∀a∈l,∀b∈l,a.k=b.k
theorem zpy {α:Type} {p:α→Bool}:∀{l:List α} {a:α} {r:List α},l.dropWhile p=a::r→p a=false
 | [],_,_,h=>by simp at h
 |x::l,a,r,h=>by
  rw [List.dropWhile_cons] at h
  split at h
  ·exact zpy h
  ·injection h with h _;subst h;simpa using ‹¬p x=true›
theorem zr1 {α:Type} {p:α→Bool}:∀{l:List α} {a:α},a∈l.takeWhile p→p a=true
 |x::l,a,h=>by
  rw [List.takeWhile_cons] at h
  split at h
  ·rcases List.mem_cons.1 h with h|h
   ·subst h;assumption
   ·exact zr1 h
  ·cases h
theorem yh9 {out:List Conf} {c z:Conf}:z∈yrr out c ↔ z=c∨z∈out:=by
 rw [yrr,List.mem_append,List.mem_cons]
 have:z∈out ↔ z∈out.takeWhile (zfk · c)∨z∈out.dropWhile (zfk · c):=by
  rw [←List.mem_append,List.takeWhile_append_dropWhile]
 rw [this]
 constructor
 ·rintro (h|h|h)
  ·exact .inr (.inl h)
  ·exact .inl h
  ·exact .inr (.inr h)
 ·rintro (h|h|h)
  ·exact .inr (.inl h)
  ·exact .inl h
  ·exact .inr (.inr h)
theorem znp {a b c:Conf} (h:zi3 a b < 0) (k:zi3 b c≤0):zi3 a c < 0:=by
 have h1:=zim _ _ _ (Int.le_of_lt h) k
 rcases Int.lt_or_eq_of_le (show zi3 a c≤0 from h1) with q|q
 ·exact q
 ·have e:=zh9 a c q
  subst e
  have:=zf2.anti a b
  omega
theorem zvg {out:List Conf} {c:Conf} (hk:∀z∈out,z.k=c.k) (hs:out.Pairwise (LtC zi3)) (hc:c ∉ out):(yrr out c).Pairwise (LtC zi3):=by
 have hd:=(List.takeWhile_append_dropWhile (p:=(zfk · c)) (l:=out)).symm
 have ha:∀z∈out,zfk z c=decide (zi3 z c < 0):=fun z hz=>by rw [zfk,zn4 (hk z hz)]
 have hs1:=hs
 rw [hd,List.pairwise_append] at hs1
 obtain ⟨p1,p2,p3⟩:=hs1
 have hsub:∀z∈out.dropWhile (zfk · c),z∈out:=fun z hz=>(List.dropWhile_sublist _).subset hz
 have hD:∀z∈out.dropWhile (zfk · c),zi3 c z < 0:=fun z hz=>by
  cases hq:out.dropWhile (zfk · c) with
  |nil=>rw [hq] at hz;cases hz
  |cons a r=>
   have h1:=zpy hq
   rw [ha a (hsub a (by rw [hq];simp))] at h1
   have h1:=oF h1
   have h2:zi3 c a < 0:=by
    have:=zf2.anti c a
    rcases Int.lt_or_eq_of_le (show zi3 c a≤0 by omega) with q|q
    ·exact q
    ·exact absurd (zh9 _ _ q) fun e=>hc (by rw [e];exact hsub a (by rw [hq];simp))
   rw [hq] at hz p2
   rcases List.mem_cons.1 hz with rfl|hz
   ·exact h2
   ·exact znp h2 (Int.le_of_lt ((List.pairwise_cons.1 p2).1 z hz))
 rw [yrr,List.pairwise_append]
 refine ⟨p1,List.pairwise_cons.2 ⟨hD,p2⟩,fun a h1 b hb=> ?_⟩
 have hac:zi3 a c < 0:=by
  have:=zr1 h1
  rw [ha a ((List.takeWhile_sublist _).subset h1)] at this
  exact oT this
 rcases List.mem_cons.1 hb with rfl|hb
 ·exact hac
 ·exact znp hac (Int.le_of_lt (hD b hb))
theorem ycr {l:List Conf} (hk:zz5 l) {c:Conf} (hc:c∈l):(l.any fun d=>d.f==c.f && (d.t==c.t && zfk d c))=true ↔ ¬zkn l c:=by
 rw [List.any_eq_true]
 constructor
 ·rintro ⟨d,hd,q⟩ hm
  simp only [Bool.and_eq_true,beq_iff_eq] at q
  obtain ⟨q1,q2,q3⟩:=q
  rw [zfk,zn4 (hk d hd c hc)] at q3
  have q3:=oT q3
  have:=hm.2 d hd (by rw [zl7,zl7,q1,q2])
  have:=zf2.anti c d
  omega
 ·intro hm
  apply Classical.byContradiction
  intro hn
  refine hm ⟨hc,fun d hd e=> ?_⟩
  have e':d.f=c.f∧d.t=c.t:=by simpa [zl7] using e
  apply Classical.byContradiction
  intro q
  have:=zf2.anti c d
  exact hn ⟨d,hd,by rw [zfk,zn4 (hk d hd c hc),e'.1,e'.2];simp;omega⟩
theorem zs1 {l:List Conf} (hk:zz5 l):∀(r p out:List Conf),p++r=l→out.Pairwise (LtC zi3)→(∀z,z∈out ↔ z∈p∧zkn l z)→(r.foldl (zpk l) out).Pairwise (LtC zi3)∧∀z,z∈r.foldl (zpk l) out ↔ z∈l∧zkn l z
 | [],p,out,e,h1,h2=>by
   rw [List.append_nil] at e;subst e;exact ⟨h1,h2⟩
 |c::r,p,out,e,h1,h2=>by
  have hc:c∈l:=by rw [←e];simp
  rw [List.foldl_cons]
  refine zs1 hk r (p++ [c]) _ (by rw [←e];simp) ?_ ?_
  ·rw [zpk]
   split
   ·exact h1
   ·split
    ·exact h1
    ·rename_i q
     exact zvg (fun z hz=>hk z ((h2 z).1 hz).2.1 c hc) h1 (by simpa using q)
  ·intro z
   rw [List.mem_append,List.mem_singleton]
   by_cases q:(l.any fun d=>d.f==c.f && (d.t==c.t && zfk d c))=true
   ·rw [zpk,if_pos q,h2]
    have:=(ycr hk hc).1 q
    constructor
    ·rintro ⟨a,b⟩;exact ⟨.inl a,b⟩
    ·rintro ⟨a|a,b⟩
     ·exact ⟨a,b⟩
     ·subst a;exact absurd b this
   ·rw [zpk,if_neg q]
    have hm:zkn l c:=Classical.byContradiction fun h=>q ((ycr hk hc).2 h)
    split
    ·rename_i q2
     rw [h2]
     constructor
     ·rintro ⟨a,b⟩;exact ⟨.inl a,b⟩
     ·rintro ⟨a|a,b⟩
      ·exact ⟨a,b⟩
      ·subst a;exact (h2 z).1 (by simpa using q2)
    ·rw [yh9,h2]
     constructor
     ·rintro (a|⟨a,b⟩)
      ·subst a;exact ⟨.inr rfl,hm⟩
      ·exact ⟨.inl a,b⟩
     ·rintro ⟨a|a,b⟩
      ·exact .inr ⟨a,b⟩
      ·exact .inl a
theorem zzi {l:List Conf} (hk:zz5 l):(zpl l).Pairwise (LtC zi3)∧∀z,z∈zpl l ↔ zkn l z:=by
 obtain ⟨h1,h2⟩:=zs1 hk l [] [] rfl .nil (fun z=>by simp)
 exact ⟨h1,fun z=>by rw [zpl,h2];exact ⟨fun h=>h.2,fun h=>⟨h.1,h⟩⟩⟩
theorem yev (l:List Conf):((zbk l).map Prod.snd).Pairwise fun a b=>zl7 a≠zl7 b:=by
 rw [List.pairwise_map]
 have hn:=zjj l
 rw [List.Nodup,List.pairwise_map] at hn
 rw [List.pairwise_iff_getElem] at hn ⊢
 intro i j hi hj hij e
 have k1:∀p∈zbk l,zl7 p.2=p.1:=fun p hp=>by
  have hg:=(zmp (k:=p.1) (v:=p.2) (zjj l)).2 hp
  have:=zx2 l p.1
  rw [hg] at this
  exact this.1
 have:=hn i j hi hj hij
 rw [←k1 _ (List.getElem_mem hi),←k1 _ (List.getElem_mem hj)] at this
 exact this e
theorem zp7 (l:List Conf):((zbk l).map Prod.snd).Nodup:=(yev l).imp fun h e=>h (by rw [e])
theorem zm1 (l:List Conf) (z:Conf):z∈zdq l ↔ zkn l z:=by
 rw [zdq,(zo5 zi3 _).mem_iff,zod]
theorem zm0 (l:List Conf):(zdq l).Pairwise (LtC zi3):=zxc zh9 (zr5 zf2 _) ((zo5 _ _).nodup_iff.2 (zp7 l))
theorem zxe {l m:List Conf} (hk:zz5 m) (h:∀z,z∈l ↔ z∈m):zdq l=zpl m:=by
 obtain ⟨h1,h2⟩:=zzi hk
 refine zu9 zf2 _ _ (zm0 l) h1 fun z=> ?_
 rw [zm1,h2]
 unfold zkn
 rw [h]
 exact ⟨fun q=>⟨q.1,fun c hc=>q.2 c ((h c).2 hc)⟩,fun q=>⟨q.1,fun c hc=>q.2 c ((h c).1 hc)⟩⟩
theorem zzh {l out:List Conf} (hk:zz5 l) (hp:out.Perm ((zbk l).map Prod.snd)) (hs:out.Pairwise fun a b=>zp3 a b≤0):out=zdq l:=by
 have hm:∀z∈out,z∈l:=fun z hz=>(zod.1 (hp.mem_iff.1 hz)).1
 have hs':out.Pairwise (LeC zi3):=by
  rw [List.pairwise_iff_getElem] at hs ⊢
  intro i j hi hj hij
  have:=hs i j hi hj hij
  rw [zn4 (hk _ (hm _ (List.getElem_mem hi)) _ (hm _ (List.getElem_mem hj)))] at this
  exact this
 refine zu9 zf2 _ _ (zxc zh9 hs' (hp.nodup_iff.2 (zp7 l))) (zm0 l) fun z=> ?_
 rw [hp.mem_iff,zm1,zod]
theorem zjr {h:Hist} {z:Conf} (hz:z∈zcv h):z.k=1:=by
 rw [zcv,List.mem_flatMap] at hz
 obtain ⟨x,_,hz⟩:=hz
 rw [List.mem_flatMap] at hz
 obtain ⟨f,_,hz⟩:=hz
 rw [zmq (Nat.le_refl _)] at hz
 obtain ⟨j,hj,_,hz⟩:=hz
 unfold zfa at hz
 split at hz
 ·injection hz with hz;rw [←hz];rfl
 ·cases hz
theorem ylc {h:Hist} {e:Ev} {a:Nat} {z:Conf} (hz:z∈zes h e a):z.k=2:=by
 rw [zes] at hz
 split at hz
 ·rw [List.mem_flatMap] at hz
  obtain ⟨s,_,hz⟩:=hz
  rw [List.mem_filterMap] at hz
  obtain ⟨k,_,hz⟩:=hz
  unfold zet at hz
  split at hz
  ·cases hz
  ·split at hz
   ·split at hz
    ·cases hz
    ·injection hz with hz;rw [←hz];rfl
   ·cases hz
 ·cases hz
theorem zjq {h:Hist} {z:Conf} (hz:z∈zc3 h):z.k=2:=by
 rw [zc3,zm2 (Nat.le_refl _)] at hz
 obtain ⟨j,hj,_,_,hz⟩:=hz
 exact ylc hz
theorem zyf {h:Hist} (hs:zar h=true):zdq (ze9 h)=zpl (zcv h):=zxe (fun a ha b hb=>by rw [zjr ha,zjr hb]) (zjp hs)
theorem zye {h:Hist} (hs:zar h=true):zdq (ze8 h)=zpl (zc3 h):=zxe (fun a ha b hb=>by rw [zjq ha,zjq hb]) (fun z=>by rw [zjo hs])
theorem ydf {h:Hist} (hs:zar h=true):zz5 (ze9 h):=fun a ha b hb=>by rw [zjr ((zjp hs a).1 ha),zjr ((zjp hs b).1 hb)]
theorem ya9 {h:Hist} (hs:zar h=true):zz5 (ze8 h):=fun a ha b hb=>by rw [zjo hs] at ha hb;rw [zjq ha,zjq hb]
theorem yh8 {h:Hist} (hs:zar h=true) {x:Int} (h0:0≤x) (h1:x < h.os.length) {k:Nat} (hk:k < (za0 h x).length):∃i,∃hi:i < h.evs.length,zi0 h.evs (za0 h x)[k] x=some (h.evs[i].v,i)∧zc9 h (za0 h x)[k] x=(i:Int)∧h.evs[i].kind=2∧h.evs[i].t=(za0 h x)[k]∧h.evs[i].o=x∧0 < h.evs[i].v.k∧h.evs[i].v.t=(za0 h x)[k]:=by
 obtain ⟨v,i,hf,_,hv,_⟩:=zwf hs h0 h1 hk
 obtain ⟨hi,e1,e2,e3,_⟩:=zkg hs hf
 obtain ⟨w1,w2,w3⟩:=zic.1 e2
 exact ⟨i,hi,by rw [hf,e1],by rw [zc9,hf];rfl,w1,w2,w3,by rw [e1];exact hv,by rw [e1];exact e3⟩
theorem zqq {h:Hist} {e:Ev} {n:Nat} {s:Seen} (hs:s∈j8 h e n):(0≤s.o∧s.o < h.os.length)∧∃hk:s.o.toNat < (j8 h e n).length,(j8 h e n)[s.o.toNat]=s:=by
 obtain ⟨k,hk,rfl⟩:=List.mem_iff_getElem.1 hs
 have e1:=yt1 hk
 have e2:=zi9 h e n
 refine ⟨by omega,by omega,?_⟩
 congr 1
 omega
def yqr (h:Hist) (e:Ev) (a:Nat):List Int:=zb6 (srt ((zh3 h e a).map Conf.t))
def we5:Ev:=⟨4,1,0,0,0,⟨0,0⟩,0,[⟨0,⟨0,1⟩⟩]⟩
def weE:List Ev:= [⟨1,0,0,4,0,⟨0,0⟩,0,[]⟩,⟨2,0,0,0,0,⟨0,1⟩,0,[]⟩,⟨5,0,0,0,0,⟨0,0⟩,0,[]⟩,⟨1,1,0,4,0,⟨0,0⟩,0,[]⟩,⟨3,1,0,0,0,⟨0,1⟩,0,[]⟩,we5,⟨5,1,0,0,0,⟨0,0⟩,0,[]⟩]
def weH:Hist:=⟨[bt1,bt2],[bS],[bX],[bP],weE,[],[⟨0,0,false,[0]⟩],[]⟩
theorem yjl:zfs weH=true:=by decide+kernel
theorem zie:zar weH=true:=by
 have:zkf weH=none:=(zxo yjl).trans (by decide+kernel)
 rw [zar,yjl,this];rfl
theorem zju:v6 weH=0:=za6.2 zie
theorem zwg:zcv weH= [⟨0,1,1,1,4,0,0⟩]:=by decide+kernel
theorem zqj:zc3 weH= [⟨0,1,2,1,5,0,0⟩]:=by decide+kernel
theorem yf5:zdq (ze9 weH)= [⟨0,1,1,1,4,0,0⟩]:=(zyf zie).trans (by rw [zwg];decide+kernel)
theorem yf4:zdq (ze8 weH)= [⟨0,1,2,1,5,0,0⟩]:=(zye zie).trans (by rw [zqj];decide+kernel)
theorem ytr:(⟨0,1,2,1,5,0,0⟩:Conf)∈ze8 weH:=by rw [zjo zie,zqj];simp
theorem yjk:¬(⟨0,1,1,1,6,0,0⟩:Conf)∈ze9 weH∧¬(⟨0,1,1,1,6,0,0⟩:Conf)∈ze8 weH:=by
 rw [zjp zie,zjo zie,zwg,zqj]
 constructor <;> decide
end Go.H
