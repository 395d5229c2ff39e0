/- The abstract logic, part 28: slices.Sort and slices.Compact at []int, as contracts over a row of one's own (the kit's shelf has walked them). .. -/
import Derived.Test.YtcaijocpofcbdaaGreatDoorSHaE
import Derived.Shelf.Sort.Plain
import Derived.Shelf.Slices.In.SortNone
import Derived.Shelf.Slices.CompactI
set_option linter.unusedSectionVars false
set_option linter.unusedSimpArgs false
set_option linter.unusedVariables false
namespace Go.Ab
open Go Go.Shelf Go.Sort Go.Proofs
def numR (n:Int):List AV:= [.v (.int .i64 n)]
theorem zva {X:Nat→Prop} {w:World} {a:Addr} {cap:Nat} {T:TypeId} {xs ys zs:List Int} (hh:HRel X w [.row (.slice (some a) xs.length cap) 1 T (xs.map numR)]) (hl:ys.length=xs.length) (hz:zs=ys.take zs.length) (n:Nat) (os:Array Obj):
 HRel X (grow (putRow (Value.int .i64) (Sort.ahead w n) a.block a.off ys.toArray) os) [.row (.slice (some a) zs.length cap) 1 T (zs.map numR)]∧
 Keep [a.block] w [a.block] (grow (putRow (Value.int .i64) (Sort.ahead w n) a.block a.off ys.toArray) os):=by
 obtain ⟨h1,h2,h3,h4,c,h5,h6,h7⟩:=hh.holds _ (List.mem_singleton.2 rfl)
 have hb:a.block < w.heap.size:=(hh.lt a.block (by simp [u7,Res.own])).1
 have hX:¬X a.block:=(hh.lt a.block (by simp [u7,Res.own])).2
 obtain ⟨w',hw'⟩:∃w',w'=grow (putRow (Value.int .i64) (Sort.ahead w n) a.block a.off ys.toArray) os:=⟨_,rfl⟩
 rw [←hw']
 have hheap:w'.heap=(w.heap.modify a.block (onCells (putCells (Value.int .i64) a.off ys.toArray)))++os:=by rw [hw'];rfl
 have hos:ziu w w':=by rw [hw'];exact ⟨⟨rfl,rfl⟩,rfl,Nat.le_add_right _ _⟩
 have hsize:w.heap.size≤w'.heap.size:=by rw [hheap];simp
 have hold:∀b,b < w.heap.size→b≠a.block→w'.heap[b]? =w.heap[b]? :=fun b hb hne=>by
  rw [hheap,Array.getElem?_append_left (by simpa using hb),Array.getElem?_modify,if_neg (Ne.symm hne)]
 have hnew:w'.heap[a.block]? =some (.cells (putCells (Value.int .i64) a.off ys.toArray c) T (0,0)):=by
  rw [hheap,Array.getElem?_append_left (by simpa using hb),Array.getElem?_modify,if_pos rfl,h5];rfl
 have hlen:zs.length≤ys.length:=by
  have:=congrArg List.length hz
  rw [List.length_take] at this;omega
 refine ⟨⟨by simp [u7,Res.own],fun b hb2=> ?_,fun b hb2=>Nat.lt_of_lt_of_le (hh.xlt b hb2) hsize,fun r hr=> ?_⟩,⟨hsize,fun b hb2 hne=> ?_,hos⟩⟩
 ·have:b=a.block:=by simpa [u7,Res.own] using hb2
  subst this;exact ⟨Nat.lt_of_lt_of_le hb hsize,hX⟩
 ·rw [List.mem_singleton] at hr
  subst hr
  refine ⟨h1,by simp,by simp at h2 h3;omega,fun i hi=>by simp [numR],_,hnew,by simpa [putCells] using h6,fun i hi j hj=> ?_⟩
  have hi2:i < zs.length:=by simpa using hi
  have hj0:j=0:=by simp [numR] at hj;omega
  subst hj0
  have hc:a.off+i < c.size:=by simp at h2 h3;omega
  refine ⟨.int .i64 (zs[i]),?_,?_⟩
  ·have hz2:zs[i]=ys[i]'(by omega):=by
    have:zs[i]? =(ys.take zs.length)[i]? :=by rw [←hz]
    rw [List.getElem?_take_of_lt hi2,List.getElem?_eq_getElem hi2,List.getElem?_eq_getElem (by omega)] at this
    exact Option.some.inj this
   have e:a.off+i * 1+0=a.off+i:=by omega
   rw [e]
   simp only [putCells,Array.getElem?_mapIdx]
   rw [Array.getElem?_eq_getElem hc]
   simp only [Option.map_some]
   rw [if_pos ⟨by omega,by simp;omega⟩,hz2]
   have e2:a.off+i - a.off=i:=by omega
   rw [e2]
   congr 2
   exact getElem!_pos _ _ (by simp;omega)
  ·simp only [List.getElem_map,numR]
   exact .v _
 ·have hne2:b≠a.block:=by simpa using hne
  exact ⟨hold b hb2 hne2,hne⟩
theorem zvb {X:Nat→Prop} {w:World} {a:Addr} {cap:Nat} {T:TypeId} {xs:List Int} (hh:HRel X w [.row (.slice (some a) xs.length cap) 1 T (xs.map numR)]):Holds (Value.int .i64) w a.block a.off xs.toArray∧a.block < w.heap.size∧xs.length≤cap∧a.spot=none:=by
 obtain ⟨h1,h2,h3,h4,c,h5,h6,h7⟩:=hh.holds _ (List.mem_singleton.2 rfl)
 refine ⟨fun j hj=> ?_,(hh.lt a.block (by simp [u7,Res.own])).1,h3,h1⟩
 have hj2:j < xs.length:=by simpa using hj
 obtain ⟨v,e,r⟩:=h7 j (by simpa using hj2) 0 (by simp [numR])
 simp only [List.getElem_map,numR] at r
 have hv:v= .int .i64 xs[j]:=r.v_eq
 subst hv
 have e0:a.off+j * 1+0=a.off+j:=by omega
 rw [e0] at e
 refine ⟨?_,?_⟩
 ·have e2:w.cell? ⟨a.block,a.off+j,none⟩=some (.int .i64 xs[j]):=by simp [World.cell?,h5,e]
  have e3:xs.toArray[j]! =xs[j]:=getElem!_pos xs.toArray j hj
  rw [e2,e3]
 ·simp [World.frozen?,h5]
theorem zy9 {X:Nat→Prop} {w:World} {n cap:Nat} {T:TypeId} {xs:List Int} (hh:HRel X w [.row (.slice none n cap) 1 T (xs.map numR)]):xs= []∧n=0∧cap=0:=by
 obtain ⟨h1,h2,h3⟩:=hh.holds _ (List.mem_singleton.2 rfl)
 exact ⟨by simpa using h1,h2,h3⟩
section
variable {P:Program} {ρ:Ren}
theorem zx1 (Ly:Lays.n189 P ρ) (s:SV) (T:TypeId) (xs:List Int) (hs:xs.length < 4611686018427387904):
 x4 P (ρ.f 189) [.v s.v] [.row s.v 1 T (xs.map numR)] (fun r h'=>h'= [.row s.v 1 T ((xs.mergeSort fun x y=>decide (x≤y)).map numR)]∧r= .v (.tuple #[])):=by
 intro X w vs hh ha
 match vs,ha with
 | [v],⟨hv,_⟩=>
   obtain rfl:=hv.v_eq
   obtain ⟨a,n,cap⟩:=s
   cases a with
   |none=>
    obtain ⟨rfl,rfl,rfl⟩:=zy9 hh
    refine callsIn_wide.2 ((Any.slices_Sort_int_none Ly none 0 w).mono ?_)
    rintro e w' ⟨rfl,rfl⟩
    exact ⟨_,_,_,rfl,⟨rfl,rfl⟩,.v _,by simpa using hh,.refl _ _⟩
   |some a=>
    have hn:n=xs.length:=by
     have:=(hh.holds _ (List.mem_singleton.2 rfl)).2.1
     simpa using this
    subst hn
    obtain ⟨g1,g2,g3,g4⟩:=zvb hh
    obtain ⟨b,off,sp⟩:=a
    simp only at g1 g2 g4
    subst g4
    refine callsIn_wide.2 ((Any.slices_Sort_int Ly b off cap xs w g1 g2 hs).mono ?_)
    rintro e w' ⟨rfl,n,os,rfl⟩
    have hlen:(xs.mergeSort fun x y=>decide (x≤y)).length=xs.length:=List.length_mergeSort _
    obtain ⟨k1,k2⟩:=zva (zs:=xs.mergeSort fun x y=>decide (x≤y)) hh hlen (List.take_length).symm n os
    rw [hlen] at k1
    exact ⟨_,_,_,rfl,⟨rfl,rfl⟩,.v _,k1,k2⟩
theorem zp7 (Ly:Lays2.n20 P ρ) (s:SV) (T:TypeId) (xs:List Int) (hs:xs.length≤4611686018427387904):
 x4 P (ρ.f 20) [.v s.v] [.row s.v 1 T (xs.map numR)] (fun r h'=>∃s':SV,h'= [.row s'.v 1 T ((Lib.compact xs).map numR)]∧r= .v s'.v):=by
 intro X w vs hh ha
 match vs,ha with
 | [v],⟨hv,_⟩=>
   obtain rfl:=hv.v_eq
   obtain ⟨a,n,cap⟩:=s
   cases a with
   |none=>
    obtain ⟨rfl,rfl,rfl⟩:=zy9 hh
    refine callsIn_wide.2 ((Any.slices_Compact_int_empty Ly none 0 w).mono ?_)
    rintro e w' ⟨rfl,rfl⟩
    exact ⟨_,_,_,rfl,⟨⟨none,0,0⟩,rfl,rfl⟩,.v _,hh,.refl _ _⟩
   |some a=>
    have hn:n=xs.length:=by
     have:=(hh.holds _ (List.mem_singleton.2 rfl)).2.1
     simpa using this
    subst hn
    obtain ⟨g1,g2,g3,g4⟩:=zvb hh
    obtain ⟨b,off,sp⟩:=a
    simp only at g1 g2 g4
    subst g4
    refine callsIn_wide.2 ((Any.slices_Compact_int Ly b off cap xs w g1 (by omega) g3).mono ?_)
    rintro e w' ⟨rfl,q,rfl⟩
    have hle:(Lib.compact xs).length≤xs.length:=by
     unfold Lib.compact Lib.compactUpTo
     rw [List.length_map]
     exact Nat.le_trans (List.length_filter_le _ _) (by simp)
    obtain ⟨k1,k2⟩:=zva (ys:=Lib.compact xs++List.replicate (xs.length - (Lib.compact xs).length) 0) (zs:=Lib.compact xs) hh (by simp;omega) (by rw [List.take_left'];rfl) q #[]
    rw [grow_empty] at k1 k2
    exact ⟨_,_,_,rfl,⟨⟨some ⟨b,off,none⟩,(Lib.compact xs).length,cap⟩,rfl,rfl⟩,.v _,k1,k2⟩
end
end Go.Ab
namespace Go.H
open Go Go.Ab
theorem zoc (y:Int):∀l:List Int,zbo (l++ [y])=zbo l++(if l.getLast? =some y then [] else [y])
 | []=>by simp [zbo]
 | [x]=>by
   by_cases h:x=y
   ·subst h;simp [zbo]
   ·simp [zbo,h]
 |x::z::r=>by
  have ih:=zoc y (z::r)
  simp only [List.cons_append] at ih ⊢
  have hl:(x::z::r).getLast? =(z::r).getLast? :=by simp [List.getLast?_cons]
  rw [hl,zbo,zbo]
  by_cases h:x=z
  ·rw [if_pos h,if_pos h];exact ih
  ·rw [if_neg h,if_neg h,ih];rfl
theorem zxs (xs:List Int):Lib.compact xs=zbo xs:=by
 have key:∀m,m≤xs.length→Lib.compactUpTo xs.toArray m=zbo (xs.take m):=by
  intro m
  induction m with
  |zero=>intro _;rfl
  |succ m ih=>
   intro hm
   have hlt:m < xs.length:=hm
   rw [Lib.compactUpTo_succ,ih (by omega),List.take_succ_eq_append_getElem hlt,zoc]
   congr 1
   have e1:xs.toArray[m]! =xs[m]:=by simp [hlt]
   by_cases h0:m=0
   ·subst h0
    simp [Lib.keeps,hlt]
   ·have hlt':m - 1 < xs.length:=by omega
    have e2:xs.toArray[m - 1]! =xs[m - 1]:=by simp [hlt']
    have e3:(xs.take m).getLast? =some xs[m - 1]:=by
     rw [List.getLast?_eq_getElem?,List.length_take,Nat.min_eq_left (by omega),List.getElem?_take_of_lt (by omega)]
     simp [hlt']
    rw [e3]
    unfold Lib.keeps
    rw [e1,e2]
    by_cases he:xs[m]=xs[m - 1]
    ·rw [if_neg (by simp [h0,he]),if_pos (by rw [he])]
    ·rw [if_pos (by simp [he]),if_neg (fun q=>he (Option.some.inj q).symm)]
 have:=key xs.length (Nat.le_refl _)
 rw [List.take_length] at this
 exact this
def yho (l:List Ev):List (Int×Bool):=l.foldl (fun m e=>zfz e.t ((zb2 e.t m).getD false||e.kind==5) m) []
theorem ybr (t:Int):∀(l:List Ev) (m:List (Int×Bool)),(zb2 t (l.foldl (fun m e=>zfz e.t ((zb2 e.t m).getD false||e.kind==5) m) m)).getD false=((zb2 t m).getD false||l.any fun y=>y.t==t && y.kind==5)
 | [],m=>by simp
 |e::l,m=>by
  rw [List.foldl_cons,ybr t l,List.any_cons,zc0]
  by_cases h:e.t=t
  ·subst h;simp [Bool.or_assoc]
  ·have:(e.t==t)=false:=by simpa using h
   rw [if_neg h,this,Bool.false_and,Bool.false_or]
theorem zlm (l:List Ev) (t:Int):(zb2 t (yho l)).getD false=l.any fun y=>y.t==t && y.kind==5:=by
 rw [yho,ybr];simp [zb2]
theorem zjf {l:List Ev} {k:Nat} (hk:k < l.length):yho (l.take (k+1))=zfz l[k].t ((zb2 l[k].t (yho (l.take k))).getD false||l[k].kind==5) (yho (l.take k)):=by
 rw [List.take_succ_eq_append_getElem hk,yho,List.foldl_append];rfl
section
variable {α:Type} {l:List α} {k:Nat} {p:α→Bool}
theorem yry (hk:k < l.length) (h:p l[k]=true):(l.take (k+1)).filter p=(l.take k).filter p++ [l[k]]:=by
 rw [List.take_succ_eq_append_getElem hk,List.filter_append];simp [h]
theorem yli (hk:k < l.length) (h:p l[k]=false):(l.take (k+1)).filter p=(l.take k).filter p:=by
 rw [List.take_succ_eq_append_getElem hk,List.filter_append];simp [h]
theorem ybd:((l.take k).filter p).length≤l.length:=Nat.le_trans (List.length_filter_le _ _) (by simp;omega)
end
def wrB (l:List Ev) (x:Int) (e:Ev):Bool:=e.kind==2 && e.o==x && l.any fun y=>y.t==e.t && y.kind==5
theorem zso (l:List Ev) (x:Int):zan l x=zbo (srt ((l.filter (wrB l x)).map Ev.t)):=rfl
theorem zr9 (l:List Int) (n:Int):(l.any fun a=>a==n)=l.contains n:=by
 rw [Bool.eq_iff_iff];simp
theorem zjk (l:List Ev) (x:Int):(zan l x).length≤l.length:=by
 rw [zso]
 refine Nat.le_trans (zmu _) ?_
 rw [(zen _).length_eq,List.length_map]
 exact List.length_filter_le _ _
theorem zjz (a b:Nat):((a:Int) !=(b:Int))= !decide (a=b):=by
 rw [Bool.eq_iff_iff];simp;omega
theorem y3.new {P:Program} {fv:AV} {args:List AV} {h:List Res} {R:AV→List Res→Prop} (hc:y3 P fv args [] R):y3 P fv args h (fun r h'=>∃h1,R r h1∧h'=h1++h):=
 (hc.frame h).mono fun _ _ ⟨h1,e,q⟩=>⟨h1,q,e⟩
def zkq (h:Hist) (n many:Int):Int:=if j5 h=0 then (if 0≤n∧n < many then 0 else 2) else j5 h
def onE (e:Int) (l:List Int):List Int:=if e=0 then l else []
theorem zxz {h:Hist} {n many:Int} (he:zkq h n many=0):zbg h=true∧0≤n∧n < many:=by
 unfold zkq at he
 split at he
 ·rename_i hc
  split at he
  ·rename_i hn;exact ⟨zdy.1 hc,hn⟩
  ·cases he
 ·rename_i hc;exact absurd he hc
theorem yl1 {h:Hist} {n many:Int} (hc:j5 h≠0):zkq h n many=j5 h:=by rw [zkq,if_neg hc]
theorem zxy {h:Hist} {n many:Int} (hc:j5 h=0) (hn:¬(0≤n∧n < many)):zkq h n many=2:=by rw [zkq,if_pos hc,if_neg hn]
theorem zxx {h:Hist} {n many:Int} (hc:j5 h=0) (hn:0≤n∧n < many):zkq h n many=0:=by rw [zkq,if_pos hc,if_pos hn]
def zll (l:List Ev):List (Int×Bool):=zu5 (fun e:Ev=>e.kind==5) Ev.t [] l
theorem zv6 (l:List Ev) (t:Int):(zb2 t (zll l)).getD false=zrq l t 5:=by
 rw [zll,zhn,zfc]
 have:(l.any fun e=>e.kind==5 && decide (e.t=t))=l.any fun y=>y.t==t && y.kind==5:=by
  congr 1;funext e;rw [Bool.and_comm];rfl
 rw [this]
 cases l.any fun y=>y.t==t && y.kind==5 <;> rfl
theorem ypd {l:List Ev} {k:Nat} (hk:k < l.length) (h5:(l[k].kind==5)=true):zll (l.take (k+1))=zfz l[k].t true (zll (l.take k)):=by
 rw [List.take_succ_eq_append_getElem hk,zll,zu5,List.foldl_append,List.foldl_cons,List.foldl_nil,if_pos h5];rfl
theorem ype {l:List Ev} {k:Nat} (hk:k < l.length) (h5:(l[k].kind==5)=false):zll (l.take (k+1))=zll (l.take k):=by
 rw [List.take_succ_eq_append_getElem hk,zll,zu5,List.foldl_append,List.foldl_cons,List.foldl_nil,if_neg (by rw [h5];decide)];rfl
section
variable {α:Type} (cmp:α→α→Int)
def mrg:List α→List α→List α
 | [],b=>b
 |x::a,[]=>x::a
 |x::a,y::b=>if cmp y x < 0 then y::mrg (x::a) b else x::mrg a (y::b)
termination_by a b=>a.length+b.length
theorem zgf (a:List α):mrg cmp a []=a:=by cases a <;> simp [mrg]
theorem zk9:∀(a b:List α),(mrg cmp a b).Perm (a++b)
 | [],b=>by simp [mrg]
 |x::a,[]=>by simp [mrg]
 |x::a,y::b=>by
  rw [mrg]
  split
  ·exact ((zk9 (x::a) b).cons y).trans (List.perm_middle (l₁:=x::a)).symm
  ·exact (zk9 a (y::b)).cons x
termination_by a b=>a.length+b.length
def LeC (a b:α):Prop:=cmp a b≤0
structure CmpOk:Prop where
 trans:∀a b c,cmp a b≤0→cmp b c≤0→cmp a c≤0
 anti:∀a b,cmp b a= - cmp a b
variable {cmp}
theorem zjw (ok:CmpOk cmp):∀(a b:List α),a.Pairwise (LeC cmp)→b.Pairwise (LeC cmp)→(mrg cmp a b).Pairwise (LeC cmp)
 | [],b,_,hb=>by simpa [mrg] using hb
 |x::a,[],ha,_=>by simpa [mrg] using ha
 |x::a,y::b,ha,hb=>by
  rw [mrg]
  have ha':=List.pairwise_cons.1 ha
  have hb':=List.pairwise_cons.1 hb
  split
  ·rename_i h
   refine List.pairwise_cons.2 ⟨fun z hz=> ?_,zjw ok (x::a) b ha hb'.2⟩
   have hz':=(zk9 cmp (x::a) b).mem_iff.1 hz
   rcases List.mem_append.1 hz' with hz'|hz'
   ·have hyx:LeC cmp y x:=Int.le_of_lt h
    rcases List.mem_cons.1 hz' with rfl|hz'
    ·exact hyx
    ·exact ok.trans _ _ _ hyx (ha'.1 z hz')
   ·exact hb'.1 z hz'
  ·rename_i h
   have hxy:LeC cmp x y:=by have:=ok.anti x y;show cmp x y≤0;omega
   refine List.pairwise_cons.2 ⟨fun z hz=> ?_,zjw ok a (y::b) ha'.2 hb⟩
   have hz':=(zk9 cmp a (y::b)).mem_iff.1 hz
   rcases List.mem_append.1 hz' with hz'|hz'
   ·exact ha'.1 z hz'
   ·rcases List.mem_cons.1 hz' with rfl|hz'
    ·exact hxy
    ·exact ok.trans _ _ _ hxy (hb'.1 z hz')
termination_by a b=>a.length+b.length
variable (cmp)
variable {cmp}
end
section
variable {α:Type} [DecidableEq α] (cmp:α→α→Int)
variable {cmp}
end
section
variable {α:Type}
end
structure Conf where
 f:Int
 t:Int
 k:Int
 a:Int
 b:Int
 o:Int
 p:Int
 deriving DecidableEq
abbrev RkM:=List ((Int×Int×Int)×Int)
def zsi (x:Int) (v:Ver):Int×Int×Int:=(x,v.t,v.k)
theorem zix {x y:Int} {v w:Ver}:zsi x v=zsi y w ↔ x=y∧v=w:=by
 cases v;cases w;simp [zsi]
def zku (h:Hist) (x t:Int):Ver:=yie (zv4 h.evs t x)
def zhx (h:Hist) (x:Int):Nat→List Int→RkM→RkM
 |_,[],m=>m
 |i,t::r,m=>zhx h x (i+1) r (zfz (zsi x (zku h x t)) ((i:Int)+1) m)
def yd1 (h:Hist) (x:Int) (m:RkM):RkM:=zhx h x 0 (zf5 h x) (zfz (zsi x ⟨0,0⟩) 0 m)
def rkM (h:Hist):Nat→RkM
 |0=> []
 |n+1=>yd1 h n (rkM h n)
theorem znw (h:Hist) (x:Int):∀(l:List Int) (i:Nat) (t:Int) (m:RkM),zhx h x i (l++ [t]) m=zfz (zsi x (zku h x t)) (((i+l.length:Nat):Int)+1) (zhx h x i l m)
 | [],i,t,m=>by simp [zhx]
 |a::r,i,t,m=>by
  rw [List.cons_append,zhx,znw h x r (i+1) t,zhx,List.length_cons,show i+1+r.length=i+(r.length+1) by omega]
theorem yjd {h:Hist} {x:Int} {l:List Int} {k:Nat} (hk:k < l.length) (m:RkM):zhx h x 0 (l.take (k+1)) m=zfz (zsi x (zku h x l[k])) ((k:Int)+1) (zhx h x 0 (l.take k) m):=by
 rw [List.take_succ_eq_append_getElem hk,znw,List.length_take,Nat.min_eq_left (by omega),Nat.zero_add]
theorem zig (h:Hist) {x y:Int} (hxy:y≠x) (v:Ver):∀(l:List Int) (i:Nat) (m:RkM),zb2 (zsi y v) (zhx h x i l m)=zb2 (zsi y v) m
 | [],_,_=>rfl
 |t::r,i,m=>by
  rw [zhx,zig h hxy v r (i+1),zc0,if_neg]
  intro e;exact hxy ((zix.1 e).1).symm
theorem zqw (h:Hist) (x:Int) (v:Ver):∀(l:List Int) (i:Nat) (m:RkM),(l.map (zku h x)).Nodup→zb2 (zsi x v) (zhx h x i l m)=if zbh (fun t=>zku h x t==v) i l ≥ 0 then some (zbh (fun t=>zku h x t==v) i l+1) else zb2 (zsi x v) m
 | [],i,m,_=>by rw [zhx,zbh,if_neg (by decide)]
 |t::r,i,m,hn=>by
  rw [List.map_cons,List.nodup_cons] at hn
  rw [zhx,zqw h x v r (i+1) _ hn.2]
  by_cases e:zku h x t=v
  ·have hno:decide (zbh (fun t=>zku h x t==v) (i+1) r ≥ 0)=false:=by
    rw [zeh,List.any_eq_false]
    intro z hz q
    exact hn.1 (by rw [e,←eq_of_beq q];exact List.mem_map_of_mem hz)
   have e1:zbh (fun t=>zku h x t==v) i (t::r)=(i:Int):=by rw [zbh,if_pos (by simpa using e)]
   rw [e1,if_neg (of_decide_eq_false hno),if_pos (by omega),zc0,if_pos (by rw [e])]
  ·have e1:zbh (fun t=>zku h x t==v) i (t::r)=zbh (fun t=>zku h x t==v) (i+1) r:=by rw [zbh,if_neg (by simpa using e)]
   rw [e1]
   by_cases q:zbh (fun t=>zku h x t==v) (i+1) r ≥ 0
   ·rw [if_pos q,if_pos q]
   ·rw [if_neg q,if_neg q,zc0,if_neg]
    intro e2;exact e ((zix.1 e2).2)
theorem ybj {h:Hist} (hs:zbg h=true) {x:Int} (h0:0≤x) (h1:x < h.os.length):((zf5 h x).map (zku h x)).Nodup∧∀t∈zf5 h x,zku h x t≠⟨0,0⟩:=by
 obtain ⟨hn,_,hm⟩:=zmj hs h0 h1
 have hv:∀t∈zf5 h x,(zku h x t).t=t∧0 < (zku h x t).k:=fun t ht=>by
  obtain ⟨w1,_⟩:=zsn.1 ((hm t).1 ht)
  obtain ⟨v,i,hf⟩:=yo5 w1
  obtain ⟨_,_,_,vt,vk,_⟩:=ybi hs hf
  rw [zku,hf];exact ⟨vt,vk⟩
 constructor
 ·rw [List.Nodup,List.pairwise_map]
  refine (List.pairwise_iff_getElem).2 fun i j hi hj hij e=> ?_
  have a:=(hv _ (List.getElem_mem hi)).1
  have b:=(hv _ (List.getElem_mem hj)).1
  rw [e] at a
  exact (List.pairwise_iff_getElem.1 hn) i j hi hj hij (a.symm.trans b)
 ·intro t ht e
  have:=(hv t ht).2
  rw [e] at this;exact absurd this (by decide)
theorem zs3 (h:Hist) (x:Int) (v:Ver):∀n:Nat,(n:Int)≤x∨x < 0→zb2 (zsi x v) (rkM h n)=none
 |0,_=>rfl
 |n+1,hx=>by
  have hne:x≠(n:Int):=by omega
  rw [rkM,yd1,zig h hne,zc0,if_neg,zs3 h x v n (by omega)]
  intro e;exact hne ((zix.1 e).1).symm
theorem zza {h:Hist} (hs:zbg h=true) {x:Int} (v:Ver) (h0:0≤x) (h1:x < h.os.length):∀n:Nat,n≤h.os.length→x < n→zb2 (zsi x v) (rkM h n)=if v=⟨0,0⟩ then some 0 else if zs6 h x v ≥ 0 then some (zs6 h x v+1) else none
 |0,_,hx=>absurd hx (by omega)
 |n+1,hn,hx=>by
  by_cases e:x=(n:Int)
  ·subst e
   obtain ⟨a,b⟩:=ybj hs h0 h1
   rw [rkM,yd1,zqw h _ v _ _ _ a,zc0]
   have hr:zbh (fun t=>zku h (n:Int) t==v) 0 (zf5 h n)=zs6 h n v:=rfl
   rw [hr]
   by_cases hv:v=⟨0,0⟩
   ·subst hv
    have:decide (zs6 h n ⟨0,0⟩ ≥ 0)=false:=by
     rw [zs6,zeh,List.any_eq_false]
     intro t ht q
     exact b t ht (eq_of_beq q)
    rw [if_neg (of_decide_eq_false this),if_pos rfl,if_pos rfl]
   ·rw [if_neg hv,if_neg (fun e=>hv ((zix.1 e).2).symm),zs3 h _ v n (.inl (Int.le_refl _))]
  ·rw [rkM,yd1,zig h e,zc0,if_neg (fun q=>e ((zix.1 q).1).symm)]
   exact zza hs v h0 h1 n (by omega) (by omega)
def zvd (h:Hist) (x:Int) (v:Ver):Option Int:=zb2 (zsi x v) (rkM h h.os.length)
theorem zpl {α β:Type} {f g:α→Option β}:∀{l:List α},(∀a∈l,f a=g a)→l.filterMap f=l.filterMap g
 | [],_=>rfl
 |a::r,h=>by rw [List.filterMap_cons,List.filterMap_cons,h a (by simp),zpl fun b hb=>h b (by simp [hb])]
section
variable {α:Type} {cmp:α→α→Int}
theorem zg6:∀(A1 B1 A2 B2:List α),(∀a∈A1,∀b∈B2,¬cmp b a < 0)→(∀b∈B1,∀a∈A2,cmp b a < 0)→mrg cmp (A1++A2) (B1++B2)=mrg cmp A1 B1++mrg cmp A2 B2
 | [],[],A2,B2,_,_=>by simp [mrg]
 | [],b::B,A2,B2,h1,h2=>by
   have ih:=zg6 [] B A2 B2 (by simp) (fun b hb a ha=>h2 b (by simp [hb]) a ha)
   simp only [List.nil_append,mrg] at ih ⊢
   cases A2 with
   |nil=>rw [List.cons_append,mrg,←List.cons_append];simp [mrg]
   |cons a r=>rw [List.cons_append,mrg,if_pos (h2 b (by simp) a (by simp)),ih];rfl
 |a::A,[],A2,B2,h1,h2=>by
  have ih:=zg6 A [] A2 B2 (fun a ha b hb=>h1 a (by simp [ha]) b hb) (by simp)
  rw [zgf] at ih ⊢
  simp only [List.nil_append] at ih ⊢
  cases B2 with
  |nil=>rw [zgf,zgf]
  |cons b r=>rw [List.cons_append,mrg,if_neg (h1 a (by simp) b (by simp)),ih];rfl
 |a::A,b::B,A2,B2,h1,h2=>by
  rw [List.cons_append,List.cons_append,mrg,mrg]
  by_cases q:cmp b a < 0
  ·rw [if_pos q,if_pos q]
   have ih:=zg6 (a::A) B A2 B2 h1 (fun b hb a ha=>h2 b (by simp [hb]) a ha)
   rw [List.cons_append] at ih
   rw [ih];rfl
  ·rw [if_neg q,if_neg q]
   have ih:=zg6 A (b::B) A2 B2 (fun a ha b hb=>h1 a (by simp [ha]) b hb) h2
   rw [List.cons_append] at ih
   rw [ih];rfl
termination_by A1 B1=>A1.length+B1.length
theorem zla (ok:CmpOk cmp) {L R:List α} (hL:L.Pairwise (LeC cmp)) (hR:R.Pairwise (LeC cmp)) {x y:Nat} (hx:x≤L.length) (hy:y≤R.length)
 (h1:∀_:1≤x,∀hy:y < R.length,¬cmp R[y] (L[x - 1]'(by omega)) < 0) (h2:∀hx:x < L.length,∀_:1≤y,cmp (R[y - 1]'(by omega)) L[x] < 0):
 mrg cmp L R=mrg cmp (L.take x) (R.take y)++mrg cmp (L.drop x) (R.drop y):=by
 have le:∀{l:List α},l.Pairwise (LeC cmp)→∀i j,(hi:i < l.length)→(hj:j < l.length)→i≤j→cmp l[i] l[j]≤0:=fun {l} hl i j hi hj hij=>by
  rcases Nat.lt_or_eq_of_le hij with q|q
  ·exact (List.pairwise_iff_getElem.1 hl) i j hi hj q
  ·subst q;have:=ok.anti l[i] l[i];omega
 rw [←zg6,List.take_append_drop,List.take_append_drop]
 ·intro a ha b hb hlt
  obtain ⟨i,hi,rfl⟩:=List.mem_iff_getElem.1 ha
  obtain ⟨j,hj,rfl⟩:=List.mem_iff_getElem.1 hb
  simp only [List.length_take,List.length_drop] at hi hj
  rw [List.getElem_take,List.getElem_drop] at hlt
  have e:=h1 (by omega) (by omega)
  have q1:=le hL i (x - 1) (by omega) (by omega) (by omega)
  have q2:=le hR y (y+j) (by omega) (by omega) (by omega)
  have q3:=ok.anti R[y] (L[x - 1]'(by omega))
  have q4:=ok.trans _ _ _ q1 (show cmp (L[x - 1]'(by omega)) R[y]≤0 by omega)
  have q5:=ok.trans _ _ _ q4 q2
  have q6:=ok.anti (R[y+j]'(by omega)) (L[i]'(by omega))
  omega
 ·intro b hb a ha
  obtain ⟨j,hj,rfl⟩:=List.mem_iff_getElem.1 hb
  obtain ⟨i,hi,rfl⟩:=List.mem_iff_getElem.1 ha
  simp only [List.length_take,List.length_drop] at hi hj
  rw [List.getElem_take,List.getElem_drop]
  have e:=h2 (by omega) (by omega)
  have q1:=le hR j (y - 1) (by omega) (by omega) (by omega)
  have q2:=le hL x (x+i) (by omega) (by omega) (by omega)
  have q4:=ok.trans _ _ _ q1 (Int.le_of_lt e)
  have q5:=ok.trans _ _ _ q4 q2
  rcases Int.lt_or_eq_of_le q5 with z|z
  ·exact z
  ·exfalso
   have a1:=ok.anti (R[j]'(by omega)) (L[x+i]'(by omega))
   have a2:=ok.trans _ _ _ q2 (show cmp (L[x+i]'(by omega)) (R[j]'(by omega))≤0 by omega)
   have a3:=ok.trans _ _ _ a2 q1
   have a4:=ok.anti L[x] (R[y - 1]'(by omega))
   omega
end
section
variable {α:Type} (key:α→Int)
def zbm (a b:α):Int:=key a - key b
theorem zsa:CmpOk (zbm key):=⟨fun a b c h k=>by simp only [zbm] at *;omega,fun a b=>by simp only [zbm];omega⟩
def zqf (l m:List α):Prop:=m.Pairwise (LeC (zbm key))∧∀x,(m.filter fun a=>key a==x)=l.filter fun a=>key a==x
theorem zjx (x:Int):∀(A B:List α),A.Pairwise (LeC (zbm key))→B.Pairwise (LeC (zbm key))→((mrg (zbm key) A B).filter fun a=>key a==x)=(A.filter fun a=>key a==x)++B.filter fun a=>key a==x
 | [],B,_,_=>by simp [mrg]
 |a::A,[],_,_=>by simp [mrg]
 |a::A,b::B,hA,hB=>by
  have hA':=List.pairwise_cons.1 hA
  have hB':=List.pairwise_cons.1 hB
  rw [mrg]
  split
  ·rename_i q
   have q:key b < key a:=by simp only [zbm] at q;omega
   rw [List.filter_cons,zjx x (a::A) B hA hB'.2,List.filter_cons (x:=b)]
   by_cases e:key b=x
   ·have hn:(a::A).filter (fun a=>key a==x)= []:=by
     rw [List.filter_eq_nil_iff]
     intro z hz
     have:key a≤key z:=by
      rcases List.mem_cons.1 hz with rfl|hz
      ·exact Int.le_refl _
      ·have h0:key a - key z≤0:=hA'.1 z hz
       omega
     simp;omega
    rw [hn];simp [e]
   ·simp [e]
  ·rw [List.filter_cons,zjx x A (b::B) hA'.2 hB,List.filter_cons (x:=a)]
   split <;> simp
termination_by A B=>A.length+B.length
theorem zux {l1 l2 m1 m2:List α} (h1:zqf key l1 m1) (h2:zqf key l2 m2):zqf key (l1++l2) (mrg (zbm key) m1 m2):=
 ⟨zjw (zsa key) _ _ h1.1 h2.1,fun x=>by rw [zjx key x _ _ h1.1 h2.1,h1.2,h2.2,List.filter_append]⟩
theorem ydm (a:α):zqf key [a] [a]:=⟨by simp,fun _=>rfl⟩
theorem zuw:zqf key ([]:List α) []:=⟨.nil,fun _=>rfl⟩
theorem zfm {β:Type} {f g:Int→List β}:∀{l:List Int},(∀a∈l,f a=g a)→l.flatMap f=l.flatMap g
 | [],_=>rfl
 |a::r,h=>by rw [List.flatMap_cons,List.flatMap_cons,h a (by simp),zfm fun b hb=>h b (by simp [hb])]
theorem yig (n:Nat) {x:Int} (h:x∈upR n):0≤x∧x < n:=by
 rw [upR,List.mem_map] at h
 obtain ⟨k,hk,rfl⟩:=h
 have:=List.mem_range.1 hk
 omega
theorem zlx:∀(n:Nat) (l:List α),l.Pairwise (LeC (zbm key))→(∀a∈l,0≤key a∧key a < n)→l=(upR n).flatMap fun x=>l.filter fun a=>key a==x
 |0,l,_,h=>by
  have:l= []:=by
   cases l with
   |nil=>rfl
   |cons a r=>have:=h a (by simp);omega
  subst this;rfl
 |n+1,l,hs,h=>by
  have e:∀l:List α,l.Pairwise (LeC (zbm key))→(∀a∈l,0≤key a∧key a < (n+1:Nat))→l=(l.filter fun a=>decide (key a < n))++l.filter fun a=>key a==(n:Int):=by
   intro l
   induction l with
   |nil=>intro _ _;rfl
   |cons a r ih=>
    intro hs h
    have hs':=List.pairwise_cons.1 hs
    have ihr:=ih hs'.2 fun z hz=>h z (by simp [hz])
    have ha:=h a (by simp)
    rw [List.filter_cons,List.filter_cons]
    by_cases q:key a < n
    ·rw [if_pos (by simpa using q),if_neg (by simp;omega),List.cons_append,←ihr]
    ·have hr:r.filter (fun a=>decide (key a < n))= []:=by
      rw [List.filter_eq_nil_iff]
      intro z hz
      have h0:key a - key z≤0:=hs'.1 z hz
      simp;omega
     rw [hr,List.nil_append] at ihr
     rw [if_neg (by simpa using q),hr,List.nil_append,if_pos (by simp;omega),←ihr]
  have h1:=e l hs h
  have hs1:(l.filter fun a=>decide (key a < n)).Pairwise (LeC (zbm key)):=hs.filter _
  have ih:=zlx n (l.filter fun a=>decide (key a < n)) hs1 fun a ha=>by
   obtain ⟨m1,m2⟩:=List.mem_filter.1 ha
   exact ⟨(h a m1).1,by simpa using m2⟩
  rw [zyh,List.flatMap_append]
  conv=>lhs;rw [h1,ih]
  congr 1
  ·refine zfm fun x hx=> ?_
   rw [List.filter_filter]
   refine List.filter_congr fun a _=> ?_
   have:=yig n hx
   by_cases q:key a=x
   ·simp [q];omega
   ·simp [q]
  ·simp
theorem zyo {n:Nat} {l m:List α} (h:zqf key l m) (hk:∀a∈l,0≤key a∧key a < n):m=(upR n).flatMap fun x=>l.filter fun a=>key a==x:=by
 have hm:∀a∈m,a∈l:=fun a ha=>by
  have:a∈m.filter fun b=>key b==key a:=List.mem_filter.2 ⟨ha,by simp⟩
  rw [h.2] at this
  exact (List.mem_filter.1 this).1
 conv=>lhs;rw [zlx key n m h.1 fun a ha=>hk a (hm a ha)]
 exact zfm fun x _=>h.2 x
end
section
variable {α:Type}
def swp (l:List α) (i j:Nat):List α:=match l[i]?,l[j]? with
 |some x,some y=>(l.set i y).set j x
 |_,_=>l
theorem zuq {l:List α} {i j:Nat} {x y:α} (hi:l[i]? =some x) (hj:l[j]? =some y):swp l i j=(l.set i y).set j x:=by
 rw [swp,hi,hj]
theorem yin (l:List α) (i j:Nat):(swp l i j).length=l.length:=by
 unfold swp;split <;> simp
theorem zsu (A B C:List α) (x y:α):swp (A++x::(B++y::C)) A.length (A.length+1+B.length)=A++y::(B++x::C):=by
 have h1:(A++x::(B++y::C))[A.length]? =some x:=by simp
 have h2:(A++x::(B++y::C))[A.length+1+B.length]? =some y:=by
  rw [List.getElem?_append_right (by omega),show A.length+1+B.length - A.length=B.length+1 by omega,List.getElem?_cons_succ];simp
 rw [zuq h1 h2,List.set_append_right _ _ (Nat.le_refl _),Nat.sub_self,List.set_cons_zero,List.set_append_right _ _ (by omega),show A.length+1+B.length - A.length=B.length+1 by omega,List.set_cons_succ,List.set_append_right _ _ (Nat.le_refl _),Nat.sub_self,List.set_cons_zero]
def swN (l:List α) (a b:Nat):Nat→List α
 |0=>l
 |n+1=>swp (swN l a b n) (a+n) (b+n)
theorem zlw (l:List α) (a b:Nat):∀n,(swN l a b n).length=l.length
 |0=>rfl
 |n+1=>by rw [swN,yin,zlw]
theorem ygp {P X W Y Z:List α} (hXY:X.length=Y.length):∀n,n≤X.length→swN (P++(X++(W++(Y++Z)))) P.length (P.length+X.length+W.length) n=P++(Y.take n++(X.drop n++(W++(X.take n++(Y.drop n++Z)))))
 |0,_=>by simp [swN]
 |n+1,hn=>by
  have hx:n < X.length:=hn
  have hy:n < Y.length:=by omega
  rw [swN,ygp hXY n (by omega),List.drop_eq_getElem_cons hx,List.drop_eq_getElem_cons hy]
  have key:=zsu (P++Y.take n) (X.drop (n+1)++(W++X.take n)) (Y.drop (n+1)++Z) X[n] Y[n]
  have e1:(P++Y.take n).length=P.length+n:=by simp;omega
  have e2:(P++Y.take n).length+1+(X.drop (n+1)++(W++X.take n)).length=P.length+X.length+W.length+n:=by simp;omega
  rw [e2,e1] at key
  have e3:P++(Y.take n++(X[n]::X.drop (n+1)++(W++(X.take n++(Y[n]::Y.drop (n+1)++Z)))))=P++Y.take n++X[n]::(X.drop (n+1)++(W++X.take n)++Y[n]::(Y.drop (n+1)++Z)):=by simp only [List.append_assoc,List.cons_append]
  rw [e3,key,List.take_succ_eq_append_getElem hx,List.take_succ_eq_append_getElem hy]
  simp only [List.append_assoc,List.cons_append,List.nil_append]
theorem zor {P X W Y Z:List α} (hXY:X.length=Y.length):swN (P++(X++(W++(Y++Z)))) P.length (P.length+X.length+W.length) X.length=P++(Y++(W++(X++Z))):=by
 rw [ygp hXY _ (Nat.le_refl _),List.take_length,List.drop_length,hXY,List.take_length,List.drop_length];simp
def Rot (m i j:Nat) (cur T:List α):Prop:=∃P I J Z,cur=P++(I++(J++Z))∧P.length+i=m∧I.length=i∧J.length=j∧P++(J++(I++Z))=T
theorem ym3 {m i j:Nat} {cur T:List α} (h:Rot m i j cur T) (hij:j < i):Rot m (i - j) j (swN cur (m - i) m j) T:=by
 obtain ⟨P,I,J,Z,rfl,hp,hi,hj,rfl⟩:=h
 have e:I=I.take j++I.drop j:=(List.take_append_drop j I).symm
 have hX:(I.take j).length=J.length:=by rw [List.length_take];omega
 have key:=zor (P:=P) (X:=I.take j) (W:=I.drop j) (Y:=J) (Z:=Z) hX
 have e1:P.length+(I.take j).length+(I.drop j).length=m:=by simp;omega
 rw [e1,show (I.take j).length=j by omega] at key
 refine ⟨P++J,I.drop j,I.take j,Z,?_,by simp;omega,by simp;omega,by omega,?_⟩
 ·conv=>lhs;rw [e]
  rw [show m - i=P.length by omega,List.append_assoc (I.take j),key,List.append_assoc]
 ·rw [←List.append_assoc (I.take j) (I.drop j) Z,List.take_append_drop,List.append_assoc]
theorem ym2 {m i j:Nat} {cur T:List α} (h:Rot m i j cur T) (hij:i < j):Rot m i (j - i) (swN cur (m - i) (m+j - i) i) T:=by
 obtain ⟨P,I,J,Z,rfl,hp,hi,hj,rfl⟩:=h
 have e:J=J.take (j - i)++J.drop (j - i):=(List.take_append_drop _ J).symm
 have hX:I.length=(J.drop (j - i)).length:=by rw [List.length_drop];omega
 have key:=zor (P:=P) (X:=I) (W:=J.take (j - i)) (Y:=J.drop (j - i)) (Z:=Z) hX
 have e1:P.length+I.length+(J.take (j - i)).length=m+j - i:=by simp;omega
 rw [e1,hi] at key
 refine ⟨P,J.drop (j - i),J.take (j - i),I++Z,?_,hp,by omega,by rw [List.length_take];omega,?_⟩
 ·conv=>lhs;rw [e]
  rw [show m - i=P.length by omega,List.append_assoc (J.take (j - i)),key]
 ·rw [←List.append_assoc (J.take (j - i)) (J.drop (j - i)) (I++Z),List.take_append_drop]
theorem ym4 {m i:Nat} {cur T:List α} (h:Rot m i i cur T):swN cur (m - i) m i=T:=by
 obtain ⟨P,I,J,Z,rfl,hp,hi,hj,rfl⟩:=h
 have key:=zor (P:=P) (X:=I) (W:= []) (Y:=J) (Z:=Z) (by omega)
 simp only [List.nil_append,List.length_nil,Nat.add_zero] at key
 rw [hi,hp] at key
 rw [show m - i=P.length by omega];exact key
end
section
variable {α:Type} {cmp:α→α→Int}
def isL (cmp:α→α→Int) (l:List α):List α:=l.foldl (fun s x=>mrg cmp s [x]) []
theorem yop (l:List α) (x:α):isL cmp (l++ [x])=mrg cmp (isL cmp l) [x]:=by rw [isL,List.foldl_append];rfl
theorem zfk:∀A B:List α,(mrg cmp A B).length=A.length+B.length
 | [],B=>by simp [mrg]
 |a::A,[]=>by simp [mrg]
 |a::A,b::B=>by
  rw [mrg];split
  ·rw [List.length_cons,zfk (a::A) B];simp;omega
  ·rw [List.length_cons,zfk A (b::B)];simp;omega
termination_by A B=>A.length+B.length
theorem zim (l:List α):(isL cmp l).length=l.length:=by
 suffices ∀(l s:List α),(l.foldl (fun s x=>mrg cmp s [x]) s).length=s.length+l.length by simpa [isL] using this l []
 intro l
 induction l with
 |nil=>intro s;simp
 |cons a l ih=>intro s;rw [List.foldl_cons,ih,zfk];simp;omega
theorem yet {A:List α} {x:α} (h:∀a∈A,cmp x a < 0):mrg cmp A [x]=x::A:=by
 cases A with
 |nil=>simp [mrg]
 |cons a r=>rw [mrg,if_pos (h a (by simp)),zgf]
theorem yk1 (ok:CmpOk cmp) {S:List α} (hS:S.Pairwise (LeC cmp)) {x:α} {k:Nat} (hk:k≤S.length) (h1:∀a∈S.drop k,cmp x a < 0) (h2:∀_:1≤k,¬cmp x (S[k - 1]'(by omega)) < 0):mrg cmp S [x]=S.take k++x::S.drop k:=by
 rw [zla ok hS (R:= [x]) (by simp) hk (Nat.zero_le _) (fun hk1 _=>h2 hk1) (fun _ h=>by omega)]
 simp only [List.take_zero,List.drop_zero,zgf]
 rw [yet h1]
end
section
variable {α:Type} (key:α→Int)
theorem zot (l:List α):zqf key l (isL (zbm key) l):=by
 suffices ∀n,n≤l.length→zqf key (l.take n) (isL (zbm key) (l.take n)) by simpa using this l.length (Nat.le_refl _)
 intro n
 induction n with
 |zero=>intro _;simpa [isL] using zuw key
 |succ n ih=>
  intro hn
  rw [List.take_succ_eq_append_getElem hn,yop]
  exact zux key (ih (by omega)) (ydm key _)
def znl (D:List (List α×List α)):Nat:=(D.map fun p=>p.2.length).sum
def zui (D:List (List α×List α)):Prop:=∀p∈D,zqf key p.1 p.2∧p.2.length=p.1.length
def Bl (bs:Nat):List (List α×List α)→Prop
 | []=>True
 | [p]=>p.2.length≤bs
 |p::q::r=>p.2.length=bs∧Bl bs (q::r)
def Fst (D:List (List α×List α)):List α:=(D.map Prod.fst).flatten
def Snd (D:List (List α×List α)):List α:=(D.map Prod.snd).flatten
theorem zfh (D:List (List α×List α)):(Snd D).length=znl D:=by simp [Snd,znl,List.length_flatten,Function.comp_def]
theorem zmm (D E:List (List α×List α)):Fst (D++E)=Fst D++Fst E:=by simp [Fst]
theorem zly (D E:List (List α×List α)):Snd (D++E)=Snd D++Snd E:=by simp [Snd]
theorem zvl {x y:List α×List α} (hx:zqf key x.1 x.2∧x.2.length=x.1.length) (hy:zqf key y.1 y.2∧y.2.length=y.1.length):zqf key (x.1++y.1) (mrg (zbm key) x.2 y.2)∧(mrg (zbm key) x.2 y.2).length=(x.1++y.1).length:=
 ⟨zux key hx.1 hy.1,by rw [zfk,List.length_append,hx.2,hy.2]⟩
theorem ypm {bs:Nat} (h0:1≤bs) {D:List (List α×List α)} (hB:Bl bs D) (ht:2 * bs≤znl D):∃x y r,D=x::y::r∧x.2.length=bs∧y.2.length=bs∧Bl bs r:=by
 match D,hB,ht with
 | [],_,ht=>simp [znl] at ht;omega
 | [p],hB,ht=>have hB:p.2.length≤bs:=hB;simp [znl] at ht;omega
 | [x,y],hB,ht=>
   obtain ⟨h1,h2⟩:=hB
   have h2:y.2.length≤bs:=h2
   refine ⟨x,y,[],rfl,h1,?_,trivial⟩
   simp [znl] at ht;omega
 |x::y::z::r,hB,ht=>exact ⟨x,y,z::r,rfl,hB.1,hB.2.1,hB.2.2⟩
theorem yht {bs:Nat} {D:List (List α×List α)} (hB:Bl bs D) (hP:zui key D) (ht:znl D < 2 * bs):(znl D≤bs∧zqf key (Fst D) (Snd D)∧(Snd D).length=(Fst D).length)∨(bs < znl D∧∃x y,D= [x,y]∧x.2.length=bs):=by
 match D,hB,hP,ht with
 | [],_,_,_=>exact .inl ⟨by simp [znl],zuw key,rfl⟩
 | [p],hB,hP,_=>
   have h:=hP p (by simp)
   exact .inl ⟨by simpa [znl,Bl] using hB,by simpa [Fst,Snd] using h.1,by simpa [Fst,Snd] using h.2⟩
 | [x,y],hB,hP,ht=>
   obtain ⟨h1,h2⟩:=hB
   have hx:=hP x (by simp)
   have hy:=hP y (by simp)
   by_cases q:y.2= []
   ·have q1:y.1= []:=by
     have:=hy.2
     rw [q] at this
     exact List.eq_nil_of_length_eq_zero this.symm
    exact .inl ⟨by simp [znl,q,h1],by simpa [Fst,Snd,q,q1] using hx.1,by simpa [Fst,Snd,q,q1] using hx.2⟩
   ·refine .inr ⟨?_,x,y,rfl,h1⟩
    have:0 < y.2.length:=List.length_pos_iff.2 q
    simp [znl,h1];omega
 |x::y::z::r,hB,hP,ht=>
  obtain ⟨h1,h2,_⟩:=hB
  simp [znl] at ht;omega
end
section
variable {α:Type} (key:α→Int)
def St1 (bs:Nat) (l cur:List α) (a:Nat):Prop:=∃D R,zui key D∧(∀p∈D,p.2.length=bs)∧l=Fst D++R∧cur=Snd D++R∧a=bs * D.length
def St2 (bs:Nat) (l cur:List α):Prop:=∃D,zui key D∧Bl bs D∧l=Fst D∧cur=Snd D
def St3 (bs:Nat) (l cur:List α) (a:Nat):Prop:=∃E D,zui key E∧zui key D∧(∀p∈E,p.2.length=2 * bs)∧Bl bs D∧l=Fst E++Fst D∧cur=Snd E++Snd D∧a=2 * bs * E.length
theorem zhl {bs:Nat}:∀{D:List (List α×List α)},(∀p∈D,p.2.length=bs)→znl D=bs * D.length
 | [],_=>by simp [znl]
 |p::D,h=>by
  have h1:=zhl (D:=D) fun q hq=>h q (by simp [hq])
  have h2:=h p (by simp)
  have e:znl (p::D)=p.2.length+znl D:=by simp [znl]
  rw [e,h1,h2,List.length_cons,Nat.mul_succ];omega
theorem zpy {bs:Nat}:∀{D:List (List α×List α)} {p:List α×List α},(∀q∈D,q.2.length=bs)→p.2.length≤bs→Bl bs (D++ [p])
 | [],p,_,hp=>hp
 | [q],p,h,hp=>⟨h q (by simp),hp⟩
 |q::r::D,p,h,hp=>⟨h q (by simp),zpy (D:=r::D) (fun z hz=>h z (by simp [hz])) hp⟩
variable {key}
theorem zf0 {D:List (List α×List α)} {p:List α×List α} (hD:zui key D) (hp:zqf key p.1 p.2∧p.2.length=p.1.length):zui key (D++ [p]):=fun q hq=>by
 rcases List.mem_append.1 hq with h|h
 ·exact hD q h
 ·rw [List.mem_singleton.1 h];exact hp
theorem yqu (bs:Nat) (l:List α):St1 key bs l l 0:=⟨[],l,fun p hp=>by simp at hp,fun p hp=>by simp at hp,by simp [Fst],by simp [Snd],by simp⟩
theorem ydp {bs a:Nat} {l cur:List α} (h:St1 key bs l cur a) (hb:a+bs≤cur.length):∃P M Z,cur=P++(M++Z)∧P.length=a∧M.length=bs∧St1 key bs l (P++(isL (zbm key) M++Z)) (a+bs):=by
 obtain ⟨D,R,h1,h2,rfl,rfl,rfl⟩:=h
 have e:(Snd D).length=bs * D.length:=by rw [zfh,zhl h2]
 rw [List.length_append,e] at hb
 have eR:R=R.take bs++R.drop bs:=(List.take_append_drop bs R).symm
 have hm:(R.take bs).length=bs:=by rw [List.length_take];omega
 refine ⟨Snd D,R.take bs,R.drop bs,by rw [List.take_append_drop],e,hm,D++ [(R.take bs,isL (zbm key) (R.take bs))],R.drop bs,zf0 h1 ⟨zot key _,zim _⟩,fun p hp=> ?_,?_,?_,by rw [List.length_append,List.length_singleton,Nat.mul_add];omega⟩
 ·rcases List.mem_append.1 hp with h|h
  ·exact h2 p h
  ·rw [List.mem_singleton.1 h,zim,hm]
 ·rw [zmm];simp [Fst]
 ·rw [zly];simp [Snd]
theorem yis {bs a:Nat} {l cur:List α} (h:St1 key bs l cur a) (hb:cur.length < a+bs):∃P M,cur=P++M∧P.length=a∧St2 key bs l (P++isL (zbm key) M):=by
 obtain ⟨D,R,h1,h2,rfl,rfl,rfl⟩:=h
 have e:(Snd D).length=bs * D.length:=by rw [zfh,zhl h2]
 rw [List.length_append,e] at hb
 refine ⟨Snd D,R,rfl,e,D++ [(R,isL (zbm key) R)],zf0 h1 ⟨zot key _,zim _⟩,zpy h2 (by rw [zim];omega),?_,?_⟩
 ·rw [zmm];simp [Fst]
 ·rw [zly];simp [Snd]
theorem yqt {bs:Nat} {l cur:List α} (h:St2 key bs l cur):St3 key bs l cur 0:=by
 obtain ⟨D,h1,h2,rfl,rfl⟩:=h
 exact ⟨[],D,fun p hp=>by simp at hp,h1,fun p hp=>by simp at hp,h2,by simp [Fst],by simp [Snd],by simp⟩
theorem yip {bs a:Nat} {l cur:List α} (h:St3 key bs l cur a):a≤cur.length:=by
 obtain ⟨E,D,h1,h2,h3,h4,rfl,rfl,rfl⟩:=h
 rw [List.length_append,zfh,zhl h3];omega
theorem ydo {bs a:Nat} (h0:1≤bs) {l cur:List α} (h:St3 key bs l cur a) (hb:a+2 * bs≤cur.length):∃P L R Z,cur=P++(L++(R++Z))∧P.length=a∧L.length=bs∧R.length=bs∧L.Pairwise (LeC (zbm key))∧R.Pairwise (LeC (zbm key))∧St3 key bs l (P++(mrg (zbm key) L R++Z)) (a+2 * bs):=by
 obtain ⟨E,D,h1,h2,h3,h4,rfl,rfl,rfl⟩:=h
 have e:(Snd E).length=2 * bs * E.length:=by rw [zfh,zhl h3]
 rw [List.length_append,e,zfh] at hb
 obtain ⟨x,y,r,rfl,hx,hy,hr⟩:=ypm h0 h4 (by omega)
 have px:=h2 x (by simp)
 have py:=h2 y (by simp)
 refine ⟨Snd E,x.2,y.2,Snd r,by simp [Snd],e,hx,hy,px.1.1,py.1.1,E++ [(x.1++y.1,mrg (zbm key) x.2 y.2)],r,zf0 h1 (zvl key px py),fun p hp=>h2 p (by simp [hp]),fun p hp=> ?_,hr,?_,?_,by rw [List.length_append,List.length_singleton,Nat.mul_add];omega⟩
 ·rcases List.mem_append.1 hp with h|h
  ·exact h3 p h
  ·rw [List.mem_singleton.1 h,zfk];omega
 ·rw [zmm];simp [Fst]
 ·rw [zly];simp [Snd]
theorem yiq {bs a:Nat} {l cur:List α} (h:St3 key bs l cur a) (hb:cur.length < a+2 * bs):(cur.length≤a+bs∧St2 key (2 * bs) l cur)∨(a+bs < cur.length∧∃P L R,cur=P++(L++R)∧P.length=a∧L.length=bs∧L.Pairwise (LeC (zbm key))∧R.Pairwise (LeC (zbm key))∧St2 key (2 * bs) l (P++mrg (zbm key) L R)):=by
 obtain ⟨E,D,h1,h2,h3,h4,rfl,rfl,rfl⟩:=h
 have e:(Snd E).length=2 * bs * E.length:=by rw [zfh,zhl h3]
 rw [List.length_append,e,zfh] at hb
 rw [List.length_append,e,zfh]
 rcases yht key h4 h2 (by omega) with ⟨q1,q2,q3⟩|⟨q1,x,y,rfl,hx⟩
 ·refine .inl ⟨by omega,E++ [(Fst D,Snd D)],zf0 h1 ⟨q2,q3⟩,zpy h3 (by rw [zfh];omega),?_,?_⟩
  ·rw [zmm];simp [Fst]
  ·rw [zly];simp [Snd]
 ·have px:=h2 x (by simp)
  have py:=h2 y (by simp)
  have ht:znl [x,y]=x.2.length+y.2.length:=by simp [znl]
  refine .inr ⟨by omega,Snd E,x.2,y.2,by simp [Snd],e,hx,px.1.1,py.1.1,E++ [(x.1++y.1,mrg (zbm key) x.2 y.2)],zf0 h1 (zvl key px py),zpy h3 (by rw [zfk];omega),?_,?_⟩
  ·rw [zmm];simp [Fst]
  ·rw [zly];simp [Snd]
theorem yir {bs:Nat} (h0:1≤bs) {l cur:List α} (h:St2 key bs l cur) (hb:cur.length≤bs):zqf key l cur:=by
 obtain ⟨D,h1,h2,rfl,rfl⟩:=h
 rw [zfh] at hb
 rcases yht key h2 h1 (by omega) with ⟨_,q2,_⟩|⟨q1,_⟩
 ·exact q2
 ·omega
end
section
variable {α:Type} {cmp:α→α→Int}
theorem yj8 (ok:CmpOk cmp) {x:α} {R:List α} (hR:R.Pairwise (LeC cmp)) {y:Nat} (hy:y≤R.length) (h1:∀_:1≤y,cmp (R[y - 1]'(by omega)) x < 0) (h2:∀h:y < R.length,¬cmp R[y] x < 0):mrg cmp [x] R=R.take y++x::R.drop y:=by
 rw [zla ok (L:= [x]) (by simp) hR (x:=0) (Nat.zero_le _) hy (fun h _=>by omega) (fun _ hy=>h1 hy)]
 simp only [List.take_zero,List.drop_zero,List.nil_append]
 rw [show mrg cmp [] (R.take y)=R.take y by simp [mrg]]
 congr 1
 cases hd:R.drop y with
 |nil=>rw [zgf]
 |cons b r=>
  have hlt:y < R.length:=by
   have:=congrArg List.length hd
   simp at this;omega
  rw [List.drop_eq_getElem_cons hlt] at hd
  injection hd with e1 e2
  have h3:=h2 hlt
  rw [e1] at h3
  rw [mrg,if_neg h3];simp [mrg]
theorem yes (ok:CmpOk cmp) {y:α} {L:List α} (hL:L.Pairwise (LeC cmp)) {x:Nat} (hx:x≤L.length) (h1:∀_:1≤x,¬cmp y (L[x - 1]'(by omega)) < 0) (h2:∀h:x < L.length,cmp y L[x] < 0):mrg cmp L [y]=L.take x++y::L.drop x:=by
 rw [zla ok hL (R:= [y]) (by simp) hx (y:=0) (Nat.zero_le _) (fun h _=>h1 h) (fun _ h=>by omega)]
 simp only [List.take_zero,List.drop_zero,zgf]
 congr 1
 cases hd:L.drop x with
 |nil=>simp [mrg]
 |cons b r=>
  have hlt:x < L.length:=by
   have:=congrArg List.length hd
   simp at this;omega
  rw [List.drop_eq_getElem_cons hlt] at hd
  injection hd with e1 e2
  have h3:=h2 hlt
  rw [e1] at h3
  rw [mrg,if_pos h3,zgf]
theorem yrj {P Z:List α} {x:α} {R:List α} {k:Nat} (hk:k < R.length):swp (P++(R.take k++x::(R.drop k++Z))) (P.length+k) (P.length+k+1)=P++(R.take (k+1)++x::(R.drop (k+1)++Z)):=by
 have key:=zsu (P++R.take k) [] (R.drop (k+1)++Z) x R[k]
 have e1:(P++R.take k).length=P.length+k:=by simp;omega
 rw [e1,List.length_nil,Nat.add_zero,List.nil_append,List.nil_append] at key
 rw [List.drop_eq_getElem_cons hk,List.take_succ_eq_append_getElem hk]
 simp only [List.append_assoc,List.cons_append,List.nil_append] at key ⊢
 exact key
theorem yrk {P Z:List α} {y:α} {L:List α} {k:Nat} (hk:k < L.length):swp (P++(L.take (k+1)++y::(L.drop (k+1)++Z))) (P.length+k) (P.length+k+1)=P++(L.take k++y::(L.drop k++Z)):=by
 have key:=zsu (P++L.take k) [] (L.drop (k+1)++Z) L[k] y
 have e1:(P++L.take k).length=P.length+k:=by simp;omega
 rw [e1,List.length_nil,Nat.add_zero,List.nil_append,List.nil_append] at key
 rw [List.drop_eq_getElem_cons hk,List.take_succ_eq_append_getElem hk]
 simp only [List.append_assoc,List.cons_append,List.nil_append] at key ⊢
 exact key
end
section
variable {α:Type} {cmp:α→α→Int}
def SmI (cmp:α→α→Int) (L R:List α) (a m b mid s0 r0 s r:Nat):Prop:=s0≤s∧s≤r∧r≤r0∧
 (s0 < s→∀u v,R[mid - s]? =some u→L[s - 1 - a]? =some v→¬cmp u v < 0)∧(r < r0→∀u v,R[mid - 1 - r]? =some u→L[r - a]? =some v→cmp u v < 0)
def SmS (L R:List α) (a m b mid s0 r0:Nat):Prop:=a+L.length=m∧m+R.length=b∧mid=(a+b) / 2∧((mid < m∧s0=mid+m - b∧r0=mid)∨(m≤mid∧s0=a∧r0=m))
theorem ysy {L R:List α} {a m b mid s0 r0:Nat} (h:SmS L R a m b mid s0 r0):SmI cmp L R a m b mid s0 r0 s0 r0:=by
 obtain ⟨h1,h2,h3,h4⟩:=h
 exact ⟨Nat.le_refl _,by omega,Nat.le_refl _,fun q=>by omega,fun q=>by omega⟩
theorem yqw {L R:List α} {a m b mid s0 r0 s r:Nat} (hS:SmS L R a m b mid s0 r0) (h:SmI cmp L R a m b mid s0 r0 s r) (hsr:s < r):a≤(s+r) / 2∧(s+r) / 2 < m∧m≤mid+m - 1 - (s+r) / 2∧mid+m - 1 - (s+r) / 2 < b∧(s+r) / 2 - a < L.length∧mid+m - 1 - (s+r) / 2 - m < R.length∧mid+m - 1 - (s+r) / 2 - m=mid - 1 - (s+r) / 2∧(s+r) / 2≤mid+m - 1∧s≤(s+r) / 2∧(s+r) / 2 < r:=by
 obtain ⟨h1,h2,h3,h4⟩:=hS
 obtain ⟨g1,g2,g3,_⟩:=h
 omega
theorem ysw {L R:List α} {a m b mid s0 r0 s r c:Nat} (hS:SmS L R a m b mid s0 r0) (h:SmI cmp L R a m b mid s0 r0 s r) (hsr:s < r) (hc:c=(s+r) / 2) {u v:α} (hu:R[mid - 1 - c]? =some u) (hv:L[c - a]? =some v) (hn:¬cmp u v < 0):SmI cmp L R a m b mid s0 r0 (c+1) r:=by
 have hb:=yqw hS h hsr
 obtain ⟨g1,g2,g3,g4,g5⟩:=h
 subst hc
 refine ⟨by omega,by omega,g3,fun _ u' v' e1 e2=> ?_,g5⟩
 rw [show mid - ((s+r) / 2+1)=mid - 1 - (s+r) / 2 by omega,hu] at e1
 rw [show (s+r) / 2+1 - 1 - a=(s+r) / 2 - a by omega,hv] at e2
 cases e1;cases e2;exact hn
theorem ysx {L R:List α} {a m b mid s0 r0 s r c:Nat} (hS:SmS L R a m b mid s0 r0) (h:SmI cmp L R a m b mid s0 r0 s r) (hsr:s < r) (hc:c=(s+r) / 2) {u v:α} (hu:R[mid - 1 - c]? =some u) (hv:L[c - a]? =some v) (hn:cmp u v < 0):SmI cmp L R a m b mid s0 r0 s c:=by
 have hb:=yqw hS h hsr
 obtain ⟨g1,g2,g3,g4,g5⟩:=h
 subst hc
 refine ⟨g1,by omega,by omega,g4,fun _ u' v' e1 e2=> ?_⟩
 rw [hu] at e1
 rw [hv] at e2
 cases e1;cases e2;exact hn
theorem ymr (ok:CmpOk cmp) {L R:List α} (hL:L.Pairwise (LeC cmp)) (hR:R.Pairwise (LeC cmp)) {a m b mid s0 r0 s:Nat} (hS:SmS L R a m b mid s0 r0) (h:SmI cmp L R a m b mid s0 r0 s s):
 ∃x y,s=a+x∧mid=a+x+y∧x≤L.length∧y≤R.length∧mrg cmp L R=mrg cmp (L.take x) (R.take y)++mrg cmp (L.drop x) (R.drop y):=by
 obtain ⟨h1,h2,h3,h4⟩:=hS
 obtain ⟨g1,g2,g3,g4,g5⟩:=h
 have hx:s - a≤L.length:=by omega
 have hy:mid - s≤R.length:=by omega
 refine ⟨s - a,mid - s,by omega,by omega,hx,hy,?_⟩
 refine zla ok hL hR hx hy (fun q1 q2=> ?_) (fun q1 q2=> ?_)
 ·by_cases q:s0 < s
  ·refine g4 q _ _ (List.getElem?_eq_getElem q2) ?_
   rw [show s - 1 - a=s - a - 1 by omega];exact List.getElem?_eq_getElem _
  ·omega
 ·by_cases q:s < r0
  ·refine g5 q _ _ ?_ (List.getElem?_eq_getElem q1)
   rw [show mid - 1 - s=mid - s - 1 by omega];exact List.getElem?_eq_getElem _
  ·omega
theorem ymq {P L R Z:List α} {a m x y:Nat} (hp:P.length=a) (hm:a+L.length=m) (hx:x≤L.length) (hy:y≤R.length):
 Rot m (L.length - x) y (P++(L++(R++Z))) (P++(L.take x++(R.take y++(L.drop x++(R.drop y++Z))))):=by
 refine ⟨P++L.take x,L.drop x,R.take y,R.drop y++Z,?_,by simp;omega,by simp,by simp;omega,by simp only [List.append_assoc]⟩
 rw [List.append_assoc,←List.append_assoc (L.take x),List.take_append_drop,←List.append_assoc (R.take y),List.take_append_drop]
theorem yiy {P L R Z:List α} {x y:Nat} (h:x=L.length∨y=0):P++(L++(R++Z))=P++(L.take x++(R.take y++(L.drop x++(R.drop y++Z)))):=by
 rcases h with rfl|rfl
 ·rw [List.take_length,List.drop_length,List.nil_append,←List.append_assoc (R.take y),List.take_append_drop]
 ·rw [List.take_zero,List.drop_zero,List.nil_append,←List.append_assoc (L.take x),List.take_append_drop]
theorem yix {A B:List α} (h:A= []∨B= []):A++B=mrg cmp A B:=by
 rcases h with rfl|rfl
 ·simp [mrg]
 ·rw [zgf,List.append_nil]
theorem zuo {L:List α} (h:L.Pairwise (LeC cmp)) (x:Nat):(L.take x).Pairwise (LeC cmp):=h.sublist (List.take_sublist _ _)
theorem zv7 {L:List α} (h:L.Pairwise (LeC cmp)) (x:Nat):(L.drop x).Pairwise (LeC cmp):=h.sublist (List.drop_sublist _ _)
end
structure Brch where
 g:Int
 e:Int
 l:Int
 o:Int
 a:Int
 b:Int
 deriving DecidableEq
def zah (c:Brch):List AV:= [iv c.g,iv c.e,iv c.l,iv c.o,iv c.a,iv c.b]
def yhr (l:List Brch):AV:= .list false 6 (l.map zah)
structure Acc where
 o:Int
 r:Int
 a:Int
 deriving DecidableEq
def accR (a:Acc):List AV:= [iv a.o,iv a.r,iv a.a]
def zm5 (h:Hist) (t kd:Int) (k:Nat) (e:Ev):List Acc:=if (e.t==t && e.kind==kd)=true then (match zvd h e.o e.v with|some r=> [⟨e.o,r,k⟩]|none=> []) else []
def zp5 (h:Hist) (t kd:Int):Nat→List Acc
 |0=> []
 |k+1=>zp5 h t kd k++(match h.evs[k]? with|some e=>zm5 h t kd k e|none=> [])
def zp4 (h:Hist) (t kd:Int):List Acc:=zp5 h t kd h.evs.length
def zqa (n:Nat) (l:List Acc):List Acc:=(upR n).flatMap fun x=>l.filter fun a=>a.o==x
def brk (g t1 t2:Int) (a b:Acc):Option Brch:=if (a.o==b.o && decide (b.r < a.r))=true then some ⟨g,t1,t2,a.o,a.a,b.a⟩ else none
def yf6 (n:Nat) (g t1 t2:Int) (A B:List Acc):List Brch:=(zqa n A).flatMap fun a=>(zqa n B).filterMap (brk g t1 t2 a)
def ypq (n:Nat) (g t1 t2:Int) (A B:List Acc):List Brch:=(upR n).flatMap fun x=>(A.filter fun a=>a.o==x).flatMap fun a=>(B.filter fun b=>b.o==x).filterMap fun b=>if b.r < a.r then some ⟨g,t1,t2,x,a.a,b.a⟩ else none
theorem zmn {α:Type} {f:Int→List α} {x:Int}:∀{l:List Int},l.Nodup→x∈l→(∀y∈l,y≠x→f y= [])→l.flatMap f=f x
 | [],_,h,_=>by cases h
 |y::r,hn,hx,hf=>by
  rw [List.nodup_cons] at hn
  rw [List.flatMap_cons]
  by_cases e:y=x
  ·subst e
   have:r.flatMap f= []:=by
    rw [List.flatMap_eq_nil_iff]
    intro z hz
    exact hf z (by simp [hz]) fun e=>hn.1 (e ▸ hz)
   rw [this,List.append_nil]
  ·rw [hf y (by simp) e,List.nil_append]
   rcases List.mem_cons.1 hx with q|q
   ·exact absurd q.symm e
   ·exact zmn hn.2 q fun z hz=>hf z (by simp [hz])
theorem zyi (n:Nat):(upR n).Nodup:=(ygn n).imp fun h e=>by omega
theorem zc7 {α β:Type} {f g:α→List β}:∀{l:List α},(∀a∈l,f a=g a)→l.flatMap f=l.flatMap g
 | [],_=>rfl
 |a::r,h=>by rw [List.flatMap_cons,List.flatMap_cons,h a (by simp),zc7 fun b hb=>h b (by simp [hb])]
theorem zf3 {α β γ:Type} {f:α→List β} {g:β→Option γ}:∀{l:List α},(l.flatMap f).filterMap g=l.flatMap fun a=>(f a).filterMap g
 | []=>rfl
 |a::r=>by rw [List.flatMap_cons,List.filterMap_append,zf3,List.flatMap_cons]
theorem ypp (n:Nat) (g t1 t2:Int) (A B:List Acc):yf6 n g t1 t2 A B=ypq n g t1 t2 A B:=by
 rw [yf6,ypq,show zqa n A=(upR n).flatMap (fun x=>A.filter fun a=>a.o==x) from rfl,List.flatMap_assoc]
 refine zc7 fun x hx=>zc7 fun a ha=> ?_
 have ha:a.o=x:=by simpa using (List.mem_filter.1 ha).2
 rw [zqa,zf3,zmn (x:=x) (zyi n) hx]
 ·refine zpl fun b hb=> ?_
  have hb:b.o=x:=by simpa using (List.mem_filter.1 hb).2
  rw [brk,ha,hb]
  by_cases q:b.r < a.r <;> simp [q]
 ·intro y _ hy
  rw [List.filterMap_eq_nil_iff]
  intro b hb
  have hb:b.o=y:=by simpa using (List.mem_filter.1 hb).2
  rw [brk,ha,hb,if_neg]
  simp [Ne.symm hy]
structure Doi where
 t:Int
 A:List Acc
 B:List Acc
def brL (n:Nat) (g:Int) (ds:List Doi):Nat→List Brch
 |0=> []
 |k+1=>brL n g ds k++(match ds[k]? with|some d=>(ds.take k).filterMap (fun e=>(yf6 n g e.t d.t e.A d.B).head?)|none=> [])
def blk (n:Nat) (g:Int) (ds:List Doi):Nat→List (List Brch)
 |0=> []
 |k+1=>blk n g ds k++(match ds[k]? with|some d=>(ds.take k).map (fun e=>yf6 n g e.t d.t e.A d.B)|none=> [])
theorem yca (n:Nat) (g:Int) (ds:List Doi):∀k,brL n g ds k=(blk n g ds k).filterMap List.head?
 |0=>rfl
 |k+1=>by
  rw [brL,blk,List.filterMap_append,yca n g ds k]
  cases ds[k]? with
  |none=>rfl
  |some d=>simp only [List.filterMap_map];rfl
def zpp (n:Nat) (g:Int) (ds:List Doi):Nat→List Brch
 |0=> []
 |k+1=>zpp n g ds k++(match ds[k]? with|some d=>(ds.take k).flatMap (fun e=>ypq n g e.t d.t e.A d.B)|none=> [])
theorem zmr (n:Nat) (g:Int) (ds:List Doi):∀k,zpp n g ds k=(blk n g ds k).flatten
 |0=>rfl
 |k+1=>by
  rw [zpp,blk,List.flatten_append,zmr n g ds k]
  cases ds[k]? with
  |none=>rfl
  |some d=>simp only [List.flatMap_def,←ypp]
theorem zrp {α:Type}:∀L:List (List α),(L.filterMap List.head?).head? =L.flatten.head?
 | []=>rfl
 | []::r=>by rw [List.filterMap_cons,List.flatten_cons,List.nil_append];exact zrp r
 |(a::l)::r=>rfl
theorem zxq (n:Nat) (g:Int) (ds:List Doi) (k:Nat):(brL n g ds k).head? =(zpp n g ds k).head? :=by rw [yca,zmr,zrp]
theorem yab (n:Nat) (g:Int) (ds:List Doi) (k:Nat):brL n g ds k= [] ↔ zpp n g ds k= []:=by
 rw [←List.head?_eq_none_iff,←List.head?_eq_none_iff,zxq]
def prB (b:Brch):Int×Int:=(b.e,b.l)
theorem ypi {g t1 t2:Int} {a b:Acc} {z:Brch} (h:brk g t1 t2 a b=some z):z.g=g∧z.e=t1∧z.l=t2:=by
 rw [brk] at h
 split at h
 ·injection h with h;subst h;exact ⟨rfl,rfl,rfl⟩
 ·cases h
theorem ypo {n:Nat} {g t1 t2:Int} {A B:List Acc} {z:Brch} (h:z∈yf6 n g t1 t2 A B):z.g=g∧z.e=t1∧z.l=t2:=by
 rw [yf6,List.mem_flatMap] at h
 obtain ⟨a,_,h⟩:=h
 obtain ⟨b,_,h⟩:=List.mem_filterMap.1 h
 exact ypi h
theorem zt9 {n:Nat} {g:Int} {ds:List Doi} {X:List Brch}:∀{k:Nat},X∈blk n g ds k ↔ ∃i j,∃hj:j < ds.length,∃hij:i < j,j < k∧X=yf6 n g (ds[i]'(by omega)).t ds[j].t (ds[i]'(by omega)).A ds[j].B
 |0=>by simp [blk]
 |k+1=>by
  rw [blk,List.mem_append,zt9]
  constructor
  ·rintro (⟨i,j,hj,hij,hk,e⟩|h)
   ·exact ⟨i,j,hj,hij,by omega,e⟩
   ·by_cases hk:k < ds.length
    ·rw [List.getElem?_eq_getElem hk] at h
     obtain ⟨e,he,rfl⟩:=List.mem_map.1 h
     obtain ⟨i,hi,rfl⟩:=List.mem_iff_getElem.1 he
     simp only [List.length_take] at hi
     exact ⟨i,k,hk,by omega,by omega,by rw [List.getElem_take]⟩
    ·rw [List.getElem?_eq_none (by omega)] at h;cases h
  ·rintro ⟨i,j,hj,hij,hk,rfl⟩
   by_cases e:j=k
   ·subst e
    refine .inr ?_;rw [List.getElem?_eq_getElem hj]
    exact List.mem_map.2 ⟨ds[i]'(by omega),List.mem_iff_getElem.2 ⟨i,by rw [List.length_take];omega,by rw [List.getElem_take]⟩,rfl⟩
   ·exact .inl ⟨i,j,hj,hij,by omega,rfl⟩
theorem yfx {n:Nat} {g:Int} {ds:List Doi} {k:Nat} {z:Brch}:z∈zpp n g ds k ↔ ∃i j,∃hj:j < ds.length,∃hij:i < j,j < k∧z∈yf6 n g (ds[i]'(by omega)).t ds[j].t (ds[i]'(by omega)).A ds[j].B:=by
 rw [zmr,List.mem_flatten]
 constructor
 ·rintro ⟨X,hX,hz⟩
  obtain ⟨i,j,hj,hij,hk,rfl⟩:=zt9.1 hX
  exact ⟨i,j,hj,hij,hk,hz⟩
 ·rintro ⟨i,j,hj,hij,hk,hz⟩
  exact ⟨_,zt9.2 ⟨i,j,hj,hij,hk,rfl⟩,hz⟩
theorem zwk {h:Hist} {t kd:Int} {k:Nat} {e:Ev} {a:Acc} (ha:a∈zm5 h t kd k e):e.t=t∧e.kind=kd∧a.o=e.o∧a.a=(k:Int)∧zvd h e.o e.v=some a.r:=by
 rw [zm5] at ha
 split at ha
 ·rename_i q
  rw [Bool.and_eq_true,beq_iff_eq,beq_iff_eq] at q
  cases hr:zvd h e.o e.v with
  |none=>rw [hr] at ha;cases ha
  |some r=>
   rw [hr] at ha
   have ha:a=⟨e.o,r,k⟩:=by simpa using ha
   subst ha
   exact ⟨q.1,q.2,rfl,rfl,rfl⟩
 ·cases ha
theorem zwi {h:Hist} {t kd:Int} {a:Acc}:∀{n:Nat},n≤h.evs.length→(a∈zp5 h t kd n ↔ ∃k,∃hk:k < h.evs.length,k < n∧a∈zm5 h t kd k h.evs[k])
 |0,_=>by simp [zp5]
 |n+1,hn=>by
  rw [zp5,List.mem_append,zwi (by omega),List.getElem?_eq_getElem (show n < h.evs.length by omega)]
  constructor
  ·rintro (⟨k,hk,hkn,q⟩|q)
   ·exact ⟨k,hk,by omega,q⟩
   ·exact ⟨n,by omega,by omega,q⟩
  ·rintro ⟨k,hk,hkn,q⟩
   by_cases e:k=n
   ·subst e;exact .inr q
   ·exact .inl ⟨k,hk,by omega,q⟩
theorem yp3 {h:Hist} {t kd:Int} {a:Acc} (ha:a∈zp4 h t kd):∃k,∃hk:k < h.evs.length,h.evs[k].t=t∧h.evs[k].kind=kd∧a.o=h.evs[k].o∧a.a=(k:Int)∧zvd h h.evs[k].o h.evs[k].v=some a.r:=by
 obtain ⟨k,hk,_,q⟩:=(zwi (Nat.le_refl _)).1 ha
 exact ⟨k,hk,zwk q⟩
def kdA (g:Int):Int:=if g=2∨g=8 then 3 else 2
def kdB (g:Int):Int:=if g=1∨g=2 then 3 else 2
def doi (h:Hist) (g t:Int):Doi:=⟨t,zp4 h t (kdA g),zp4 h t (kdB g)⟩
def zt4 (h:Hist) (s g:Int):List Doi:=(zaw h.evs s).map (doi h g)
def brS (h:Hist) (s g:Int):List Brch:=brL h.os.length g (zt4 h s g) (zt4 h s g).length
def eaS (h:Hist) (s g:Int):List Brch:=zpp h.os.length g (zt4 h s g) (zt4 h s g).length
theorem zpr {h:Hist} {s g:Int} {i:Nat} (hi:i < (zt4 h s g).length):(zt4 h s g)[i]=doi h g ((zaw h.evs s)[i]'(by simpa [zt4] using hi)):=by simp [zt4]
theorem zxl {h:Hist} (hs:zbg h=true) (s:Int):(zaw h.evs s).Nodup:=by
 rw [zaw]
 exact zz8 (zxw hs) _ fun e he=>by
  rw [Bool.and_eq_true,beq_iff_eq] at he;exact he.1
theorem yf4 {h:Hist} (s g:Int):brS h s g= [] ↔ eaS h s g= []:=yab _ _ _ _
def yqk (h:Hist) (s:Int):Int:=([1,2,4,8]:List Int).foldl (fun n g=>if brS h s g= [] then n+g else n) 0
def yql (h:Hist) (s:Int):Int:=([1,2,4,8]:List Int).foldl (fun n g=>if eaS h s g= [] then n+g else n) 0
theorem yov (h:Hist) (s:Int):yqk h s=yql h s:=by
 simp only [yqk,yql,yf4]
section
variable {α β:Type}
theorem ypv {P A B:List α} {x:α}:(P++(A++x::B))[P.length+A.length]? =some x:=by
 rw [List.getElem?_append_right (by omega),Nat.add_sub_cancel_left,List.getElem?_append_right (Nat.le_refl _),Nat.sub_self];rfl
theorem ylx {P B L:List α} {q n:Nat} (hq:q < n) (hl:q < L.length):(P++(L.take n++B))[P.length+q]? =some L[q]:=by
 rw [List.getElem?_append_right (by omega),Nat.add_sub_cancel_left,List.getElem?_append_left (by rw [List.length_take];omega),List.getElem?_take_of_lt hq,List.getElem?_eq_getElem hl]
theorem zk3 {f:α→β} {l:List α} {i j:Nat} {x y:α} (hi:l[i]? =some x) (hj:l[j]? =some y):((l.map f).set i (f y)).set j (f x)=(swp l i j).map f:=by
 rw [zuq hi hj,List.map_set,List.map_set]
theorem ydh {l:List α} {i j:Nat} (h:i≠j):swp l i j=swp l j i:=by
 unfold swp
 cases hi:l[i]? with
 |none=>cases hj:l[j]? <;> rfl
 |some x=>
  cases hj:l[j]? with
  |none=>rfl
  |some y=>simp only;rw [List.set_comm _ _ h]
theorem zck {f:α→β} {l:List α} {i:Nat} {x:α} (h:l[i]? =some x):(l.map f)[i]? =some (f x):=by rw [List.getElem?_map,h];rfl
theorem zep {l:List α} {i:Nat} {x:α} (h:l[i]? =some x):i < l.length:=(List.getElem?_eq_some_iff.1 h).1
theorem yjb {m i j:Nat} {c tg:List α} (h:Rot m i j c tg):i≤m∧m+j≤c.length:=by
 obtain ⟨P,I,J,Z,rfl,hp,hi,hj,rfl⟩:=h
 simp only [List.length_append];omega
theorem yoo {P S Z:List α} {x:α} {a q:Nat} (hP:P.length=a) (hq:q≤S.length):(P++(S.take q++x::(S.drop q++Z)))[a+q]? =some x:=by
 have:=ypv (P:=P) (A:=S.take q) (B:=S.drop q++Z) (x:=x)
 rwa [hP,List.length_take,Nat.min_eq_left hq] at this
theorem yqi {P S Z:List α} {x:α} {a q:Nat} (hP:P.length=a) (hq:q≤S.length) (h1:1≤q):(P++(S.take q++x::(S.drop q++Z)))[a+q - 1]? =some (S.getD (q - 1) x):=by
 have:=ylx (P:=P) (L:=S) (B:=x::(S.drop q++Z)) (q:=q - 1) (n:=q) (by omega) (by omega)
 rw [hP,show a+(q - 1)=a+q - 1 by omega] at this
 rw [this,List.getD_eq_getElem?_getD,List.getElem?_eq_getElem (by omega)];rfl
theorem ya2 {P S Z:List α} {x:α} {a q:Nat} (hP:P.length=a) (hq:q≤S.length) (h1:1≤q):swp (P++(S.take q++x::(S.drop q++Z))) (a+q) (a+q - 1)=P++(S.take (q - 1)++x::(S.drop (q - 1)++Z)):=by
 obtain ⟨k,rfl⟩:∃k,q=k+1:=⟨q - 1,by omega⟩
 rw [ydh (by omega)]
 have:=yrk (P:=P) (Z:=Z) (y:=x) (L:=S) (k:=k) (by omega)
 rw [hP] at this
 rw [show a+(k+1) - 1=a+k by omega,show a+(k+1)=a+k+1 by omega,show k+1 - 1=k by omega]
 exact this
variable {cmp:α→α→Int}
theorem ykv {S:List α} {x:α} {q:Nat} (hq:q≤S.length) (h1:1≤q) (hlt:cmp x (S.getD (q - 1) x) < 0) (hz:∀z∈S.drop q,cmp x z < 0):∀z∈S.drop (q - 1),cmp x z < 0:=by
 intro z hm
 rw [List.drop_eq_getElem_cons (by omega)] at hm
 rcases List.mem_cons.1 hm with rfl|hm
 ·rw [List.getD_eq_getElem?_getD,List.getElem?_eq_getElem (by omega)] at hlt;exact hlt
 ·rw [show q - 1+1=q by omega] at hm;exact hz z hm
theorem yku {P M Z:List α}:P++(isL cmp (M.take (0+1))++(M.drop (0+1)++Z))=P++(M++Z):=by
 cases M with
 |nil=>rfl
 |cons a r=>simp [isL,mrg]
theorem yfh {P M Z:List α} {k:Nat} (hS:(isL cmp (M.take (k+1))).length=k+1) (hk:k+1 < M.length):P++(isL cmp (M.take (k+1))++(M.drop (k+1)++Z))=P++((isL cmp (M.take (k+1))).take (k+1)++M[k+1]::((isL cmp (M.take (k+1))).drop (k+1)++(M.drop (k+1+1)++Z))):=by
 rw [List.take_of_length_le (l:=isL cmp (M.take (k+1))) (by omega),List.drop_eq_nil_of_le (by omega:(isL cmp (M.take (k+1))).length≤k+1),List.drop_eq_getElem_cons hk,List.nil_append,List.cons_append]
theorem yhe (ok:CmpOk cmp) {P M Z:List α} {k q:Nat} (hS:(isL cmp (M.take (k+1))).Pairwise (LeC cmp)) (hk:k+1 < M.length) (hq:q≤(isL cmp (M.take (k+1))).length) (hz:∀z∈(isL cmp (M.take (k+1))).drop q,cmp M[k+1] z < 0)
 (hst:1≤q→¬cmp M[k+1] ((isL cmp (M.take (k+1))).getD (q - 1) M[k+1]) < 0):
 P++((isL cmp (M.take (k+1))).take q++M[k+1]::((isL cmp (M.take (k+1))).drop q++(M.drop (k+1+1)++Z)))=P++(isL cmp (M.take (k+1+1))++(M.drop (k+1+1)++Z)):=by
 have h:=yk1 ok hS (x:=M[k+1]) hq hz fun h1=>by
  have:=hst h1
  rw [List.getD_eq_getElem?_getD,List.getElem?_eq_getElem (by omega)] at this;exact this
 rw [List.take_succ_eq_append_getElem hk,yop,h];simp
theorem getD_some {l:List α} {k:Nat} (h:k < l.length) (d:α):l[k]? =some (l.getD k d):=by
 rw [List.getD_eq_getElem?_getD,List.getElem?_eq_getElem h];rfl
theorem yma {P L R Z:List α} {a k:Nat} (hP:P.length=a) (d:α) (h1:a≤k) (h2:k < a+L.length):(P++(L++(R++Z)))[k]? =some (L.getD (k - a) d):=by
 rw [←getD_some (by omega) d]
 rw [List.getElem?_append_right (by omega),List.getElem?_append_left (by omega),hP]
theorem yl9 {P L R Z:List α} {a m k:Nat} (hP:P.length=a) (hm:a+L.length=m) (d:α) (h1:m≤k) (h2:k < m+R.length):(P++(L++(R++Z)))[k]? =some (R.getD (k - m) d):=by
 rw [←getD_some (by omega) d]
 rw [List.getElem?_append_right (by omega),List.getElem?_append_right (by omega),List.getElem?_append_left (by omega)]
 congr 1;omega
theorem ytd {P S Z:List α} {x:α} {a q:Nat} (hP:P.length=a) (hq:q < S.length) (d:α):(P++(S.take q++x::(S.drop q++Z)))[a+q+1]? =some (S.getD q d):=by
 rw [←getD_some hq d]
 rw [List.getElem?_append_right (by omega),List.getElem?_append_right (by rw [List.length_take];omega),List.length_take,Nat.min_eq_left (by omega),show a+q+1 - P.length - q=0+1 by omega,List.getElem?_cons_succ,List.getElem?_append_left (by rw [List.length_drop];omega),List.getElem?_drop]
 congr 1
theorem yro {P S Z:List α} {x:α} {a q:Nat} (hP:P.length=a) (hq:q < S.length):swp (P++(S.take q++x::(S.drop q++Z))) (a+q) (a+q+1)=P++(S.take (q+1)++x::(S.drop (q+1)++Z)):=by
 have:=yrj (P:=P) (Z:=Z) (x:=x) (R:=S) (k:=q) hq
 rwa [hP] at this
theorem yeq (ok:CmpOk cmp) {P R Z:List α} {x d:α} (hR:R.Pairwise (LeC cmp)) {y:Nat} (hy:y≤R.length) (h1:1≤y→cmp (R.getD (y - 1) d) x < 0) (h2:y < R.length→¬cmp (R.getD y d) x < 0):P++(R.take y++x::(R.drop y++Z))=P++(mrg cmp [x] R++Z):=by
 rw [yj8 ok hR hy (fun h=>by
  have:=h1 h
  rw [List.getD_eq_getElem?_getD,List.getElem?_eq_getElem (by omega)] at this;exact this) fun h=>by
  have:=h2 h
  rw [List.getD_eq_getElem?_getD,List.getElem?_eq_getElem h] at this;exact this]
 simp
theorem yav (ok:CmpOk cmp) {P L Z:List α} {y d:α} (hL:L.Pairwise (LeC cmp)) {x:Nat} (hx:x≤L.length) (h1:1≤x→¬cmp y (L.getD (x - 1) d) < 0) (h2:x < L.length→cmp y (L.getD x d) < 0):P++(L.take x++y::(L.drop x++Z))=P++(mrg cmp L [y]++Z):=by
 rw [yes ok hL hx (fun h=>by
  have:=h1 h
  rw [List.getD_eq_getElem?_getD,List.getElem?_eq_getElem (by omega)] at this;exact this) fun h=>by
  have:=h2 h
  rw [List.getD_eq_getElem?_getD,List.getElem?_eq_getElem h] at this;exact this]
 simp
theorem zyq {P A B W:List α} (h:A= []∨B= []):P++(A++(B++W))=P++(mrg cmp A B++W):=by
 rw [←yix h,List.append_assoc]
theorem zup {l:List α} {x:Nat} (h:¬1≤x):l.take x= []:=by rw [show x=0 by omega];rfl
theorem zr0 {l:List α} {x:Nat} (h:¬x < l.length):l.drop x= []:=List.drop_eq_nil_of_le (by omega)
end
theorem zk1 {n:Nat} (h:n≤4611686018427387904):IntKind.u64.wrap (n:Int)=(n:Int):=by
 show (n:Int) % 18446744073709551616=n
 omega
theorem zk2 {n:Nat} (h:n≤4611686018427387904):zqo .shr .u64 (n:Int) 1=some ((n / 2:Nat):Int):=by
 have e:Int.fdiv (n:Int) 2=((n / 2:Nat):Int):=by rw [Int.fdiv_eq_ediv_of_nonneg _ (by decide)];omega
 show some (Int.fdiv (n:Int) 2)=_
 rw [e]
theorem zli {n:Nat} (h:n≤4611686018427387904):IntKind.i64.wrap (n:Int)=(n:Int):=IntWalk.i64_in _ ⟨by omega,by omega⟩
abbrev zkw:={a:Acc // 0≤a.o∧a.o < 1000000}
abbrev zcf (a:zkw):List AV:=accR a.1
def yc2 (a:zkw):Int:=a.1.o
abbrev zc1:zkw→zkw→Int:=zbm yc2
def zea:zkw:=⟨⟨0,0,0⟩,by decide⟩
theorem ydn {n:Nat} {l:List Acc} {lB m:List zkw} (e:lB.map (·.1)=l) (h:zqf yc2 lB m) (hk:∀a∈l,0≤a.o∧a.o < n):m.map (·.1)=zqa n l:=by
 have h1:=zyo yc2 (n:=n) h fun a ha=>hk a.1 (by rw [←e];exact List.mem_map_of_mem ha)
 rw [h1,zqa,List.map_flatMap]
 refine zc7 fun x _=> ?_
 rw [←e,List.filter_map];rfl
theorem ycr {n:Nat} (hn:n≤1000000):∀{l:List Acc},(∀a∈l,0≤a.o∧a.o < n)→∃lB:List zkw,lB.map (·.1)=l
 | [],_=>⟨[],rfl⟩
 |a::l,h=>by
  obtain ⟨lB,e⟩:=ycr hn (l:=l) fun x hx=>h x (by simp [hx])
  have:=h a (by simp)
  exact ⟨⟨a,by omega,by omega⟩::lB,by rw [List.map_cons,e]⟩
theorem zmw:CmpOk zc1:=zsa yc2
structure Grd where
 s:Int
 q:Int
 a:Int
 deriving DecidableEq
def zkv:List Int:= [1,2,4,8]
def yr1 (t:Int):Ev:=⟨1,t,0,1,0,⟨0,0⟩,0,[]⟩
def ysl (t:Int):Ev:=⟨5,t,0,0,0,⟨0,0⟩,0,[]⟩
def wT (n:UInt8):ByteArray:=⟨#[84,n]⟩
def zkn:ByteArray:=⟨#[115]⟩
def bxx:ByteArray:=⟨#[120]⟩
def ymt (t:Int) (e:Ev):Ev:={e with t:=t}
def dsE (l:List Ev) (t:Int) (es:List Ev):List Ev:=l++ [yr1 t]++es.map (ymt t)++ [ysl t]
def seW (t k:Int):Ev:=⟨2,0,0,0,0,⟨t,k⟩,0,[]⟩
def seR (t k:Int):Ev:=⟨3,0,0,0,0,⟨t,k⟩,0,[]⟩
def seE:List Ev:=dsE (dsE (dsE (dsE [] 0 [seW 0 1]) 1 [seR 0 0]) 2 [seR 0 1]) 3 [seR 0 0,seW 3 1]
def seH:Hist:=⟨[wT 48,wT 49,wT 50,wT 51],[zkn],[bxx],[],seE,[⟨0,[3,0]⟩],[],[]⟩
theorem ygw:zfb seH=true:=by decide+kernel
theorem ydx:zbg seH=true:=by
 have:zjc seH=none:=(zv2 ygw).trans (by decide+kernel)
 rw [zbg,ygw,this];rfl
theorem zu8:j5 seH=0:=zdy.2 ydx
def u4 (h:Hist):Hist:={h with evs:=h.evs.take 60}
theorem zf1 {h:Hist} {N:Nat} (la:Lim N h):Lim N (u4 h):=
 ⟨la.ts,la.ss,la.os,la.ps,by have:=la.evs;simp only [u4,List.length_take];omega,la.ords,la.mats,la.wants,fun e he=>la.scans e (List.mem_of_mem_take he),la.ordts,la.matts⟩
theorem zce (h:Hist):(u4 h).evs.length≤60:=by simp only [u4,List.length_take];omega
section
variable {α:Type} {q:α→α→Bool}
end
end Go.H
