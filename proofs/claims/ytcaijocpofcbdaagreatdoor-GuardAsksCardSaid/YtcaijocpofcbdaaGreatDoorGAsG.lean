/- The abstract logic, part 28: slices.Sort and slices.Compact at []int, as contracts over a row of one's own (the kit's shelf has walked them). .. -/
import Derived.Test.YtcaijocpofcbdaaGreatDoorGAsF
import Derived.Shelf.Sort.Plain
import Derived.Shelf.Slices.In.SortNone
import Derived.Shelf.Slices.CompactI
set_option maxHeartbeats 4000000
set_option linter.unusedSectionVars false
set_option linter.unusedSimpArgs false
set_option linter.unusedVariables false
namespace Go.Ab
open Go Go.Shelf Go.Sort Go.Proofs
def numR (n:Int):List AV:= [.v (.int .i64 n)]
theorem zxc {X:Nat→Prop} {w:World} {a:Addr} {cap:Nat} {T:TypeId} {xs ys zs:List Int} (hh:HRel X w [.row (.slice (some a) xs.length cap) 1 T (xs.map numR)]) (hl:ys.length=xs.length) (hz:zs=ys.take zs.length) (n:Nat) (os:Array Obj):
 HRel X (grow (putRow (Value.int .i64) (Sort.ahead w n) a.block a.off ys.toArray) os) [.row (.slice (some a) zs.length cap) 1 T (zs.map numR)]∧
 Keep [a.block] w [a.block] (grow (putRow (Value.int .i64) (Sort.ahead w n) a.block a.off ys.toArray) os):=by
 obtain ⟨h1,h2,h3,h4,c,h5,h6,h7⟩:=hh.holds _ (D7.2 rfl);have hb:a.block < w.heap.size:=(hh.lt a.block (by simp [j6,Res.own])).1;have hX:¬X a.block:=(hh.lt a.block (by simp [j6,Res.own])).2;obtain ⟨w',hw'⟩:∃w',w'=grow (putRow (Value.int .i64) (Sort.ahead w n) a.block a.off ys.toArray) os:=⟨_,rfl⟩;rw [←hw'];have hheap:w'.heap=(w.heap.modify a.block (onCells (putCells (Value.int .i64) a.off ys.toArray)))++os:=by rw [hw'];rfl
 have hos:zjl w w':=by rw [hw'];exact ⟨⟨rfl,rfl⟩,rfl,trivial⟩
 have hsize:w.heap.size≤w'.heap.size:=by rw [hheap];simp
 have hold:∀b,b < w.heap.size→b≠a.block→w'.heap[b]? =w.heap[b]? :=fun b hb hne=>by
  rw [hheap,P3 (by simpa using hb),A0t,A0 (M8 hne)]
 have hnew:w'.heap[a.block]? =some (.cells (putCells (Value.int .i64) a.off ys.toArray c) T (0,0)):=by
  rw [hheap,P3 (by simpa using hb),A0t,A6 rfl,h5];rfl
 have hlen:zs.length≤ys.length:=by
  have:=A4 List.length hz;rw [D5] at this;omega
 refine ⟨⟨by simp [j6,Res.own],fun b hb2=>?_,fun b hb2=>I3 (hh.xlt b hb2) hsize,fun r hr=>?_⟩,⟨hsize,fun b hb2 hne=>?_,hos⟩⟩
 ·have:b=a.block:=by simpa [j6,Res.own] using hb2
  subst this;exact ⟨I3 hb hsize,hX⟩
 ·rw [D7] at hr;subst hr;refine ⟨h1,by simp,by simp at h2 h3;omega,fun i hi=>by simp [numR],_,hnew,by simpa [putCells] using h6,fun i hi j hj=>?_⟩;have hi2:i < zs.length:=by simpa using hi
  have hj0:j=0:=by simp [numR] at hj;omega
  subst hj0;have hc:a.off+i < c.size:=by simp at h2 h3;omega
  refine ⟨.int .i64 (zs[i]),?_,?_⟩
  ·have hz2:zs[i]=ys[i]'(by omega):=by
    have:zs[i]? =(ys.take zs.length)[i]? :=by rw [←hz]
    rw [G2 hi2,B4 hi2,B4 (by omega)] at this;exact B6 this
   have e:a.off+i * 1+0=a.off+i:=by omega
   rw [e];simp only [putCells,Array.getElem?_mapIdx];rw [I5 hc];simp only [K8];rw [A6 ⟨by omega,by simp;omega⟩,hz2];have e2:a.off+i - a.off=i:=by omega
   rw [e2];congr 2;exact Z7 _ _ (by simp;omega)
  simp only [H7,numR];exact .v _
 have hne2:b≠a.block:=by simpa using hne
 exact ⟨hold b hb2 hne2,hne⟩
theorem zxd {X:Nat→Prop} {w:World} {a:Addr} {cap:Nat} {T:TypeId} {xs:List Int} (hh:HRel X w [.row (.slice (some a) xs.length cap) 1 T (xs.map numR)]):Holds (Value.int .i64) w a.block a.off xs.toArray∧a.block < w.heap.size∧xs.length≤cap∧a.spot=none:=by
 obtain ⟨h1,h2,h3,h4,c,h5,h6,h7⟩:=hh.holds _ (D7.2 rfl);refine ⟨fun j hj=>?_,(hh.lt a.block (by simp [j6,Res.own])).1,h3,h1⟩;have hj2:j < xs.length:=by simpa using hj
 obtain ⟨v,e,r⟩:=h7 j (by simpa using hj2) 0 (by simp [numR]);simp only [H7,numR] at r;have hv:v= .int .i64 xs[j]:=r.v_eq;subst hv;have e0:a.off+j * 1+0=a.off+j:=by omega
 rw [e0] at e;refine ⟨?_,?_⟩
 ·have e2:w.cell? ⟨a.block,a.off+j,none⟩=some (.int .i64 xs[j]):=by simp [World.cell?,h5,e]
  have e3:xs.toArray[j]! =xs[j]:=Z7 xs.toArray j hj;rw [e2,e3]
 simp [World.frozen?,h5]
theorem ybq {X:Nat→Prop} {w:World} {n cap:Nat} {T:TypeId} {xs:List Int} (hh:HRel X w [.row (.slice none n cap) 1 T (xs.map numR)]):xs= []∧n=0∧cap=0:=by
 obtain ⟨h1,h2,h3⟩:=hh.holds _ (D7.2 rfl);exact ⟨by simpa using h1,h2,h3⟩
section
variable {P:Program} {ρ:Ren}
theorem yag (Ly:Lays.n189 P ρ) (s:SV) (T:TypeId) (xs:List Int) (hs:xs.length < 4611686018427387904):
 y9 P (ρ.f 189) [.v s.v] [.row s.v 1 T (xs.map numR)] (fun r h'=>h'= [.row s.v 1 T ((xs.mergeSort fun x y=>decide (x≤y)).map numR)]∧r= .v (.tuple #[])):=by
 intro X w vs hh ha;match vs,ha with
 | [v],⟨hv,_⟩=>
   obtain rfl:=hv.v_eq;obtain ⟨a,n,cap⟩:=s;cases a with
   |none=>
    obtain ⟨rfl,rfl,rfl⟩:=ybq hh;refine V7.2 ((Any.slices_Sort_int_none Ly none 0 w).mono ?_);rintro e w' ⟨rfl,rfl⟩;exact ⟨_,_,_,rfl,⟨rfl,rfl⟩,.v _,by simpa using hh,.refl _ _⟩
   |some a=>
    have hn:n=xs.length:=by
     have:=(hh.holds _ (D7.2 rfl)).2.1;simpa using this
    subst hn;obtain ⟨g1,g2,g3,g4⟩:=zxd hh;obtain ⟨b,off,sp⟩:=a;simp only at g1 g2 g4;subst g4;refine V7.2 ((Any.slices_Sort_int Ly b off cap xs w g1 g2 hs).mono ?_);rintro e w' ⟨rfl,n,os,rfl⟩;have hlen:(xs.mergeSort fun x y=>decide (x≤y)).length=xs.length:=List.length_mergeSort _;obtain ⟨k1,k2⟩:=zxc (zs:=xs.mergeSort fun x y=>decide (x≤y)) hh hlen (C7).symm n os;rw [hlen] at k1;exact ⟨_,_,_,rfl,⟨rfl,rfl⟩,.v _,k1,k2⟩
theorem zrk (Ly:Lays2.n20 P ρ) (s:SV) (T:TypeId) (xs:List Int) (hs:xs.length≤4611686018427387904):
 y9 P (ρ.f 20) [.v s.v] [.row s.v 1 T (xs.map numR)] (fun r h'=>∃s':SV,h'= [.row s'.v 1 T ((Lib.compact xs).map numR)]∧r= .v s'.v):=by
 intro X w vs hh ha;match vs,ha with
 | [v],⟨hv,_⟩=>
   obtain rfl:=hv.v_eq;obtain ⟨a,n,cap⟩:=s;cases a with
   |none=>
    obtain ⟨rfl,rfl,rfl⟩:=ybq hh;refine V7.2 ((Any.slices_Compact_int_empty Ly none 0 w).mono ?_);rintro e w' ⟨rfl,rfl⟩;exact ⟨_,_,_,rfl,⟨⟨none,0,0⟩,rfl,rfl⟩,.v _,hh,.refl _ _⟩
   |some a=>
    have hn:n=xs.length:=by
     have:=(hh.holds _ (D7.2 rfl)).2.1;simpa using this
    subst hn;obtain ⟨g1,g2,g3,g4⟩:=zxd hh;obtain ⟨b,off,sp⟩:=a;simp only at g1 g2 g4;subst g4;refine V7.2 ((Any.slices_Compact_int Ly b off cap xs w g1 (by omega) g3).mono ?_);rintro e w' ⟨rfl,q,rfl⟩;have hle:(Lib.compact xs).length≤xs.length:=by
     unfold Lib.compact Lib.compactUpTo;rw [oM];exact B8 (K6 _ _) (by simp)
    obtain ⟨k1,k2⟩:=zxc (ys:=Lib.compact xs++List.replicate (xs.length - (Lib.compact xs).length) 0) (zs:=Lib.compact xs) hh (by simp;omega) (by rw [List.take_left'];rfl) q #[];rw [grow_empty] at k1 k2;exact ⟨_,_,_,rfl,⟨⟨some ⟨b,off,none⟩,(Lib.compact xs).length,cap⟩,rfl,rfl⟩,.v _,k1,k2⟩
end
end Go.Ab
namespace Go.H
open Go Go.Ab
theorem zpf (y:Int):∀l:List Int,zb4 (l++ [y])=zb4 l++(if l.getLast? =some y then [] else [y])
 | []=>by simp [zb4]
 | [x]=>by
   by_cases h:x=y
   ·subst h;simp [zb4]
   simp [zb4,h]
 |x::z::r=>by
  have ih:=zpf y (z::r);simp only [G7] at ih ⊢;have hl:(x::z::r).getLast? =(z::r).getLast? :=by simp [List.getLast?_cons]
  rw [hl,zb4,zb4];by_cases h:x=z
  ·rw [A6 h,A6 h];exact ih
  rw [A0 h,A0 h,ih];rfl
theorem yab (xs:List Int):Lib.compact xs=zb4 xs:=by
 have key:∀m,m≤xs.length→Lib.compactUpTo xs.toArray m=zb4 (xs.take m):=by
  intro m;induction m with
  |zero=>intro _;rfl
  |succ m ih=>
   intro hm;have hlt:m < xs.length:=hm;rw [Lib.compactUpTo_succ,ih (by omega),A5 hlt,zpf];congr 1;have e1:xs.toArray[m]! =xs[m]:=by simp [hlt]
   by_cases h0:m=0
   ·subst h0;simp [Lib.keeps,hlt]
   have hlt':m - 1 < xs.length:=by omega
   have e2:xs.toArray[m - 1]! =xs[m - 1]:=by simp [hlt']
   have e3:(xs.take m).getLast? =some xs[m - 1]:=by
    rw [Z1,D5,K3 (by omega),G2 (by omega)];simp [hlt']
   rw [e3];unfold Lib.keeps;rw [e1,e2];by_cases he:xs[m]=xs[m - 1]
   ·rw [A0 (by simp [h0,he]),A6 (by rw [he])]
   rw [A6 (by simp [he]),A0 (fun q=>he (B6 q).symm)]
 have:=key xs.length (C5 _);rw [C7] at this;exact this
def yks (l:List Ev):List (Int×Bool):=l.foldl (fun m e=>zf2 e.t ((zch e.t m).getD false||e.kind==5) m) []
theorem yec (t:Int):∀(l:List Ev) (m:List (Int×Bool)),(zch t (l.foldl (fun m e=>zf2 e.t ((zch e.t m).getD false||e.kind==5) m) m)).getD false=((zch t m).getD false||l.any fun y=>y.t==t && y.kind==5)
 | [],m=>by simp
 |e::l,m=>by
  rw [K1,yec t l,U5,zcy];by_cases h:e.t=t
  ·subst h;simp [Bool.or_assoc]
  have:(e.t==t)=false:=by simpa using h
  rw [A0 h,this,B0,C4]
theorem zmi (l:List Ev) (t:Int):(zch t (yks l)).getD false=l.any fun y=>y.t==t && y.kind==5:=by
 rw [yks,yec];simp [zch]
theorem zka {l:List Ev} {k:Nat} (hk:k < l.length):yks (l.take (k+1))=zf2 l[k].t ((zch l[k].t (yks (l.take k))).getD false||l[k].kind==5) (yks (l.take k)):=by
 rw [A5 hk,yks,K0];rfl
section
variable {α:Type} {l:List α} {k:Nat} {p:α→Bool}
theorem yv6 (hk:k < l.length) (h:p l[k]=true):(l.take (k+1)).filter p=(l.take k).filter p++ [l[k]]:=by
 rw [A5 hk,K5];simp [h]
theorem yov (hk:k < l.length) (h:p l[k]=false):(l.take (k+1)).filter p=(l.take k).filter p:=by
 rw [A5 hk,K5];simp [h]
theorem ydy:((l.take k).filter p).length≤l.length:=B8 (K6 _ _) (by simp;omega)
end
def wrB (l:List Ev) (x:Int) (e:Ev):Bool:=e.kind==2 && e.o==x && l.any fun y=>y.t==e.t && y.kind==5
theorem zuk (l:List Ev) (x:Int):za0 l x=zb4 (srt ((l.filter (wrB l x)).map Ev.t)):=rfl
theorem zty (l:List Int) (n:Int):(l.any fun a=>a==n)=l.contains n:=by
 rw [K4];simp
theorem zkh (l:List Ev) (x:Int):(za0 l x).length≤l.length:=by
 rw [zuk];refine B8 (znu _) ?_;rw [(ze8 _).length_eq,oM];exact K6 _ _
theorem zkx (a b:Nat):((a:Int) !=(b:Int))= !decide (a=b):=by
 rw [K4];simp;omega
theorem y4.new {P:Program} {fv:AV} {args:List AV} {h:List Res} {R:AV→List Res→Prop} (hc:y4 P fv args [] R):y4 P fv args h (fun r h'=>∃h1,R r h1∧h'=h1++h):=
 (hc.frame h).mono fun _ _ ⟨h1,e,q⟩=>⟨h1,q,e⟩
def zk6 (h:Hist) (n many:Int):Int:=if v6 h=0 then (if 0≤n∧n < many then 0 else 2) else v6 h
def onE (e:Int) (l:List Int):List Int:=if e=0 then l else []
theorem yjl {h:Hist} {n many:Int} (he:zk6 h n many=0):zb6 h=true∧0≤n∧n < many:=by
 unfold zk6 at he;split at he
 ·rename_i hc;split at he
  ·rename_i hn;exact ⟨zcb.1 hc,hn⟩
  cases he
 rename_i hc;exact absurd he hc
theorem yt0 {h:Hist} {n many:Int} (hc:v6 h≠0):zk6 h n many=v6 h:=by rw [zk6,A0 hc]
theorem yjk {h:Hist} {n many:Int} (hc:v6 h=0) (hn:¬(0≤n∧n < many)):zk6 h n many=2:=by rw [zk6,A6 hc,A0 hn]
theorem ye4 {h:Hist} {n many:Int} (hc:v6 h=0) (hn:0≤n∧n < many):zk6 h n many=0:=by rw [zk6,A6 hc,A6 hn]
def zmh (l:List Ev):List (Int×Bool):=zxb (fun e:Ev=>e.kind==5) Ev.t [] l
theorem zyd (l:List Ev) (t:Int):(zch t (zmh l)).getD false=ztc l t 5:=by
 rw [zmh,zie,zha];have:(l.any fun e=>e.kind==5 && decide (e.t=t))=l.any fun y=>y.t==t && y.kind==5:=by
  congr 1;funext e;rw [U6];rfl
 rw [this];cases l.any fun y=>y.t==t && y.kind==5 <;> rfl
theorem ytf {l:List Ev} {k:Nat} (hk:k < l.length) (h5:(l[k].kind==5)=true):zmh (l.take (k+1))=zf2 l[k].t true (zmh (l.take k)):=by
 rw [A5 hk,zmh,zxb,K0,K1,V8,A6 h5];rfl
theorem ytg {l:List Ev} {k:Nat} (hk:k < l.length) (h5:(l[k].kind==5)=false):zmh (l.take (k+1))=zmh (l.take k):=by
 rw [A5 hk,zmh,zxb,K0,K1,V8,A0 (by rw [h5];decide)];rfl
section
variable {α:Type} (cmp:α→α→Int)
def mrg:List α→List α→List α
 | [],b=>b
 |x::a,[]=>x::a
 |x::a,y::b=>if cmp y x < 0 then y::mrg (x::a) b else x::mrg a (y::b)
termination_by a b=>a.length+b.length
theorem zg8 (a:List α):mrg cmp a []=a:=by cases a <;> simp [mrg]
theorem zl6:∀(a b:List α),(mrg cmp a b).Perm (a++b)
 | [],b=>by simp [mrg]
 |x::a,[]=>by simp [mrg]
 |x::a,y::b=>by
  rw [mrg];split
  ·exact ((zl6 (x::a) b).cons y).trans (U2 (l₁:=x::a)).symm
  exact (zl6 a (y::b)).cons x
termination_by a b=>a.length+b.length
def LeC (a b:α):Prop:=cmp a b≤0
structure CmpOk:Prop where
 trans:∀a b c,cmp a b≤0→cmp b c≤0→cmp a c≤0
 anti:∀a b,cmp b a= - cmp a b
variable {cmp}
theorem zku (ok:CmpOk cmp):∀(a b:List α),a.Pairwise (LeC cmp)→b.Pairwise (LeC cmp)→(mrg cmp a b).Pairwise (LeC cmp)
 | [],b,_,hb=>by simpa [mrg] using hb
 |x::a,[],ha,_=>by simpa [mrg] using ha
 |x::a,y::b,ha,hb=>by
  rw [mrg];have ha':=L5.1 ha;have hb':=L5.1 hb;split
  ·rename_i h;refine L5.2 ⟨fun z hz=>?_,zku ok (x::a) b ha hb'.2⟩;have hz':=(zl6 cmp (x::a) b).mem_iff.1 hz;rcases D2.1 hz' with hz'|hz'
   ·have hyx:LeC cmp y x:=Int.le_of_lt h;rcases C9.1 hz' with rfl|hz'
    ·exact hyx
    exact ok.trans _ _ _ hyx (ha'.1 z hz')
   exact hb'.1 z hz'
  rename_i h;have hxy:LeC cmp x y:=by have:=ok.anti x y;show cmp x y≤0;omega
  refine L5.2 ⟨fun z hz=>?_,zku ok a (y::b) ha'.2 hb⟩;have hz':=(zl6 cmp a (y::b)).mem_iff.1 hz;rcases D2.1 hz' with hz'|hz'
  ·exact ha'.1 z hz'
  rcases C9.1 hz' with rfl|hz'
  ·exact hxy
  exact ok.trans _ _ _ hxy (hb'.1 z hz')
termination_by a b=>a.length+b.length
variable (cmp)
variable {cmp}
end
section
variable {α:Type} [DecidableEq α] (cmp:α→α→Int)
variable {cmp}
end
section
variable {α:Type}
end
def yxl (p o:Int) (r:Mat):Bool:=r.p==p && r.o==o
def yxm (h:Hist) (p o:Int):Option Mat:=h.mats.find? (yxl p o)
def yxo:Mat:=⟨0,0,false,[]⟩
def yxn (h:Hist) (p o:Int):Mat:=(yxm h p o).getD yxo
def yux (m:Mat) (ts:List Int):List Bool:=m.first::ts.map (fun t=>m.ts.contains t)
def yw3 (h:Hist) (p o:Int):List Bool:=yux (yxn h p o) (zgg h o)
theorem yf7 (m:Mat) (ts:List Int):(yux m ts).length=ts.length+1:=by simp [yux]
theorem tab_len (h:Hist) (p o:Int):(yw3 h p o).length=(zgg h o).length+1:=yf7 _ _
structure Conf where
 f:Int
 t:Int
 k:Int
 a:Int
 b:Int
 o:Int
 p:Int
 deriving DecidableEq
abbrev RkM:=List ((Int×Int×Int)×Int)
def zud (x:Int) (v:Ver):Int×Int×Int:=(x,v.t,v.k)
theorem zjo {x y:Int} {v w:Ver}:zud x v=zud y w ↔ x=y∧v=w:=by
 cases v;cases w;simp [zud]
def zlt (h:Hist) (x t:Int):Ver:=yln (zyb h.evs t x)
def zin (h:Hist) (x:Int):Nat→List Int→RkM→RkM
 |_,[],m=>m
 |i,t::r,m=>zin h x (i+1) r (zf2 (zud x (zlt h x t)) ((i:Int)+1) m)
def ygv (h:Hist) (x:Int) (m:RkM):RkM:=zin h x 0 (zgg h x) (zf2 (zud x ⟨0,0⟩) 0 m)
def rkM (h:Hist):Nat→RkM
 |0=> []
 |n+1=>ygv h n (rkM h n)
theorem zo0 (h:Hist) (x:Int):∀(l:List Int) (i:Nat) (t:Int) (m:RkM),zin h x i (l++ [t]) m=zf2 (zud x (zlt h x t)) (((i+l.length:Nat):Int)+1) (zin h x i l m)
 | [],i,t,m=>by simp [zin]
 |a::r,i,t,m=>by
  rw [G7,zin,zo0 h x r (i+1) t,zin,E6,show i+1+r.length=i+(r.length+1) by omega]
theorem ymr {h:Hist} {x:Int} {l:List Int} {k:Nat} (hk:k < l.length) (m:RkM):zin h x 0 (l.take (k+1)) m=zf2 (zud x (zlt h x l[k])) ((k:Int)+1) (zin h x 0 (l.take k) m):=by
 rw [A5 hk,zo0,D5,K3 (by omega),H9]
theorem zi7 (h:Hist) {x y:Int} (hxy:y≠x) (v:Ver):∀(l:List Int) (i:Nat) (m:RkM),zch (zud y v) (zin h x i l m)=zch (zud y v) m
 | [],_,_=>rfl
 |t::r,i,m=>by
  rw [zin,zi7 h hxy v r (i+1),zcy,A0];intro e;exact hxy ((zjo.1 e).1).symm
theorem zsh (h:Hist) (x:Int) (v:Ver):∀(l:List Int) (i:Nat) (m:RkM),(l.map (zlt h x)).Nodup→zch (zud x v) (zin h x i l m)=if zbe (fun t=>zlt h x t==v) i l ≥ 0 then some (zbe (fun t=>zlt h x t==v) i l+1) else zch (zud x v) m
 | [],i,m,_=>by rw [zin,zbe,A0 (by decide)]
 |t::r,i,m,hn=>by
  rw [F6,K9] at hn;rw [zin,zsh h x v r (i+1) _ hn.2];by_cases e:zlt h x t=v
  ·have hno:decide (zbe (fun t=>zlt h x t==v) (i+1) r ≥ 0)=false:=by
    rw [zeo,L7];intro z hz q;exact hn.1 (by rw [e,←eq_of_beq q];exact S1 hz)
   have e1:zbe (fun t=>zlt h x t==v) i (t::r)=(i:Int):=by rw [zbe,A6 (by simpa using e)]
   rw [e1,A0 (oF hno),A6 (by omega),zcy,A6 (by rw [e])]
  have e1:zbe (fun t=>zlt h x t==v) i (t::r)=zbe (fun t=>zlt h x t==v) (i+1) r:=by rw [zbe,A0 (by simpa using e)]
  rw [e1];by_cases q:zbe (fun t=>zlt h x t==v) (i+1) r ≥ 0
  ·rw [A6 q,A6 q]
  rw [A0 q,A0 q,zcy,A0];intro e2;exact e ((zjo.1 e2).2)
theorem yd4 {h:Hist} (hs:zb6 h=true) {x:Int} (h0:0≤x) (h1:x < h.os.length):((zgg h x).map (zlt h x)).Nodup∧∀t∈zgg h x,zlt h x t≠⟨0,0⟩:=by
 obtain ⟨hn,_,hm⟩:=znj hs h0 h1
 have hv:∀t∈zgg h x,(zlt h x t).t=t∧0 < (zlt h x t).k:=fun t ht=>by
  obtain ⟨w1,_⟩:=zuj.1 ((hm t).1 ht);obtain ⟨v,i,hf⟩:=ys7 w1;obtain ⟨_,_,_,vt,vk,_⟩:=yd3 hs hf;rw [zlt,hf];exact ⟨vt,vk⟩
 constructor
 ·rw [List.Nodup,Y9];refine (J6).2 fun i j hi hj hij e=>?_;have a:=(hv _ (D0 hi)).1;have b:=(hv _ (D0 hj)).1;rw [e] at a;exact (J6.1 hn) i j hi hj hij (a.symm.trans b)
 intro t ht e;have:=(hv t ht).2;rw [e] at this;exact absurd this (by decide)
theorem zu4 (h:Hist) (x:Int) (v:Ver):∀n:Nat,(n:Int)≤x∨x < 0→zch (zud x v) (rkM h n)=none
 |0,_=>rfl
 |n+1,hx=>by
  have hne:x≠(n:Int):=by omega
  rw [rkM,ygv,zi7 h hne,zcy,A0,zu4 h x v n (by omega)];intro e;exact hne ((zjo.1 e).1).symm
theorem ybr {h:Hist} (hs:zb6 h=true) {x:Int} (v:Ver) (h0:0≤x) (h1:x < h.os.length):∀n:Nat,n≤h.os.length→x < n→zch (zud x v) (rkM h n)=if v=⟨0,0⟩ then some 0 else if zp1 h x v ≥ 0 then some (zp1 h x v+1) else none
 |0,_,hx=>absurd hx (by omega)
 |n+1,hn,hx=>by
  by_cases e:x=(n:Int)
  ·subst e;obtain ⟨a,b⟩:=yd4 hs h0 h1;rw [rkM,ygv,zsh h _ v _ _ _ a,zcy];have hr:zbe (fun t=>zlt h (n:Int) t==v) 0 (zgg h n)=zp1 h n v:=rfl;rw [hr];by_cases hv:v=⟨0,0⟩
   ·subst hv;have:decide (zp1 h n ⟨0,0⟩ ≥ 0)=false:=by
     rw [zp1,zeo,L7];intro t ht q;exact b t ht (eq_of_beq q)
    rw [A0 (oF this),A6 rfl,A6 rfl]
   rw [A0 hv,A0 (fun e=>hv ((zjo.1 e).2).symm),zu4 h _ v n (.inl (A0o _))]
  rw [rkM,ygv,zi7 h e,zcy,A0 (fun q=>e ((zjo.1 q).1).symm)];exact ybr hs v h0 h1 n (by omega) (by omega)
def zxf (h:Hist) (x:Int) (v:Ver):Option Int:=zch (zud x v) (rkM h h.os.length)
theorem zqx {α β:Type} {f g:α→Option β}:∀{l:List α},(∀a∈l,f a=g a)→l.filterMap f=l.filterMap g
 | [],_=>rfl
 |a::r,h=>by rw [P2,P2,h a (by simp),zqx fun b hb=>h b (by simp [hb])]
section
variable {α:Type} {cmp:α→α→Int}
theorem zhz:∀(A1 B1 A2 B2:List α),(∀a∈A1,∀b∈B2,¬cmp b a < 0)→(∀b∈B1,∀a∈A2,cmp b a < 0)→mrg cmp (A1++A2) (B1++B2)=mrg cmp A1 B1++mrg cmp A2 B2
 | [],[],A2,B2,_,_=>by simp [mrg]
 | [],b::B,A2,B2,h1,h2=>by
   have ih:=zhz [] B A2 B2 (by simp) (fun b hb a ha=>h2 b (by simp [hb]) a ha);simp only [E7,mrg] at ih ⊢;cases A2 with
   |nil=>rw [G7,mrg,←G7];simp [mrg]
   |cons a r=>rw [G7,mrg,A6 (h2 b (by simp) a (by simp)),ih];rfl
 |a::A,[],A2,B2,h1,h2=>by
  have ih:=zhz A [] A2 B2 (fun a ha b hb=>h1 a (by simp [ha]) b hb) (by simp);rw [zg8] at ih ⊢;simp only [E7] at ih ⊢;cases B2 with
  |nil=>rw [zg8,zg8]
  |cons b r=>rw [G7,mrg,A0 (h1 a (by simp) b (by simp)),ih];rfl
 |a::A,b::B,A2,B2,h1,h2=>by
  rw [G7,G7,mrg,mrg];by_cases q:cmp b a < 0
  ·rw [A6 q,A6 q];have ih:=zhz (a::A) B A2 B2 h1 (fun b hb a ha=>h2 b (by simp [hb]) a ha);rw [G7] at ih;rw [ih];rfl
  rw [A0 q,A0 q];have ih:=zhz A (b::B) A2 B2 (fun a ha b hb=>h1 a (by simp [ha]) b hb) h2;rw [G7] at ih;rw [ih];rfl
termination_by A1 B1=>A1.length+B1.length
theorem zl7 (ok:CmpOk cmp) {L R:List α} (hL:L.Pairwise (LeC cmp)) (hR:R.Pairwise (LeC cmp)) {x y:Nat} (hx:x≤L.length) (hy:y≤R.length)
 (h1:∀_:1≤x,∀hy:y < R.length,¬cmp R[y] (L[x - 1]'(by omega)) < 0) (h2:∀hx:x < L.length,∀_:1≤y,cmp (R[y - 1]'(by omega)) L[x] < 0):
 mrg cmp L R=mrg cmp (L.take x) (R.take y)++mrg cmp (L.drop x) (R.drop y):=by
 have le:∀{l:List α},l.Pairwise (LeC cmp)→∀i j,(hi:i < l.length)→(hj:j < l.length)→i≤j→cmp l[i] l[j]≤0:=fun {l} hl i j hi hj hij=>by
  rcases Nat.lt_or_eq_of_le hij with q|q
  ·exact (J6.1 hl) i j hi hj q
  subst q;have:=ok.anti l[i] l[i];omega
 rw [←zhz,G9,G9]
 ·intro a ha b hb hlt;obtain ⟨i,hi,rfl⟩:=I8.1 ha;obtain ⟨j,hj,rfl⟩:=I8.1 hb;simp only [D5,L9] at hi hj;rw [Q0,R0] at hlt;have e:=h1 (by omega) (by omega);have q1:=le hL i (x - 1) (by omega) (by omega) (by omega);have q2:=le hR y (y+j) (by omega) (by omega) (by omega);have q3:=ok.anti R[y] (L[x - 1]'(by omega));have q4:=ok.trans _ _ _ q1 (show cmp (L[x - 1]'(by omega)) R[y]≤0 by omega);have q5:=ok.trans _ _ _ q4 q2;have q6:=ok.anti (R[y+j]'(by omega)) (L[i]'(by omega));omega
 intro b hb a ha;obtain ⟨j,hj,rfl⟩:=I8.1 hb;obtain ⟨i,hi,rfl⟩:=I8.1 ha;simp only [D5,L9] at hi hj;rw [Q0,R0];have e:=h2 (by omega) (by omega);have q1:=le hR j (y - 1) (by omega) (by omega) (by omega);have q2:=le hL x (x+i) (by omega) (by omega) (by omega);have q4:=ok.trans _ _ _ q1 (Int.le_of_lt e);have q5:=ok.trans _ _ _ q4 q2;rcases Int.lt_or_eq_of_le q5 with z|z
 ·exact z
 exfalso;have a1:=ok.anti (R[j]'(by omega)) (L[x+i]'(by omega));have a2:=ok.trans _ _ _ q2 (show cmp (L[x+i]'(by omega)) (R[j]'(by omega))≤0 by omega);have a3:=ok.trans _ _ _ a2 q1;have a4:=ok.anti L[x] (R[y - 1]'(by omega));omega
end
section
variable {α:Type} (key:α→Int)
def zb1 (a b:α):Int:=key a - key b
theorem ztz:CmpOk (zb1 key):=⟨fun a b c h k=>by simp only [zb1] at *;omega,fun a b=>by simp only [zb1];omega⟩
def zrv (l m:List α):Prop:=m.Pairwise (LeC (zb1 key))∧∀x,(m.filter fun a=>key a==x)=l.filter fun a=>key a==x
theorem zkv (x:Int):∀(A B:List α),A.Pairwise (LeC (zb1 key))→B.Pairwise (LeC (zb1 key))→((mrg (zb1 key) A B).filter fun a=>key a==x)=(A.filter fun a=>key a==x)++B.filter fun a=>key a==x
 | [],B,_,_=>by simp [mrg]
 |a::A,[],_,_=>by simp [mrg]
 |a::A,b::B,hA,hB=>by
  have hA':=L5.1 hA;have hB':=L5.1 hB;rw [mrg];split
  ·rename_i q;have q:key b < key a:=by simp only [zb1] at q;omega
   rw [I0,zkv x (a::A) B hA hB'.2,I0 (x:=b)];by_cases e:key b=x
   ·have hn:(a::A).filter (fun a=>key a==x)= []:=by
     rw [S6];intro z hz;have:key a≤key z:=by
      rcases C9.1 hz with rfl|hz
      ·exact A0o _
      have h0:key a - key z≤0:=hA'.1 z hz;omega
     simp;omega
    rw [hn];simp [e]
   simp [e]
  rw [I0,zkv x A (b::B) hA'.2 hB,I0 (x:=a)];split <;> simp
termination_by A B=>A.length+B.length
theorem zw2 {l1 l2 m1 m2:List α} (h1:zrv key l1 m1) (h2:zrv key l2 m2):zrv key (l1++l2) (mrg (zb1 key) m1 m2):=
 ⟨zku (ztz key) _ _ h1.1 h2.1,fun x=>by rw [zkv key x _ _ h1.1 h2.1,h1.2,h2.2,K5]⟩
theorem ygd (a:α):zrv key [a] [a]:=⟨by simp,fun _=>rfl⟩
theorem zw1:zrv key ([]:List α) []:=⟨.nil,fun _=>rfl⟩
theorem zgd {β:Type} {f g:Int→List β}:∀{l:List Int},(∀a∈l,f a=g a)→l.flatMap f=l.flatMap g
 | [],_=>rfl
 |a::r,h=>by rw [I6,I6,h a (by simp),zgd fun b hb=>h b (by simp [hb])]
theorem ylp (n:Nat) {x:Int} (h:x∈upR n):0≤x∧x < n:=by
 rw [upR,H2] at h;obtain ⟨k,hk,rfl⟩:=h;have:=H4.1 hk;omega
theorem zmr:∀(n:Nat) (l:List α),l.Pairwise (LeC (zb1 key))→(∀a∈l,0≤key a∧key a < n)→l=(upR n).flatMap fun x=>l.filter fun a=>key a==x
 |0,l,_,h=>by
  have:l= []:=by
   cases l with
   |nil=>rfl
   |cons a r=>have:=h a (by simp);omega
  subst this;rfl
 |n+1,l,hs,h=>by
  have e:∀l:List α,l.Pairwise (LeC (zb1 key))→(∀a∈l,0≤key a∧key a < (n+1:Nat))→l=(l.filter fun a=>decide (key a < n))++l.filter fun a=>key a==(n:Int):=by
   intro l;induction l with
   |nil=>intro _ _;rfl
   |cons a r ih=>
    intro hs h;have hs':=L5.1 hs;have ihr:=ih hs'.2 fun z hz=>h z (by simp [hz]);have ha:=h a (by simp);rw [I0,I0];by_cases q:key a < n
    ·rw [A6 (by simpa using q),A0 (by simp;omega),G7,←ihr]
    have hr:r.filter (fun a=>decide (key a < n))= []:=by
     rw [S6];intro z hz;have h0:key a - key z≤0:=hs'.1 z hz;simp;omega
    rw [hr,E7] at ihr;rw [A0 (by simpa using q),hr,E7,A6 (by simp;omega),←ihr]
  have h1:=e l hs h;have hs1:(l.filter fun a=>decide (key a < n)).Pairwise (LeC (zb1 key)):=hs.filter _
  have ih:=zmr n (l.filter fun a=>decide (key a < n)) hs1 fun a ha=>by
   obtain ⟨m1,m2⟩:=L1.1 ha;exact ⟨(h a m1).1,by simpa using m2⟩
  rw [ya0,M0];conv=>lhs;rw [h1,ih]
  congr 1
  ·refine zgd fun x hx=>?_;rw [List.filter_filter];refine List.filter_congr fun a _=>?_;have:=ylp n hx;by_cases q:key a=x
   ·simp [q];omega
   simp [q]
  simp
theorem yba {n:Nat} {l m:List α} (h:zrv key l m) (hk:∀a∈l,0≤key a∧key a < n):m=(upR n).flatMap fun x=>l.filter fun a=>key a==x:=by
 have hm:∀a∈m,a∈l:=fun a ha=>by
  have:a∈m.filter fun b=>key b==key a:=L1.2 ⟨ha,by simp⟩;rw [h.2] at this;exact (L1.1 this).1
 conv=>lhs;rw [zmr key n m h.1 fun a ha=>hk a (hm a ha)]
 exact zgd fun x _=>h.2 x
end
section
variable {α:Type}
def swp (l:List α) (i j:Nat):List α:=match l[i]?,l[j]? with
 |some x,some y=>(l.set i y).set j x
 |_,_=>l
theorem zwv {l:List α} {i j:Nat} {x y:α} (hi:l[i]? =some x) (hj:l[j]? =some y):swp l i j=(l.set i y).set j x:=by
 rw [swp,hi,hj]
theorem ylw (l:List α) (i j:Nat):(swp l i j).length=l.length:=by
 unfold swp;split <;> simp
theorem zuw (A B C:List α) (x y:α):swp (A++x::(B++y::C)) A.length (A.length+1+B.length)=A++y::(B++x::C):=by
 have h1:(A++x::(B++y::C))[A.length]? =some x:=by simp
 have h2:(A++x::(B++y::C))[A.length+1+B.length]? =some y:=by
  rw [J1 (by omega),show A.length+1+B.length - A.length=B.length+1 by omega,I7];simp
 rw [zwv h1 h2,T6 _ _ (C5 _),R9,Y2,T6 _ _ (by omega),show A.length+1+B.length - A.length=B.length+1 by omega,X9,T6 _ _ (C5 _),R9,Y2]
def swN (l:List α) (a b:Nat):Nat→List α
 |0=>l
 |n+1=>swp (swN l a b n) (a+n) (b+n)
theorem zmp (l:List α) (a b:Nat):∀n,(swN l a b n).length=l.length
 |0=>rfl
 |n+1=>by rw [swN,ylw,zmp]
theorem yjy {P X W Y Z:List α} (hXY:X.length=Y.length):∀n,n≤X.length→swN (P++(X++(W++(Y++Z)))) P.length (P.length+X.length+W.length) n=P++(Y.take n++(X.drop n++(W++(X.take n++(Y.drop n++Z)))))
 |0,_=>by simp [swN]
 |n+1,hn=>by
  have hx:n < X.length:=hn;have hy:n < Y.length:=by omega
  rw [swN,yjy hXY n (by omega),A8 hx,A8 hy];have key:=zuw (P++Y.take n) (X.drop (n+1)++(W++X.take n)) (Y.drop (n+1)++Z) X[n] Y[n];have e1:(P++Y.take n).length=P.length+n:=by simp;omega
  have e2:(P++Y.take n).length+1+(X.drop (n+1)++(W++X.take n)).length=P.length+X.length+W.length+n:=by simp;omega
  rw [e2,e1] at key;have e3:P++(Y.take n++(X[n]::X.drop (n+1)++(W++(X.take n++(Y[n]::Y.drop (n+1)++Z)))))=P++Y.take n++X[n]::(X.drop (n+1)++(W++X.take n)++Y[n]::(Y.drop (n+1)++Z)):=by simp only [E0,G7]
  rw [e3,key,A5 hx,A5 hy];simp only [E0,G7,E7]
theorem zpv {P X W Y Z:List α} (hXY:X.length=Y.length):swN (P++(X++(W++(Y++Z)))) P.length (P.length+X.length+W.length) X.length=P++(Y++(W++(X++Z))):=by
 rw [yjy hXY _ (C5 _),C7,E5,hXY,C7,E5];simp
def Rot (m i j:Nat) (cur T:List α):Prop:=∃P I J Z,cur=P++(I++(J++Z))∧P.length+i=m∧I.length=i∧J.length=j∧P++(J++(I++Z))=T
theorem yqt {m i j:Nat} {cur T:List α} (h:Rot m i j cur T) (hij:j < i):Rot m (i - j) j (swN cur (m - i) m j) T:=by
 obtain ⟨P,I,J,Z,rfl,hp,hi,hj,rfl⟩:=h;have e:I=I.take j++I.drop j:=(G9 j I).symm;have hX:(I.take j).length=J.length:=by rw [D5];omega
 have key:=zpv (P:=P) (X:=I.take j) (W:=I.drop j) (Y:=J) (Z:=Z) hX;have e1:P.length+(I.take j).length+(I.drop j).length=m:=by simp;omega
 rw [e1,show (I.take j).length=j by omega] at key;refine ⟨P++J,I.drop j,I.take j,Z,?_,by simp;omega,by simp;omega,by omega,?_⟩
 ·conv=>lhs;rw [e]
  rw [show m - i=P.length by omega,E0 (I.take j),key,E0]
 rw [←E0 (I.take j) (I.drop j) Z,G9,E0]
theorem yqs {m i j:Nat} {cur T:List α} (h:Rot m i j cur T) (hij:i < j):Rot m i (j - i) (swN cur (m - i) (m+j - i) i) T:=by
 obtain ⟨P,I,J,Z,rfl,hp,hi,hj,rfl⟩:=h;have e:J=J.take (j - i)++J.drop (j - i):=(G9 _ J).symm;have hX:I.length=(J.drop (j - i)).length:=by rw [L9];omega
 have key:=zpv (P:=P) (X:=I) (W:=J.take (j - i)) (Y:=J.drop (j - i)) (Z:=Z) hX;have e1:P.length+I.length+(J.take (j - i)).length=m+j - i:=by simp;omega
 rw [e1,hi] at key;refine ⟨P,J.drop (j - i),J.take (j - i),I++Z,?_,hp,by omega,by rw [D5];omega,?_⟩
 ·conv=>lhs;rw [e]
  rw [show m - i=P.length by omega,E0 (J.take (j - i)),key]
 rw [←E0 (J.take (j - i)) (J.drop (j - i)) (I++Z),G9]
theorem yqu {m i:Nat} {cur T:List α} (h:Rot m i i cur T):swN cur (m - i) m i=T:=by
 obtain ⟨P,I,J,Z,rfl,hp,hi,hj,rfl⟩:=h;have key:=zpv (P:=P) (X:=I) (W:= []) (Y:=J) (Z:=Z) (by omega);simp only [E7,F3,N2] at key;rw [hi,hp] at key;rw [show m - i=P.length by omega];exact key
end
section
variable {α:Type} {cmp:α→α→Int}
def isL (cmp:α→α→Int) (l:List α):List α:=l.foldl (fun s x=>mrg cmp s [x]) []
theorem ysf (l:List α) (x:α):isL cmp (l++ [x])=mrg cmp (isL cmp l) [x]:=by rw [isL,K0];rfl
theorem zf9:∀A B:List α,(mrg cmp A B).length=A.length+B.length
 | [],B=>by simp [mrg]
 |a::A,[]=>by simp [mrg]
 |a::A,b::B=>by
  rw [mrg];split
  ·rw [E6,zf9 (a::A) B];simp;omega
  rw [E6,zf9 A (b::B)];simp;omega
termination_by A B=>A.length+B.length
theorem zjd (l:List α):(isL cmp l).length=l.length:=by
 suffices ∀(l s:List α),(l.foldl (fun s x=>mrg cmp s [x]) s).length=s.length+l.length by simpa [isL] using this l []
 intro l;induction l with
 |nil=>intro s;simp
 |cons a l ih=>intro s;rw [K1,ih,zf9];simp;omega
theorem yhs {A:List α} {x:α} (h:∀a∈A,cmp x a < 0):mrg cmp A [x]=x::A:=by
 cases A with
 |nil=>simp [mrg]
 |cons a r=>rw [mrg,A6 (h a (by simp)),zg8]
theorem yn4 (ok:CmpOk cmp) {S:List α} (hS:S.Pairwise (LeC cmp)) {x:α} {k:Nat} (hk:k≤S.length) (h1:∀a∈S.drop k,cmp x a < 0) (h2:∀_:1≤k,¬cmp x (S[k - 1]'(by omega)) < 0):mrg cmp S [x]=S.take k++x::S.drop k:=by
 rw [zl7 ok hS (R:= [x]) (by simp) hk (G1 _) (fun hk1 _=>h2 hk1) (fun _ h=>by omega)];simp only [Q4,R7,zg8];rw [yhs h1]
end
section
variable {α:Type} (key:α→Int)
theorem zpx (l:List α):zrv key l (isL (zb1 key) l):=by
 suffices ∀n,n≤l.length→zrv key (l.take n) (isL (zb1 key) (l.take n)) by simpa using this l.length (C5 _)
 intro n;induction n with
 |zero=>intro _;simpa [isL] using zw1 key
 |succ n ih=>
  intro hn;rw [A5 hn,ysf];exact zw2 key (ih (by omega)) (ygd key _)
def zok (D:List (List α×List α)):Nat:=(D.map fun p=>p.2.length).sum
def zwm (D:List (List α×List α)):Prop:=∀p∈D,zrv key p.1 p.2∧p.2.length=p.1.length
def Bl (bs:Nat):List (List α×List α)→Prop
 | []=>True
 | [p]=>p.2.length≤bs
 |p::q::r=>p.2.length=bs∧Bl bs (q::r)
def Fst (D:List (List α×List α)):List α:=(D.map Prod.fst).flatten
def Snd (D:List (List α×List α)):List α:=(D.map Prod.snd).flatten
theorem zf7 (D:List (List α×List α)):(Snd D).length=zok D:=by simp [Snd,zok,List.length_flatten,Function.comp_def]
theorem znm (D E:List (List α×List α)):Fst (D++E)=Fst D++Fst E:=by simp [Fst]
theorem zms (D E:List (List α×List α)):Snd (D++E)=Snd D++Snd E:=by simp [Snd]
theorem zxl {x y:List α×List α} (hx:zrv key x.1 x.2∧x.2.length=x.1.length) (hy:zrv key y.1 y.2∧y.2.length=y.1.length):zrv key (x.1++y.1) (mrg (zb1 key) x.2 y.2)∧(mrg (zb1 key) x.2 y.2).length=(x.1++y.1).length:=
 ⟨zw2 key hx.1 hy.1,by rw [zf9,D4,hx.2,hy.2]⟩
theorem ytp {bs:Nat} (h0:1≤bs) {D:List (List α×List α)} (hB:Bl bs D) (ht:2 * bs≤zok D):∃x y r,D=x::y::r∧x.2.length=bs∧y.2.length=bs∧Bl bs r:=by
 match D,hB,ht with
 | [],_,ht=>simp [zok] at ht;omega
 | [p],hB,ht=>have hB:p.2.length≤bs:=hB;simp [zok] at ht;omega
 | [x,y],hB,ht=>
   obtain ⟨h1,h2⟩:=hB;have h2:y.2.length≤bs:=h2;refine ⟨x,y,[],rfl,h1,?_,trivial⟩;simp [zok] at ht;omega
 |x::y::z::r,hB,ht=>exact ⟨x,y,z::r,rfl,hB.1,hB.2.1,hB.2.2⟩
theorem yky {bs:Nat} {D:List (List α×List α)} (hB:Bl bs D) (hP:zwm key D) (ht:zok D < 2 * bs):(zok D≤bs∧zrv key (Fst D) (Snd D)∧(Snd D).length=(Fst D).length)∨(bs < zok D∧∃x y,D= [x,y]∧x.2.length=bs):=by
 match D,hB,hP,ht with
 | [],_,_,_=>exact .inl ⟨by simp [zok],zw1 key,rfl⟩
 | [p],hB,hP,_=>
   have h:=hP p (by simp);exact .inl ⟨by simpa [zok,Bl] using hB,by simpa [Fst,Snd] using h.1,by simpa [Fst,Snd] using h.2⟩
 | [x,y],hB,hP,ht=>
   obtain ⟨h1,h2⟩:=hB;have hx:=hP x (by simp);have hy:=hP y (by simp);by_cases q:y.2= []
   ·have q1:y.1= []:=by
     have:=hy.2;rw [q] at this;exact I2 this.symm
    exact .inl ⟨by simp [zok,q,h1],by simpa [Fst,Snd,q,q1] using hx.1,by simpa [Fst,Snd,q,q1] using hx.2⟩
   refine .inr ⟨?_,x,y,rfl,h1⟩;have:0 < y.2.length:=List.length_pos_iff.2 q;simp [zok,h1];omega
 |x::y::z::r,hB,hP,ht=>
  obtain ⟨h1,h2,_⟩:=hB;simp [zok] at ht;omega
end
section
variable {α:Type} (key:α→Int)
def St1 (bs:Nat) (l cur:List α) (a:Nat):Prop:=∃D R,zwm key D∧(∀p∈D,p.2.length=bs)∧l=Fst D++R∧cur=Snd D++R∧a=bs * D.length
def St2 (bs:Nat) (l cur:List α):Prop:=∃D,zwm key D∧Bl bs D∧l=Fst D∧cur=Snd D
def St3 (bs:Nat) (l cur:List α) (a:Nat):Prop:=∃E D,zwm key E∧zwm key D∧(∀p∈E,p.2.length=2 * bs)∧Bl bs D∧l=Fst E++Fst D∧cur=Snd E++Snd D∧a=2 * bs * E.length
theorem zic {bs:Nat}:∀{D:List (List α×List α)},(∀p∈D,p.2.length=bs)→zok D=bs * D.length
 | [],_=>by simp [zok]
 |p::D,h=>by
  have h1:=zic (D:=D) fun q hq=>h q (by simp [hq]);have h2:=h p (by simp);have e:zok (p::D)=p.2.length+zok D:=by simp [zok]
  rw [e,h1,h2,E6,Nat.mul_succ];omega
theorem zrb {bs:Nat}:∀{D:List (List α×List α)} {p:List α×List α},(∀q∈D,q.2.length=bs)→p.2.length≤bs→Bl bs (D++ [p])
 | [],p,_,hp=>hp
 | [q],p,h,hp=>⟨h q (by simp),hp⟩
 |q::r::D,p,h,hp=>⟨h q (by simp),zrb (D:=r::D) (fun z hz=>h z (by simp [hz])) hp⟩
variable {key}
theorem zgq {D:List (List α×List α)} {p:List α×List α} (hD:zwm key D) (hp:zrv key p.1 p.2∧p.2.length=p.1.length):zwm key (D++ [p]):=fun q hq=>by
 rcases D2.1 hq with h|h
 ·exact hD q h
 rw [D7.1 h];exact hp
theorem yu0 (bs:Nat) (l:List α):St1 key bs l l 0:=⟨[],l,fun p hp=>by simp at hp,fun p hp=>by simp at hp,by simp [Fst],by simp [Snd],by simp⟩
theorem ygg {bs a:Nat} {l cur:List α} (h:St1 key bs l cur a) (hb:a+bs≤cur.length):∃P M Z,cur=P++(M++Z)∧P.length=a∧M.length=bs∧St1 key bs l (P++(isL (zb1 key) M++Z)) (a+bs):=by
 obtain ⟨D,R,h1,h2,rfl,rfl,rfl⟩:=h;have e:(Snd D).length=bs * D.length:=by rw [zf7,zic h2]
 rw [D4,e] at hb;have eR:R=R.take bs++R.drop bs:=(G9 bs R).symm;have hm:(R.take bs).length=bs:=by rw [D5];omega
 refine ⟨Snd D,R.take bs,R.drop bs,by rw [G9],e,hm,D++ [(R.take bs,isL (zb1 key) (R.take bs))],R.drop bs,zgq h1 ⟨zpx key _,zjd _⟩,fun p hp=>?_,?_,?_,by rw [D4,T7,Nat.mul_add];omega⟩
 ·rcases D2.1 hp with h|h
  ·exact h2 p h
  rw [D7.1 h,zjd,hm]
 ·rw [znm];simp [Fst]
 rw [zms];simp [Snd]
theorem yl2 {bs a:Nat} {l cur:List α} (h:St1 key bs l cur a) (hb:cur.length < a+bs):∃P M,cur=P++M∧P.length=a∧St2 key bs l (P++isL (zb1 key) M):=by
 obtain ⟨D,R,h1,h2,rfl,rfl,rfl⟩:=h;have e:(Snd D).length=bs * D.length:=by rw [zf7,zic h2]
 rw [D4,e] at hb;refine ⟨Snd D,R,rfl,e,D++ [(R,isL (zb1 key) R)],zgq h1 ⟨zpx key _,zjd _⟩,zrb h2 (by rw [zjd];omega),?_,?_⟩
 ·rw [znm];simp [Fst]
 rw [zms];simp [Snd]
theorem yuz {bs:Nat} {l cur:List α} (h:St2 key bs l cur):St3 key bs l cur 0:=by
 obtain ⟨D,h1,h2,rfl,rfl⟩:=h;exact ⟨[],D,fun p hp=>by simp at hp,h1,fun p hp=>by simp at hp,h2,by simp [Fst],by simp [Snd],by simp⟩
theorem ylz {bs a:Nat} {l cur:List α} (h:St3 key bs l cur a):a≤cur.length:=by
 obtain ⟨E,D,h1,h2,h3,h4,rfl,rfl,rfl⟩:=h;rw [D4,zf7,zic h3];omega
theorem ygf {bs a:Nat} (h0:1≤bs) {l cur:List α} (h:St3 key bs l cur a) (hb:a+2 * bs≤cur.length):∃P L R Z,cur=P++(L++(R++Z))∧P.length=a∧L.length=bs∧R.length=bs∧L.Pairwise (LeC (zb1 key))∧R.Pairwise (LeC (zb1 key))∧St3 key bs l (P++(mrg (zb1 key) L R++Z)) (a+2 * bs):=by
 obtain ⟨E,D,h1,h2,h3,h4,rfl,rfl,rfl⟩:=h;have e:(Snd E).length=2 * bs * E.length:=by rw [zf7,zic h3]
 rw [D4,e,zf7] at hb;obtain ⟨x,y,r,rfl,hx,hy,hr⟩:=ytp h0 h4 (by omega);have px:=h2 x (by simp);have py:=h2 y (by simp);refine ⟨Snd E,x.2,y.2,Snd r,by simp [Snd],e,hx,hy,px.1.1,py.1.1,E++ [(x.1++y.1,mrg (zb1 key) x.2 y.2)],r,zgq h1 (zxl key px py),fun p hp=>h2 p (by simp [hp]),fun p hp=>?_,hr,?_,?_,by rw [D4,T7,Nat.mul_add];omega⟩
 ·rcases D2.1 hp with h|h
  ·exact h3 p h
  rw [D7.1 h,zf9];omega
 ·rw [znm];simp [Fst]
 rw [zms];simp [Snd]
theorem yl0 {bs a:Nat} {l cur:List α} (h:St3 key bs l cur a) (hb:cur.length < a+2 * bs):(cur.length≤a+bs∧St2 key (2 * bs) l cur)∨(a+bs < cur.length∧∃P L R,cur=P++(L++R)∧P.length=a∧L.length=bs∧L.Pairwise (LeC (zb1 key))∧R.Pairwise (LeC (zb1 key))∧St2 key (2 * bs) l (P++mrg (zb1 key) L R)):=by
 obtain ⟨E,D,h1,h2,h3,h4,rfl,rfl,rfl⟩:=h;have e:(Snd E).length=2 * bs * E.length:=by rw [zf7,zic h3]
 rw [D4,e,zf7] at hb;rw [D4,e,zf7];rcases yky key h4 h2 (by omega) with ⟨q1,q2,q3⟩|⟨q1,x,y,rfl,hx⟩
 ·refine .inl ⟨by omega,E++ [(Fst D,Snd D)],zgq h1 ⟨q2,q3⟩,zrb h3 (by rw [zf7];omega),?_,?_⟩
  ·rw [znm];simp [Fst]
  rw [zms];simp [Snd]
 have px:=h2 x (by simp);have py:=h2 y (by simp);have ht:zok [x,y]=x.2.length+y.2.length:=by simp [zok]
 refine .inr ⟨by omega,Snd E,x.2,y.2,by simp [Snd],e,hx,px.1.1,py.1.1,E++ [(x.1++y.1,mrg (zb1 key) x.2 y.2)],zgq h1 (zxl key px py),zrb h3 (by rw [zf9];omega),?_,?_⟩
 ·rw [znm];simp [Fst]
 rw [zms];simp [Snd]
theorem yl1 {bs:Nat} (h0:1≤bs) {l cur:List α} (h:St2 key bs l cur) (hb:cur.length≤bs):zrv key l cur:=by
 obtain ⟨D,h1,h2,rfl,rfl⟩:=h;rw [zf7] at hb;rcases yky key h2 h1 (by omega) with ⟨_,q2,_⟩|⟨q1,_⟩
 ·exact q2
 omega
end
section
variable {α:Type} {cmp:α→α→Int}
theorem ynl (ok:CmpOk cmp) {x:α} {R:List α} (hR:R.Pairwise (LeC cmp)) {y:Nat} (hy:y≤R.length) (h1:∀_:1≤y,cmp (R[y - 1]'(by omega)) x < 0) (h2:∀h:y < R.length,¬cmp R[y] x < 0):mrg cmp [x] R=R.take y++x::R.drop y:=by
 rw [zl7 ok (L:= [x]) (by simp) hR (x:=0) (G1 _) hy (fun h _=>by omega) (fun _ hy=>h1 hy)];simp only [Q4,R7,E7];rw [show mrg cmp [] (R.take y)=R.take y by simp [mrg]];congr 1;cases hd:R.drop y with
 |nil=>rw [zg8]
 |cons b r=>
  have hlt:y < R.length:=by
   have:=A4 List.length hd;simp at this;omega
  rw [A8 hlt] at hd;injection hd with e1 e2;have h3:=h2 hlt;rw [e1] at h3;rw [mrg,A0 h3];simp [mrg]
theorem yhr (ok:CmpOk cmp) {y:α} {L:List α} (hL:L.Pairwise (LeC cmp)) {x:Nat} (hx:x≤L.length) (h1:∀_:1≤x,¬cmp y (L[x - 1]'(by omega)) < 0) (h2:∀h:x < L.length,cmp y L[x] < 0):mrg cmp L [y]=L.take x++y::L.drop x:=by
 rw [zl7 ok hL (R:= [y]) (by simp) hx (y:=0) (G1 _) (fun h _=>h1 h) (fun _ h=>by omega)];simp only [Q4,R7,zg8];congr 1;cases hd:L.drop x with
 |nil=>simp [mrg]
 |cons b r=>
  have hlt:x < L.length:=by
   have:=A4 List.length hd;simp at this;omega
  rw [A8 hlt] at hd;injection hd with e1 e2;have h3:=h2 hlt;rw [e1] at h3;rw [mrg,A6 h3,zg8]
theorem yvp {P Z:List α} {x:α} {R:List α} {k:Nat} (hk:k < R.length):swp (P++(R.take k++x::(R.drop k++Z))) (P.length+k) (P.length+k+1)=P++(R.take (k+1)++x::(R.drop (k+1)++Z)):=by
 have key:=zuw (P++R.take k) [] (R.drop (k+1)++Z) x R[k];have e1:(P++R.take k).length=P.length+k:=by simp;omega
 rw [e1,F3,N2,E7,E7] at key;rw [A8 hk,A5 hk];simp only [E0,G7,E7] at key ⊢;exact key
theorem yvq {P Z:List α} {y:α} {L:List α} {k:Nat} (hk:k < L.length):swp (P++(L.take (k+1)++y::(L.drop (k+1)++Z))) (P.length+k) (P.length+k+1)=P++(L.take k++y::(L.drop k++Z)):=by
 have key:=zuw (P++L.take k) [] (L.drop (k+1)++Z) L[k] y;have e1:(P++L.take k).length=P.length+k:=by simp;omega
 rw [e1,F3,N2,E7,E7] at key;rw [A8 hk,A5 hk];simp only [E0,G7,E7] at key ⊢;exact key
end
section
variable {α:Type} {cmp:α→α→Int}
def SmI (cmp:α→α→Int) (L R:List α) (a m b mid s0 r0 s r:Nat):Prop:=s0≤s∧s≤r∧r≤r0∧
 (s0 < s→∀u v,R[mid - s]? =some u→L[s - 1 - a]? =some v→¬cmp u v < 0)∧(r < r0→∀u v,R[mid - 1 - r]? =some u→L[r - a]? =some v→cmp u v < 0)
def SmS (L R:List α) (a m b mid s0 r0:Nat):Prop:=a+L.length=m∧m+R.length=b∧mid=(a+b) / 2∧((mid < m∧s0=mid+m - b∧r0=mid)∨(m≤mid∧s0=a∧r0=m))
theorem yw9 {L R:List α} {a m b mid s0 r0:Nat} (h:SmS L R a m b mid s0 r0):SmI cmp L R a m b mid s0 r0 s0 r0:=by
 obtain ⟨h1,h2,h3,h4⟩:=h;exact ⟨C5 _,by omega,C5 _,fun q=>by omega,fun q=>by omega⟩
theorem yu2 {L R:List α} {a m b mid s0 r0 s r:Nat} (hS:SmS L R a m b mid s0 r0) (h:SmI cmp L R a m b mid s0 r0 s r) (hsr:s < r):a≤(s+r) / 2∧(s+r) / 2 < m∧m≤mid+m - 1 - (s+r) / 2∧mid+m - 1 - (s+r) / 2 < b∧(s+r) / 2 - a < L.length∧mid+m - 1 - (s+r) / 2 - m < R.length∧mid+m - 1 - (s+r) / 2 - m=mid - 1 - (s+r) / 2∧(s+r) / 2≤mid+m - 1∧s≤(s+r) / 2∧(s+r) / 2 < r:=by
 obtain ⟨h1,h2,h3,h4⟩:=hS;obtain ⟨g1,g2,g3,_⟩:=h;omega
theorem yw7 {L R:List α} {a m b mid s0 r0 s r c:Nat} (hS:SmS L R a m b mid s0 r0) (h:SmI cmp L R a m b mid s0 r0 s r) (hsr:s < r) (hc:c=(s+r) / 2) {u v:α} (hu:R[mid - 1 - c]? =some u) (hv:L[c - a]? =some v) (hn:¬cmp u v < 0):SmI cmp L R a m b mid s0 r0 (c+1) r:=by
 have hb:=yu2 hS h hsr;obtain ⟨g1,g2,g3,g4,g5⟩:=h;subst hc;refine ⟨by omega,by omega,g3,fun _ u' v' e1 e2=>?_,g5⟩;rw [show mid - ((s+r) / 2+1)=mid - 1 - (s+r) / 2 by omega,hu] at e1;rw [show (s+r) / 2+1 - 1 - a=(s+r) / 2 - a by omega,hv] at e2;cases e1;cases e2;exact hn
theorem yw8 {L R:List α} {a m b mid s0 r0 s r c:Nat} (hS:SmS L R a m b mid s0 r0) (h:SmI cmp L R a m b mid s0 r0 s r) (hsr:s < r) (hc:c=(s+r) / 2) {u v:α} (hu:R[mid - 1 - c]? =some u) (hv:L[c - a]? =some v) (hn:cmp u v < 0):SmI cmp L R a m b mid s0 r0 s c:=by
 have hb:=yu2 hS h hsr;obtain ⟨g1,g2,g3,g4,g5⟩:=h;subst hc;refine ⟨g1,by omega,by omega,g4,fun _ u' v' e1 e2=>?_⟩;rw [hu] at e1;rw [hv] at e2;cases e1;cases e2;exact hn
theorem yqk (ok:CmpOk cmp) {L R:List α} (hL:L.Pairwise (LeC cmp)) (hR:R.Pairwise (LeC cmp)) {a m b mid s0 r0 s:Nat} (hS:SmS L R a m b mid s0 r0) (h:SmI cmp L R a m b mid s0 r0 s s):
 ∃x y,s=a+x∧mid=a+x+y∧x≤L.length∧y≤R.length∧mrg cmp L R=mrg cmp (L.take x) (R.take y)++mrg cmp (L.drop x) (R.drop y):=by
 obtain ⟨h1,h2,h3,h4⟩:=hS;obtain ⟨g1,g2,g3,g4,g5⟩:=h;have hx:s - a≤L.length:=by omega
 have hy:mid - s≤R.length:=by omega
 refine ⟨s - a,mid - s,by omega,by omega,hx,hy,?_⟩;refine zl7 ok hL hR hx hy (fun q1 q2=>?_) (fun q1 q2=>?_)
 ·by_cases q:s0 < s
  ·refine g4 q _ _ (B4 q2) ?_;rw [show s - 1 - a=s - a - 1 by omega];exact B4 _
  omega
 by_cases q:s < r0
 ·refine g5 q _ _ ?_ (B4 q1);rw [show mid - 1 - s=mid - s - 1 by omega];exact B4 _
 omega
theorem yqj {P L R Z:List α} {a m x y:Nat} (hp:P.length=a) (hm:a+L.length=m) (hx:x≤L.length) (hy:y≤R.length):
 Rot m (L.length - x) y (P++(L++(R++Z))) (P++(L.take x++(R.take y++(L.drop x++(R.drop y++Z))))):=by
 refine ⟨P++L.take x,L.drop x,R.take y,R.drop y++Z,?_,by simp;omega,by simp,by simp;omega,by simp only [E0]⟩;rw [E0,←E0 (L.take x),G9,←E0 (R.take y),G9]
theorem yl8 {P L R Z:List α} {x y:Nat} (h:x=L.length∨y=0):P++(L++(R++Z))=P++(L.take x++(R.take y++(L.drop x++(R.drop y++Z)))):=by
 rcases h with rfl|rfl
 ·rw [C7,E5,E7,←E0 (R.take y),G9]
 rw [Q4,R7,E7,←E0 (L.take x),G9]
theorem yl7 {A B:List α} (h:A= []∨B= []):A++B=mrg cmp A B:=by
 rcases h with rfl|rfl
 ·simp [mrg]
 rw [zg8,F8]
theorem zwr {L:List α} (h:L.Pairwise (LeC cmp)) (x:Nat):(L.take x).Pairwise (LeC cmp):=h.sublist (List.take_sublist _ _)
theorem zye {L:List α} (h:L.Pairwise (LeC cmp)) (x:Nat):(L.drop x).Pairwise (LeC cmp):=h.sublist (List.drop_sublist _ _)
end
structure Brch where
 g:Int
 e:Int
 l:Int
 o:Int
 a:Int
 b:Int
 deriving DecidableEq
def zc4 (c:Brch):List AV:= [iv c.g,iv c.e,iv c.l,iv c.o,iv c.a,iv c.b]
structure Acc where
 o:Int
 r:Int
 a:Int
 deriving DecidableEq
def accR (a:Acc):List AV:= [iv a.o,iv a.r,iv a.a]
def zn5 (h:Hist) (t kd:Int) (k:Nat) (e:Ev):List Acc:=if (e.t==t && e.kind==kd)=true then (match zxf h e.o e.v with|some r=> [⟨e.o,r,k⟩]|none=> []) else []
def zri (h:Hist) (t kd:Int):Nat→List Acc
 |0=> []
 |k+1=>zri h t kd k++(match h.evs[k]? with|some e=>zn5 h t kd k e|none=> [])
def zrh (h:Hist) (t kd:Int):List Acc:=zri h t kd h.evs.length
def zrp (n:Nat) (l:List Acc):List Acc:=(upR n).flatMap fun x=>l.filter fun a=>a.o==x
def brk (g t1 t2:Int) (a b:Acc):Option Brch:=if (a.o==b.o && decide (b.r < a.r))=true then some ⟨g,t1,t2,a.o,a.a,b.a⟩ else none
def ytt (n:Nat) (g t1 t2:Int) (A B:List Acc):List Brch:=(zrp n A).flatMap fun a=>(zrp n B).filterMap (brk g t1 t2 a)
def yts (n:Nat) (g t1 t2:Int) (A B:List Acc):List Brch:=(upR n).flatMap fun x=>(A.filter fun a=>a.o==x).flatMap fun a=>(B.filter fun b=>b.o==x).filterMap fun b=>if b.r < a.r then some ⟨g,t1,t2,x,a.a,b.a⟩ else none
theorem znn {α:Type} {f:Int→List α} {x:Int}:∀{l:List Int},l.Nodup→x∈l→(∀y∈l,y≠x→f y= [])→l.flatMap f=f x
 | [],_,h,_=>by cases h
 |y::r,hn,hx,hf=>by
  rw [K9] at hn;rw [I6];by_cases e:y=x
  ·subst e;have:r.flatMap f= []:=by
    rw [A0d];intro z hz;exact hf z (by simp [hz]) fun e=>hn.1 (e ▸ hz)
   rw [this,F8]
  rw [hf y (by simp) e,E7];rcases C9.1 hx with q|q
  ·exact absurd q.symm e
  exact znn hn.2 q fun z hz=>hf z (by simp [hz])
theorem ya1 (n:Nat):(upR n).Nodup:=(yjv n).imp fun h e=>by omega
theorem zdr {α β:Type} {f g:α→List β}:∀{l:List α},(∀a∈l,f a=g a)→l.flatMap f=l.flatMap g
 | [],_=>rfl
 |a::r,h=>by rw [I6,I6,h a (by simp),zdr fun b hb=>h b (by simp [hb])]
theorem zgs {α β γ:Type} {f:α→List β} {g:β→Option γ}:∀{l:List α},(l.flatMap f).filterMap g=l.flatMap fun a=>(f a).filterMap g
 | []=>rfl
 |a::r=>by rw [I6,N4,zgs,I6]
theorem ytr (n:Nat) (g t1 t2:Int) (A B:List Acc):ytt n g t1 t2 A B=yts n g t1 t2 A B:=by
 rw [ytt,yts,show zrp n A=(upR n).flatMap (fun x=>A.filter fun a=>a.o==x) from rfl,List.flatMap_assoc];refine zdr fun x hx=>zdr fun a ha=>?_;have ha:a.o=x:=by simpa using (L1.1 ha).2
 rw [zrp,zgs,znn (x:=x) (ya1 n) hx]
 ·refine zqx fun b hb=>?_;have hb:b.o=x:=by simpa using (L1.1 hb).2
  rw [brk,ha,hb];by_cases q:b.r < a.r <;> simp [q]
 intro y _ hy;rw [V2];intro b hb;have hb:b.o=y:=by simpa using (L1.1 hb).2
 rw [brk,ha,hb,A0];simp [M8 hy]
structure Doi where
 t:Int
 A:List Acc
 B:List Acc
def brL (n:Nat) (g:Int) (ds:List Doi):Nat→List Brch
 |0=> []
 |k+1=>brL n g ds k++(match ds[k]? with|some d=>(ds.take k).filterMap (fun e=>(ytt n g e.t d.t e.A d.B).head?)|none=> [])
def blk (n:Nat) (g:Int) (ds:List Doi):Nat→List (List Brch)
 |0=> []
 |k+1=>blk n g ds k++(match ds[k]? with|some d=>(ds.take k).map (fun e=>ytt n g e.t d.t e.A d.B)|none=> [])
theorem yev (n:Nat) (g:Int) (ds:List Doi):∀k,brL n g ds k=(blk n g ds k).filterMap List.head?
 |0=>rfl
 |k+1=>by
  rw [brL,blk,N4,yev n g ds k];cases ds[k]? with
  |none=>rfl
  |some d=>simp only [Y3];rfl
def ztp (n:Nat) (g:Int) (ds:List Doi):Nat→List Brch
 |0=> []
 |k+1=>ztp n g ds k++(match ds[k]? with|some d=>(ds.take k).flatMap (fun e=>yts n g e.t d.t e.A d.B)|none=> [])
theorem zto (n:Nat) (g:Int) (ds:List Doi):∀k,ztp n g ds k=(blk n g ds k).flatten
 |0=>rfl
 |k+1=>by
  rw [ztp,blk,List.flatten_append,zto n g ds k];cases ds[k]? with
  |none=>rfl
  |some d=>simp only [U3,←ytr]
theorem zta {α:Type}:∀L:List (List α),(L.filterMap List.head?).head? =L.flatten.head?
 | []=>rfl
 | []::r=>by rw [P2,List.flatten_cons,E7];exact zta r
 |(a::l)::r=>rfl
theorem zz8 (n:Nat) (g:Int) (ds:List Doi) (k:Nat):(brL n g ds k).head? =(ztp n g ds k).head? :=by rw [yev,zto,zta]
theorem yco (n:Nat) (g:Int) (ds:List Doi) (k:Nat):brL n g ds k= [] ↔ ztp n g ds k= []:=by
 rw [←A0p,←A0p,zz8]
theorem zyu {h:Hist} {t kd:Int} {k:Nat} {e:Ev} {a:Acc} (ha:a∈zn5 h t kd k e):e.t=t∧e.kind=kd∧a.o=e.o∧a.a=(k:Int)∧zxf h e.o e.v=some a.r:=by
 rw [zn5] at ha;split at ha
 ·rename_i q;rw [B5,K7,K7] at q;cases hr:zxf h e.o e.v with
  |none=>rw [hr] at ha;cases ha
  |some r=>
   rw [hr] at ha;have ha:a=⟨e.o,r,k⟩:=by simpa using ha
   subst ha;exact ⟨q.1,q.2,rfl,rfl,rfl⟩
 cases ha
theorem zys {h:Hist} {t kd:Int} {a:Acc}:∀{n:Nat},n≤h.evs.length→(a∈zri h t kd n ↔ ∃k,∃hk:k < h.evs.length,k < n∧a∈zn5 h t kd k h.evs[k])
 |0,_=>by simp [zri]
 |n+1,hn=>by
  rw [zri,D2,zys (by omega),B4 (show n < h.evs.length by omega)];constructor
  ·rintro (⟨k,hk,hkn,q⟩|q)
   ·exact ⟨k,hk,by omega,q⟩
   exact ⟨n,by omega,by omega,q⟩
  rintro ⟨k,hk,hkn,q⟩;by_cases e:k=n
  ·subst e;exact .inr q
  exact .inl ⟨k,hk,by omega,q⟩
theorem yt9 {h:Hist} {t kd:Int} {a:Acc} (ha:a∈zrh h t kd):∃k,∃hk:k < h.evs.length,h.evs[k].t=t∧h.evs[k].kind=kd∧a.o=h.evs[k].o∧a.a=(k:Int)∧zxf h h.evs[k].o h.evs[k].v=some a.r:=by
 obtain ⟨k,hk,_,q⟩:=(zys (C5 _)).1 ha;exact ⟨k,hk,zyu q⟩
def kdA (g:Int):Int:=if g=2∨g=8 then 3 else 2
def kdB (g:Int):Int:=if g=1∨g=2 then 3 else 2
def doi (h:Hist) (g t:Int):Doi:=⟨t,zrh h t (kdA g),zrh h t (kdB g)⟩
def ykt (h:Hist) (s g:Int):List Doi:=(zbn h.evs s).map (doi h g)
def brS (h:Hist) (s g:Int):List Brch:=brL h.os.length g (ykt h s g) (ykt h s g).length
def eaS (h:Hist) (s g:Int):List Brch:=ztp h.os.length g (ykt h s g) (ykt h s g).length
theorem yjc {h:Hist} (s g:Int):brS h s g= [] ↔ eaS h s g= []:=yco _ _ _ _
def ypy (h:Hist) (s:Int):Int:=([1,2,4,8]:List Int).foldl (fun n g=>if brS h s g= [] then n+g else n) 0
def yil (h:Hist) (s:Int):Int:=([1,2,4,8]:List Int).foldl (fun n g=>if eaS h s g= [] then n+g else n) 0
theorem ysl (h:Hist) (s:Int):ypy h s=yil h s:=by
 simp only [ypy,yil,yjc]
section
variable {α β:Type}
theorem yty {P A B:List α} {x:α}:(P++(A++x::B))[P.length+A.length]? =some x:=by
 rw [J1 (by omega),A0e,J1 (C5 _),R9];rfl
theorem ypa {P B L:List α} {q n:Nat} (hq:q < n) (hl:q < L.length):(P++(L.take n++B))[P.length+q]? =some L[q]:=by
 rw [J1 (by omega),A0e,M9 (by rw [D5];omega),G2 hq,B4 hl]
theorem zl2 {f:α→β} {l:List α} {i j:Nat} {x y:α} (hi:l[i]? =some x) (hj:l[j]? =some y):((l.map f).set i (f y)).set j (f x)=(swp l i j).map f:=by
 rw [zwv hi hj,T4,T4]
theorem yf8 {l:List α} {i j:Nat} (h:i≠j):swp l i j=swp l j i:=by
 unfold swp;cases hi:l[i]? with
 |none=>cases hj:l[j]? <;> rfl
 |some x=>
  cases hj:l[j]? with
  |none=>rfl
  |some y=>simp only;rw [List.set_comm _ _ h]
theorem zc2 {f:α→β} {l:List α} {i:Nat} {x:α} (h:l[i]? =some x):(l.map f)[i]? =some (f x):=by rw [M1,h];rfl
theorem zfb {l:List α} {i:Nat} {x:α} (h:l[i]? =some x):i < l.length:=(C8.1 h).1
theorem ymp {m i j:Nat} {c tg:List α} (h:Rot m i j c tg):i≤m∧m+j≤c.length:=by
 obtain ⟨P,I,J,Z,rfl,hp,hi,hj,rfl⟩:=h;simp only [D4];omega
theorem yse {P S Z:List α} {x:α} {a q:Nat} (hP:P.length=a) (hq:q≤S.length):(P++(S.take q++x::(S.drop q++Z)))[a+q]? =some x:=by
 have:=yty (P:=P) (A:=S.take q) (B:=S.drop q++Z) (x:=x);rwa [hP,D5,K3 hq] at this
theorem yum {P S Z:List α} {x:α} {a q:Nat} (hP:P.length=a) (hq:q≤S.length) (h1:1≤q):(P++(S.take q++x::(S.drop q++Z)))[a+q - 1]? =some (S.getD (q - 1) x):=by
 have:=ypa (P:=P) (L:=S) (B:=x::(S.drop q++Z)) (q:=q - 1) (n:=q) (by omega) (by omega);rw [hP,show a+(q - 1)=a+q - 1 by omega] at this;rw [this,F7,B4 (by omega)];rfl
theorem ydg {P S Z:List α} {x:α} {a q:Nat} (hP:P.length=a) (hq:q≤S.length) (h1:1≤q):swp (P++(S.take q++x::(S.drop q++Z))) (a+q) (a+q - 1)=P++(S.take (q - 1)++x::(S.drop (q - 1)++Z)):=by
 obtain ⟨k,rfl⟩:∃k,q=k+1:=⟨q - 1,by omega⟩;rw [yf8 (by omega)];have:=yvq (P:=P) (Z:=Z) (y:=x) (L:=S) (k:=k) (by omega);rw [hP] at this;rw [show a+(k+1) - 1=a+k by omega,show a+(k+1)=a+k+1 by omega,show k+1 - 1=k by omega];exact this
variable {cmp:α→α→Int}
theorem yn3 {S:List α} {x:α} {q:Nat} (hq:q≤S.length) (h1:1≤q) (hlt:cmp x (S.getD (q - 1) x) < 0) (hz:∀z∈S.drop q,cmp x z < 0):∀z∈S.drop (q - 1),cmp x z < 0:=by
 intro z hm;rw [A8 (by omega)] at hm;rcases C9.1 hm with rfl|hm
 ·rw [F7,B4 (by omega)] at hlt;exact hlt
 rw [show q - 1+1=q by omega] at hm;exact hz z hm
theorem yn2 {P M Z:List α}:P++(isL cmp (M.take (0+1))++(M.drop (0+1)++Z))=P++(M++Z):=by
 cases M with
 |nil=>rfl
 |cons a r=>simp [isL,mrg]
theorem yih {P M Z:List α} {k:Nat} (hS:(isL cmp (M.take (k+1))).length=k+1) (hk:k+1 < M.length):P++(isL cmp (M.take (k+1))++(M.drop (k+1)++Z))=P++((isL cmp (M.take (k+1))).take (k+1)++M[k+1]::((isL cmp (M.take (k+1))).drop (k+1)++(M.drop (k+1+1)++Z))):=by
 rw [M7 (l:=isL cmp (M.take (k+1))) (by omega),Q7 (by omega:(isL cmp (M.take (k+1))).length≤k+1),A8 hk,E7,G7]
theorem ykh (ok:CmpOk cmp) {P M Z:List α} {k q:Nat} (hS:(isL cmp (M.take (k+1))).Pairwise (LeC cmp)) (hk:k+1 < M.length) (hq:q≤(isL cmp (M.take (k+1))).length) (hz:∀z∈(isL cmp (M.take (k+1))).drop q,cmp M[k+1] z < 0)
 (hst:1≤q→¬cmp M[k+1] ((isL cmp (M.take (k+1))).getD (q - 1) M[k+1]) < 0):
 P++((isL cmp (M.take (k+1))).take q++M[k+1]::((isL cmp (M.take (k+1))).drop q++(M.drop (k+1+1)++Z)))=P++(isL cmp (M.take (k+1+1))++(M.drop (k+1+1)++Z)):=by
 have h:=yn4 ok hS (x:=M[k+1]) hq hz fun h1=>by
  have:=hst h1;rw [F7,B4 (by omega)] at this;exact this
 rw [A5 hk,ysf,h];simp
theorem getD_some {l:List α} {k:Nat} (h:k < l.length) (d:α):l[k]? =some (l.getD k d):=by
 rw [F7,B4 h];rfl
theorem ypt {P L R Z:List α} {a k:Nat} (hP:P.length=a) (d:α) (h1:a≤k) (h2:k < a+L.length):(P++(L++(R++Z)))[k]? =some (L.getD (k - a) d):=by
 rw [←getD_some (by omega) d];rw [J1 (by omega),M9 (by omega),hP]
theorem yps {P L R Z:List α} {a m k:Nat} (hP:P.length=a) (hm:a+L.length=m) (d:α) (h1:m≤k) (h2:k < m+R.length):(P++(L++(R++Z)))[k]? =some (R.getD (k - m) d):=by
 rw [←getD_some (by omega) d];rw [J1 (by omega),J1 (by omega),M9 (by omega)];congr 1;omega
theorem yxq {P S Z:List α} {x:α} {a q:Nat} (hP:P.length=a) (hq:q < S.length) (d:α):(P++(S.take q++x::(S.drop q++Z)))[a+q+1]? =some (S.getD q d):=by
 rw [←getD_some hq d];rw [J1 (by omega),J1 (by rw [D5];omega),D5,K3 (by omega),show a+q+1 - P.length - q=0+1 by omega,I7,M9 (by rw [L9];omega),Y0];congr 1
theorem yvv {P S Z:List α} {x:α} {a q:Nat} (hP:P.length=a) (hq:q < S.length):swp (P++(S.take q++x::(S.drop q++Z))) (a+q) (a+q+1)=P++(S.take (q+1)++x::(S.drop (q+1)++Z)):=by
 have:=yvp (P:=P) (Z:=Z) (x:=x) (R:=S) (k:=q) hq;rwa [hP] at this
theorem yho (ok:CmpOk cmp) {P R Z:List α} {x d:α} (hR:R.Pairwise (LeC cmp)) {y:Nat} (hy:y≤R.length) (h1:1≤y→cmp (R.getD (y - 1) d) x < 0) (h2:y < R.length→¬cmp (R.getD y d) x < 0):P++(R.take y++x::(R.drop y++Z))=P++(mrg cmp [x] R++Z):=by
 rw [ynl ok hR hy (fun h=>by
  have:=h1 h;rw [F7,B4 (by omega)] at this;exact this) fun h=>by
  have:=h2 h;rw [F7,B4 h] at this;exact this]
 simp
theorem yc8 (ok:CmpOk cmp) {P L Z:List α} {y d:α} (hL:L.Pairwise (LeC cmp)) {x:Nat} (hx:x≤L.length) (h1:1≤x→¬cmp y (L.getD (x - 1) d) < 0) (h2:x < L.length→cmp y (L.getD x d) < 0):P++(L.take x++y::(L.drop x++Z))=P++(mrg cmp L [y]++Z):=by
 rw [yhr ok hL hx (fun h=>by
  have:=h1 h;rw [F7,B4 (by omega)] at this;exact this) fun h=>by
  have:=h2 h;rw [F7,B4 h] at this;exact this]
 simp
theorem ybd {P A B W:List α} (h:A= []∨B= []):P++(A++(B++W))=P++(mrg cmp A B++W):=by
 rw [←yl7 h,E0]
theorem zws {l:List α} {x:Nat} (h:¬1≤x):l.take x= []:=by rw [show x=0 by omega];rfl
theorem ztq {l:List α} {x:Nat} (h:¬x < l.length):l.drop x= []:=Q7 (by omega)
end
theorem zl0 {n:Nat} (h:n≤4611686018427387904):IntKind.u64.wrap (n:Int)=(n:Int):=by
 show (n:Int) % 18446744073709551616=n;omega
theorem zl1 {n:Nat} (h:n≤4611686018427387904):zou .shr .u64 (n:Int) 1=some ((n / 2:Nat):Int):=by
 have e:Int.fdiv (n:Int) 2=((n / 2:Nat):Int):=by rw [Int.fdiv_eq_ediv_of_nonneg _ (by decide)];omega
 show some (Int.fdiv (n:Int) 2)=_;rw [e]
theorem zme {n:Nat} (h:n≤4611686018427387904):IntKind.i64.wrap (n:Int)=(n:Int):=X6 _ ⟨by omega,by omega⟩
abbrev zlu:={a:Acc // 0≤a.o∧a.o < 1000000}
abbrev zcv (a:zlu):List AV:=accR a.1
def yfp (a:zlu):Int:=a.1.o
abbrev zdj:zlu→zlu→Int:=zb1 yfp
def zew:zlu:=⟨⟨0,0,0⟩,by decide⟩
theorem yge {n:Nat} {l:List Acc} {lB m:List zlu} (e:lB.map (·.1)=l) (h:zrv yfp lB m) (hk:∀a∈l,0≤a.o∧a.o < n):m.map (·.1)=zrp n l:=by
 have h1:=yba yfp (n:=n) h fun a ha=>hk a.1 (by rw [←e];exact S1 ha);rw [h1,zrp,List.map_flatMap];refine zdr fun x _=>?_;rw [←e,List.filter_map];rfl
theorem yfg {n:Nat} (hn:n≤1000000):∀{l:List Acc},(∀a∈l,0≤a.o∧a.o < n)→∃lB:List zlu,lB.map (·.1)=l
 | [],_=>⟨[],rfl⟩
 |a::l,h=>by
  obtain ⟨lB,e⟩:=yfg hn (l:=l) fun x hx=>h x (by simp [hx]);have:=h a (by simp);exact ⟨⟨a,by omega,by omega⟩::lB,by rw [F6,e]⟩
theorem znw:CmpOk zdj:=ztz yfp
structure Grd where
 s:Int
 q:Int
 a:Int
 deriving DecidableEq
def znk (g:Grd):List AV:= [iv g.s,iv g.q,iv g.a]
def zdq (l:List Grd):AV:= .list false 3 (l.map znk)
def yjm (l:List Wan):List (Int×Int):=l.foldl (fun m w=>zf2 w.s w.bits m) []
theorem yt1 {l:List Wan} {k:Nat} (hk:k < l.length):yjm (l.take (k+1))=zf2 l[k].s l[k].bits (yjm (l.take k)):=by
 rw [yjm,A5 hk,K0];rfl
def yae (l:List Wan) (s:Int):Int:=match l.find? fun w=>w.s==s with|some w=>w.bits|none=>0
def yph (l:List Wan) (s:Int):Int:=(zch s (yjm l)).getD 0
theorem yk3 (s:Int):∀(l:List Wan) (m:List (Int×Int)),(l.map Wan.s).Nodup→zch s (l.foldl (fun m w=>zf2 w.s w.bits m) m)=match l.find? (fun w=>w.s==s) with|some w=>some w.bits|none=>zch s m
 | [],m,_=>rfl
 |w::l,m,hn=>by
  rw [F6,K9] at hn;rw [K1,yk3 s l _ hn.2,List.find?_cons];by_cases e:w.s=s
  ·have h0:l.find? (fun w=>w.s==s)=none:=by
    rw [V6];intro v hv q;exact hn.1 (by rw [e,←eq_of_beq q];exact S1 hv)
   rw [h0,show (w.s==s)=true by simpa using e];simp only;rw [zcy,A6 e]
  rw [show (w.s==s)=false by simpa using e];simp only;cases l.find? (fun w=>w.s==s) with
  |some v=>rfl
  |none=>simp only;rw [zcy,A0 e]
theorem ytz {l:List Wan} (hn:(l.map Wan.s).Nodup) (s:Int):yph l s=yae l s:=by
 rw [yph,yjm,yk3 s l [] hn,yae];cases l.find? (fun w=>w.s==s) <;> rfl
theorem ypf {l:List Wan} {s:Int} (h:∀w∈l,w.s≠s):yae l s=0:=by
 have:l.find? (fun w=>w.s==s)=none:=by
  rw [V6];intro w hw;simpa using h w hw
 rw [yae,this]
def ztb (l:List Wan) (s:Int):Bool:=l.any fun w=>w.s==s
def zhq (l:List Wan) (s b:Int):List Wan:=(l.map fun w=>if w.s=s then ⟨w.s,b⟩ else w)++(if ztb l s=true then [] else [⟨s,b⟩])
def zfv (l:List Wan) (s b:Int):List Wan:=if zbe (fun w=>w.s==s) 0 l < 0 then l++ [⟨s,b⟩] else l.set (zbe (fun w=>w.s==s) 0 l).toNat ⟨s,b⟩
theorem znp {α:Type} {p:α→Bool}:∀{l:List α} {i:Nat},zbe p i l≠ -1→∃k,∃hk:k < l.length,zbe p i l=((i+k:Nat):Int)∧p l[k]=true
 | [],_,h=>absurd rfl h
 |x::r,i,h=>by
  by_cases e:p x=true
  ·exact ⟨0,by simp,by rw [zbe,A6 e];simp,e⟩
  rw [zbe,A0 e] at h ⊢;obtain ⟨k,hk,h1,h2⟩:=znp h;exact ⟨k+1,by simpa using hk,by rw [h1];congr 1;omega,h2⟩
theorem zsx {l:List Wan} {s b:Int} (h:∀w∈l,w.s≠s):(l.map fun w=>if w.s=s then (⟨w.s,b⟩:Wan) else w)=l:=by
 conv=>rhs;rw [←List.map_id l]
 exact Q3 fun w hw=>by rw [A0 (h w hw)];rfl
theorem zxs {s b:Int}:∀{l:List Wan} {k:Nat},(l.map Wan.s).Nodup→(hk:k < l.length)→l[k].s=s→(l.map fun w=>if w.s=s then (⟨w.s,b⟩:Wan) else w)=l.set k ⟨s,b⟩
 |w::l,0,hn,_,e=>by
  have e:w.s=s:=e;rw [F6,K9] at hn;rw [F6,A6 e,Y2,e,zsx];intro v hv q;exact hn.1 (by rw [e,←q];exact S1 hv)
 |w::l,k+1,hn,hk,e=>by
  rw [F6,K9] at hn;have hk':k < l.length:=by simpa using hk
  have e:l[k].s=s:=e;rw [F6,X9,zxs hn.2 hk' e,A0];intro q;exact hn.1 (by rw [q,←e];exact S1 (D0 _))
theorem zuo {l:List Wan} (hn:(l.map Wan.s).Nodup) (s b:Int):zfv l s b=zhq l s b:=by
 rw [zfv,zhq];by_cases h:zbe (fun w:Wan=>w.s==s) 0 l= -1
 ·have hno:∀w∈l,w.s≠s:=fun w hw q=>by
   have:=zeo (fun w:Wan=>w.s==s) l 0;rw [h] at this;have h2:=L7.1 this.symm w hw;simp [q] at h2
  have hw:ztb l s=false:=by rw [ztb,L7];intro w hw;simpa using hno w hw
  rw [A6 (by omega),zsx hno,hw];rfl
 obtain ⟨k,hk,h1,h2⟩:=znp h;have hw:ztb l s=true:=by rw [ztb,F9];exact ⟨_,D0 hk,h2⟩
 rw [A0 (by omega),h1,hw,A6 rfl,F8,zxs hn hk (by simpa using h2)];congr 1;omega
theorem yp2 (l:List Wan) (s b:Int):(zhq l s b).map Wan.s=l.map Wan.s++(if ztb l s=true then [] else [s]):=by
 rw [zhq,D9,N9];congr 1
 ·exact Q3 fun w _=>by simp only [Function.comp];split <;> simp_all
 split <;> rfl
theorem zyy {l:List Wan} (hn:(l.map Wan.s).Nodup) (s b:Int):((zhq l s b).map Wan.s).Nodup:=by
 rw [yp2,J2];refine ⟨hn,by split <;> simp,fun x hx y hy e=>?_⟩;subst e;split at hy
 ·cases hy
 rename_i q;rw [D7] at hy;subst hy;obtain ⟨w,hw,e⟩:=H2.1 hx;exact q (by rw [ztb,F9];exact ⟨w,hw,by simpa using e⟩)
theorem yfz {l:List Wan} {s b:Int} {w:Wan} (hw:w∈zhq l s b):w=⟨s,b⟩∨(w∈l∧w.s≠s):=by
 rw [zhq,D2] at hw;rcases hw with hw|hw
 ·obtain ⟨v,hv,rfl⟩:=H2.1 hw;by_cases e:v.s=s
  ·rw [A6 e,e];exact .inl rfl
  rw [A0 e];exact .inr ⟨hv,e⟩
 split at hw
 ·cases hw
 rw [D7] at hw;exact .inl hw
theorem zz4 {σ α:Type} {step:σ→α→Option σ} {x:α} {l:List α} {s m:σ} (h:goes step (some s) (x::l)=some m):∃s',step s x=some s'∧goes step (some s') l=some m:=by
 rw [goes] at h;cases e:step s x with
 |none=>rw [show ((some s).bind fun s=>step s x)=none from e,zj7] at h;cases h
 |some s'=>exact ⟨s',rfl,by rw [show ((some s).bind fun s=>step s x)=some s' from e] at h;exact h⟩
theorem zzy {s s':List Int} {x:Nat×Int} (h:zah s x=some s') (hl:s.length=4) (hx:x.1 < 4):s'.length=4∧x.2≤s.getD x.1 0∧s'.getD x.1 0=max (s.getD x.1 0) (x.2+1)∧∀k,k≠x.1→s'.getD k 0=s.getD k 0:=by
 rw [zah] at h;split at h
 ·cases h
 rename_i q;injection h with h;subst h;refine ⟨by rw [M6];exact hl,by omega,?_,fun k hk=>?_⟩
 ·rw [F7,A0j (by omega)];rfl
 rw [F7,P0 (by omega),←F7]
theorem zo4:∀{l:List (Nat×Int)} {s m:List Int},goes zah (some s) l=some m→s.length=4→(∀x∈l,x.1 < 4)→m.length=4∧(∀k,s.getD k 0≤m.getD k 0)∧(∀x∈l,x.2+1≤m.getD x.1 0)∧∀n,s.getD 1 0≤n→n < m.getD 1 0→(1,n)∈l
 | [],s,m,h,hl,_=>by
   have h:some s=some m:=h;injection h with h;subst h;exact ⟨hl,fun k=>A0o _,fun x hx=>by simp at hx,fun n h1 h2=>by omega⟩
 |x::l,s,m,h,hl,hx=>by
  obtain ⟨s',h1,h2⟩:=zz4 h;obtain ⟨a1,a2,a3,a4⟩:=zzy h1 hl (hx x (by simp));obtain ⟨b1,b2,b3,b4⟩:=zo4 h2 a1 fun y hy=>hx y (by simp [hy]);refine ⟨b1,fun k=>?_,fun y hy=>?_,fun n n1 n2=>?_⟩
  ·have:=b2 k;by_cases e:k=x.1
   ·subst e;omega
   have:=a4 k e;omega
  ·rcases C9.1 hy with rfl|hy
   ·have:=b2 y.1;omega
   exact b3 y hy
  by_cases e:x.1=1
  ·rw [e] at a2 a3;by_cases q:s'.getD 1 0≤n
   ·exact G3 _ (b4 n q n2)
   have:x=(1,n):=Prod.ext e (by simp only;omega);rw [this];exact O5 ..
  have:=a4 1 (fun q=>e q.symm);exact G3 _ (b4 n (by omega) n2)
theorem zo3 {s:List Int} (hl:s.length=4):∀{l:List (Nat×Int)},(∀x∈l,x.1 < 4∧x.2 < s.getD x.1 0)→goes zah (some s) l=some s
 | [],_=>rfl
 |x::l,h=>by
  obtain ⟨h1,h2⟩:=h x (by simp);have e:zah s x=some s:=by
   rw [zah];rw [A0 (by omega),show max (s.getD x.1 0) (x.2+1)=s.getD x.1 0 by omega];congr 1;refine U0 (by simp) fun i q1 q2=>?_;rw [U1];split
   ·rename_i e;subst e;rw [F7,B4 q2];rfl
   rfl
  rw [goes,show ((some s).bind fun s=>zah s x)=some s from e];exact zo3 hl fun y hy=>h y (by simp [hy])
def zf6 (h:Hist):List (Nat×Int):=h.evs.flatMap evL++(h.ords.flatMap yfo++h.mats.flatMap yal)
theorem ygh (h:Hist):zcn h=zf6 h++h.wants.flatMap zur:=by simp [zcn,zf6]
theorem ykd {v:Ver} {x:Nat×Int} (hx:x∈zga v):x.1=0:=by
 rw [zga] at hx;split at hx
 ·rw [D7] at hx;rw [hx]
 cases hx
theorem yv9 {e:Ev} {x:Nat×Int} (hx:x∈evL e):x.1 < 4∧(x.1=1→e.kind=1∧x.2=e.s):=by
 rw [evL,C9,D2] at hx;rcases hx with rfl|hx|hx
 ·exact ⟨by simp,fun q=>by cases q⟩
 ·unfold zgr at hx;split at hx
  ·rename_i q;rw [D7] at hx;subst hx;exact ⟨by simp,fun _=>⟨q,rfl⟩⟩
  split at hx
  ·rcases C9.1 hx with rfl|hx
   ·exact ⟨by simp,fun q=>by cases q⟩
   rw [ykd hx];exact ⟨by simp,fun q=>by cases q⟩
  split at hx
  ·rw [D7] at hx;subst hx;exact ⟨by simp,fun q=>by cases q⟩
  cases hx
 obtain ⟨s,_,hx⟩:=O8.1 hx;rw [zsc,C9] at hx;rcases hx with rfl|hx
 ·exact ⟨by simp,fun q=>by cases q⟩
 rw [ykd hx];exact ⟨by simp,fun q=>by cases q⟩
theorem yp8 {l:List Int} {x:Nat×Int} (hx:x∈tsL l):x.1=0:=by
 obtain ⟨_,_,rfl⟩:=H2.1 hx;rfl
theorem zw4 {h:Hist} {x:Nat×Int} (hx:x∈zf6 h):x.1 < 4∧(x.1=1→∃e∈h.evs,e.kind=1∧e.s=x.2):=by
 rw [zf6,D2,D2] at hx;rcases hx with hx|hx|hx
 ·obtain ⟨e,he,hx⟩:=O8.1 hx;obtain ⟨h1,h2⟩:=yv9 hx;exact ⟨h1,fun q=>⟨e,he,(h2 q).1,(h2 q).2.symm⟩⟩
 ·obtain ⟨r,_,hx⟩:=O8.1 hx;rw [yfo,C9] at hx;rcases hx with rfl|hx
  ·exact ⟨by simp,fun q=>by cases q⟩
  rw [yp8 hx];exact ⟨by simp,fun q=>by cases q⟩
 obtain ⟨r,_,hx⟩:=O8.1 hx;rw [yal,C9,C9] at hx;rcases hx with rfl|rfl|hx
 ·exact ⟨by simp,fun q=>by cases q⟩
 ·exact ⟨by simp,fun q=>by cases q⟩
 rw [yp8 hx];exact ⟨by simp,fun q=>by cases q⟩
theorem zy4 {h:Hist} (hs:zb6 h=true):zfy h=true∧∀r,1≤r→r≤10→zc1 h r=none:=by
 rw [zb6,B5] at hs;refine ⟨hs.1,fun r h1 h2=>zk0 (V1.1 hs.2) r ?_⟩;rcases (by omega:r=1∨r=2∨r=3∨r=4∨r=5∨r=6∨r=7∨r=8∨r=9∨r=10) with e|e|e|e|e|e|e|e|e|e <;> subst e <;> decide
theorem zly {h:Hist} (hs:zb6 h=true):(h.wants.map Wan.s).Nodup∧(∀w∈h.wants,(0≤w.s∧w.s < h.ss.length)∧0≤w.bits∧w.bits≤15)∧h.ss.length≤60∧(∀s:Int,0≤s→s < h.ss.length→∃e∈h.evs,e.kind=1∧e.s=s)∧goes zah (some [0,0,0,0]) (zf6 h)=some (zj6 h):=by
 obtain ⟨hm,hp⟩:=zy4 hs;have h10:=(zgn _ _).1 (show zdl (zi5 h) 0 h.wants=none from hp 10 (by decide) (by decide));rw [zfy,B5] at hm;obtain ⟨hsh,hmany⟩:=hm;obtain ⟨hok,hev,hor,hma,hwa⟩:=zc6 hsh
 have hw:∀j (hj:j < h.wants.length),(∀i (hi:i < j),h.wants[i].s≠h.wants[j].s)∧∃e∈h.evs,e.kind=1∧e.s=h.wants[j].s:=fun j hj=>by
  have q:=h10 j hj;rw [H9,zi5,R4] at q;refine ⟨fun i hi e=>?_,?_⟩
  ·have:=L7.1 q.1 h.wants[i] (I8.2 ⟨i,by rw [D5];omega,by rw [Q0]⟩);simp [e] at this
  have q2:(h.evs.any fun e=>e.kind==1 && e.s==h.wants[j].s)=true:=by simpa using q.2
  obtain ⟨e,he,h1⟩:=F9.1 q2;rw [B5,K7,K7] at h1;exact ⟨e,he,h1.1,h1.2⟩
 have hn:(h.wants.map Wan.s).Nodup:=by
  rw [List.Nodup,Y9];exact J6.2 fun i j hi hj hij=>(hw j hj).1 i hij
 have hr:∀w∈h.wants,(0≤w.s∧w.s < h.ss.length)∧0≤w.bits∧w.bits≤15:=fun w hw=>by
  have:=hwa w hw;unfold zut at this;simp only [zb8,B5,G8] at this;omega
 have hl:h.ss.length≤60:=by
  have q:okK h 2=true:=by
   have:=hok;simp only [okK,B5] at this ⊢;exact this.1.1
  simp only [okK,zcr,B5,G8] at q;have:=q.2.1;have e:(ypw 1:Int)=60:=by decide
  rw [e] at this
  exact_mod_cast this
 have hsp:∀x∈zf6 h,x.1 < 4:=fun x hx=>(zw4 hx).1;have hmany:goes zah (some [0,0,0,0]) (zf6 h++h.wants.flatMap zur)=some (zj6 h):=by
  rw [←ygh];simpa [znf] using hmany
 rw [zje] at hmany;cases hg:goes zah (some [0,0,0,0]) (zf6 h) with
 |none=>rw [hg,zj7] at hmany;cases hmany
 |some m=>
  rw [hg] at hmany;obtain ⟨m1,m2,m3,m4⟩:=zo4 hg rfl hsp
  have hsame:=zo3 (s:=m) m1 (l:=h.wants.flatMap zur) fun x hx=>by
   obtain ⟨w,hwm,hx⟩:=O8.1 hx;rw [zur,D7] at hx;subst hx;refine ⟨by simp,?_⟩;obtain ⟨j,hj,rfl⟩:=I8.1 hwm;obtain ⟨e,he,k1,k2⟩:=(hw j hj).2;have:(1,e.s)∈zf6 h:=by
    rw [zf6,D2];refine .inl (O8.2 ⟨e,he,?_⟩);rw [evL,zvw k1];simp
   have:=m3 _ this;simp only at this ⊢;rw [k2] at this;omega
  rw [hsame] at hmany;injection hmany with hmany;subst hmany;refine ⟨hn,hr,hl,fun s s0 s1=>?_,rfl⟩;have:=m4 s (by simpa using s0) (by simpa [zj6] using s1);exact (zw4 this).2 rfl
def zdb (h:Hist):List Grd:=if v6 h=0 then (upR h.ss.length).map fun s=>⟨s,yph h.wants s,ypy h s⟩ else []
def zro (h:Hist):List Grd:=(upR h.ss.length).map fun s=>⟨s,yae h.wants s,yil h s⟩
theorem zop {h:Hist} (hc:v6 h=0):zdb h=zro h:=by
 have hn:=(zly (zcb.1 hc)).1;rw [zdb,A6 hc,zro];exact Q3 fun s _=>by rw [ytz hn,ysl]
theorem yn9 (h:Hist) (s:Int):0≤yil h s∧yil h s≤15:=by
 simp only [yil,K1,V8];repeat' split
 all_goals omega
theorem ypg {h:Hist} (hs:zb6 h=true) (s:Int):0≤yae h.wants s∧yae h.wants s≤15:=by
 obtain ⟨_,hr,_⟩:=zly hs;rw [yae];split
 ·rename_i w hw;exact (hr w (Z2 hw)).2
 decide
def zjh:List Int:= [1,2,4,8]
def zoh (g:Grd) (b:Int):Bool:=bI .and .i64 (bI .andNot .i64 g.q g.a) b !=0
def zcx (l:List Grd):List (Int×Int):=l.flatMap fun g=>(zjh.filter (zoh g)).map fun b=>(g.s,b)
theorem zjq {h:Hist} (hc:v6 h=0):∀g∈zdb h,((0≤g.q∧g.q≤15)∧0≤g.a∧g.a≤15)∧0≤g.s∧g.s < h.ss.length:=fun g hg=>by
 rw [zop hc,zro] at hg;obtain ⟨s,hs,rfl⟩:=H2.1 hg;have h1:=ypg (zcb.1 hc) s;have h2:=yn9 h s;have h3:0≤s∧s < h.ss.length:=by
  rw [upR,H2] at hs;obtain ⟨k,hk,rfl⟩:=hs;have:=H4.1 hk;omega
 exact ⟨⟨h1,h2⟩,h3⟩
def zcw (l:List Wan) (T:List Grd):List Wan:=T.foldl (fun l g=>zhq l g.s g.a) l
theorem zry {l:List Wan} {T:List Grd} {k:Nat} (hk:k < T.length):zcw l (T.take (k+1))=zhq (zcw l (T.take k)) T[k].s T[k].a:=by
 rw [zcw,A5 hk,K0];rfl
def WOk (n:Int) (l:List Wan):Prop:=(l.map Wan.s).Nodup∧∀w∈l,(0≤w.s∧w.s < n)∧0≤w.bits∧w.bits≤15
theorem yfy {n:Int} {l:List Wan} (h:WOk n l) {s b:Int} (h1:0≤s∧s < n) (h2:0≤b∧b≤15):WOk n (zhq l s b):=
 ⟨zyy h.1 s b,fun w hw=>by
  rcases yfz hw with rfl|⟨hw,_⟩
  ·exact ⟨h1,h2⟩
  exact h.2 w hw⟩
theorem zun {n:Int}:∀{T:List Grd} {l:List Wan},WOk n l→(∀g∈T,(0≤g.s∧g.s < n)∧0≤g.a∧g.a≤15)→WOk n (zcw l T)
 | [],l,h,_=>h
 |g::T,l,h,hT=>zun (T:=T) (yfy h (hT g (by simp)).1 (hT g (by simp)).2) fun x hx=>hT x (by simp [hx])
theorem zst:∀{n:Nat} {l:List Int},l.Nodup→(∀x∈l,0≤x∧x < n)→l.length≤n
 |0,l,_,h=>by
  cases l with
  |nil=>simp
  |cons a r=>have:=h a (by simp);omega
 |n+1,l,hn,h=>by
  have h1:(l.filter fun x=>x !=(n:Int)).length≤n:=zst (hn.filter _) fun x hx=>by
   obtain ⟨h1,h2⟩:=L1.1 hx;have:=h x h1;have:x≠n:=by simpa using h2
   omega
  have h2:(l.filter fun x=> !(x !=(n:Int))).length≤1:=by
   have hx:∀x∈l.filter (fun x=> !(x !=(n:Int))),x=(n:Int):=fun x hx=>by simpa using (L1.1 hx).2
   have hd:(l.filter fun x=> !(x !=(n:Int))).Nodup:=hn.filter _;generalize l.filter (fun x=> !(x !=(n:Int)))=m at hx hd;match m,hx,hd with
   | [],_,_=>simp
   | [_],_,_=>simp
   |a::b::r,hx,hd=>
    rw [K9] at hd;exact absurd (by rw [hx a (by simp),hx b (by simp)];simp) hd.1
  have h3:l.length=(l.filter fun x=>x !=(n:Int)).length+(l.filter fun x=> !(x !=(n:Int))).length:=by
   clear h1 h2 h hn;induction l with
   |nil=>rfl
   |cons a l ih=>
    rw [I0,I0];cases (a !=(n:Int)) <;> simp <;> omega
  omega
theorem zum {n:Nat} {l:List Wan} (h:WOk n l):l.length≤n:=by
 have:=zst (n:=n) h.1 fun x hx=>by
  obtain ⟨w,hw,rfl⟩:=H2.1 hx;exact (h.2 w hw).1
 simpa using this
theorem zrx {h:Hist} (hs:zb6 h=true):WOk h.ss.length h.wants:=⟨(zly hs).1,(zly hs).2.1⟩
def zht (h:Hist):List Wan:=zcw h.wants (zdb h)
theorem zyx {h:Hist} (hc:v6 h=0):WOk h.ss.length (zht h):=zun (zrx (zcb.1 hc)) fun g hg=>⟨(zjq hc g hg).2,(zjq hc g hg).1.2⟩
def zft (h:Hist) (w:List Wan):Hist:={h with wants:=w}
def yur (t:Int):Ev:=⟨1,t,0,1,0,⟨0,0⟩,0,[]⟩
def yuq (t:Int):Ev:=⟨5,t,0,0,0,⟨0,0⟩,0,[]⟩
def ykw:ByteArray:=⟨#[115]⟩
def bxx:ByteArray:=⟨#[120]⟩
def seW (t k:Int):Ev:=⟨2,0,0,0,0,⟨t,k⟩,0,[]⟩
section
variable {α:Type} {q:α→α→Bool}
end
theorem zvf (G:List Res) (n:NV) (sE sO sM:Value) (h:Hist) (E:List (SV×Ev)) (O:List (SV×H.Ord)) (M:List (SV×Mat)) (T9 T40 T54 T57 T52 T3:TypeId) (H:List Res) (hE:E.map (·.2)=h.evs) (hO:O.map (·.2)=h.ords) (hM:M.map (·.2)=h.mats)
 (h1: .row n.vT.v 1 T9 (h.ts.map zaq)∈H) (h2: .row n.vS.v 1 T9 (h.ss.map zaq)∈H) (h3: .row n.vO.v 1 T9 (h.os.map zaq)∈H) (h4: .row n.vP.v 1 T9 (h.ps.map zaq)∈H)
 (h5: .row sE 9 T40 (E.map zuf)∈H) (h6: .row sO 2 T54 (O.map zp6)∈H) (h7: .row sM 4 T57 (M.map zsv)∈H) (h9:∀r∈scR T52 E,r∈H) (h10:∀r∈otR T3 O,r∈H) (h11:∀r∈mtR T3 M,r∈H):
 zil (G++H) (.agg [.v n.vT.v,.v n.vS.v,.v n.vO.v,.v n.vP.v,.v sE,.v sO,.v sM,zd3 h.wants]) G (.agg (y8 h)):=by
 refine ⟨fun x hx=>by rw [w9];exact G5 _ hx,fun X w v hh hr=>?_⟩;have hG:HRel X w G:=HRel.drop (h:=H) (hh.perm E9);refine ⟨hG,?_⟩;have hmem:∀r∈H,r∈G++H:=fun r hr=>E4 _ hr
 have hout:∀r∈H,∀x∈r.own,¬OO G X x:=fun r hr x hx q=>by
  have hxH:x∈j6 H:=k6.2 ⟨r,hr,hx⟩;have hn:=hh.nodup;rw [w9,J2] at hn;rcases q with q|q
  ·exact hn.2.2 x q x hxH rfl
  exact (hh.lt x (by rw [w9];exact E4 _ hxH)).2 q
 have lo:∀av u,Rel w (OO (G++H) X) av u→Rel w (OO G X) av u:=fun av u r=>r.loose fun x hx=>hx.imp (fun q=>by rw [w9];exact G5 _ q) id
 have S:∀{α:Type} {s:Value} {sz:Nat} {T:TypeId} {f g:α→List AV} {l:List α},.row s sz T (l.map f)∈H→(∀a∈l,CT w (OO (G++H) X) (OO G X) (f a) (g a))→Rel w (OO G X) (.list false sz (l.map g)) s:=
  fun hm hc=>ya4 hh (hmem _ hm) (hout _ hm) hc
 have str:∀{s:Value} {l:List ByteArray},.row s 1 T9 (l.map zaq)∈H→Rel w (OO G X) (v7 l) s:=fun hm=>S (f:=zaq) (g:=zaq) hm fun a _=>⟨sc _,trivial⟩;have evs:Rel w (OO G X) (zll h.evs) sE:=by
  have:=S (g:=fun p=>evR p.2) h5 fun p hp=>⟨sc _,sc _,sc _,sc _,sc _,sc _,sc _,sc _,sn (S (f:=zav) (g:=zav) (h9 _ (H2.2 ⟨p,hp,rfl⟩)) fun a _=>⟨sc _,sc _,sc _,trivial⟩),trivial⟩;rw [←hE];show Rel w (OO G X) (.list false 9 ((E.map (·.2)).map evR)) sE;rw [N9];exact this
 have ords:Rel w (OO G X) (zb2 h.ords) sO:=by
  have:=S (g:=fun p=>zb7 p.2) h6 fun p hp=>⟨sc _,sn (S (f:=zag) (g:=zag) (h10 _ (H2.2 ⟨p,hp,rfl⟩)) fun a _=>⟨sc _,trivial⟩),trivial⟩;rw [←hO];show Rel w (OO G X) (.list false 2 ((O.map (·.2)).map zb7)) sO;rw [N9];exact this
 have mats:Rel w (OO G X) (zb3 h.mats) sM:=by
  have:=S (g:=fun p=>zck p.2) h7 fun p hp=>⟨sc _,sc _,sc _,sn (S (f:=zag) (g:=zag) (h11 _ (H2.2 ⟨p,hp,rfl⟩)) fun a _=>⟨sc _,trivial⟩),trivial⟩;rw [←hM];show Rel w (OO G X) (.list false 4 ((M.map (·.2)).map zck)) sM;rw [N9];exact this
 have hcells:CT w (OO (G++H) X) (OO G X) [.v n.vT.v,.v n.vS.v,.v n.vO.v,.v n.vP.v,.v sE,.v sO,.v sM,zd3 h.wants] (y8 h):=⟨sn (str h1),sn (str h2),sn (str h3),sn (str h4),sn evs,sn ords,sn mats,lo _,trivial⟩;cases hr with
 |agg _ ds hl2 hc2=>exact .agg _ ds (by rw [hcells.len];exact hl2) fun j a b=>hcells.get j (by rw [←hcells.len];exact a) a _ (hc2 j (by rw [←hcells.len];exact a) b)
end Go.H
set_option maxRecDepth 10000
namespace Go.Proofs
open Go Go.Ab
attribute [local irreducible] QR QV OE zc9 aw zds zb0 zbp za8 thn zgc
open Go.H
theorem ztl {f g:Bool} (l m:List Ord) (fv:AV) (q:Ord→Ord→Bool) (hp:∀a∈l,∀b∈m,y4 Tryz.prog fv [.agg (zb7 a),.agg (zb7 b)] [] (fun r h'=>h'= []∧r=bv (q a b))) (hl:l.length≤4611686018427387904) (hm:m.length≤4611686018427387904):y9 Tryz.prog 95 [.list f 2 (l.map zb7),.list g 2 (m.map zb7),fv] [] (fun r h'=>h'= []∧r=bv (eqF q l m)):=by
 refine z6 Tryz.func95 rfl rfl rfl ?_;refine rn ?_;refine z7 rfl (fun hc14=>?_) (fun hc14=>?_)
 ·refine rn ?_;have hne:(l.length==m.length)=false:=H1.2 fun q=>by simp [q] at hc14
  exact u6 rfl (.refl _ _) ⟨rfl,by rw [eqF,hne,B0];rfl⟩
 have hlm:l.length=m.length:=by simp at hc14;omega
 refine rn ?_;refine u4 (fun k:Nat=>k≤l.length∧zfu q l m=zfu q (l.drop k) (m.drop k)) (fun k=>⟨[(17,iv k),(16,iv (l.map zb7).length),(15,.list f 2 (l.map zb7)),(1,.list g 2 (m.map zb7)),(2,fv)],[],[]⟩) (fun k=>l.length - k) 0 ⟨G1 _,by simp⟩
  (w6 (.cons _ _ _ rfl (.cons _ _ _ rfl (.cons _ _ _ rfl (.cons _ _ _ rfl (.cons _ _ _ rfl (.nil))))))) ?_
 rintro k ⟨hk,hz⟩;refine rn ?_;refine z7 rfl (fun hc18=>?_) (fun hc18=>?_)
 ·have hk2:k < l.length:=by simpa using hc18
  have hk3:k < m.length:=by omega
  have hrow1:(l.map zb7)[k]? =some (zb7 l[k]):=by simp [hk2]
  have hrow2:(m.map zb7)[k]? =some (zb7 m[k]):=by simp [hk3]
  have hd1:=A8 hk2;have hd2:=A8 hk3;refine rn ?_;refine z8 rfl (y6 rfl fun b8=>?_);refine rn ?_;refine z8 rfl (y6 rfl fun b9=>?_);refine rn ?_;refine qv rfl rfl (y3 rfl rfl (y4.pure (R:=fun x=>x=bv (q l[k] m[k])) (hp l[k] (by simp) m[k] (by simp)))) ?_;refine rn ?_;refine z7 rfl (fun hc30=>?_) (fun hc30=>?_)
  ·refine rn ?_;exact u6 rfl (.drop [_,_] _ _) ⟨rfl,by rw [eqF,hz,hd1,hd2,zfu,show q l[k] m[k]=false from zj2 hc30,B0,C2];rfl⟩
  refine rn ?_;exact ⟨k+1,⟨by omega,by rw [hz,hd1,hd2,zfu,show q l[k] m[k]=true from zj3 hc30,B9]⟩,(w8 (za1 (h1:= [_,_])) (w6 (.cons _ _ _ rfl (.cons _ _ _ rfl (.cons _ _ _ rfl (.cons _ _ _ rfl (.cons _ _ _ rfl (.nil)))))))),by omega⟩
 have hk3:k=l.length:=by
  have:l.length≤k:=by simpa using hc18
  omega
 refine rn ?_;exact u6 rfl (.refl _ _) ⟨rfl,by rw [eqF,hz,hk3,E5,zet,hlm,N8];rfl⟩
theorem ztm {f g:Bool} (l m:List Mat) (fv:AV) (q:Mat→Mat→Bool) (hp:∀a∈l,∀b∈m,y4 Tryz.prog fv [.agg (zck a),.agg (zck b)] [] (fun r h'=>h'= []∧r=bv (q a b))) (hl:l.length≤4611686018427387904) (hm:m.length≤4611686018427387904):y9 Tryz.prog 97 [.list f 4 (l.map zck),.list g 4 (m.map zck),fv] [] (fun r h'=>h'= []∧r=bv (eqF q l m)):=by
 refine z6 Tryz.func97 rfl rfl rfl ?_;refine rn ?_;refine z7 rfl (fun hc14=>?_) (fun hc14=>?_)
 ·refine rn ?_;have hne:(l.length==m.length)=false:=H1.2 fun q=>by simp [q] at hc14
  exact u6 rfl (.refl _ _) ⟨rfl,by rw [eqF,hne,B0];rfl⟩
 have hlm:l.length=m.length:=by simp at hc14;omega
 refine rn ?_;refine u4 (fun k:Nat=>k≤l.length∧zfu q l m=zfu q (l.drop k) (m.drop k)) (fun k=>⟨[(17,iv k),(16,iv (l.map zck).length),(15,.list f 4 (l.map zck)),(1,.list g 4 (m.map zck)),(2,fv)],[],[]⟩) (fun k=>l.length - k) 0 ⟨G1 _,by simp⟩
  (w6 (.cons _ _ _ rfl (.cons _ _ _ rfl (.cons _ _ _ rfl (.cons _ _ _ rfl (.cons _ _ _ rfl (.nil))))))) ?_
 rintro k ⟨hk,hz⟩;refine rn ?_;refine z7 rfl (fun hc18=>?_) (fun hc18=>?_)
 ·have hk2:k < l.length:=by simpa using hc18
  have hk3:k < m.length:=by omega
  have hrow1:(l.map zck)[k]? =some (zck l[k]):=by simp [hk2]
  have hrow2:(m.map zck)[k]? =some (zck m[k]):=by simp [hk3]
  have hd1:=A8 hk2;have hd2:=A8 hk3;refine rn ?_;refine z8 rfl (y6 rfl fun b8=>?_);refine rn ?_;refine z8 rfl (y6 rfl fun b9=>?_);refine rn ?_;refine qv rfl rfl (y3 rfl rfl (y4.pure (R:=fun x=>x=bv (q l[k] m[k])) (hp l[k] (by simp) m[k] (by simp)))) ?_;refine rn ?_;refine z7 rfl (fun hc30=>?_) (fun hc30=>?_)
  ·refine rn ?_;exact u6 rfl (.drop [_,_] _ _) ⟨rfl,by rw [eqF,hz,hd1,hd2,zfu,show q l[k] m[k]=false from zj2 hc30,B0,C2];rfl⟩
  refine rn ?_;exact ⟨k+1,⟨by omega,by rw [hz,hd1,hd2,zfu,show q l[k] m[k]=true from zj3 hc30,B9]⟩,(w8 (za1 (h1:= [_,_])) (w6 (.cons _ _ _ rfl (.cons _ _ _ rfl (.cons _ _ _ rfl (.cons _ _ _ rfl (.cons _ _ _ rfl (.nil)))))))),by omega⟩
 have hk3:k=l.length:=by
  have:l.length≤k:=by simpa using hc18
  omega
 refine rn ?_;exact u6 rfl (.refl _ _) ⟨rfl,by rw [eqF,hz,hk3,E5,zet,hlm,N8];rfl⟩
theorem zv4 {f g:Bool} (l m:List Ev) (fv:AV) (q:Ev→Ev→Bool) (hp:∀a∈l,∀b∈m,y4 Tryz.prog fv [.agg (evR a),.agg (evR b)] [] (fun r h'=>h'= []∧r=bv (q a b))) (hl:l.length≤4611686018427387904) (hm:m.length≤4611686018427387904):y9 Tryz.prog 100 [.list f 9 (l.map evR),.list g 9 (m.map evR),fv] [] (fun r h'=>h'= []∧r=bv (eqF q l m)):=by
 refine z6 Tryz.func100 rfl rfl rfl ?_;refine rn ?_;refine z7 rfl (fun hc14=>?_) (fun hc14=>?_)
 ·refine rn ?_;have hne:(l.length==m.length)=false:=H1.2 fun q=>by simp [q] at hc14
  exact u6 rfl (.refl _ _) ⟨rfl,by rw [eqF,hne,B0];rfl⟩
 have hlm:l.length=m.length:=by simp at hc14;omega
 refine rn ?_;refine u4 (fun k:Nat=>k≤l.length∧zfu q l m=zfu q (l.drop k) (m.drop k)) (fun k=>⟨[(17,iv k),(16,iv (l.map evR).length),(15,.list f 9 (l.map evR)),(1,.list g 9 (m.map evR)),(2,fv)],[],[]⟩) (fun k=>l.length - k) 0 ⟨G1 _,by simp⟩
  (w6 (.cons _ _ _ rfl (.cons _ _ _ rfl (.cons _ _ _ rfl (.cons _ _ _ rfl (.cons _ _ _ rfl (.nil))))))) ?_
 rintro k ⟨hk,hz⟩;refine rn ?_;refine z7 rfl (fun hc18=>?_) (fun hc18=>?_)
 ·have hk2:k < l.length:=by simpa using hc18
  have hk3:k < m.length:=by omega
  have hrow1:(l.map evR)[k]? =some (evR l[k]):=by simp [hk2]
  have hrow2:(m.map evR)[k]? =some (evR m[k]):=by simp [hk3]
  have hd1:=A8 hk2;have hd2:=A8 hk3;refine rn ?_;refine z8 rfl (y6 rfl fun b8=>?_);refine rn ?_;refine z8 rfl (y6 rfl fun b9=>?_);refine rn ?_;refine qv rfl rfl (y3 rfl rfl (y4.pure (R:=fun x=>x=bv (q l[k] m[k])) (hp l[k] (by simp) m[k] (by simp)))) ?_;refine rn ?_;refine z7 rfl (fun hc30=>?_) (fun hc30=>?_)
  ·refine rn ?_;exact u6 rfl (.drop [_,_] _ _) ⟨rfl,by rw [eqF,hz,hd1,hd2,zfu,show q l[k] m[k]=false from zj2 hc30,B0,C2];rfl⟩
  refine rn ?_;exact ⟨k+1,⟨by omega,by rw [hz,hd1,hd2,zfu,show q l[k] m[k]=true from zj3 hc30,B9]⟩,(w8 (za1 (h1:= [_,_])) (w6 (.cons _ _ _ rfl (.cons _ _ _ rfl (.cons _ _ _ rfl (.cons _ _ _ rfl (.cons _ _ _ rfl (.nil)))))))),by omega⟩
 have hk3:k=l.length:=by
  have:l.length≤k:=by simpa using hc18
  omega
 refine rn ?_;exact u6 rfl (.refl _ _) ⟨rfl,by rw [eqF,hz,hk3,E5,zet,hlm,N8];rfl⟩
theorem zyi {f:Bool} (rows:List (List AV)) (hl:rows.length≤1099511627776):y9 Tryz.prog 55 [.list f 1 rows] [] (fun r h'=>h'= []∧r= .list false 1 rows):=by
 refine z6 Tryz.func55 rfl rfl rfl ?_;refine rn ?_;refine z8 rfl (zfa rfl rfl rfl fun b4 hb4=>?_);refine rn ?_;refine z7 rfl (fun hc4=>?_) (fun hc4=>?_)
 ·refine rn ?_;have h0:=hb4 hc4;subst h0;exact u6 rfl (.le (Sb.nil _ _).le) ⟨rfl,rfl⟩
 refine rn ?_;refine qv rfl rfl (q8 rfl rfl) ?_;refine rn ?_;refine qv rfl rfl (zm4 rfl rfl (by simpa using hl)) ?_;refine rn ?_;exact u6 rfl (.refl _ _) ⟨rfl,by rw [E7];rfl⟩
theorem zt4 {f:Bool} (rows:List (List AV)) (hl:rows.length * 8≤140737488355328) (hone:∀r∈rows,r.all AV.one=true):y9 Tryz.prog 55 [.list f 1 rows] [] (fun r h'=>∃s,h'= [.row s 1 3 rows]∧r= .v s):=by
 refine z6 Tryz.func55 rfl rfl rfl ?_;refine rn ?_;refine z8 rfl (zfa rfl rfl rfl fun b4 hb4=>?_);refine rn ?_;refine z7 rfl (fun hc4=>?_) (fun hc4=>?_)
 ·refine rn ?_;have h0:=hb4 hc4;subst h0;exact u6 rfl (j7 1 3 _) ⟨_,rfl,rfl⟩
 refine rn ?_;refine z8 rfl (zel rfl rfl rfl fun s5=>?_);refine rn ?_;refine z8 rfl (zcu rfl rfl (by simp only [F3];omega) rfl (fun s7=>?_) hone (by simpa using hl));refine rn ?_;exact u6 rfl (.refl _ _) ⟨_,by rw [E7],rfl⟩
theorem zhe {f:Bool} (rows:List (List AV)) (hl:rows.length≤1099511627776) (hone:∀r∈rows,r.all AV.one=true):y9 Tryz.prog 55 [.list f 1 rows] [] (fun r h'=>∃s,h'= [.row s 1 3 rows]∧r= .v s):=zt4 rows (by omega) hone
theorem zt0 {f:Bool} (rows:List (List AV)) (hl:rows.length * 16≤140737488355328) (hone:∀r∈rows,r.all AV.one=true):y9 Tryz.prog 124 [.list f 1 rows] [] (fun r h'=>∃s,h'= [.row s 1 9 rows]∧r= .v s):=by
 refine z6 Tryz.func124 rfl rfl rfl ?_;refine rn ?_;refine z8 rfl (zfa rfl rfl rfl fun b4 hb4=>?_);refine rn ?_;refine z7 rfl (fun hc4=>?_) (fun hc4=>?_)
 ·refine rn ?_;have h0:=hb4 hc4;subst h0;exact u6 rfl (j7 1 9 _) ⟨_,rfl,rfl⟩
 refine rn ?_;refine z8 rfl (zel rfl rfl rfl fun s5=>?_);refine rn ?_;refine z8 rfl (zcu rfl rfl (by simp only [F3];omega) rfl (fun s7=>?_) hone (by simpa using hl));refine rn ?_;exact u6 rfl (.refl _ _) ⟨_,by rw [E7],rfl⟩
theorem zfs {f:Bool} (rows:List (List AV)) (hl:rows.length≤1099511627776) (hone:∀r∈rows,r.all AV.one=true):y9 Tryz.prog 124 [.list f 1 rows] [] (fun r h'=>∃s,h'= [.row s 1 9 rows]∧r= .v s):=zt0 rows (by omega) hone
theorem yem {f:Bool} (rows:List (List AV)) (hl:rows.length≤1099511627776):y9 Tryz.prog 81 [.list f 3 rows] [] (fun r h'=>h'= []∧r= .list false 3 rows):=by
 refine z6 Tryz.func81 rfl rfl rfl ?_;refine rn ?_;refine z8 rfl (zfa rfl rfl rfl fun b4 hb4=>?_);refine rn ?_;refine z7 rfl (fun hc4=>?_) (fun hc4=>?_)
 ·refine rn ?_;have h0:=hb4 hc4;subst h0;exact u6 rfl (.le (Sb.nil _ _).le) ⟨rfl,rfl⟩
 refine rn ?_;refine qv rfl rfl (q8 rfl rfl) ?_;refine rn ?_;refine qv rfl rfl (zm4 rfl rfl (by simpa using hl)) ?_;refine rn ?_;exact u6 rfl (.refl _ _) ⟨rfl,by rw [E7];rfl⟩
theorem zq7 {f:Bool} (rows:List (List AV)) (hl:rows.length * 24≤140737488355328) (hone:∀r∈rows,r.all AV.one=true):y9 Tryz.prog 81 [.list f 3 rows] [] (fun r h'=>∃s,h'= [.row s 3 139 rows]∧r= .v s):=by
 refine z6 Tryz.func81 rfl rfl rfl ?_;refine rn ?_;refine z8 rfl (zfa rfl rfl rfl fun b4 hb4=>?_);refine rn ?_;refine z7 rfl (fun hc4=>?_) (fun hc4=>?_)
 ·refine rn ?_;have h0:=hb4 hc4;subst h0;exact u6 rfl (j7 3 139 _) ⟨_,rfl,rfl⟩
 refine rn ?_;refine z8 rfl (zel rfl rfl rfl fun s5=>?_);refine rn ?_;refine z8 rfl (zcu rfl rfl (by simp only [F3];omega) rfl (fun s7=>?_) hone (by simpa using hl));refine rn ?_;exact u6 rfl (.refl _ _) ⟨_,by rw [E7],rfl⟩
theorem zt1 {f:Bool} (rows:List (List AV)) (hl:rows.length≤1099511627776) (hone:∀r∈rows,r.all AV.one=true):y9 Tryz.prog 81 [.list f 3 rows] [] (fun r h'=>∃s,h'= [.row s 3 139 rows]∧r= .v s):=zq7 rows (by omega) hone
theorem yac {f:Bool} (rows:List (List AV)) (hl:rows.length≤1099511627776) (hone:∀r∈rows,r.all AV.one=true):y9 Tryz.prog 53 [.list f 9 rows] [] (fun r h'=>∃s,h'= [.row s 9 66 rows]∧r= .v s):=by
 refine z6 Tryz.func53 rfl rfl rfl ?_;refine rn ?_;refine z8 rfl (zfa rfl rfl rfl fun b4 hb4=>?_);refine rn ?_;refine z7 rfl (fun hc4=>?_) (fun hc4=>?_)
 ·refine rn ?_;have h0:=hb4 hc4;subst h0;exact u6 rfl (j7 9 66 _) ⟨_,rfl,rfl⟩
 refine rn ?_;refine z8 rfl (zel rfl rfl rfl fun s5=>?_);refine rn ?_;refine z8 rfl (j3 rfl rfl (by simpa using hl) rfl (fun s7=>?_) hone);refine rn ?_;exact u6 rfl (.refl _ _) ⟨_,by rw [E7],rfl⟩
theorem zt2 {f:Bool} (rows:List (List AV)) (hl:rows.length * 32≤140737488355328) (hone:∀r∈rows,r.all AV.one=true):y9 Tryz.prog 54 [.list f 2 rows] [] (fun r h'=>∃s,h'= [.row s 2 99 rows]∧r= .v s):=by
 refine z6 Tryz.func54 rfl rfl rfl ?_;refine rn ?_;refine z8 rfl (zfa rfl rfl rfl fun b4 hb4=>?_);refine rn ?_;refine z7 rfl (fun hc4=>?_) (fun hc4=>?_)
 ·refine rn ?_;have h0:=hb4 hc4;subst h0;exact u6 rfl (j7 2 99 _) ⟨_,rfl,rfl⟩
 refine rn ?_;refine z8 rfl (zel rfl rfl rfl fun s5=>?_);refine rn ?_;refine z8 rfl (zcu rfl rfl (by simp only [F3];omega) rfl (fun s7=>?_) hone (by simpa using hl));refine rn ?_;exact u6 rfl (.refl _ _) ⟨_,by rw [E7],rfl⟩
theorem zwd {f:Bool} (rows:List (List AV)) (hl:rows.length≤1099511627776) (hone:∀r∈rows,r.all AV.one=true):y9 Tryz.prog 54 [.list f 2 rows] [] (fun r h'=>∃s,h'= [.row s 2 99 rows]∧r= .v s):=zt2 rows (by omega) hone
theorem zt3 {f:Bool} (rows:List (List AV)) (hl:rows.length * 48≤140737488355328) (hone:∀r∈rows,r.all AV.one=true):y9 Tryz.prog 128 [.list f 4 rows] [] (fun r h'=>∃s,h'= [.row s 4 112 rows]∧r= .v s):=by
 refine z6 Tryz.func128 rfl rfl rfl ?_;refine rn ?_;refine z8 rfl (zfa rfl rfl rfl fun b4 hb4=>?_);refine rn ?_;refine z7 rfl (fun hc4=>?_) (fun hc4=>?_)
 ·refine rn ?_;have h0:=hb4 hc4;subst h0;exact u6 rfl (j7 4 112 _) ⟨_,rfl,rfl⟩
 refine rn ?_;refine z8 rfl (zel rfl rfl rfl fun s5=>?_);refine rn ?_;refine z8 rfl (zcu rfl rfl (by simp only [F3];omega) rfl (fun s7=>?_) hone (by simpa using hl));refine rn ?_;exact u6 rfl (.refl _ _) ⟨_,by rw [E7],rfl⟩
theorem zwe {f:Bool} (rows:List (List AV)) (hl:rows.length≤1099511627776) (hone:∀r∈rows,r.all AV.one=true):y9 Tryz.prog 128 [.list f 4 rows] [] (fun r h'=>∃s,h'= [.row s 4 112 rows]∧r= .v s):=zt3 rows (by omega) hone
theorem yi7 {f:Bool} (rows:List (List AV)) (hl:rows.length≤1099511627776):y9 Tryz.prog 82 [.list f 2 rows] [] (fun r h'=>h'= []∧r= .list false 2 rows):=by
 refine z6 Tryz.func82 rfl rfl rfl ?_;refine rn ?_;refine z8 rfl (zfa rfl rfl rfl fun b4 hb4=>?_);refine rn ?_;refine z7 rfl (fun hc4=>?_) (fun hc4=>?_)
 ·refine rn ?_;have h0:=hb4 hc4;subst h0;exact u6 rfl (.le (Sb.nil _ _).le) ⟨rfl,rfl⟩
 refine rn ?_;refine qv rfl rfl (q8 rfl rfl) ?_;refine rn ?_;refine qv rfl rfl (zm4 rfl rfl (by simpa using hl)) ?_;refine rn ?_;exact u6 rfl (.refl _ _) ⟨rfl,by rw [E7];rfl⟩
attribute [local irreducible] zem jch zfo
theorem yi5 {full:Bool} (l:List ByteArray) (most:Nat) (hm:most≤1000):y9 Tryz.prog 80 [.list full 1 (l.map zaq),iv most] [] (fun r h'=>h'= []∧r=v7 (zn4 most l)):=by
 refine z6 Tryz.func80 rfl rfl rfl ?_;refine x7 (y5 ?_);refine q1 ?_;refine u1 (j8 ?_);refine x7 (y5 ?_);refine q1 ?_;refine q1 ?_;refine q1 ?_;refine q1 ?_;refine qq rfl rfl (zkq (l.map zaq).length most rfl rfl) ?_;refine qq rfl rfl (zfk (rows':=(l.take most).map zaq) rfl rfl (by omega) (by rw [oM];exact take_min zaq l most)) ?_;refine z8 rfl (q7 rfl rfl (y4.rowS (y4.of_fun (zfs _ (by simp;omega) (zna _)))) rfl ?_);rintro _ _ ⟨s,rfl,rfl⟩
 refine rn ?_;refine u4 (fun k:Nat=>k≤(l.take most).length) (fun k=>⟨[(17,iv k),(16,iv ((l.take most).map zaq).length),(15,.v s.v),(5,.v s.v)],[.row s.v 1 9 ((((l.take most).take k).map cutS).map zaq++((l.take most).drop k).map zaq)],[]⟩) (fun k=>(l.take most).length - k) 0 (by omega)
  (by simp only [Q4,I1,E7,R7];exact (w6 (.cons _ _ _ rfl (.cons _ _ _ rfl (.cons _ _ _ rfl (.cons _ _ _ rfl (.nil))))))) ?_
 intro k hk;refine rn ?_;refine z7 rfl (fun hc18=>?_) (fun hc18=>?_)
 ·have hk2:k < (l.take most).length:=by simpa using hc18
  obtain ⟨b,hb⟩:∃b,b=(l.take most)[k]:=⟨_,rfl⟩;have hd:=A8 hk2;rw [←hb] at hd;have hL:=V0 most l;have hkl:(((l.take most).take k).map cutS).length=k:=by rw [oM,D5];omega
  have hrow:=zqf (f:=zaq) (g:=zaq) (xs:=((l.take most).take k).map cutS) (k:=k) hkl hd;have hk3:k < ((((l.take most).take k).map cutS).map zaq++((l.take most).drop k).map zaq).length:=by rw [zqe hkl hk];exact hk2
  refine k7 ?_;refine j8 ?_;refine x7 ?_;refine k8 ?_;refine x7 (y5 ?_);refine q1 ?_;refine q1 ?_;refine qq rfl rfl (zdp rfl hrow rfl) ?_;refine q1 ?_;refine q1 ?_;refine u1 (j8 ?_);refine y5 ?_;refine q1 ?_;refine q1 ?_;refine q1 ?_;refine q1 ?_;refine q1 ?_;refine qq rfl rfl (zkq b.size 40 rfl rfl) ?_;refine qq rfl rfl (zej rfl rfl (by omega)) ?_;refine rn ?_;refine z8 rfl (zae rfl rfl rfl hrow rfl (A7 rfl) ?_);refine rn ?_;have hset:=zqc (f:=zaq) (g:=zaq) (l:=(l.take most)) (xs:=((l.take most).take k).map cutS) (a:=cutS b) (r:=(zaq b).take 0++ [sv (cutS b)]++(zaq b).drop (0+1)) hkl hd rfl;have hx:((l.take most).take k).map cutS++ [cutS b]=((l.take most).take (k+1)).map cutS:=by rw [A5 hk2,hb];simp
  rw [hx] at hset;exact ⟨k+1,by omega,(by rw [←hset];exact (w6 (.cons _ _ _ rfl (.cons _ _ _ rfl (.cons _ _ _ rfl (.cons _ _ _ rfl (.nil))))))),by omega⟩
 obtain rfl:k=(l.take most).length:=by
  have:¬k < (l.take most).length:=by simpa using hc18
  omega
 rw [C7,E5,I1,F8];refine rn ?_;exact u6 rfl zc5 ⟨rfl,rfl⟩
theorem zv1 (h:Hist) (la:Lim 4611686018427387904 h):y9 Tryz.prog 32 [.agg (y8 h)] [] (fun r h'=>h'= []∧r= .agg (y8 (u2 h))):=by
 refine z6 Tryz.func32 rfl rfl rfl ?_;refine rn ?_;refine z8 rfl (w7 rfl rfl rfl fun b1=>?_);refine z8 rfl (y6 rfl fun b2=>?_);refine rn0 ?_;refine zhj (fun _:Nat=>True) (fun b3=>⟨[(1,pZ b1),(2,pZ b2),(3,pZ b3)],[.box b3 28 [v7 (zn4 12 h.ts),v7 (zn4 8 h.ss),v7 (zn4 10 h.os),v7 (zn4 6 h.ps),zrr,zrr,zrr,zrr],.box b2 28 zbd,.box b1 28 (y8 h)],[]⟩) ?_ ?_
 ·refine j5 14 rfl ?_;refine rn ?_;refine dv rfl rfl (by exact y3 rfl rfl (u0 (yi5 h.ts 12 (by decide)) (Sbs.refl _))) ?_;refine rn ?_;refine dv rfl rfl (by exact y3 rfl rfl (u0 (yi5 h.ss 8 (by decide)) (Sbs.refl _))) ?_;refine rn ?_;refine dv rfl rfl (by exact y3 rfl rfl (u0 (yi5 h.os 10 (by decide)) (Sbs.refl _))) ?_;refine rn ?_;refine dv rfl rfl (by exact y3 rfl rfl (u0 (yi5 h.ps 6 (by decide)) (Sbs.refl _))) ?_;refine rn ?_;refine zq5 rfl fun b3=>?_;refine rn ?_;exact ⟨b3,trivial,(w6 (.cons _ _ _ rfl (.cons _ _ _ rfl (.cons _ _ _ rfl (.nil)))))⟩
 intro b3 _
 refine rn ?_;refine u4 (fun x:Nat×SV=>x.1≤h.evs.length) (fun x=>⟨[(26,iv x.1),(25,iv (h.evs.map evR).length),(24,zll h.evs),(1,pZ b1),(2,pZ b2),(3,pZ b3)],[.row x.2.v 9 66 (((h.evs.take (min x.1 70)).map zq6).map evR),.box b3 28 [v7 (zn4 12 h.ts),v7 (zn4 8 h.ss),v7 (zn4 10 h.os),v7 (zn4 6 h.ps),.v x.2.v,zrr,zrr,zrr],.box b2 28 zbd,.box b1 28 (y8 h)],[]⟩) (fun x=>h.evs.length - x.1) (0,yvn) (by simp)
  (w8 (zaf 9 66) (w6 (.cons _ _ _ rfl (.cons _ _ _ rfl (.cons _ _ _ rfl (.cons _ _ _ rfl (.cons _ _ _ rfl (.cons _ _ _ rfl (.nil))))))))) ?_
 rintro ⟨k,s⟩ hk;simp only at hk;refine rn ?_;refine z7 rfl (fun hc27=>?_) (fun hc27=>?_)
 ·have hk2:k < h.evs.length:=by simpa using hc27
  obtain ⟨e,he⟩:∃e,e=h.evs[k]:=⟨_,rfl⟩;have hrow:(h.evs.map evR)[k]? =some (evR e):=by rw [he];simp [hk2]
  have hle:=la.evs;refine rn ?_;refine z8 rfl (y6 rfl fun b5=>?_);refine rn ?_;refine z7 rfl (fun hc32=>?_) (fun hc32=>?_)
  ·have hlt:k < 70:=by have:=hc32;simp at this;omega
   refine x7 (y5 ?_);refine q1 ?_;refine q1 ?_;refine q1 ?_;refine q1 ?_;refine q1 ?_;refine qq rfl rfl (zkq (e.scan.map zav).length 12 rfl rfl) ?_;refine qq rfl rfl (zfk (rows':=(e.scan.take 12).map zav) rfl rfl (by omega) (by rw [oM];exact take_min zav e.scan 12)) ?_;refine qv rfl rfl (y3 rfl rfl (u0 (yem ((e.scan.take 12).map zav) (by simp;omega)) (Sbs.refl _))) ?_;refine rn ?_;refine qv rfl rfl (q8 rfl rfl) ?_;refine z8 rfl (j3 rfl rfl (by have:=ya5 h.evs k 70;simp at this ⊢;omega) rfl (fun s46=>?_) (fun r hr=>by simp at hr;subst hr;rfl));refine zac s46 fun sv hsv=>?_;subst hsv;refine rn ?_;have hx:((h.evs.take (min (k+1) 70)).map zq6).map evR=((h.evs.take (min k 70)).map zq6).map evR++ [evR (zq6 e)]:=by rw [ylv hk2 hlt he];simp
   exact ⟨(k+1,sv),by simp only;omega,(by rw [hx];exact (w8 (za1 (h1:= [_])) (w6 (.cons _ _ _ rfl (.cons _ _ _ rfl (.cons _ _ _ rfl (.cons _ _ _ rfl (.cons _ _ _ rfl (.cons _ _ _ rfl (.nil)))))))))),by simp only;omega⟩
  have hlt:¬k < 70:=by have:=hc32;simp at this;omega
  refine rn ?_;exact ⟨(k+1,s),by simp only;omega,(by rw [ylu hlt];exact (w8 (za1 (h1:= [_])) (w6 (.cons _ _ _ rfl (.cons _ _ _ rfl (.cons _ _ _ rfl (.cons _ _ _ rfl (.cons _ _ _ rfl (.cons _ _ _ rfl (.nil)))))))))),by simp only;omega⟩
 obtain rfl:k=h.evs.length:=by
  have:¬k < h.evs.length:=by simpa using hc27
  omega
 obtain ⟨sE,hsE⟩:∃sE:SV,sE=s:=⟨_,rfl⟩;simp only [ya6,←hsE]
 refine rn ?_;refine u4 (fun x:Nat×SV=>x.1≤h.ords.length) (fun x=>⟨[(52,iv x.1),(51,iv (h.ords.map zb7).length),(50,zb2 h.ords),(1,pZ b1),(2,pZ b2),(3,pZ b3)],[.row x.2.v 2 99 (((h.ords.take (min x.1 14)).map zwc).map zb7),.row sE.v 9 66 (((h.evs.take 70).map zq6).map evR),.box b3 28 [v7 (zn4 12 h.ts),v7 (zn4 8 h.ss),v7 (zn4 10 h.os),v7 (zn4 6 h.ps),.v sE.v,.v x.2.v,zrr,zrr],.box b2 28 zbd,.box b1 28 (y8 h)],[]⟩) (fun x=>h.ords.length - x.1) (0,yvn) (by simp)
  (w8 (zaf 2 99) (w6 (.cons _ _ _ rfl (.cons _ _ _ rfl (.cons _ _ _ rfl (.cons _ _ _ rfl (.cons _ _ _ rfl (.cons _ _ _ rfl (.nil))))))))) ?_
 rintro ⟨k,s⟩ hk;simp only at hk;refine rn ?_;refine z7 rfl (fun hc53=>?_) (fun hc53=>?_)
 ·have hk2:k < h.ords.length:=by simpa using hc53
  obtain ⟨e,he⟩:∃e,e=h.ords[k]:=⟨_,rfl⟩;have hrow:(h.ords.map zb7)[k]? =some (zb7 e):=by rw [he];simp [hk2]
  have hle:=la.ords;refine rn ?_;refine z8 rfl (y6 rfl fun b7=>?_);refine rn ?_;refine z7 rfl (fun hc58=>?_) (fun hc58=>?_)
  ·have hlt:k < 14:=by have:=hc58;simp at this;omega
   refine j5 14 rfl ?_;refine dq rfl rfl qrA ?_;refine dq rfl rfl qrA ?_;refine dq rfl rfl qrA ?_;refine dq rfl rfl qrA ?_;refine dq rfl rfl qrA ?_;refine dq rfl rfl qrA ?_;refine dq rfl rfl qrA ?_;refine dq rfl rfl qrA ?_;refine dq rfl rfl qrA ?_;refine dq rfl rfl (zkq (e.ts.map zag).length 14 rfl rfl) ?_;refine dq rfl rfl (zfk (rows':=(e.ts.take 14).map zag) rfl rfl (by omega) (by rw [oM];exact take_min zag e.ts 14)) ?_;refine dv rfl rfl (by exact y3 rfl rfl (u0 (zyi ((e.ts.take 14).map zag) (by simp;omega)) (Sbs.refl _))) ?_;refine rn ?_;refine dv rfl rfl (q8 rfl rfl) ?_;refine rn ?_;refine z8 rfl (j3 rfl rfl (by have:=ya5 h.ords k 14;simp at this ⊢;omega) rfl (fun s73=>?_) (fun r hr=>by simp at hr;subst hr;rfl));refine zac s73 fun sv hsv=>?_;subst hsv;refine rn ?_;have hx:((h.ords.take (min (k+1) 14)).map zwc).map zb7=((h.ords.take (min k 14)).map zwc).map zb7++ [zb7 (zwc e)]:=by rw [ylv hk2 hlt he];simp
   exact ⟨(k+1,sv),by simp only;omega,(by rw [hx];exact (w8 (za1 (h1:= [_])) (w6 (.cons _ _ _ rfl (.cons _ _ _ rfl (.cons _ _ _ rfl (.cons _ _ _ rfl (.cons _ _ _ rfl (.cons _ _ _ rfl (.nil)))))))))),by simp only;omega⟩
  have hlt:¬k < 14:=by have:=hc58;simp at this;omega
  refine rn ?_;exact ⟨(k+1,s),by simp only;omega,(by rw [ylu hlt];exact (w8 (za1 (h1:= [_])) (w6 (.cons _ _ _ rfl (.cons _ _ _ rfl (.cons _ _ _ rfl (.cons _ _ _ rfl (.cons _ _ _ rfl (.cons _ _ _ rfl (.nil)))))))))),by simp only;omega⟩
 obtain rfl:k=h.ords.length:=by
  have:¬k < h.ords.length:=by simpa using hc53
  omega
 obtain ⟨sO,hsO⟩:∃sO:SV,sO=s:=⟨_,rfl⟩;simp only [ya6,←hsO]
 refine rn ?_;refine u4 (fun x:Nat×SV=>x.1≤h.mats.length) (fun x=>⟨[(79,iv x.1),(78,iv (h.mats.map zck).length),(77,zb3 h.mats),(1,pZ b1),(2,pZ b2),(3,pZ b3)],[.row x.2.v 4 112 (((h.mats.take (min x.1 20)).map yaa).map zck),.row sO.v 2 99 (((h.ords.take 14).map zwc).map zb7),.row sE.v 9 66 (((h.evs.take 70).map zq6).map evR),.box b3 28 [v7 (zn4 12 h.ts),v7 (zn4 8 h.ss),v7 (zn4 10 h.os),v7 (zn4 6 h.ps),.v sE.v,.v sO.v,.v x.2.v,zrr],.box b2 28 zbd,.box b1 28 (y8 h)],[]⟩) (fun x=>h.mats.length - x.1) (0,yvn) (by simp)
  (w8 (zaf 4 112) (w6 (.cons _ _ _ rfl (.cons _ _ _ rfl (.cons _ _ _ rfl (.cons _ _ _ rfl (.cons _ _ _ rfl (.cons _ _ _ rfl (.nil))))))))) ?_
 rintro ⟨k,s⟩ hk;simp only at hk;refine rn ?_;refine z7 rfl (fun hc80=>?_) (fun hc80=>?_)
 ·have hk2:k < h.mats.length:=by simpa using hc80
  obtain ⟨e,he⟩:∃e,e=h.mats[k]:=⟨_,rfl⟩;have hrow:(h.mats.map zck)[k]? =some (zck e):=by rw [he];simp [hk2]
  have hle:=la.mats;refine rn ?_;refine z8 rfl (y6 rfl fun b9=>?_);refine rn ?_;refine z7 rfl (fun hc85=>?_) (fun hc85=>?_)
  ·have hlt:k < 20:=by have:=hc85;simp at this;omega
   refine x7 (y5 ?_);refine q1 ?_;refine q1 ?_;refine q1 ?_;refine q1 ?_;refine q1 ?_;refine qq rfl rfl (zkq (e.ts.map zag).length 14 rfl rfl) ?_;refine qq rfl rfl (zfk (rows':=(e.ts.take 14).map zag) rfl rfl (by omega) (by rw [oM];exact take_min zag e.ts 14)) ?_;refine qv rfl rfl (y3 rfl rfl (u0 (zyi ((e.ts.take 14).map zag) (by simp;omega)) (Sbs.refl _))) ?_;refine rn ?_;refine qv rfl rfl (q8 rfl rfl) ?_;refine z8 rfl (j3 rfl rfl (by have:=ya5 h.mats k 20;simp at this ⊢;omega) rfl (fun s99=>?_) (fun r hr=>by simp at hr;subst hr;rfl));refine zac s99 fun sv hsv=>?_;subst hsv;refine rn ?_;have hx:((h.mats.take (min (k+1) 20)).map yaa).map zck=((h.mats.take (min k 20)).map yaa).map zck++ [zck (yaa e)]:=by rw [ylv hk2 hlt he];simp
   exact ⟨(k+1,sv),by simp only;omega,(by rw [hx];exact (w8 (za1 (h1:= [_])) (w6 (.cons _ _ _ rfl (.cons _ _ _ rfl (.cons _ _ _ rfl (.cons _ _ _ rfl (.cons _ _ _ rfl (.cons _ _ _ rfl (.nil)))))))))),by simp only;omega⟩
  have hlt:¬k < 20:=by have:=hc85;simp at this;omega
  refine rn ?_;exact ⟨(k+1,s),by simp only;omega,(by rw [ylu hlt];exact (w8 (za1 (h1:= [_])) (w6 (.cons _ _ _ rfl (.cons _ _ _ rfl (.cons _ _ _ rfl (.cons _ _ _ rfl (.cons _ _ _ rfl (.cons _ _ _ rfl (.nil)))))))))),by simp only;omega⟩
 obtain rfl:k=h.mats.length:=by
  have:¬k < h.mats.length:=by simpa using hc80
  omega
 obtain ⟨sM,hsM⟩:∃sM:SV,sM=s:=⟨_,rfl⟩;simp only [ya6,←hsM];refine zes ?_;refine ze2 ?_;refine ze2 ?_;refine zcg ?_;refine j8 ?_;refine x7 (y5 ?_);refine q1 ?_;refine q1 ?_;refine q1 ?_;refine q1 ?_;refine q1 ?_;refine qq rfl rfl (zkq (h.wants.map zar).length 12 rfl rfl) ?_;refine qq rfl rfl (zfk (rows':=(h.wants.take 12).map zar) rfl rfl (by omega) (by rw [oM];exact take_min zar h.wants 12)) ?_;refine qv rfl rfl (y3 rfl rfl (u0 (yi7 ((h.wants.take 12).map zar) (by simp;omega)) (Sbs.refl _))) ?_;refine rn ?_;exact zdn (.cons _ _ _ _ (.agg _ _ _ _ _ _ _ rfl inferInstance inferInstance inferInstance rfl) .nil) (.trans (zat [_,_,_,_,_,_] _) (.trans (zat [_,_,_,_,_] _) (.trans (zat [_,_,_,_] _) (.drop [_,_,_] _ _)))) ⟨rfl,rfl⟩
def ylb (cv:AV):Prop:=∀x y:zlu,y4 Tryz.prog cv [.agg (zcv x),.agg (zcv y)] [] (fun r h'=>h'= []∧r=iv (zdj x y))
theorem zkl (s:SV) (l:List zlu) (a b n:Nat) (cv:AV) (h1:a+n≤b) (h2:b+n≤l.length) (hl:l.length≤1000000000):y9 Tryz.prog 228 [.v s.v,iv (a:Int),iv (b:Int),iv (n:Int),cv] [.row s.v 3 178 ((l).map zcv)] (fun r h'=>h'= [.row s.v 3 178 ((swN l a b n).map zcv)]∧r= .tup []):=by
 refine z6 Tryz.func228 rfl rfl rfl ?_;refine rn ?_;refine zbv n (fun _=>True) (fun k=>⟨[(10,iv (k:Int)),(0,.v s.v),(1,iv (a:Int)),(2,iv (b:Int)),(3,iv (n:Int))],.row s.v 3 178 ((swN l a b k).map zcv):: [],[]⟩) trivial es ?_;intro k lk _;refine rn ?_;refine z7 rfl (fun hc13=>?_) (fun hc13=>?_)
 ·have hk:k < n:=by simpa using hc13
  obtain ⟨vx,hx⟩:∃v,(swN l a b k)[a+k]? =some v:=⟨_,B4 (by rw [zmp];omega)⟩;obtain ⟨vy,hy⟩:∃v,(swN l a b k)[b+k]? =some v:=⟨_,B4 (by rw [zmp];omega)⟩;have hxy:a+k≠b+k:=by omega
  refine k7 ?_;refine rn0 ?_;refine x7 ?_;refine k8 ?_;refine zmk 22 [21] [] [12,13,18,19,20] (fun he=>True) rfl rfl rfl trivial ?_;refine jq rfl (fun he hC=>by replace hC:=hC.2;exact qrA) ?_;refine jq rfl (fun he hC=>by replace hC:=hC.2;exact qrA) ?_;refine jq rfl (fun he hC=>by replace hC:=hC.2;exact qrA) ?_;refine jq rfl (fun he hC=>by replace hC:=hC.2;exact qrA) ?_;refine jq rfl (fun he hC=>by replace hC:=hC.2;exact qrA) ?_;refine jq rfl (fun he hC=>by replace hC:=hC.2;exact qrA) ?_;refine jq rfl (fun he hC=>by replace hC:=hC.2;exact qrA) ?_;refine jq rfl (fun he hC=>by replace hC:=hC.2;exact qrA) ?_;refine jq rfl (fun he hC=>by replace hC:=hC.2;exact qrA) ?_;refine jq rfl (fun he hC=>by replace hC:=hC.2;exact qrA) ?_;refine jq rfl (fun he hC=>by replace hC:=hC.2;exact qrA) ?_;refine jq rfl (fun he hC=>by replace hC:=hC.2;exact qrA) ?_;refine jq rfl (fun he hC=>by obtain rfl:=hC.1 rfl;exact q9 (k:=(b+k)) rfl rfl (by rw [oM];exact (zfb hy))) ?_;refine jq rfl (fun he hC=>by obtain rfl:=hC.1 rfl;exact j9 (row:=zcv vy) rfl (zc2 hy) rfl) ?_;refine jq rfl (fun he hC=>by replace hC:=hC.2;exact qrA) ?_;refine jq rfl (fun he hC=>by replace hC:=hC.2;exact qrA) ?_;refine jq rfl (fun he hC=>by replace hC:=hC.2;exact qrA) ?_;refine jq rfl (fun he hC=>by replace hC:=hC.2;exact qrA) ?_;refine jq rfl (fun he hC=>by obtain rfl:=hC.1 rfl;exact q9 (k:=(a+k)) rfl rfl (by rw [oM];exact (zfb hx))) ?_;refine jq rfl (fun he hC=>by obtain rfl:=hC.1 rfl;exact j9 (row:=zcv vx) rfl (zc2 hx) rfl) ?_;refine jq rfl (fun he hC=>by obtain rfl:=hC.1 rfl;exact q9 (k:=(a+k)) rfl rfl (by rw [oM];exact (zfb hx))) ?_;refine je rfl ?_;refine yig ?_;refine jce rfl fun u=>?_;refine zae (k:=(a+k)) rfl rfl rfl (zc2 hx) rfl (A7 rfl) ⟨.any,_,rfl,trivial,?_⟩;refine jcn ?_;refine ln ?_;refine qq rfl rfl (q9 (k:=(b+k)) rfl rfl (by rw [M6,oM];exact zfb hy)) ?_;refine z8 rfl (zae (k:=(b+k)) rfl rfl rfl (row:=zcv vy) (by rw [P0 hxy];exact zc2 hy) rfl (A7 rfl) ?_);have hsw:=zl2 (f:=zcv) hx hy;refine rn ?_;exact ⟨hk,trivial,by rw [show (swN l a b (k+1)).map zcv=_ from hsw.symm];exact eA⟩
 have qk:k=n:=by have q:¬(k:Int) < n:=(by simpa using hc13);omega
 refine rn ?_;refine ymn ?_;rw [qk];exact ⟨rfl,rfl⟩
theorem ymo (s:SV) (l tg:List zlu) (a m b:Nat) (cv:AV) (hR:Rot m (m - a) (b - m) l tg) (h1:a < m) (h2:m < b) (hb:b≤l.length) (hl:l.length≤1000000000):y9 Tryz.prog 226 [.v s.v,iv (a:Int),iv (m:Int),iv (b:Int),cv] [.row s.v 3 178 ((l).map zcv)] (fun r h'=>h'= [.row s.v 3 178 ((tg).map zcv)]∧r= .tup []):=by
 refine z6 Tryz.func226 rfl rfl rfl ?_;refine x7 (y5 ?_);refine q1 ?_;refine q1 ?_;refine qq rfl rfl (za9 (zai rfl rfl rfl (by omega)) (show iv _=iv ((m - a:Nat):Int) from A4 iv (by omega))) ?_;refine q1 ?_;refine u1 (j8 ?_);refine x7 (y5 ?_);refine q1 ?_;refine q1 ?_;refine qq rfl rfl (za9 (zai rfl rfl rfl (by omega)) (show iv _=iv ((b - m:Nat):Int) from A4 iv (by omega))) ?_;refine rn ?_;refine zdf (fun x:Nat×Nat×List zlu=>Rot m x.1 x.2.1 x.2.2 tg∧1≤x.1∧1≤x.2.1∧x.2.2.length=l.length) (fun x=>⟨[(10,iv (x.1:Int)),(11,iv (x.2.1:Int)),(0,.v s.v),(2,iv (m:Int)),(4,cv)],.row s.v 3 178 ((x.2.2).map zcv):: [],[]⟩) (fun x=>x.1+x.2.1) (m - a,b - m,l) ⟨hR,by show 1≤m - a;omega,by show 1≤b - m;omega,rfl⟩ es ?_;rintro ⟨i,j,c⟩ ⟨hr,hi,hj,hcl⟩;simp only at hr hi hj hcl;have hrl:=ymp hr;show aw _ _ _ _ _ ⟨[(10,iv (i:Int)),(11,iv (j:Int)),(0,.v s.v),(2,iv (m:Int)),(4,cv)],.row s.v 3 178 ((c).map zcv):: [],[]⟩;refine rn ?_;refine z7 rfl (fun hc20=>?_) (fun hc20=>?_)
 ·have hne:i≠j:=by have q:¬(i:Int)=j:=(by simpa using hc20);omega
  refine rn ?_;refine z7 rfl (fun hc23=>?_) (fun hc23=>?_)
  ·have hlt:j < i:=by have q:(i:Int) > j:=(by simpa using hc23);omega
   refine x7 (y5 ?_);refine q1 ?_;refine q1 ?_;refine q1 ?_;refine qq rfl rfl (za9 (zai rfl rfl rfl (by omega)) (show iv _=iv ((m - i:Nat):Int) from A4 iv (by omega))) ?_;refine rn ?_;refine z8 rfl (q7 rfl rfl (y4.of_fun (zkl s c (m - i) m j cv (by omega) (by omega) (by omega))) rfl ?_);rintro _ _ ⟨rfl,rfl⟩;refine u1 (j8 ?_);refine y5 ?_;refine q1 ?_;refine q1 ?_;refine qq rfl rfl (za9 (zai rfl rfl rfl (by omega)) (show iv _=iv ((i - j:Nat):Int) from A4 iv (by omega))) ?_;refine rn ?_;exact ⟨(i - j,j,swN c (m - i) m j),⟨yqt hr hlt,by simp only;omega,hj,by rw [zmp];exact hcl⟩,eA,by simp only;omega⟩
  have hlt:i < j:=by have q:¬(i:Int) > j:=(by simpa using hc23);omega
  refine x7 (y5 ?_);refine q1 ?_;refine q1 ?_;refine q1 ?_;refine qq rfl rfl (za9 (zai rfl rfl rfl (by omega)) (show iv _=iv ((m - i:Nat):Int) from A4 iv (by omega))) ?_;refine q1 ?_;refine q1 ?_;refine q1 ?_;refine q1 ?_;refine qq rfl rfl (za9 (zai rfl rfl rfl (by omega)) (show iv _=iv ((m+j - i:Nat):Int) from A4 iv (by omega))) ?_;refine rn ?_;refine z8 rfl (q7 rfl rfl (y4.of_fun (zkl s c (m - i) (m+j - i) i cv (by omega) (by omega) (by omega))) rfl ?_);rintro _ _ ⟨rfl,rfl⟩;refine u1 (j8 ?_);refine y5 ?_;refine q1 ?_;refine q1 ?_;refine qq rfl rfl (za9 (zai rfl rfl rfl (by omega)) (show iv _=iv ((j - i:Nat):Int) from A4 iv (by omega))) ?_;refine rn ?_;exact ⟨(i,j - i,swN c (m - i) (m+j - i) i),⟨yqs hr hlt,hi,by simp only;omega,by rw [zmp];exact hcl⟩,eA,by simp only;omega⟩
 have hij:i=j:=by have q:(i:Int)=j:=(by simpa using hc20);omega
 subst hij;refine zes ?_;refine ze2 ?_;refine ze2 ?_;refine zcg ?_;refine j8 ?_;refine y5 ?_;refine q1 ?_;refine q1 ?_;refine q1 ?_;refine qq rfl rfl (za9 (zai rfl rfl rfl (by omega)) (show iv _=iv ((m - i:Nat):Int) from A4 iv (by omega))) ?_;refine rn ?_;refine z8 rfl (q7 rfl rfl (y4.of_fun (zkl s c (m - i) m i cv (by omega) (by omega) (by omega))) rfl ?_);rintro _ _ ⟨rfl,rfl⟩;refine rn ?_;refine ymn ?_;rw [yqu hr];exact ⟨rfl,rfl⟩
theorem ydh (s:SV) (P M Z:List zlu) (a b:Nat) (cv:AV) (hc:ylb cv) (hP:P.length=a) (hM:a+M.length=b) (hl:(P++(M++Z)).length≤1000000000):y9 Tryz.prog 215 [.v s.v,iv (a:Int),iv (b:Int),cv] [.row s.v 3 178 ((P++(M++Z)).map zcv)] (fun r h'=>h'= [.row s.v 3 178 ((P++(isL zdj M++Z)).map zcv)]∧r= .tup []):=by
 refine z6 Tryz.func215 rfl rfl rfl ?_;simp only [D4] at hl;refine rn ?_;refine zbv M.length (fun _=>True) (fun k=>⟨[(8,iv ((a+1+k:Nat):Int)),(0,.v s.v),(1,iv (a:Int)),(2,iv (b:Int)),(3,cv)],.row s.v 3 178 ((P++(isL zdj (M.take (k+1))++(M.drop (k+1)++Z))).map zcv):: [],[]⟩) trivial (by rw [yn2];exact es) ?_;intro k lk _;refine rn ?_;refine z7 rfl (fun hc14=>?_) (fun hc14=>?_)
 ·have hk:k+1 < M.length:=by have q:((a+1+k:Nat):Int) < b:=(by simpa using hc14);omega
  have hS:(isL zdj (M.take (k+1))).Pairwise (LeC zdj):=(zpx yfp _).1;have hSl:(isL zdj (M.take (k+1))).length=k+1:=by rw [zjd,D5];omega
  have e0:P++((isL zdj (M.take (k+1)))++(M.drop (k+1)++Z))=P++((isL zdj (M.take (k+1))).take (k+1)++M[k+1]::((isL zdj (M.take (k+1))).drop (k+1)++(M.drop (k+1+1)++Z))):=yih hSl hk;obtain ⟨x,hxm⟩:∃x,M[k+1]'hk=x:=⟨_,rfl⟩;rw [e0,hxm];refine rn ?_;refine zdf (fun q:Nat=>q≤(isL zdj (M.take (k+1))).length∧∀z∈(isL zdj (M.take (k+1))).drop q,zdj x z < 0) (fun q=>⟨[(9,iv ((a+q:Nat):Int)),(8,iv ((a+1+k:Nat):Int)),(0,.v s.v),(1,iv (a:Int)),(2,iv (b:Int)),(3,cv)],.row s.v 3 178 ((P++((isL zdj (M.take (k+1))).take q++x::((isL zdj (M.take (k+1))).drop q++(M.drop (k+1+1)++Z)))).map zcv):: [],[]⟩) (fun q=>q) (k+1) ⟨by omega,fun z hz=>absurd hz (by rw [Q7 (Nat.le_of_eq hSl)];simp)⟩ (by rw [show a+(k+1)=a+1+k by omega];exact es) ?_;rintro q ⟨hq,hz⟩;refine rn ?_;refine j5 14 rfl ?_;refine rn ?_;refine ze6 (fun hg4_3=>?_) (fun hg4_3=>?_)
  ·refine dq rfl rfl qrA ?_;refine dq rfl rfl qrA ?_;refine dq rfl rfl qrA ?_;refine dq rfl rfl (q9 (k:=a+q) rfl rfl (by rw [oM];exact zfb (yse hP hq))) ?_;refine dq rfl rfl (j9 (row:=zcv x) rfl (zc2 (yse hP hq)) rfl) ?_;refine dq rfl rfl qrA ?_;refine dq rfl rfl qrA ?_;refine dq rfl rfl (za9 (zai rfl rfl rfl (by omega)) (show iv _=iv ((a+q - 1:Nat):Int) from A4 iv (by have h0:=oT hg4_3;omega))) ?_;refine dq rfl rfl (q9 (k:=a+q - 1) rfl rfl (by rw [oM];exact zfb (yum hP hq (by have h0:=oT hg4_3;omega)))) ?_;refine dq rfl rfl (j9 (row:=zcv ((isL zdj (M.take (k+1))).getD (q - 1) x)) rfl (zc2 (yum hP hq (by have h0:=oT hg4_3;omega))) rfl) ?_;refine rn ?_;refine qv rfl rfl (y3 rfl rfl (y4.pure (R:=fun r=>r=iv (zdj x ((isL zdj (M.take (k+1))).getD (q - 1) x))) (hc x ((isL zdj (M.take (k+1))).getD (q - 1) x)))) ?_;refine rn ?_;refine z7 rfl (fun hc34=>?_) (fun hc34=>?_)
   ·have hq1:1≤q:=(by have h0:=oT hg4_3;omega);have hlt:zdj x ((isL zdj (M.take (k+1))).getD (q - 1) x) < 0:=oT hc34;have hx:=yse (Z:=(M.drop (k+1+1)++Z)) (x:=x) hP hq;have hy:=yum (Z:=(M.drop (k+1+1)++Z)) (x:=x) hP hq hq1;obtain ⟨v,hv⟩:∃v,((isL zdj (M.take (k+1))).getD (q - 1) x)=v:=⟨_,rfl⟩;rw [hv] at hy;have hxy:a+q≠a+q - 1:=by omega
    refine k7 ?_;refine rn0 ?_;refine x7 ?_;refine k8 ?_;refine zmk 16 [15] [] [8,9,12,13,14] (fun he=>True) rfl rfl rfl trivial ?_;refine jq rfl (fun he hC=>by replace hC:=hC.2;exact qrA) ?_;refine jq rfl (fun he hC=>by replace hC:=hC.2;exact qrA) ?_;refine jq rfl (fun he hC=>by replace hC:=hC.2;exact qrA) ?_;refine jq rfl (fun he hC=>by replace hC:=hC.2;exact qrA) ?_;refine jq rfl (fun he hC=>by replace hC:=hC.2;exact za9 (zai rfl rfl rfl (by omega)) (show iv _=iv ((a+q - 1:Nat):Int) from A4 iv (by omega))) ?_;refine jq rfl (fun he hC=>by replace hC:=hC.2;exact qrA) ?_;refine jq rfl (fun he hC=>by replace hC:=hC.2;exact qrA) ?_;refine jq rfl (fun he hC=>by replace hC:=hC.2;exact za9 (zai rfl rfl rfl (by omega)) (show iv _=iv ((a+q - 1:Nat):Int) from A4 iv (by omega))) ?_;refine jq rfl (fun he hC=>by obtain rfl:=hC.1 rfl;exact q9 (k:=(a+q - 1)) rfl rfl (by rw [oM];exact (zfb hy))) ?_;refine jq rfl (fun he hC=>by obtain rfl:=hC.1 rfl;exact j9 (row:=zcv v) rfl (zc2 hy) rfl) ?_;refine jq rfl (fun he hC=>by replace hC:=hC.2;exact qrA) ?_;refine jq rfl (fun he hC=>by replace hC:=hC.2;exact qrA) ?_;refine jq rfl (fun he hC=>by obtain rfl:=hC.1 rfl;exact q9 (k:=(a+q)) rfl rfl (by rw [oM];exact (zfb hx))) ?_;refine jq rfl (fun he hC=>by obtain rfl:=hC.1 rfl;exact j9 (row:=zcv x) rfl (zc2 hx) rfl) ?_;refine jq rfl (fun he hC=>by obtain rfl:=hC.1 rfl;exact q9 (k:=(a+q)) rfl rfl (by rw [oM];exact (zfb hx))) ?_;refine je rfl ?_;refine yig ?_;refine jce rfl fun u=>?_;refine zae (k:=(a+q)) rfl rfl rfl (zc2 hx) rfl (A7 rfl) ⟨.any,_,rfl,trivial,?_⟩;refine jcn ?_;refine ln ?_;refine qq rfl rfl (q9 (k:=(a+q - 1)) rfl rfl (by rw [M6,oM];exact zfb hy)) ?_;refine z8 rfl (zae (k:=(a+q - 1)) rfl rfl rfl (row:=zcv v) (by rw [P0 hxy];exact zc2 hy) rfl (A7 rfl) ?_);have hsw:=zl2 (f:=zcv) hx hy;refine u1 ?_;refine zh2 ?_;refine j8 ?_;refine y5 ?_;refine q1 ?_;refine qq rfl rfl (za9 (zai rfl rfl rfl (by omega)) (show iv _=iv ((a+(q - 1):Nat):Int) from A4 iv (by omega))) ?_;refine rn ?_;exact ⟨q - 1,⟨by omega,yn3 hq hq1 hlt hz⟩,by rw [←ydg hP hq hq1,←hsw];exact eA,by omega⟩
   have hst:1≤q→¬zdj x ((isL zdj (M.take (k+1))).getD (q - 1) x) < 0:=by first|exact fun _=>oF hc34|exact fun h1=>absurd (oF hg4_3) (by omega)
   refine rn ?_;subst hxm;exact ⟨by omega,trivial,by rw [←ykh znw hS hk hq hz hst];exact eA⟩
  refine rn ?_;refine zfd rfl ?_;have hst:1≤q→¬zdj x ((isL zdj (M.take (k+1))).getD (q - 1) x) < 0:=by first|exact fun _=>oF hc34|exact fun h1=>absurd (oF hg4_3) (by omega)
  refine rn ?_;subst hxm;exact ⟨by omega,trivial,by rw [←ykh znw hS hk hq hz hst];exact eA⟩
 have hk:M.length≤k+1:=by have q:¬((a+1+k:Nat):Int) < b:=(by simpa using hc14);omega
 refine rn ?_;refine ymn ?_;rw [M7 hk,Q7 hk];exact ⟨rfl,rfl⟩
theorem yw6 (s:SV) (P R Z:List zlu) (x:zlu) (a m b:Nat) (cv:AV) (hc:ylb cv) (hP:P.length=a) (hm:a+ [x].length=m) (hb:m+R.length=b) (hR:R.Pairwise (LeC zdj)) (hl:(P++([x]++(R++Z))).length≤1000000000):y9 Tryz.prog 216 [.v s.v,iv (a:Int),iv (m:Int),iv (b:Int),cv] [.row s.v 3 178 ((P++([x]++(R++Z))).map zcv)] (fun r h'=>h'= [.row s.v 3 178 ((P++(mrg zdj [x] R++Z)).map zcv)]∧r= .tup []):=by
 refine z6 Tryz.func216 rfl rfl rfl ?_;simp only [D4] at hl;refine x7 ?_;refine x7 (y5 ?_);refine q1 ?_;refine q1 ?_;refine q1 ?_;refine qq rfl rfl (ziw (c:=true) rfl rfl (A4 some (K7.2 (by simp at hm;omega)))) ?_;refine rn ?_;refine z7 rfl (fun hc28=>?_) (fun hc28=>?_)
 ·refine rn ?_;refine zdf (fun z:Nat×Nat=>z.1≤z.2∧z.2≤R.length∧(1≤z.1→zdj (R.getD (z.1 - 1) zew) x < 0)∧(z.2 < R.length→¬zdj (R.getD z.2 zew) x < 0)) (fun z=>⟨[(10,iv ((m+z.1:Nat):Int)),(11,iv ((m+z.2:Nat):Int)),(0,.v s.v),(1,iv (a:Int)),(2,iv (m:Int)),(3,iv (b:Int)),(4,cv)],.row s.v 3 178 ((P++([x]++(R++Z))).map zcv):: [],[]⟩) (fun z=>z.2 - z.1) (0,R.length) ⟨G1 _,C5 _,fun h=>absurd h (by simp),fun h=>absurd h (by simp)⟩ (by simp only [N2,hb];exact es) ?_;rintro ⟨u,v⟩ ⟨huv0,hu0,h1,h2⟩;simp only at huv0 hu0 h1 h2;show aw _ _ _ _ _ ⟨[(10,iv ((m+u:Nat):Int)),(11,iv ((m+v:Nat):Int)),(0,.v s.v),(1,iv (a:Int)),(2,iv (m:Int)),(3,iv (b:Int)),(4,cv)],.row s.v 3 178 ((P++([x]++(R++Z))).map zcv):: [],[]⟩;refine rn ?_;refine z7 rfl (fun hc33=>?_) (fun hc33=>?_)
  ·have huv:u < v:=by have q:((m+u:Nat):Int) < ((m+v:Nat):Int):=oT hc33;omega
   refine k7 ?_;refine j8 ?_;refine k8 ?_;refine x7 (y5 ?_);refine q1 ?_;refine q1 ?_;refine qq rfl rfl (za9 (zai rfl rfl rfl (by omega)) (show iv _=iv (((m+u)+(m+v):Nat):Int) from A4 iv (by omega))) ?_;refine qq rfl rfl (zdd (m:=(((m+u)+(m+v):Nat):Int)) rfl (zl0 (by omega))) ?_;refine qq rfl rfl (zg5 (c:=((((m+u)+(m+v)) / 2:Nat):Int)) rfl rfl (zl1 (by omega)) (by decide)) ?_;refine qq rfl rfl (zdd (m:=((((m+u)+(m+v)) / 2:Nat):Int)) rfl (zme (by omega))) ?_;refine rn0 ?_;refine x7 ?_;rw [show (m+u+(m+v)) / 2=m+((u+v) / 2) by omega];refine j5 9 rfl ?_;refine dq rfl rfl qrA ?_;refine dq rfl rfl qrA ?_;refine dq rfl rfl qrA ?_;refine dq rfl rfl (q9 (k:=(m+((u+v) / 2))) rfl rfl (by rw [oM];exact (zfb (yps (L:= [x]) hP hm zew (by omega) (by omega))))) ?_;refine dq rfl rfl (j9 (row:=zcv (R.getD (m+((u+v) / 2) - m) zew)) rfl (zc2 (yps (L:= [x]) hP hm zew (by omega) (by omega))) rfl) ?_;refine dq rfl rfl qrA ?_;refine dq rfl rfl qrA ?_;refine dq rfl rfl (q9 (k:=a) rfl rfl (by rw [oM];exact (zfb (ypt (L:= [x]) (R:=R) (Z:=Z) hP zew (C5 a) (by simp))))) ?_;refine dq rfl rfl (j9 (row:=zcv ([x].getD (a - a) zew)) rfl (zc2 (ypt (L:= [x]) (R:=R) (Z:=Z) hP zew (C5 a) (by simp))) rfl) ?_;refine rn ?_;refine qv rfl rfl (y3 rfl rfl (y4.pure (R:=fun r=>r=iv (zdj (R.getD (m+((u+v) / 2) - m) zew) ([x].getD (a - a) zew))) (hc (R.getD (m+((u+v) / 2) - m) zew) ([x].getD (a - a) zew)))) ?_;refine rn ?_;refine z7 rfl (fun hc50=>?_) (fun hc50=>?_)
   ·have hlt:zdj (R.getD (m+((u+v) / 2) - m) zew) ([x].getD (a - a) zew) < 0:=oT hc50;rw [show m+((u+v) / 2) - m=((u+v) / 2) by omega,show [x].getD (a - a) zew=x by rw [R9];rfl] at hlt;refine y5 ?_;refine q1 ?_;refine qq rfl rfl (za9 (zai rfl rfl rfl (by omega)) (show iv _=iv ((m+(((u+v) / 2)+1):Nat):Int) from A4 iv (by omega))) ?_;refine rn ?_;exact ⟨(((u+v) / 2)+1,v),⟨by simp only;omega,hu0,fun _=>by simp only;rw [Nat.add_sub_cancel];exact hlt,h2⟩,eA,by simp only;omega⟩
   have hlt:¬zdj (R.getD (m+((u+v) / 2) - m) zew) ([x].getD (a - a) zew) < 0:=oF hc50;rw [show m+((u+v) / 2) - m=((u+v) / 2) by omega,show [x].getD (a - a) zew=x by rw [R9];rfl] at hlt;refine rn ?_;exact ⟨(u,((u+v) / 2)),⟨by simp only;omega,by simp only;omega,h1,fun _=>hlt⟩,eA,by simp only;omega⟩
  have huv:u=v:=by have q:¬((m+u:Nat):Int) < ((m+v:Nat):Int):=oF hc33;omega
  subst huv;refine rn ?_;have hu:u≤R.length:=hu0;refine zbv u (fun _=>True) (fun q=>⟨[(13,iv ((a+q:Nat):Int)),(10,iv ((m+u:Nat):Int)),(0,.v s.v),(1,iv (a:Int)),(2,iv (m:Int)),(3,iv (b:Int)),(4,cv)],.row s.v 3 178 ((P++(R.take q++x::(R.drop q++Z))).map zcv):: [],[]⟩) trivial es ?_;intro q lq _;refine x7 ?_;refine x7 (y5 ?_);refine q1 ?_;refine q1 ?_;refine qq rfl rfl (za9 (zai rfl rfl rfl (by omega)) (show iv _=iv ((a+u:Nat):Int) from A4 iv (by simp at hm;omega))) ?_;refine rn ?_;refine z7 rfl (fun hc58=>?_) (fun hc58=>?_)
  ·have hq:q < u:=by have q0:((a+q:Nat):Int) < ((a+u:Nat):Int):=oT hc58;omega
   have hx:=yse (S:=R) (Z:=Z) (x:=x) hP (Z9 (I3 hq hu));have hy:=yxq (S:=R) (Z:=Z) (x:=x) hP (I3 hq hu) zew;obtain ⟨v2,hv2⟩:∃v,R.getD q zew=v:=⟨_,rfl⟩;rw [hv2] at hy;have hxy:a+q≠a+q+1:=by omega
   refine k7 ?_;refine rn0 ?_;refine x7 ?_;refine k8 ?_;refine zmk 16 [15] [] [8,9,12,13,14] (fun he=>True) rfl rfl rfl trivial ?_;refine jq rfl (fun he hC=>by replace hC:=hC.2;exact qrA) ?_;refine jq rfl (fun he hC=>by replace hC:=hC.2;exact qrA) ?_;refine jq rfl (fun he hC=>by replace hC:=hC.2;exact qrA) ?_;refine jq rfl (fun he hC=>by replace hC:=hC.2;exact qrA) ?_;refine jq rfl (fun he hC=>by replace hC:=hC.2;exact za9 (zai rfl rfl rfl (by omega)) (show iv _=iv ((a+q+1:Nat):Int) from A4 iv (by omega))) ?_;refine jq rfl (fun he hC=>by replace hC:=hC.2;exact qrA) ?_;refine jq rfl (fun he hC=>by replace hC:=hC.2;exact qrA) ?_;refine jq rfl (fun he hC=>by replace hC:=hC.2;exact za9 (zai rfl rfl rfl (by omega)) (show iv _=iv ((a+q+1:Nat):Int) from A4 iv (by omega))) ?_;refine jq rfl (fun he hC=>by obtain rfl:=hC.1 rfl;exact q9 (k:=(a+q+1)) rfl rfl (by rw [oM];exact (zfb hy))) ?_;refine jq rfl (fun he hC=>by obtain rfl:=hC.1 rfl;exact j9 (row:=zcv v2) rfl (zc2 hy) rfl) ?_;refine jq rfl (fun he hC=>by replace hC:=hC.2;exact qrA) ?_;refine jq rfl (fun he hC=>by replace hC:=hC.2;exact qrA) ?_;refine jq rfl (fun he hC=>by obtain rfl:=hC.1 rfl;exact q9 (k:=(a+q)) rfl rfl (by rw [oM];exact (zfb hx))) ?_;refine jq rfl (fun he hC=>by obtain rfl:=hC.1 rfl;exact j9 (row:=zcv x) rfl (zc2 hx) rfl) ?_;refine jq rfl (fun he hC=>by obtain rfl:=hC.1 rfl;exact q9 (k:=(a+q)) rfl rfl (by rw [oM];exact (zfb hx))) ?_;refine je rfl ?_;refine yig ?_;refine jce rfl fun u=>?_;refine zae (k:=(a+q)) rfl rfl rfl (zc2 hx) rfl (A7 rfl) ⟨.any,_,rfl,trivial,?_⟩;refine jcn ?_;refine ln ?_;refine qq rfl rfl (q9 (k:=(a+q+1)) rfl rfl (by rw [M6,oM];exact zfb hy)) ?_;refine z8 rfl (zae (k:=(a+q+1)) rfl rfl rfl (row:=zcv v2) (by rw [P0 hxy];exact zc2 hy) rfl (A7 rfl) ?_);have hsw:=zl2 (f:=zcv) hx hy;refine u1 ?_;refine zh2 ?_;refine j8 ?_;refine y5 ?_;refine q1 ?_;refine qq rfl rfl (za9 (zai rfl rfl rfl (by omega)) (show iv _=iv ((a+(q+1):Nat):Int) from A4 iv (by omega))) ?_;refine rn ?_;exact ⟨hq,trivial,by rw [←yvv hP (I3 hq hu),←hsw];exact eA⟩
  have hq:q=u:=by have q0:¬((a+q:Nat):Int) < ((a+u:Nat):Int):=oF hc58;omega
  subst hq;refine rn ?_;refine rqz ?_;rw [yho znw hR hu h1 h2];exact ⟨rfl,rfl⟩
 first|cases hc28|exact absurd hc28 (by decide)|(exfalso;simp_all;done)
theorem yw5 (s:SV) (P L Z:List zlu) (y:zlu) (a m b:Nat) (cv:AV) (hc:ylb cv) (hP:P.length=a) (hm:a+L.length=m) (hb:m+ [y].length=b) (h1L:L.length≠1) (hL:L.Pairwise (LeC zdj)) (hl:(P++(L++([y]++Z))).length≤1000000000):y9 Tryz.prog 216 [.v s.v,iv (a:Int),iv (m:Int),iv (b:Int),cv] [.row s.v 3 178 ((P++(L++([y]++Z))).map zcv)] (fun r h'=>h'= [.row s.v 3 178 ((P++(mrg zdj L [y]++Z)).map zcv)]∧r= .tup []):=by
 refine z6 Tryz.func216 rfl rfl rfl ?_;simp only [D4] at hl;refine x7 ?_;refine x7 (y5 ?_);refine q1 ?_;refine q1 ?_;refine q1 ?_;refine qq rfl rfl (ziw (c:=false) rfl rfl (A4 some (H1.2 (by omega)))) ?_;refine rn ?_;refine z7 rfl (fun hc28=>?_) (fun hc28=>?_)
 ·first|cases hc28|exact absurd hc28 (by decide)|(exfalso;simp_all;done)
 refine k7 ?_;refine j8 ?_;refine x7 ?_;refine x7 (y5 ?_);refine q1 ?_;refine q1 ?_;refine q1 ?_;refine qq rfl rfl (ziw (c:=true) rfl rfl (A4 some (K7.2 (by simp at hb;omega)))) ?_;refine rn ?_;refine z7 rfl (fun hc80=>?_) (fun hc80=>?_)
 ·refine rn ?_;refine zdf (fun z:Nat×Nat=>z.1≤z.2∧z.2≤L.length∧(1≤z.1→¬zdj y (L.getD (z.1 - 1) zew) < 0)∧(z.2 < L.length→zdj y (L.getD z.2 zew) < 0)) (fun z=>⟨[(14,iv ((a+z.1:Nat):Int)),(15,iv ((a+z.2:Nat):Int)),(0,.v s.v),(1,iv (a:Int)),(2,iv (m:Int)),(3,iv (b:Int)),(4,cv)],.row s.v 3 178 ((P++(L++([y]++Z))).map zcv):: [],[]⟩) (fun z=>z.2 - z.1) (0,L.length) ⟨G1 _,C5 _,fun h=>absurd h (by simp),fun h=>absurd h (by simp)⟩ (by simp only [N2,hm];exact es) ?_;rintro ⟨u,v⟩ ⟨huv0,hu0,h1,h2⟩;simp only at huv0 hu0 h1 h2;show aw _ _ _ _ _ ⟨[(14,iv ((a+u:Nat):Int)),(15,iv ((a+v:Nat):Int)),(0,.v s.v),(1,iv (a:Int)),(2,iv (m:Int)),(3,iv (b:Int)),(4,cv)],.row s.v 3 178 ((P++(L++([y]++Z))).map zcv):: [],[]⟩;refine rn ?_;refine z7 rfl (fun hc85=>?_) (fun hc85=>?_)
  ·have huv:u < v:=by have q:((a+u:Nat):Int) < ((a+v:Nat):Int):=oT hc85;omega
   refine k7 ?_;refine j8 ?_;refine k8 ?_;refine x7 (y5 ?_);refine q1 ?_;refine q1 ?_;refine qq rfl rfl (za9 (zai rfl rfl rfl (by omega)) (show iv _=iv (((a+u)+(a+v):Nat):Int) from A4 iv (by omega))) ?_;refine qq rfl rfl (zdd (m:=(((a+u)+(a+v):Nat):Int)) rfl (zl0 (by omega))) ?_;refine qq rfl rfl (zg5 (c:=((((a+u)+(a+v)) / 2:Nat):Int)) rfl rfl (zl1 (by omega)) (by decide)) ?_;refine qq rfl rfl (zdd (m:=((((a+u)+(a+v)) / 2:Nat):Int)) rfl (zme (by omega))) ?_;refine rn0 ?_;refine x7 ?_;rw [show (a+u+(a+v)) / 2=a+((u+v) / 2) by omega];refine j5 9 rfl ?_;refine dq rfl rfl qrA ?_;refine dq rfl rfl qrA ?_;refine dq rfl rfl qrA ?_;refine dq rfl rfl (q9 (k:=m) rfl rfl (by rw [oM];exact (zfb (yps (L:=L) (R:= [y]) (Z:=Z) hP hm zew (C5 m) (by simp))))) ?_;refine dq rfl rfl (j9 (row:=zcv ([y].getD (m - m) zew)) rfl (zc2 (yps (L:=L) (R:= [y]) (Z:=Z) hP hm zew (C5 m) (by simp))) rfl) ?_;refine dq rfl rfl qrA ?_;refine dq rfl rfl qrA ?_;refine dq rfl rfl (q9 (k:=(a+((u+v) / 2))) rfl rfl (by rw [oM];exact (zfb (ypt (L:=L) (R:= [y]) (Z:=Z) hP zew (by omega) (by omega))))) ?_;refine dq rfl rfl (j9 (row:=zcv (L.getD (a+((u+v) / 2) - a) zew)) rfl (zc2 (ypt (L:=L) (R:= [y]) (Z:=Z) hP zew (by omega) (by omega))) rfl) ?_;refine rn ?_;refine qv rfl rfl (y3 rfl rfl (y4.pure (R:=fun r=>r=iv (zdj ([y].getD (m - m) zew) (L.getD (a+((u+v) / 2) - a) zew))) (hc ([y].getD (m - m) zew) (L.getD (a+((u+v) / 2) - a) zew)))) ?_;refine rn ?_;refine z7 rfl (fun hc103=>?_) (fun hc103=>?_)
   ·have hlt:¬zdj ([y].getD (m - m) zew) (L.getD (a+((u+v) / 2) - a) zew) < 0:=oF (by simpa using hc103);rw [show a+((u+v) / 2) - a=((u+v) / 2) by omega,show [y].getD (m - m) zew=y by rw [R9];rfl] at hlt;refine y5 ?_;refine q1 ?_;refine qq rfl rfl (za9 (zai rfl rfl rfl (by omega)) (show iv _=iv ((a+(((u+v) / 2)+1):Nat):Int) from A4 iv (by omega))) ?_;refine rn ?_;exact ⟨(((u+v) / 2)+1,v),⟨by simp only;omega,hu0,fun _=>by simp only;rw [Nat.add_sub_cancel];exact hlt,h2⟩,eA,by simp only;omega⟩
   have hlt:zdj ([y].getD (m - m) zew) (L.getD (a+((u+v) / 2) - a) zew) < 0:=oT (by simpa using hc103);rw [show a+((u+v) / 2) - a=((u+v) / 2) by omega,show [y].getD (m - m) zew=y by rw [R9];rfl] at hlt;refine rn ?_;exact ⟨(u,((u+v) / 2)),⟨by simp only;omega,by simp only;omega,h1,fun _=>hlt⟩,eA,by simp only;omega⟩
  have huv:u=v:=by have q:¬((a+u:Nat):Int) < ((a+v:Nat):Int):=oF hc85;omega
  subst huv;refine rn ?_;have hu:u≤L.length:=hu0;refine zdf (fun q:Nat=>u≤q∧q≤L.length) (fun q=>⟨[(17,iv ((a+q:Nat):Int)),(14,iv ((a+u:Nat):Int)),(0,.v s.v),(1,iv (a:Int)),(2,iv (m:Int)),(3,iv (b:Int)),(4,cv)],.row s.v 3 178 ((P++(L.take q++y::(L.drop q++Z))).map zcv):: [],[]⟩) (fun q=>q) L.length ⟨hu,C5 _⟩ (by rw [C7,E5,hm];exact es) ?_;rintro q ⟨hq1,hq2⟩;refine rn ?_;refine z7 rfl (fun hc110=>?_) (fun hc110=>?_)
  ·have hq:u < q:=by have q0:((a+q:Nat):Int) > ((a+u:Nat):Int):=oT hc110;omega
   have hx:=yse (S:=L) (Z:=Z) (x:=y) hP hq2;have hy:=yum (S:=L) (Z:=Z) (x:=y) hP hq2 (by omega);obtain ⟨v2,hv2⟩:∃v,L.getD (q - 1) y=v:=⟨_,rfl⟩;rw [hv2] at hy;have hxy:a+q≠a+q - 1:=by omega
   refine k7 ?_;refine rn0 ?_;refine x7 ?_;refine k8 ?_;refine zmk 16 [15] [] [8,9,12,13,14] (fun he=>True) rfl rfl rfl trivial ?_;refine jq rfl (fun he hC=>by replace hC:=hC.2;exact qrA) ?_;refine jq rfl (fun he hC=>by replace hC:=hC.2;exact qrA) ?_;refine jq rfl (fun he hC=>by replace hC:=hC.2;exact qrA) ?_;refine jq rfl (fun he hC=>by replace hC:=hC.2;exact qrA) ?_;refine jq rfl (fun he hC=>by replace hC:=hC.2;exact za9 (zai rfl rfl rfl (by omega)) (show iv _=iv ((a+q - 1:Nat):Int) from A4 iv (by omega))) ?_;refine jq rfl (fun he hC=>by replace hC:=hC.2;exact qrA) ?_;refine jq rfl (fun he hC=>by replace hC:=hC.2;exact qrA) ?_;refine jq rfl (fun he hC=>by replace hC:=hC.2;exact za9 (zai rfl rfl rfl (by omega)) (show iv _=iv ((a+q - 1:Nat):Int) from A4 iv (by omega))) ?_;refine jq rfl (fun he hC=>by obtain rfl:=hC.1 rfl;exact q9 (k:=(a+q - 1)) rfl rfl (by rw [oM];exact (zfb hy))) ?_;refine jq rfl (fun he hC=>by obtain rfl:=hC.1 rfl;exact j9 (row:=zcv v2) rfl (zc2 hy) rfl) ?_;refine jq rfl (fun he hC=>by replace hC:=hC.2;exact qrA) ?_;refine jq rfl (fun he hC=>by replace hC:=hC.2;exact qrA) ?_;refine jq rfl (fun he hC=>by obtain rfl:=hC.1 rfl;exact q9 (k:=(a+q)) rfl rfl (by rw [oM];exact (zfb hx))) ?_;refine jq rfl (fun he hC=>by obtain rfl:=hC.1 rfl;exact j9 (row:=zcv y) rfl (zc2 hx) rfl) ?_;refine jq rfl (fun he hC=>by obtain rfl:=hC.1 rfl;exact q9 (k:=(a+q)) rfl rfl (by rw [oM];exact (zfb hx))) ?_;refine je rfl ?_;refine yig ?_;refine jce rfl fun u=>?_;refine zae (k:=(a+q)) rfl rfl rfl (zc2 hx) rfl (A7 rfl) ⟨.any,_,rfl,trivial,?_⟩;refine jcn ?_;refine ln ?_;refine qq rfl rfl (q9 (k:=(a+q - 1)) rfl rfl (by rw [M6,oM];exact zfb hy)) ?_;refine z8 rfl (zae (k:=(a+q - 1)) rfl rfl rfl (row:=zcv v2) (by rw [P0 hxy];exact zc2 hy) rfl (A7 rfl) ?_);have hsw:=zl2 (f:=zcv) hx hy;refine u1 ?_;refine zh2 ?_;refine j8 ?_;refine y5 ?_;refine q1 ?_;refine qq rfl rfl (za9 (zai rfl rfl rfl (by omega)) (show iv _=iv ((a+(q - 1):Nat):Int) from A4 iv (by omega))) ?_;refine rn ?_;exact ⟨q - 1,⟨by omega,by omega⟩,by rw [←ydg hP hq2 (by omega),←hsw];exact eA,by omega⟩
  have hq:q=u:=by have q0:¬((a+q:Nat):Int) > ((a+u:Nat):Int):=oF hc110;omega
  subst hq;refine rn ?_;refine rqz ?_;rw [yc8 znw hL hu h1 h2];exact ⟨rfl,rfl⟩
 first|cases hc80|exact absurd hc80 (by decide)|(exfalso;simp_all;done)
set_option maxHeartbeats 8000000 in
theorem yw4 (s:SV) (n:Nat) (P L R Z:List zlu) (a m b:Nat) (cv:AV) (hc:ylb cv) (hn:L.length+R.length=n) (hP:P.length=a) (hm:a+L.length=m) (hb:m+R.length=b) (hL1:1≤L.length) (hR1:1≤R.length) (h1L:L.length≠1) (h1R:R.length≠1) (hL:L.Pairwise (LeC zdj)) (hR:R.Pairwise (LeC zdj)) (hl:(P++(L++(R++Z))).length≤1000000000) (ih:∀(P L R Z:List zlu) (a m b:Nat),L.length+R.length < n→P.length=a→a+L.length=m→m+R.length=b→1≤L.length→1≤R.length→L.Pairwise (LeC zdj)→R.Pairwise (LeC zdj)→(P++(L++(R++Z))).length≤1000000000→
 y9 Tryz.prog 216 [.v s.v,iv (a:Int),iv (m:Int),iv (b:Int),cv] [.row s.v 3 178 ((P++(L++(R++Z))).map zcv)] (fun r h'=>h'= [.row s.v 3 178 ((P++(mrg zdj L R++Z)).map zcv)]∧r= .tup [])):y9 Tryz.prog 216 [.v s.v,iv (a:Int),iv (m:Int),iv (b:Int),cv] [.row s.v 3 178 ((P++(L++(R++Z))).map zcv)] (fun r h'=>h'= [.row s.v 3 178 ((P++(mrg zdj L R++Z)).map zcv)]∧r= .tup []):=by
 refine z6 Tryz.func216 rfl rfl rfl ?_;simp only [D4] at hl;refine x7 ?_;refine x7 (y5 ?_);refine q1 ?_;refine q1 ?_;refine q1 ?_;refine qq rfl rfl (ziw (c:=false) rfl rfl (A4 some (H1.2 (by omega)))) ?_;refine rn ?_;refine z7 rfl (fun hc28=>?_) (fun hc28=>?_)
 ·first|cases hc28|exact absurd hc28 (by decide)|(exfalso;simp_all;done)
 refine k7 ?_;refine j8 ?_;refine x7 ?_;refine x7 (y5 ?_);refine q1 ?_;refine q1 ?_;refine q1 ?_;refine qq rfl rfl (ziw (c:=false) rfl rfl (A4 some (H1.2 (by omega)))) ?_;refine rn ?_;refine z7 rfl (fun hc80=>?_) (fun hc80=>?_)
 ·first|cases hc80|exact absurd hc80 (by decide)|(exfalso;simp_all;done)
 refine k7 ?_;refine j8 ?_;refine x7 (y5 ?_);refine q1 ?_;refine q1 ?_;refine qq rfl rfl (za9 (zai rfl rfl rfl (by omega)) (show iv _=iv ((a+b:Nat):Int) from A4 iv (by omega))) ?_;refine qq rfl rfl (zdd (m:=((a+b:Nat):Int)) rfl (zl0 (by omega))) ?_;refine qq rfl rfl (zg5 (c:=(((a+b) / 2:Nat):Int)) rfl rfl (zl1 (by omega)) (by decide)) ?_;refine qq rfl rfl (zdd (m:=(((a+b) / 2:Nat):Int)) rfl (zme (by omega))) ?_;refine q1 ?_;refine u1 (j8 ?_);refine x7 (y5 ?_);refine q1 ?_;refine q1 ?_;refine qq rfl rfl (za9 (zai rfl rfl rfl (by omega)) (show iv _=iv ((((a+b) / 2)+m:Nat):Int) from A4 iv (by omega))) ?_;refine rn0 ?_;refine x7 (y5 ?_);refine rn0 ?_;refine zhj (fun z:Nat×Nat=>SmS L R a m b ((a+b) / 2) z.1 z.2) (fun z=>⟨[(20,iv (z.1:Int)),(21,iv (z.2:Int)),(18,iv ((((a+b) / 2):Nat):Int)),(19,iv ((((a+b) / 2)+m:Nat):Int)),(0,.v s.v),(1,iv (a:Int)),(2,iv (m:Int)),(3,iv (b:Int)),(4,cv)],.row s.v 3 178 ((P++(L++(R++Z))).map zcv):: [],[]⟩) ?_ ?_
 ·refine rn ?_;refine z7 rfl (fun hc140=>?_) (fun hc140=>?_)
  ·have hS0:SmS L R a m b ((a+b) / 2) (((a+b) / 2)+m - b) ((a+b) / 2):=⟨hm,hb,rfl,.inl ⟨by have q:(m:Int) > ((((a+b) / 2):Nat):Int):=oT hc140;omega,rfl,rfl⟩⟩;refine x7 (y5 ?_);refine q1 ?_;refine q1 ?_;refine qq rfl rfl (za9 (zai rfl rfl rfl (by omega)) (show iv _=iv ((((a+b) / 2)+m - b:Nat):Int) from A4 iv (by have q:(m:Int) > ((((a+b) / 2):Nat):Int):=oT hc140;omega))) ?_;refine rn ?_;exact ⟨(_,_),hS0,eA⟩
  have hS0:SmS L R a m b ((a+b) / 2) a m:=⟨hm,hb,rfl,.inr ⟨by have q:¬(m:Int) > ((((a+b) / 2):Nat):Int):=oF hc140;omega,rfl,rfl⟩⟩;refine rn ?_;exact ⟨(_,_),hS0,eA⟩
 rintro ⟨s0,r0⟩ hS;replace hS:SmS L R a m b ((a+b) / 2) s0 r0:=hS;show aw _ _ _ _ _ ⟨[(20,iv (s0:Int)),(21,iv (r0:Int)),(18,iv ((((a+b) / 2):Nat):Int)),(19,iv ((((a+b) / 2)+m:Nat):Int)),(0,.v s.v),(1,iv (a:Int)),(2,iv (m:Int)),(3,iv (b:Int)),(4,cv)],.row s.v 3 178 ((P++(L++(R++Z))).map zcv):: [],[]⟩;refine x7 (y5 ?_);refine q1 ?_;refine qq rfl rfl (za9 (zai rfl rfl rfl (by omega)) (show iv _=iv ((((a+b) / 2)+m - 1:Nat):Int) from A4 iv (by omega))) ?_;refine rn ?_;refine zdf (fun z:Nat×Nat=>SmI zdj L R a m b ((a+b) / 2) s0 r0 z.1 z.2) (fun z=>⟨[(20,iv (z.1:Int)),(21,iv (z.2:Int)),(22,iv (((((a+b) / 2)+m - 1):Nat):Int)),(18,iv ((((a+b) / 2):Nat):Int)),(19,iv ((((a+b) / 2)+m:Nat):Int)),(0,.v s.v),(1,iv (a:Int)),(2,iv (m:Int)),(3,iv (b:Int)),(4,cv)],.row s.v 3 178 ((P++(L++(R++Z))).map zcv):: [],[]⟩) (fun z=>z.2 - z.1) (s0,r0) (yw9 hS) es ?_;rintro ⟨st,rr⟩ hI;replace hI:SmI zdj L R a m b ((a+b) / 2) s0 r0 st rr:=hI;show aw _ _ _ _ _ ⟨[(20,iv (st:Int)),(21,iv (rr:Int)),(22,iv (((((a+b) / 2)+m - 1):Nat):Int)),(18,iv ((((a+b) / 2):Nat):Int)),(19,iv ((((a+b) / 2)+m:Nat):Int)),(0,.v s.v),(1,iv (a:Int)),(2,iv (m:Int)),(3,iv (b:Int)),(4,cv)],.row s.v 3 178 ((P++(L++(R++Z))).map zcv):: [],[]⟩;refine rn ?_;refine z7 rfl (fun hc151=>?_) (fun hc151=>?_)
 ·have hsr:st < rr:=by have q:(st:Int) < (rr:Int):=oT hc151;omega
  obtain ⟨b1,b2,b3,b4,b5,b6,b7,b8,b9,b10⟩:=yu2 hS hI hsr;have hu:=getD_some b6 zew;have hv:=getD_some b5 zew;rw [b7] at hu;refine k7 ?_;refine j8 ?_;refine k8 ?_;refine x7 (y5 ?_);refine q1 ?_;refine q1 ?_;refine qq rfl rfl (za9 (zai rfl rfl rfl (by omega)) (show iv _=iv ((st+rr:Nat):Int) from A4 iv (by omega))) ?_;refine qq rfl rfl (zdd (m:=((st+rr:Nat):Int)) rfl (zl0 (by omega))) ?_;refine qq rfl rfl (zg5 (c:=(((st+rr) / 2:Nat):Int)) rfl rfl (zl1 (by omega)) (by decide)) ?_;refine qq rfl rfl (zdd (m:=(((st+rr) / 2:Nat):Int)) rfl (zme (by omega))) ?_;refine rn ?_;refine j5 11 rfl ?_;refine dq rfl rfl qrA ?_;refine dq rfl rfl qrA ?_;refine dq rfl rfl qrA ?_;refine dq rfl rfl qrA ?_;refine dq rfl rfl (za9 (zai rfl rfl rfl (by omega)) (show iv _=iv (((((a+b) / 2)+m - 1 - ((st+rr) / 2)):Nat):Int) from A4 iv (by omega))) ?_;refine dq rfl rfl (q9 (k:=(((a+b) / 2)+m - 1 - ((st+rr) / 2))) rfl rfl (by rw [oM];exact (zfb (yps (L:=L) (R:=R) (Z:=Z) hP hm zew b3 (by omega))))) ?_;refine dq rfl rfl (j9 (row:=zcv (R.getD ((((a+b) / 2)+m - 1 - ((st+rr) / 2)) - m) zew)) rfl (zc2 (yps (L:=L) (R:=R) (Z:=Z) hP hm zew b3 (by omega))) rfl) ?_;refine dq rfl rfl qrA ?_;refine dq rfl rfl qrA ?_;refine dq rfl rfl (q9 (k:=((st+rr) / 2)) rfl rfl (by rw [oM];exact (zfb (ypt (L:=L) (R:=R) (Z:=Z) hP zew b1 (by omega))))) ?_;refine dq rfl rfl (j9 (row:=zcv (L.getD (((st+rr) / 2) - a) zew)) rfl (zc2 (ypt (L:=L) (R:=R) (Z:=Z) hP zew b1 (by omega))) rfl) ?_;refine rn ?_;refine qv rfl rfl (y3 rfl rfl (y4.pure (R:=fun r=>r=iv (zdj (R.getD ((((a+b) / 2)+m - 1 - ((st+rr) / 2)) - m) zew) (L.getD (((st+rr) / 2) - a) zew))) (hc (R.getD ((((a+b) / 2)+m - 1 - ((st+rr) / 2)) - m) zew) (L.getD (((st+rr) / 2) - a) zew)))) ?_;refine rn ?_;refine z7 rfl (fun hc171=>?_) (fun hc171=>?_)
  ·have hn:¬zdj (R.getD ((((a+b) / 2)+m - 1 - ((st+rr) / 2)) - m) zew) (L.getD (((st+rr) / 2) - a) zew) < 0:=oF (by simpa using hc171);rw [b7] at hn;refine y5 ?_;refine q1 ?_;refine qq rfl rfl (za9 (zai rfl rfl rfl (by omega)) (show iv _=iv ((((st+rr) / 2)+1:Nat):Int) from A4 iv (by omega))) ?_;refine rn ?_;exact ⟨(((st+rr) / 2)+1,rr),yw7 hS hI hsr rfl hu hv hn,eA,by simp only;omega⟩
  have hn:zdj (R.getD ((((a+b) / 2)+m - 1 - ((st+rr) / 2)) - m) zew) (L.getD (((st+rr) / 2) - a) zew) < 0:=oT (by simpa using hc171);rw [b7] at hn;refine rn ?_;exact ⟨(st,((st+rr) / 2)),yw8 hS hI hsr rfl hu hv hn,eA,by simp only;omega⟩
 have hsr:st=rr:=by
  have q:¬(st:Int) < (rr:Int):=oF hc151;have:=hI.2.1;omega
 subst hsr;obtain ⟨x,y,hs,hmid,hx,hy,hmg⟩:=yqk znw hL hR hS hI;subst hs;rw [hmid];refine zes ?_;refine ze2 ?_;refine ze2 ?_;refine zcg ?_;refine j8 ?_;refine x7 (y5 ?_);refine q1 ?_;refine q1 ?_;refine qq rfl rfl (za9 (zai rfl rfl rfl (by omega)) (show iv _=iv ((m+y:Nat):Int) from A4 iv (by omega))) ?_;refine rn0 ?_;refine zh9 (⟨[(20,iv (((a+x):Nat):Int)),(18,iv (((a+x+y):Nat):Int)),(24,iv (((m+y):Nat):Int)),(0,.v s.v),(1,iv (a:Int)),(2,iv (m:Int)),(3,iv (b:Int)),(4,cv)],.row s.v 3 178 ((P++((L.take x)++((R.take y)++((L.drop x)++((R.drop y)++Z))))).map zcv):: [],[]⟩) ?_ ?_
 ·refine zh9 (⟨[(185,bv (decide (((((a+x):Nat):Int)) < ((((m):Nat):Int))) && decide (((((m):Nat):Int)) < ((((m+y):Nat):Int))))),(20,iv (((a+x):Nat):Int)),(18,iv (((a+x+y):Nat):Int)),(24,iv (((m+y):Nat):Int)),(0,.v s.v),(1,iv (a:Int)),(2,iv (m:Int)),(3,iv (b:Int)),(4,cv)],.row s.v 3 178 ((P++(L++(R++Z))).map zcv):: [],[]⟩) ?_ ?_
  ·refine rn ?_;refine x5 (fun hg39_3=>?_) (fun hg39_3=>?_)
   ·refine rn ?_;first|(rw [hg39_3,B9];exact eA)|(rw [hg39_3,B0];exact eA)
   refine rn ?_;first|(rw [hg39_3,B9];exact eA)|(rw [hg39_3,B0];exact eA)
  refine z7 rfl (fun hc185=>?_) (fun hc185=>?_)
  ·have hg:=hc185;rw [B5,Q8,Q8] at hg;refine rn ?_;refine z8 rfl (q7 rfl rfl (y4.of_fun (ymo s _ _ (a+x) m (m+y) cv (by rw [show m - (a+x)=L.length - x by omega,show m+y - m=y by omega];exact yqj hP hm hx hy) (by omega) (by omega) (by simp only [D4];omega) (by simp only [D4];omega))) rfl ?_);rintro _ _ ⟨rfl,rfl⟩;refine rn ?_;exact eA
  have hg:=hc185;rw [Q9,M3,M3] at hg;have hxy:x=L.length∨y=0:=by omega
  rw [yl8 (P:=P) (Z:=Z) hxy];refine rn ?_;exact eA
 refine zh9 (⟨[(20,iv (((a+x):Nat):Int)),(18,iv (((a+x+y):Nat):Int)),(24,iv (((m+y):Nat):Int)),(0,.v s.v),(1,iv (a:Int)),(2,iv (m:Int)),(3,iv (b:Int)),(4,cv)],.row s.v 3 178 ((P++(mrg zdj (L.take x) (R.take y)++((L.drop x)++((R.drop y)++Z)))).map zcv):: [],[]⟩) ?_ ?_
 ·refine zh9 (⟨[(199,bv (decide (((((a):Nat):Int)) < ((((a+x):Nat):Int))) && decide (((((a+x):Nat):Int)) < ((((a+x+y):Nat):Int))))),(20,iv (((a+x):Nat):Int)),(18,iv (((a+x+y):Nat):Int)),(24,iv (((m+y):Nat):Int)),(0,.v s.v),(1,iv (a:Int)),(2,iv (m:Int)),(3,iv (b:Int)),(4,cv)],.row s.v 3 178 ((P++((L.take x)++((R.take y)++((L.drop x)++((R.drop y)++Z))))).map zcv):: [],[]⟩) ?_ ?_
  ·refine rn ?_;refine x5 (fun hg41_3=>?_) (fun hg41_3=>?_)
   ·refine rn ?_;first|(rw [hg41_3,B9];exact eA)|(rw [hg41_3,B0];exact eA)
   refine rn ?_;first|(rw [hg41_3,B9];exact eA)|(rw [hg41_3,B0];exact eA)
  refine z7 rfl (fun hc199=>?_) (fun hc199=>?_)
  ·have hg:=hc199;rw [B5,Q8,Q8] at hg;refine rn ?_;refine z8 rfl (q7 rfl rfl (y4.of_fun (ih P (L.take x) (R.take y) ((L.drop x)++((R.drop y)++Z)) a (a+x) (a+x+y) (by simp only [D5];omega) hP (by simp only [D5];omega) (by simp only [D5];omega) (by simp only [D5];omega) (by simp only [D5];omega) (zwr hL x) (zwr hR y) (by simp only [D4,D5,L9];omega))) rfl ?_);rintro _ _ ⟨rfl,rfl⟩;refine rn ?_;exact eA
  have hg:=hc199;rw [Q9,M3,M3] at hg;have hxy:(L.take x)= []∨(R.take y)= []:=by
   by_cases h0:1≤x
   ·exact .inr (zws (by omega))
   exact .inl (zws h0)
  rw [ybd (cmp:=zdj) (P:=P) hxy];refine rn ?_;exact eA
 refine zh9 (⟨[(213,bv (decide (((((a+x+y):Nat):Int)) < ((((m+y):Nat):Int))) && decide (((((m+y):Nat):Int)) < ((((b):Nat):Int))))),(20,iv (((a+x):Nat):Int)),(18,iv (((a+x+y):Nat):Int)),(24,iv (((m+y):Nat):Int)),(0,.v s.v),(1,iv (a:Int)),(2,iv (m:Int)),(3,iv (b:Int)),(4,cv)],.row s.v 3 178 ((P++(mrg zdj (L.take x) (R.take y)++((L.drop x)++((R.drop y)++Z)))).map zcv):: [],[]⟩) ?_ ?_
 ·refine rn ?_;refine x5 (fun hg43_3=>?_) (fun hg43_3=>?_)
  ·refine rn ?_;first|(rw [hg43_3,B9];exact eA)|(rw [hg43_3,B0];exact eA)
  refine rn ?_;first|(rw [hg43_3,B9];exact eA)|(rw [hg43_3,B0];exact eA)
 refine z7 rfl (fun hc213=>?_) (fun hc213=>?_)
 ·have hg:=hc213;rw [B5,Q8,Q8] at hg;rw [←E0 P (mrg zdj (L.take x) (R.take y)) ((L.drop x)++((R.drop y)++Z))];refine rn ?_;refine z8 rfl (q7 rfl rfl (y4.of_fun (ih (P++mrg zdj (L.take x) (R.take y)) (L.drop x) (R.drop y) Z (a+x+y) (m+y) b (by simp only [L9];omega) (by simp only [D4,zf9,D5];omega) (by simp only [L9];omega) (by simp only [L9];omega) (by simp only [L9];omega) (by simp only [L9];omega) (zye hL x) (zye hR y) (by simp only [D4,zf9,D5,L9];omega))) rfl ?_);rintro _ _ ⟨rfl,rfl⟩;refine rn ?_;refine ymn ?_;exact ⟨by simp only [hmg,E0],rfl⟩
 have hg:=hc213;rw [Q9,M3,M3] at hg;have hxy:(L.drop x)= []∨(R.drop y)= []:=by
  by_cases h0:x < L.length
  ·exact .inr (ztq (by omega))
  exact .inl (ztq h0)
 rw [←E0 P (mrg zdj (L.take x) (R.take y)) ((L.drop x)++((R.drop y)++Z)),ybd (cmp:=zdj) (P:=P++mrg zdj (L.take x) (R.take y)) hxy];refine rn ?_;refine ymn ?_;exact ⟨by simp only [hmg,E0],rfl⟩
theorem yuy (s:SV) (cv:AV) (hc:ylb cv):∀(n:Nat) (P L R Z:List zlu) (a m b:Nat),L.length+R.length < n→P.length=a→a+L.length=m→m+R.length=b→1≤L.length→1≤R.length→L.Pairwise (LeC zdj)→R.Pairwise (LeC zdj)→(P++(L++(R++Z))).length≤1000000000→
 y9 Tryz.prog 216 [.v s.v,iv (a:Int),iv (m:Int),iv (b:Int),cv] [.row s.v 3 178 ((P++(L++(R++Z))).map zcv)] (fun r h'=>h'= [.row s.v 3 178 ((P++(mrg zdj L R++Z)).map zcv)]∧r= .tup [])
 |0,_,_,_,_,_,_,_,h,_,_,_,_,_,_,_,_=>absurd h (by omega)
 |n+1,P,L,R,Z,a,m,b,h,hP,hm,hb,hL1,hR1,hL,hR,hl=>by
  by_cases e1:L.length=1
  ·obtain ⟨x,rfl⟩:=A0q.1 e1;exact yw6 s P R Z x a m b cv hc hP hm hb hR hl
  by_cases e2:R.length=1
  ·obtain ⟨y,rfl⟩:=A0q.1 e2;exact yw5 s P L Z y a m b cv hc hP hm hb e1 hL hl
  exact yw4 s (L.length+R.length) P L R Z a m b cv hc rfl hP hm hb hL1 hR1 e1 e2 hL hR hl fun P' L' R' Z' a' m' b' q=>yuy s cv hc n P' L' R' Z' a' m' b' (by omega)
end Go.Proofs
