/- The abstract logic: slices.SortFunc over a row of one's own whose elements are k plain cells, as a contract (the kit's shelf has walked it). .. -/
import Derived.Test.YtfmcbdjnmlcacaaGreatDoorWBaI
import Derived.Shelf.SlSortCmp.NoneTotal
set_option maxHeartbeats 4000000
set_option linter.unusedSectionVars false
set_option linter.unusedSimpArgs false
set_option linter.unusedVariables false
namespace Go.Ab
open Go Go.Shelf Go.Sort Go.Proofs
theorem zua {w w':World} (hk:Keep [] w [] w'):∃q os,w'=grow (w.drewN q) os:=by
 obtain ⟨⟨h1,h2⟩,h3,h4⟩:=hk.env
 have hh:w'.heap=w.heap++w'.heap.extract w.heap.size w'.heap.size:=by
  apply Array.ext_getElem?
  intro i
  by_cases hi:i < w.heap.size
  ·rw [Array.getElem?_append_left hi];exact (hk.same i hi (by simp)).1
  ·rw [Array.getElem?_append_right (by omega)]
   rw [Array.getElem?_extract]
   split
   ·congr 1;omega
   ·rw [Array.getElem?_eq_none (by omega)]
 refine ⟨w'.drawn - w.drawn,w'.heap.extract w.heap.size w'.heap.size,?_⟩
 have hd:w.drawn+(w'.drawn - w.drawn)=w'.drawn:=by omega
 cases w;cases w'
 simp only [grow,World.drewN] at *
 simp only [World.mk.injEq]
 exact ⟨hh,h3,by omega,h1,h2⟩
section
variable {P:Program} {α:Type} [Inhabited α] {enc:α→List Value} {k:Nat} {cf:α→α→Int}
def zdq (enc:α→List Value) (x:α):List AV:=(enc x).map .v
theorem zo7 {w:World} {O:Nat→Prop} (x:α):Rel w O (.agg (zdq enc x)) (.agg (enc x).toArray):=
 .agg _ _ (by simp [zdq]) fun j h1 h2=>by simp only [zdq,List.getElem_map,List.getElem_toArray];exact .v _
theorem yby (w:World):HRel noX w []:=⟨List.nodup_nil,fun b hb=>by simp [j5] at hb,fun b hb=>hb.elim,fun r hr=>by simp at hr⟩
theorem ycf {g:FuncId} (hp:∀x y,y8 P g [.agg (zdq enc x),.agg (zdq enc y)] [] (fun r h'=>h'= []∧r= .v (.int .i64 (cf x y)))) (blk off size:Nat) (w:World):CmpLays P g #[] enc k cf blk off size w:=fun m os dk hs x y=>by
 have h:=((hp x y) noX (sortWorldK enc k w blk off m dk os) [.agg (enc x).toArray,.agg (enc y).toArray] (yby _) ⟨zo7 x,zo7 y,trivial⟩).calls (fun k=>zwr none k)
 refine h.mono ?_;rintro e w' ⟨v,av,h',rfl,⟨rfl,rfl⟩,hr,_,hk⟩
 obtain rfl:=hr.v_eq
 exact ⟨rfl,zua hk⟩
end
section
variable {P:Program} {ρ:Ren} {α:Type} [Inhabited α] {enc:α→List Value} {k:Nat} {X:Nat→Prop} {w:World} {a:Addr} {cap:Nat} {T:TypeId} {xs ys:List α}
theorem rowK_holds (hk:∀x,(enc x).length=k) (hh:HRel X w [.row (.slice (some a) xs.length cap) k T (xs.map (zdq enc))]):HoldsK enc k w a.block a.off xs.toArray∧a.block < w.heap.size∧a.spot=none:=by
 obtain ⟨h1,h2,h3,h4,c,h5,h6,h7⟩:=hh.holds _ (List.mem_singleton.2 rfl)
 refine ⟨fun t ht=> ?_,(hh.lt a.block (by simp [j5,Res.own])).1,h1⟩
 have ht':t < xs.length * k:=by simpa using ht
 have k0:0 < k:=by
  rcases Nat.eq_zero_or_pos k with q|q
  ·rw [q,Nat.mul_zero] at ht';omega
  ·exact q
 have hi:t / k < xs.length:=Nat.div_lt_of_lt_mul (by rw [Nat.mul_comm];exact ht')
 have hj:t % k < k:=Nat.mod_lt _ k0
 obtain ⟨v,e,r⟩:=h7 (t / k) (by simpa using hi) (t % k) (by simp [zdq,hk];exact hj)
 simp only [List.getElem_map,zdq] at r
 have hv:=r.v_eq
 have et:a.off+t / k * k+t % k=a.off+t:=by have:=Nat.div_add_mod t k;rw [Nat.mul_comm] at this;omega
 rw [et] at e
 have ef:(flatK enc k xs.toArray)[t]! =(enc xs[t / k])[t % k]'(by rw [hk];exact hj):=by
  rw [get_flatK _ _ _ _ (by simpa using ht'),getElem!_pos xs.toArray (t / k) (by simpa using hi),getElem!_pos _ _ (by rw [hk];exact hj)]
  simp
 refine ⟨?_,by simp [World.frozen?,h5]⟩
 show World.cell? w ⟨a.block,a.off+t,none⟩=some (id _)
 rw [ef]
 simp [World.cell?,h5,e,hv]
theorem zwp (hk:∀x,(enc x).length=k) (hh:HRel X w [.row (.slice (some a) xs.length cap) k T (xs.map (zdq enc))]) (hl:ys.length=xs.length) (n:Nat) (os:Array Obj):
 HRel X (sortWorldK enc k w a.block a.off n ys.toArray os) [.row (.slice (some a) xs.length cap) k T (ys.map (zdq enc))]∧Keep [a.block] w [a.block] (sortWorldK enc k w a.block a.off n ys.toArray os):=by
 obtain ⟨h1,h2,h3,h4,c,h5,h6,h7⟩:=hh.holds _ (List.mem_singleton.2 rfl)
 have hb:a.block < w.heap.size:=(hh.lt a.block (by simp [j5,Res.own])).1
 have hX:¬X a.block:=(hh.lt a.block (by simp [j5,Res.own])).2
 obtain ⟨w',hw'⟩:∃w',w'=sortWorldK enc k w a.block a.off n ys.toArray os:=⟨_,rfl⟩
 rw [←hw']
 have hheap:w'.heap=(w.heap.modify a.block (onCells (putCells id a.off (flatK enc k ys.toArray))))++os:=by rw [hw'];rfl
 have hos:zg5 w w':=by rw [hw'];exact ⟨⟨rfl,rfl⟩,rfl,Nat.le_add_right _ _⟩
 have hsize:w.heap.size≤w'.heap.size:=by rw [hheap];simp
 have hold:∀b,b < w.heap.size→b≠a.block→w'.heap[b]? =w.heap[b]? :=fun b hb hne=>by
  rw [hheap,Array.getElem?_append_left (by simpa using hb),Array.getElem?_modify,if_neg (Ne.symm hne)]
 have hnew:w'.heap[a.block]? =some (.cells (putCells id a.off (flatK enc k ys.toArray) c) T (0,0)):=by
  rw [hheap,Array.getElem?_append_left (by simpa using hb),Array.getElem?_modify,if_pos rfl,h5];rfl
 refine ⟨⟨by simp [j5,Res.own],fun b hb2=> ?_,fun b hb2=>Nat.lt_of_lt_of_le (hh.xlt b hb2) hsize,fun r hr=> ?_⟩,⟨hsize,fun b hb2 hne=> ?_,hos⟩⟩
 ·have:b=a.block:=by simpa [j5,Res.own] using hb2
  subst this;exact ⟨Nat.lt_of_lt_of_le hb hsize,hX⟩
 ·rw [List.mem_singleton] at hr
  subst hr
  refine ⟨h1,by simp [hl],h3,fun i hi=>by simp [zdq,hk],_,hnew,by simpa [putCells] using h6,fun i hi j hj=> ?_⟩
  have hi2:i < ys.length:=by simpa using hi
  have hj2:j < k:=by simpa [zdq,hk] using hj
  have hm1:(i+1) * k≤ys.length * k:=Nat.mul_le_mul_right k hi2
  have hm2:xs.length * k≤cap * k:=Nat.mul_le_mul_right k (by simpa using h3)
  rw [Nat.add_mul,Nat.one_mul] at hm1
  have hin:i * k+j < ys.length * k:=by omega
  have hc:a.off+i * k+j < c.size:=by rw [hl] at hin;omega
  have k0:0 < k:=by omega
  have ed:(i * k+j) / k=i:=by rw [Nat.mul_comm,Nat.mul_add_div k0,Nat.div_eq_of_lt hj2,Nat.add_zero]
  have em:(i * k+j) % k=j:=by rw [Nat.mul_comm,Nat.mul_add_mod,Nat.mod_eq_of_lt hj2]
  refine ⟨(enc ys[i])[j]'(by rw [hk];exact hj2),?_,?_⟩
  ·simp only [putCells,Array.getElem?_mapIdx]
   rw [Array.getElem?_eq_getElem hc]
   simp only [Option.map_some]
   rw [if_pos ⟨by omega,by simp;omega⟩]
   have e2:a.off+i * k+j - a.off=i * k+j:=by omega
   rw [e2]
   congr 1
   show (flatK enc k ys.toArray)[i * k+j]! =_
   rw [get_flatK _ _ _ _ (by simpa using hin),ed,em,getElem!_pos ys.toArray i (by simpa using hi2),getElem!_pos _ _ (by rw [hk];exact hj2)]
   simp
  ·simp only [List.getElem_map,zdq]
   exact .v _
 ·have hne2:b≠a.block:=by simpa using hne
  exact ⟨hold b hb2 hne2,hne⟩
theorem zl8 (L:SlLaysF0.n6 P ρ) (aE:∀w,(isAgg (ρ.t 24)).run P w= .ok true w) (zE:∀w,(Go.sizeOf (ρ.t 24)).run P w= .ok k w) (hk:∀x,(enc x).length=k) (h1:∀x,∀v∈enc x,v.oneCell'=true) (cf:α→α→Int) (hO:SWO (ltOf cf)) (g:FuncId) [Enters P g]
 (hp:∀x y,y8 P g [.agg (zdq enc x),.agg (zdq enc y)] [] (fun r h'=>h'= []∧r= .v (.int .i64 (cf x y)))) (s:SV) (T:TypeId) (xs:List α) (hs:xs.length < 4611686018427387904):
 y8 P (ρ.f 6) [.v s.v,.fn (.func g) [] []] [.row s.v k T (xs.map (zdq enc))] (fun r h'=>∃ys:List α,ys.Perm xs∧(∀i j (hi:i < j) (hj:j < ys.length),¬cf ys[j] (ys[i]'(by omega)) < 0)∧h'= [.row s.v k T (ys.map (zdq enc))]∧r= .v (.tuple #[])):=by
 intro X w vs hh ha
 match vs,ha with
 | [v,u],⟨hv,hu,_⟩=>
   obtain rfl:=hv.v_eq
   have hu':u= .func (.func g) #[] #[]:=by
    cases hu with
    |fn _ _ _ fa ca e1 e2 _ _=>rw [Array.eq_empty_of_size_eq_zero (xs:=fa) e1.symm,Array.eq_empty_of_size_eq_zero (xs:=ca) e2.symm]
   subst hu'
   obtain ⟨a,n,cap⟩:=s
   cases a with
   |none=>
    obtain ⟨g1,rfl,rfl⟩:=hh.holds _ (List.mem_singleton.2 rfl)
    obtain rfl:xs= []:=by simpa using g1
    refine callsIn_wide.2 ((AnyF.slices_SortFunc_none L none 0 _ w).mono ?_)
    rintro e w' ⟨rfl,rfl⟩
    exact ⟨_,_,_,rfl,⟨[],.refl _,fun i j hi hj=>by simp at hj,rfl,rfl⟩,.v _,hh,.refl _ _⟩
   |some a=>
    have hn:n=xs.length:=by
     have:=(hh.holds _ (List.mem_singleton.2 rfl)).2.1
     simpa using this
    subst hn
    obtain ⟨g1,g2,g3⟩:=rowK_holds hk hh
    obtain ⟨b,off,sp⟩:=a
    simp only at g1 g2 g3
    subst g3
    refine callsIn_wide.2 ((AnyQ.slices_SortFunc L k aE zE enc hk h1 cf hO g #[] b off cap xs.toArray w (fun args w=>zfv args w) (ycf hp b off _ w) g1 g2 (by simpa using hs)).mono ?_)
    rintro e w' ⟨rfl,d',n,os,⟨p1,_,p3⟩,p4,rfl⟩
    have hl:d'.toList.length=xs.length:=by simpa using p1
    have hperm:d'.toList.Perm xs:=by
     have q1:(d'.extract 0 xs.toArray.size)=d':=by rw [←p1];simp
     have q2:(xs.toArray.extract 0 xs.toArray.size)=xs.toArray:=by simp
     rw [q1,q2] at p3;simpa using p3
    obtain ⟨k1,k2⟩:=zwp (ys:=d'.toList) hk hh hl n os
    refine ⟨_,_,_,rfl,⟨d'.toList,hperm,fun i j hi hj=> ?_,rfl,rfl⟩,.v _,k1,k2⟩
    have hj':j < d'.size:=by simpa using hj
    have:=p4 i j (Nat.zero_le _) hi (by rw [←p1];exact hj')
    rw [getElem!_pos d' j hj',getElem!_pos d' i (by omega)] at this
    simpa [ltOf] using this
end
end Go.Ab
namespace Go.Proofs
open Go Go.Ab Go.Shelf
def yah:Go.Shelf.Ren:=⟨fun|6=>156|14=>213|15=>137|20=>248|21=>249|22=>250|23=>251|24=>252|25=>253|26=>254|27=>255|28=>184|29=>185|46=>273|47=>220|48=>221|49=>274|50=>275|57=>283|n=>n,fun|0=>0|3=>3|4=>4|5=>5|9=>9|22=>35|24=>41|25=>64|39=>180|45=>218|46=>219|50=>67|53=>225|55=>227|66=>265|70=>185|76=>288|77=>289|n=>n,fun n=>n⟩
theorem zv7:SlLaysF0.n6 Tryz.prog yah:={
 mixed:=by kernel_rfl
 f6:=⟨ "slices.SortFunc[[]yardarm/api.Conflict,yardarm/api.Conflict]",by decide,Tryz.func156.trans (congrArg some (by kernel_rfl))⟩
 f14:=⟨ "slices.pdqsortCmpFunc[yardarm/api.Conflict]",by decide,Tryz.func213.trans (congrArg some (by kernel_rfl))⟩
 f15:=Tryz.func137.trans (congrArg some (by kernel_rfl))
 f20:=⟨ "slices.insertionSortCmpFunc[yardarm/api.Conflict]",by decide,Tryz.func248.trans (congrArg some (by kernel_rfl))⟩
 f21:=⟨ "slices.heapSortCmpFunc[yardarm/api.Conflict]",by decide,Tryz.func249.trans (congrArg some (by kernel_rfl))⟩
 f22:=⟨ "slices.breakPatternsCmpFunc[yardarm/api.Conflict]",by decide,Tryz.func250.trans (congrArg some (by kernel_rfl))⟩
 f23:=⟨ "slices.choosePivotCmpFunc[yardarm/api.Conflict]",by decide,Tryz.func251.trans (congrArg some (by kernel_rfl))⟩
 f24:=⟨ "slices.reverseRangeCmpFunc[yardarm/api.Conflict]",by decide,Tryz.func252.trans (congrArg some (by kernel_rfl))⟩
 f25:=⟨ "slices.partialInsertionSortCmpFunc[yardarm/api.Conflict]",by decide,Tryz.func253.trans (congrArg some (by kernel_rfl))⟩
 f26:=⟨ "slices.partitionEqualCmpFunc[yardarm/api.Conflict]",by decide,Tryz.func254.trans (congrArg some (by kernel_rfl))⟩
 f27:=⟨ "slices.partitionCmpFunc[yardarm/api.Conflict]",by decide,Tryz.func255.trans (congrArg some (by kernel_rfl))⟩
 f28:=Tryz.func184.trans (congrArg some (by kernel_rfl))
 f29:=Tryz.func185.trans (congrArg some (by kernel_rfl))
 f46:=⟨ "slices.siftDownCmpFunc[yardarm/api.Conflict]",by decide,Tryz.func273.trans (congrArg some (by kernel_rfl))⟩
 f47:=Tryz.func220.trans (congrArg some (by kernel_rfl))
 f48:=Tryz.func221.trans (congrArg some (by kernel_rfl))
 f49:=⟨ "slices.medianAdjacentCmpFunc[yardarm/api.Conflict]",by decide,Tryz.func274.trans (congrArg some (by kernel_rfl))⟩
 f50:=⟨ "slices.medianCmpFunc[yardarm/api.Conflict]",by decide,Tryz.func275.trans (congrArg some (by kernel_rfl))⟩
 f57:=⟨ "slices.order2CmpFunc[yardarm/api.Conflict]",by decide,Tryz.func283.trans (congrArg some (by kernel_rfl))⟩
 t0:=Tryz.underlying0
 a0:=Tryz.isAgg0
 z0:=Tryz.sizeOf0
 v0:=Tryz.zeroValue0
 t3:=Tryz.underlying3
 a3:=Tryz.isAgg3
 z3:=Tryz.sizeOf3
 v3:=Tryz.zeroValue3
 t4:=Tryz.underlying4
 a4:=Tryz.isAgg4
 z4:=Tryz.sizeOf4
 v4:=Tryz.zeroValue4
 t5:=Tryz.underlying5
 a5:=Tryz.isAgg5
 z5:=Tryz.sizeOf5
 v5:=Tryz.zeroValue5
 t9:=Tryz.underlying9
 a9:=Tryz.isAgg9
 z9:=Tryz.sizeOf9
 v9:=Tryz.zeroValue9
 t22:=Tryz.underlying35
 a22:=Tryz.isAgg35
 z22:=Tryz.sizeOf35
 v22:=Tryz.zeroValue35
 t25:=Tryz.underlying64
 a25:=Tryz.isAgg64
 z25:=Tryz.sizeOf64
 v25:=Tryz.zeroValue64
 t39:=Tryz.underlying180
 a39:=Tryz.isAgg180
 z39:=Tryz.sizeOf180
 v39:=Tryz.zeroValue180
 t45:=Tryz.underlying218
 a45:=Tryz.isAgg218
 z45:=Tryz.sizeOf218
 v45:=Tryz.zeroValue218
 t46:=Tryz.underlying219
 a46:=Tryz.isAgg219
 z46:=Tryz.sizeOf219
 v46:=Tryz.zeroValue219
 t50:=Tryz.underlying67
 a50:=Tryz.isAgg67
 z50:=Tryz.sizeOf67
 v50:=Tryz.zeroValue67
 t53:=Tryz.underlying225
 a53:=Tryz.isAgg225
 z53:=Tryz.sizeOf225
 v53:=Tryz.zeroValue225
 t55:=Tryz.underlying227
 a55:=Tryz.isAgg227
 z55:=Tryz.sizeOf227
 v55:=Tryz.zeroValue227
 t66:=Tryz.underlying265
 a66:=Tryz.isAgg265
 z66:=Tryz.sizeOf265
 v66:=Tryz.zeroValue265
 t70:=Tryz.underlying185
 a70:=Tryz.isAgg185
 z70:=Tryz.sizeOf185
 v70:=Tryz.zeroValue185
 t76:=Tryz.underlying288
 a76:=Tryz.isAgg288
 z76:=Tryz.sizeOf288
 v76:=Tryz.zeroValue288
 t77:=Tryz.underlying289
 a77:=Tryz.isAgg289
 z77:=Tryz.sizeOf289
 v77:=Tryz.zeroValue289}
set_option maxRecDepth 10000
attribute [local irreducible] QR QV OE zb8 aw zch zcv za4 zbx thn zeg zdc jch zef
open Go.H
def orL:List Int→Int
 | []=>0
 |a::l=>if a≠0 then a else orL l
theorem yfy (a b:Conf):orL [zob a.f b.f,zob a.t b.t,zob a.a b.a,zob a.b b.b,zob a.o b.o,zob a.p b.p]=zm9 a b:=by
 rw [zm9]
 simp only [zyt,orL,ite_not]
 rfl
theorem yjh {l:List Int} {k:Nat} (hk:k < l.length) (h:l[k]≠0):orL (l.drop k)=l[k]:=by
 rw [List.drop_eq_getElem_cons hk,orL,if_pos h]
theorem ymk {l:List Int} {k:Nat} (hk:k < l.length) (h:l[k]=0):orL (l.drop k)=orL (l.drop (k+1)):=by
 rw [List.drop_eq_getElem_cons hk,orL,if_neg (by simpa using h)]
theorem yfx {l:List Int} {k:Nat} (hk:k=l.length):orL (l.drop k)=0:=by rw [hk,List.drop_length];rfl
theorem zgd (a b:Conf):zm9 b a= - zm9 a b:=zll _ _
theorem zi5 {a b c:Conf} (h:zm9 a b≤0) (k:zm9 b c≤0):zm9 a c≤0:=zgo _ _ _ h k
theorem yne {f:Bool} (l:List Int) (hl:l.length≤4611686018427387904):y8 Tryz.prog 212 [.list f 1 (l.map za9)] [] (fun r h'=>h'= []∧r=iv (orL l)):=by
 refine z6 Tryz.func212 rfl rfl rfl ?_
 refine rn ?_;refine yd3 (l.length) (fun k:Nat=>orL l=orL (l.drop k)) (fun k=> [(8,iv k)]) [(3,_),(6,_),(7,_)] rfl ?_
 intro k lk zk
 refine rn ?_;refine y0 rfl (fun hc9=> ?_) (fun hc9=> ?_)
 ·have hk:=zdb hc9
  have rk:=zbs (f:=za9) hk
  refine rn ?_;refine y0 rfl (fun hc14=> ?_) (fun hc14=> ?_)
  ·refine rn ?_;refine rq 0 ?_
   exact ⟨rfl,congrArg iv (by rw [zk,yjh hk (by simpa using hc14)])⟩
  ·refine rn ?_;exact ⟨hk,by rw [zk,ymk hk (by simpa using hc14)],eA⟩
 ·have qk:=zdd hc9 lk
  refine rn ?_;refine rq 0 ?_
  exact ⟨rfl,congrArg iv (by rw [zk,yfx qk])⟩
theorem zol (a b:Conf):y8 Tryz.prog 155 [.agg (zan a),.agg (zan b)] [] (fun r h'=>h'= []∧r=iv (zm9 a b)):=by
 refine z6 Tryz.func155 rfl rfl rfl ?_
 refine rn ?_;refine z7 rfl (w7 rfl rfl rfl fun b2=> ?_)
 refine z7 rfl (w7 rfl rfl rfl fun b3=> ?_)
 refine rn ?_;refine j3 29 rfl ?_
 refine rn ?_;refine dv rfl rfl (by exact y4 rfl rfl (zat (zna _ _) (Sbs.refl _))) ?_
 refine rn ?_;refine dv rfl rfl (by exact y4 rfl rfl (zat (zna _ _) (Sbs.refl _))) ?_
 refine rn ?_;refine dv rfl rfl (by exact y4 rfl rfl (zat (zna _ _) (Sbs.refl _))) ?_
 refine rn ?_;refine dv rfl rfl (by exact y4 rfl rfl (zat (zna _ _) (Sbs.refl _))) ?_
 refine rn ?_;refine dv rfl rfl (by exact y4 rfl rfl (zat (zna _ _) (Sbs.refl _))) ?_
 refine rn ?_;refine qv rfl rfl (y4 rfl rfl (zat (zna _ _) (Sbs.refl _))) ?_
 refine qv rfl rfl (w8 rfl rfl) ?_
 refine qv rfl rfl (y4 rfl rfl (zat (yne [zob a.f b.f,zob a.t b.t,zob a.a b.a,zob a.b b.b,zob a.o b.o,zob a.p b.p] (by simp only [List.length_cons,List.length_nil];omega)) (Sbs.refl _))) ?_
 refine rn ?_;refine rq 2 ?_
 exact ⟨rfl,congrArg iv (yfy a b)⟩
theorem yn9:Go.Sort.SWO (ltOf zm9):=⟨fun x=>decide_eq_false (by rw [zm9,zlk];decide),fun x y z h k=>decide_eq_true (by
 have h:=oT h;have k:=oT k
 rcases Int.lt_or_eq_of_le (zi5 (Int.le_of_lt h) (Int.le_of_lt k)) with q|q
 ·exact q
 ·have h2:=zi5 (a:=z) (b:=x) (c:=y) (by rw [zgd];omega) (Int.le_of_lt h)
  rw [zgd] at h2;omega),fun x y z h k=>decide_eq_false (by
 have h:=oF h;have k:=oF k
 rw [zgd] at h k
 have:=zi5 (a:=z) (b:=y) (c:=x) (by omega) (by omega)
 rw [zgd] at this;omega)⟩
def zrz (c:Conf):List Value:= [.int .i64 c.f,.int .i64 c.t,.int .i64 c.k,.int .i64 c.a,.int .i64 c.b,.int .i64 c.o,.int .i64 c.p]
instance:Inhabited Conf:=⟨cfz⟩
theorem zry (c:Conf):∀v∈zrz c,v.oneCell'=true:=by
 intro v hv;simp only [zrz,List.mem_cons,List.not_mem_nil,or_false] at hv
 rcases hv with rfl|rfl|rfl|rfl|rfl|rfl|rfl <;> rfl
theorem ykz {l:List Conf} (hk:zvi l) {pre rest:List Conf} {d:Conf} (hL:l=pre++d::rest) {z:Conf} (hz:zap (d.f,d.t) (za1 pre)=some z):zm9 d z=zgt d z:=by
 have:=ztu pre (d.f,d.t)
 rw [hz] at this
 exact zlj (hk d (by rw [hL];simp) z (by rw [hL];exact List.mem_append_left _ this.2.1))
theorem zod {l:List Conf} (hk:zvi l) {pre rest:List Conf} {d:Conf} (hL:l=pre++d::rest) (h:(!(zap (d.f,d.t) (za1 pre)).isSome)=true∨decide (zm9 d ((zap (d.f,d.t) (za1 pre)).getD cfz) < 0)=true):zeh (za1 pre) d=zcq (d.f,d.t) d (za1 pre):=by
 cases hz:zap (d.f,d.t) (za1 pre) with
 |none=>exact yd2 (.inl (by rw [hz];rfl))
 |some z=>
  rw [hz] at h
  refine yd2 (.inr (by rw [hz,Option.getD_some,←ykz hk hL hz];exact h.resolve_left (by simp)))
theorem yhf {l:List Conf} (hk:zvi l) {pre rest:List Conf} {d:Conf} (hL:l=pre++d::rest) (h1:(!(zap (d.f,d.t) (za1 pre)).isSome)=false) (h2:decide (zm9 d ((zap (d.f,d.t) (za1 pre)).getD cfz) < 0)=false):zeh (za1 pre) d=za1 pre:=by
 cases hz:zap (d.f,d.t) (za1 pre) with
 |none=>rw [hz] at h1;cases h1
 |some z=>exact yky h1 (by rw [hz,Option.getD_some,←ykz hk hL hz];rw [hz] at h2;exact h2)
theorem zy3 (m:List ((Int×Int)×Conf)) (c:Conf):(zeh m c).length≤m.length+1:=by
 have hp:(zcq (zjr c) c m).length≤m.length+1:=by rw [zq7];split <;> omega
 unfold zeh;split
 ·exact hp
 ·split
  ·exact hp
  ·omega
theorem ztv:∀(l:List Conf) (m:List ((Int×Int)×Conf)),(l.foldl zeh m).length≤m.length+l.length
 | [],_=>Nat.le_refl _
 |c::l,m=>by
  have h1:=ztv l (zeh m c)
  have h2:=zy3 m c
  rw [List.foldl_cons,List.length_cons];omega
theorem zp8 (l:List Conf):(za1 l).length≤l.length:=by
 have h1:=ztv l []
 rw [List.length_nil,Nat.zero_add] at h1;exact h1
theorem zxu {l:List Conf} (hk:zvi l) {sn:List Nat} (hn:sn.Nodup) (hl:∀i∈sn,i < (za1 l).length) (ha:∀i,i < (za1 l).length→i∈sn) {ys:List Conf} (hp:ys.Perm (zzq (za1 l) sn)) (hs:ys.Pairwise fun a b=>zm9 a b≤0):ys=zbv l:=
 zuv hk (hp.trans (zxb hn hl ha)) hs
theorem zkm {h:Hist} {F:Ev→Nat→List Conf} {c:Nat} (hF:∀j (hj:j < h.evs.length),(F h.evs[j] j).length≤c):∀n,n≤h.evs.length→(j9 h F n).length≤n * c
 |0,_=>by simp [j9]
 |n+1,hn=>by
  have h1:=zkm hF n (by omega)
  have h2:=hF n (by omega)
  rw [j9,List.getElem?_eq_getElem (by omega),List.length_append,Nat.succ_mul]
  simp only
  split
  ·omega
  ·simp only [List.length_nil];omega
theorem zt9 (h:Hist) (e:Ev) (a:Nat):(zbe h e a).length≤1:=by
 rw [zbe];split
 ·split
  ·simp
  ·split <;> simp
 ·simp
theorem zt8 {h:Hist} (hc:q6 h=0) (e:Ev) (a:Nat):(zcz h e a).length≤3000 * 4000:=by
 rw [zcz];split
 ·refine Nat.le_trans (zi0 _ 4000 _ fun s hs=> ?_) (Nat.mul_le_mul_right _ (by rw [zkv];exact (zdk hc).os))
  rw [zao];split
  ·exact Nat.zero_le _
  ·exact Nat.le_trans (List.length_filterMap_le _ _) (Nat.le_trans (List.takeWhile_sublist _).length_le (ztt hc _ _))
 ·exact Nat.zero_le _
theorem zph {h:Hist} (hc:q6 h=0):(j9 h (zbe h) h.evs.length).length≤36000000000:=by
 have h1:=zkm (fun j hj=>zt9 h h.evs[j] j) _ (Nat.le_refl _)
 have:=(zdk hc).evs
 omega
theorem zwj {h:Hist} (hc:q6 h=0):(j9 h (zcz h) h.evs.length).length≤36000000000:=by
 have h1:=zkm (fun j hj=>zt8 hc h.evs[j] j) _ (Nat.le_refl _)
 have:=(zdk hc).evs
 omega
theorem zv8 (s:SV) (xs:List Conf) (hs:xs.length < 4611686018427387904):y8 Tryz.prog 156 [.v s.v,.fn (.func 155) [] []] [.row s.v 7 41 (xs.map zan)] (fun r h'=>∃ys:List Conf,ys.Perm xs∧ys.Pairwise (fun a b=>zm9 a b≤0)∧h'= [.row s.v 7 41 (ys.map zan)]∧r= .v (.tuple #[])):=
 (zl8 zv7 (k:=7) (enc:=zrz) Tryz.isAgg41 Tryz.sizeOf41 (fun _=>rfl) zry zm9 yn9 155 (fun x y=>zol x y) s 41 xs hs).mono (by
  rintro _ _ ⟨ys,hp,hq,rfl,rfl⟩
  refine ⟨ys,hp,List.pairwise_iff_getElem.2 fun i j hi hj hij=> ?_,rfl,rfl⟩
  have:=hq i j hij hj
  rw [zgd] at this;omega)
theorem zsi (h:Hist) (la:Lim 4611686018427387904 h) (ee g:Nat) [Go.Ab.Enters Tryz.prog g] (F:Ev→Nat→List Conf) (bl rd rf rk rg:Nat) (hT:zzi h (.fn (.func ee) [pZ bl] []) g F bl rd rf rk rg) (bL bE:Nat) (hk:zvi (j9 h F h.evs.length)) (hLn:(j9 h F h.evs.length).length≤36000000000):y8 Tryz.prog 112 [.fn (.func 157) [] [pZ bL,pZ bE]] (.box bE 95 [(.fn (.func ee) [pZ bl] [])]:: .box bL 147 [pZ bl]:: .box bl 202 (wrP h rd rf rk rg)::rgR rg []::rkS h rk::zcx h rf::rcR h rd:: .glob 2 156 y2:: .glob 4 305 y3:: .glob 5 308 z8:: .glob 3 246 w6:: []) (fun r h'=>∃(s:SV) (M:List ((Int×Int)×List Int)),h'= .row s.v 7 41 ((zbv (j9 h F h.evs.length)).map zan):: .box bE 95 [(.fn (.func ee) [pZ bl] [])]:: .box bL 147 [pZ bl]:: .box bl 202 (wrP h rd rf rk rg)::rgR rg M::rkS h rk::zcx h rf::rcR h rd:: .glob 2 156 y2:: .glob 4 305 y3:: .glob 5 308 z8:: .glob 3 246 w6:: []∧r= .v s.v):=by
 refine z6 Tryz.func112 rfl rfl rfl ?_
 refine rn ?_;refine z7 rfl (zab (enc:=zag) rfl fun bm=> ?_)
 refine z7 rfl (y7 rfl fun b3=> ?_)
 refine rn ?_;refine zfl (s':=⟨[(12,.fn (.func 157) [] [pZ bL,pZ bE]),(3,pZ b3)],.box b3 166 [mpv bm]:: .map bm (j8 zag (zar gC (za1 []))):: .box bE 95 [(.fn (.func ee) [pZ bl] [])]:: .box bL 147 [pZ bl]:: .box bl 202 (wrP h rd rf rk rg)::rgR rg []::rkS h rk::zcx h rf::rcR h rd:: .glob 2 156 y2:: .glob 4 305 y3:: .glob 5 308 z8:: .glob 3 246 w6:: [],[]⟩) es ?_
 refine zjt (fun pend h''=>pend=none∧∃M,h''= .box bE 95 [(.fn (.func ee) [pZ bl] [])]:: .box bL 147 [pZ bl]:: .box bl 202 (wrP h rd rf rk rg)::rgR rg M::rkS h rk::zcx h rf::rcR h rd:: .glob 2 156 y2:: .glob 4 305 y3:: .glob 5 308 z8:: .glob 3 246 w6:: .map bm (j8 zag (zar gC (za1 (j9 h F h.evs.length)))):: .box b3 166 [mpv bm]:: []) rfl (fun fn l q lp hlp=> ?_) (fun q h'' hK=> ?_) (fun q h'' c hK=> ?_)
 ·suffices hy:∀pre d rest (x:Unit) M,(j9 h F h.evs.length)=pre++d::rest→True→zek h M→y1 Tryz.prog (yv l) [.agg (zan d)] (.box bE 95 [(.fn (.func ee) [pZ bl] [])]:: .box bL 147 [pZ bl]:: .box bl 202 (wrP h rd rf rk rg)::rgR rg M::rkS h rk::zcx h rf::rcR h rd:: .glob 2 156 y2:: .glob 4 305 y3:: .glob 5 308 z8:: .glob 3 246 w6::lp .ready none:: .defs q:: .map bm (j8 zag (zar gC (za1 pre))):: .box b3 166 [mpv bm]:: []) (fun r h'=>∃x':Unit,(r=bv true∧True∧h'= .box bE 95 [(.fn (.func ee) [pZ bl] [])]:: .box bL 147 [pZ bl]:: .box bl 202 (wrP h rd rf rk rg)::rgR rg M::rkS h rk::zcx h rf::rcR h rd:: .glob 2 156 y2:: .glob 4 305 y3:: .glob 5 308 z8:: .glob 3 246 w6::lp .ready none:: .defs q:: .map bm (j8 zag (zar gC (za1 (pre++ [d])))):: .box b3 166 [mpv bm]:: [])∨(r=bv false∧False∧h'= .box bE 95 [(.fn (.func ee) [pZ bl] [])]:: .box bL 147 [pZ bl]:: .box bl 202 (wrP h rd rf rk rg)::rgR rg M::rkS h rk::zcx h rf::rcR h rd:: .glob 2 156 y2:: .glob 4 305 y3:: .glob 5 308 z8:: .glob 3 246 w6:: [])) by
   refine y8.mono (y8.perm ((pt4 _ _ _ _ _ _).trans (.cons _ ((pt4 _ _ _ _ _ _).trans (.cons _ ((pt4 _ _ _ _ _ _).trans (.cons _ ((pt4 _ _ _ _ _ _).trans (.cons _ ((pt4 _ _ _ _ _ _).trans (.cons _ ((pt4 _ _ _ _ _ _).trans (.cons _ ((pt4 _ _ _ _ _ _).trans (.cons _ ((pt4 _ _ _ _ _ _).trans (.cons _ ((pt4 _ _ _ _ _ _).trans (.cons _ ((pt4 _ _ _ _ _ _).trans (.cons _ ((pt4 _ _ _ _ _ _).trans (.cons _ (.cons _ (.cons _ (pt1 _ _ _))))))))))))))))))))))))) (yc0 h la ee g F bl rd rf rk rg hT (yv l) rfl bL bE [] (zkg h) (fun _ (_:Unit)=>True) (fun _=>False) (fun pre _=>lp .ready none:: .defs q:: .map bm (j8 zag (zar gC (za1 pre))):: .box b3 166 [mpv bm]:: []) (fun _=> []) () trivial hy)) ?_
   rintro _ _ ⟨x,M,hM,⟨-,rfl⟩|⟨hF,_⟩⟩
   ·exact ⟨none,.ready,_,((zs2 _ _ _ _ _ _ _ _ _ _ _ _ _).trans (.cons _ (zs2 _ _ _ _ _ _ _ _ _ _ _ _ _))),by simp,rfl,M,rfl⟩
   ·exact hF.elim
  intro pre d rest x M hL _ hM
  refine y1.perm (zs2 _ _ _ _ _ _ _ _ _ _ _ _ _) (y1.ventE ?_)
  refine zcl hlp rfl rfl ?_
  refine rn ?_;refine z7 rfl (y7 rfl fun b4=> ?_)
  refine rn ?_;refine ⟨[(4,pZ b4),(3,pZ b3)],.box b4 41 (zan d):: .box bE 95 [(.fn (.func ee) [pZ bl] [])]:: .box bL 147 [pZ bl]:: .box bl 202 (wrP h rd rf rk rg)::rgR rg M::rkS h rk::zcx h rf::rcR h rd:: .glob 2 156 y2:: .glob 4 305 y3:: .glob 5 308 z8:: .glob 3 246 w6:: .defs q:: .map bm (j8 zag (zar gC (za1 pre))):: .box b3 166 [mpv bm]:: [],v6 (zau (pt1 _ _ _)) es,?_⟩
  refine zc9 ?_;refine w9 (y6 ?_)
  refine q1 ?_;refine q1 ?_;refine q1 ?_;refine q1 ?_;refine qq rfl rfl (za7 (out:= [iv d.f,iv d.t]) rfl (by rfl)) ?_
  refine z7 rfl (y7 rfl fun b5=> ?_)
  first|refine z7 rfl (u7 rfl rfl rfl ?_)|refine z7 rfl (zad rfl rfl rfl rfl (Nat.le_of_ble_eq_true rfl) ?_)
  refine u4 (zai ?_)
  refine w9 (y6 ?_)
  refine q1 ?_;refine q1 ?_;refine qq rfl rfl (zd8 (g:=gC) (enc:=zag) (k:=(d.f,d.t)) cfz rfl rfl rfl) ?_
  refine rn ?_;refine z7 rfl (y7 rfl fun b6=> ?_)
  refine rn ?_;refine v8 (fun hg6_2=> ?_) (fun hg6_2=> ?_)
  ·refine rn ?_;refine zr8 rfl ?_;have hb:zeh (za1 pre) d=zcq (d.f,d.t) d (za1 pre):=by first|exact zod hk hL (.inl hg6_2)|exact zod hk hL (.inr hc32)
   refine rn ?_;refine z7 rfl (j7 (g:=gC) (enc:=zag) (k:=(d.f,d.t)) (v:=d) rfl rfl rfl ?_)
   refine rn ?_;exact zce (pt2 _ _ _ _) ⟨_,_,.trans (.perm ((pt1 _ _ _).trans (.cons _ ((pt1 _ _ _).trans (.cons _ ((pt1 _ _ _).trans (.cons _ ((pt1 _ _ _).trans (.cons _ ((pt1 _ _ _).trans (.cons _ ((pt1 _ _ _).trans (.cons _ ((pt1 _ _ _).trans (.cons _ ((pt1 _ _ _).trans (.cons _ ((pt1 _ _ _).trans (.cons _ ((pt1 _ _ _).trans (.cons _ ((pt1 _ _ _).trans (.cons _ ((pt1 _ _ _).trans (.cons _ ((pt1 _ _ _).trans (.cons _ (pt1 _ _ _))))))))))))))))))))))))))) _) (.drop [_,_,_] _ _),(),.inl ⟨rfl,trivial,by rw [zr7,hb]⟩⟩
  ·refine rn ?_;refine qv rfl rfl (y4 rfl rfl (zat (zol _ _) (Sbs.refl _))) ?_
   refine rn ?_;refine y0 rfl (fun hc32=> ?_) (fun hc32=> ?_)
   ·have hb:zeh (za1 pre) d=zcq (d.f,d.t) d (za1 pre):=by first|exact zod hk hL (.inl hg6_2)|exact zod hk hL (.inr hc32)
    refine rn ?_;refine z7 rfl (j7 (g:=gC) (enc:=zag) (k:=(d.f,d.t)) (v:=d) rfl rfl rfl ?_)
    refine rn ?_;exact zce (pt2 _ _ _ _) ⟨_,_,.trans (.perm ((pt1 _ _ _).trans (.cons _ ((pt1 _ _ _).trans (.cons _ ((pt1 _ _ _).trans (.cons _ ((pt1 _ _ _).trans (.cons _ ((pt1 _ _ _).trans (.cons _ ((pt1 _ _ _).trans (.cons _ ((pt1 _ _ _).trans (.cons _ ((pt1 _ _ _).trans (.cons _ ((pt1 _ _ _).trans (.cons _ ((pt1 _ _ _).trans (.cons _ ((pt1 _ _ _).trans (.cons _ ((pt1 _ _ _).trans (.cons _ ((pt1 _ _ _).trans (.cons _ (pt1 _ _ _))))))))))))))))))))))))))) _) (.drop [_,_,_] _ _),(),.inl ⟨rfl,trivial,by rw [zr7,hb]⟩⟩
   ·have hb:zeh (za1 pre) d=(za1 pre):=yhf hk hL hg6_2 hc32
    refine rn ?_;exact zce (pt2 _ _ _ _) ⟨_,_,.trans (.perm ((pt1 _ _ _).trans (.cons _ ((pt1 _ _ _).trans (.cons _ ((pt1 _ _ _).trans (.cons _ ((pt1 _ _ _).trans (.cons _ ((pt1 _ _ _).trans (.cons _ ((pt1 _ _ _).trans (.cons _ ((pt1 _ _ _).trans (.cons _ ((pt1 _ _ _).trans (.cons _ ((pt1 _ _ _).trans (.cons _ ((pt1 _ _ _).trans (.cons _ ((pt1 _ _ _).trans (.cons _ ((pt1 _ _ _).trans (.cons _ ((pt1 _ _ _).trans (.cons _ (pt1 _ _ _))))))))))))))))))))))))))) _) (.drop [_,_,_] _ _),(),.inl ⟨rfl,trivial,by rw [zr7,hb]⟩⟩
 ·obtain ⟨_,M',rfl⟩:=hK
  have hbl:=Nat.le_trans (zp8 (j9 h F h.evs.length)) hLn
  refine zrr ?_;refine zai ?_;refine w9 (y6 ?_)
  refine q1 ?_;refine u4 (zai ?_)
  refine w9 ?_;refine w9 (y6 ?_)
  refine q1 ?_;refine zif (zau ((ymh _ _ _ _ _ _ _ _ _ _ _ _ _ _).trans (.cons _ ((ymh _ _ _ _ _ _ _ _ _ _ _ _ _ _).trans (.cons _ ((pt1 _ _ _).trans (.cons _ ((pt1 _ _ _).trans (.cons _ ((pt1 _ _ _).trans (.cons _ ((pt1 _ _ _).trans (.cons _ ((pt1 _ _ _).trans (.cons _ ((pt1 _ _ _).trans (.cons _ ((pt1 _ _ _).trans (.cons _ ((pt1 _ _ _).trans (.cons _ ((pt1 _ _ _).trans (.cons _ ((pt1 _ _ _).trans (.cons _ (pt1 _ _ _)))))))))))))))))))))))))) ?_
  refine z7 rfl (zo9 rfl rfl fun b37=> ?_)
  refine rn ?_;refine zaa (fun x:List Nat×SV=>x.1.Nodup∧∀i∈x.1,i < (za1 (j9 h F h.evs.length)).length) (fun x=>⟨[(37,pZ b37),(8,.v x.2.v)],.mapr bm (j8 zag (zar gC (za1 (j9 h F h.evs.length)))) b37 x.1:: .row x.2.v 7 41 ((zzq (za1 (j9 h F h.evs.length)) x.1).map zan):: .box b3 166 [mpv bm]:: .box bE 95 [(.fn (.func ee) [pZ bl] [])]:: .box bL 147 [pZ bl]:: .box bl 202 (wrP h rd rf rk rg)::rgR rg M'::rkS h rk::zcx h rf::rcR h rd:: .glob 2 156 y2:: .glob 4 305 y3:: .glob 5 308 z8:: .glob 3 246 w6:: .defs q:: [],[q]⟩) (fun x=>(za1 (j9 h F h.evs.length)).length - x.1.length) ([],⟨none,0,0⟩) ⟨.nil,fun i hi=>(by cases hi)⟩ (v6 (zaz 7 41) (v6 (zau (pt1 _ _ _)) es)) ?_
  rintro ⟨sn,s⟩ ⟨hsn,hsl⟩
  simp only at hsn hsl
  refine w9 (y6 ?_)
  refine z7 rfl (zrd rfl rfl (fun hall=> ?_) (fun i hi hni=> ?_))
  ·refine rn ?_;refine y0 rfl (fun hc39=> ?_) (fun hc39=> ?_)
   ·first|cases hc39|exact absurd hc39 (by decide)|(exfalso;simp_all;done)
   ·refine rn ?_;have hsb:=znn hsn hsl
    refine rn ?_;refine z7 rfl (q7 rfl rfl (y1.perm (pt1 _ _ _) ((y1.of_fun (zv8 s (zzq (za1 (j9 h F h.evs.length)) sn) (by rw [zs5];omega))).frame _)) rfl ?_)
    rintro _ _ ⟨_,rfl,ys,hp,hys,rfl,rfl⟩
    refine rn ?_;exact zfy (yoo _ _ _ _ _ _ _ _ _ _ _ _ _ _ _ _) (.cons _ _ _ _ (.tmp _ _ rfl) .nil) (.trans (.perm ((pt1 _ _ _).trans (.cons _ (pt1 _ _ _))) _) (.drop [_,_] _ _)) ⟨s,M',by rw [zxu hk hsn hsl (fun i hi=>hall i (by simpa [j8,zar] using hi)) hp hys],rfl⟩
  ·refine rn ?_;refine y0 rfl (fun hc39=> ?_) (fun hc39=> ?_)
   ·refine zbz ?_;refine zai ?_;refine zc9 ?_;refine w9 (y6 ?_)
    have hi2:i < (za1 (j9 h F h.evs.length)).length:=by simpa [j8,zar] using hi
    refine qq rfl rfl (zw3 (k:=zag (za1 (j9 h F h.evs.length))[i].1) (a:=gC (za1 (j9 h F h.evs.length))[i].2) hi (by simp [j8,zar]) (by simp [j8,zar]) rfl) ?_
    refine rn ?_;refine z7 rfl (y7 rfl fun b10=> ?_)
    refine rn ?_;refine qv rfl rfl (w8 rfl rfl) ?_
    refine z7 rfl (j6 rfl rfl (by have:=znn hsn hsl;simp only [oM,zs5,List.length_cons,List.length_nil];omega) rfl (fun s45=> ?_) (ya8 [(za1 (j9 h F h.evs.length))[i].2]))
    refine zal s45 fun sv hsv=> ?_
    subst hsv
    refine rn ?_;have hnd:(i::sn).Nodup:=List.nodup_cons.2 ⟨hni,hsn⟩
    have hal:∀j∈i::sn,j < (za1 (j9 h F h.evs.length)).length:=fun j hj=>(List.mem_cons.1 hj).elim (fun q=>q ▸ hi2) (hsl j)
    have hlen:=znn hnd hal
    exact ⟨(i::sn,sv),⟨hnd,hal⟩,by simp only;rw [yje hi2,List.map_append];exact eA,by simp only [List.length_cons] at hlen ⊢;omega⟩
   ·first|cases hc39|exact absurd hc39 (by decide)|(exfalso;simp_all;done)
 ·obtain ⟨hc',_⟩:=hK
  exact absurd hc' (by simp)
theorem ask_c {h:Hist} {x n:Int} (hc:q6 h≠0):zfm h x n=q6 h:=by rw [zfm,if_neg hc]
theorem zyi {f g:Bool} (l m:List Conf) (hl:l.length≤4611686018427387904) (hm:m.length≤4611686018427387904):y8 Tryz.prog 19 [.list f 7 (l.map zan),.list g 7 (m.map zan)] [] (fun r h'=>h'= []∧r=bv (eqF zib l m)):=by
 refine z6 Tryz.func19 rfl rfl rfl ?_
 refine rn ?_;refine y0 rfl (fun hc10=> ?_) (fun hc10=> ?_)
 ·refine rn ?_;have hne:(l.length==m.length)=false:=beq_eq_false_iff_ne.2 fun q=>by simp [q] at hc10
  exact zak rfl (.refl _ _) ⟨rfl,by rw [eqF,hne,Bool.false_and];rfl⟩
 ·have hlm:l.length=m.length:=by simp at hc10;omega
  refine rn ?_;refine zaa (fun k:Nat=>k≤l.length∧zt1 zib l m=zt1 zib (l.drop k) (m.drop k)) (fun k=>⟨[(13,iv k),(0,.list f 7 (l.map zan)),(1,.list g 7 (m.map zan)),(12,iv (l.map zan).length)],[],[]⟩) (fun k=>l.length - k) 0 ⟨Nat.zero_le _,by simp⟩
   (v1 (.cons _ _ _ rfl (.cons _ _ _ rfl (.cons _ _ _ rfl (.cons _ _ _ rfl (.nil)))))) ?_
  rintro k ⟨hk,hz⟩
  refine rn ?_;refine y0 rfl (fun hc14=> ?_) (fun hc14=> ?_)
  ·have hk2:k < l.length:=by simpa using hc14
   have hk3:k < m.length:=by omega
   have hrow1:(l.map zan)[k]? =some (zan l[k]):=by simp [hk2]
   have hrow2:(m.map zan)[k]? =some (zan m[k]):=by simp [hk3]
   have hd1:=List.drop_eq_getElem_cons hk2
   have hd2:=List.drop_eq_getElem_cons hk3
   refine rn ?_;refine j3 8 rfl ?_
   refine rn ?_;refine y0 rfl (fun hc24=> ?_) (fun hc24=> ?_)
   ·refine rn ?_;exact zak rfl (.refl _ _) ⟨rfl,by rw [eqF,hz,hd1,hd2,zt1,show zib l[k] m[k]=false from ybb hc24,Bool.false_and,Bool.and_false];rfl⟩
   ·refine rn ?_;exact ⟨k+1,⟨by omega,by rw [hz,hd1,hd2,zt1,show zib l[k] m[k]=true from ybc hc24,Bool.true_and]⟩,(v1 (.cons _ _ _ rfl (.cons _ _ _ rfl (.cons _ _ _ rfl (.cons _ _ _ rfl (.nil)))))),by omega⟩
  ·have hk3:k=l.length:=by
    have:l.length≤k:=by simpa using hc14
    omega
   refine rn ?_;exact zak rfl (.refl _ _) ⟨rfl,by rw [eqF,hz,hk3,List.drop_length,zsb,hlm,beq_self_eq_true];rfl⟩
theorem ykq {f g:Bool} (l:List Conf) (hl:l.length≤4611686018427387904):y8 Tryz.prog 19 [.list f 7 (l.map zan),.list g 7 (l.map zan)] [] (fun r h'=>h'= []∧r=bv true):=(zyi l l hl hl).mono fun _ _ q=>⟨q.1,by rw [q.2,zyj zlf];simp⟩
def OvB (h:Hist) (n:Int):Prop:=∃a:Nat,n=(a:Int)∧∃ha:a < h.evs.length,zf7 h.evs h.evs[a].t 5=true∧(h.evs[a].kind=3∨h.evs[a].kind=4)
theorem ya6 {h:Hist} {n:Int} (q:n < 0):¬OvB h n:=fun ⟨a,e,_⟩=>by omega
theorem ya5 {h:Hist} {n:Int} (q:(h.evs.length:Int)≤n):¬OvB h n:=fun ⟨a,e,ha,_⟩=>by omega
theorem ya4 {h:Hist} {a:Nat} (ha:a < h.evs.length) (q:zf7 h.evs h.evs[a].t 5=false):¬OvB h (a:Int):=fun ⟨b,e,hb,q1,_⟩=>by
 have:b=a:=by omega
 subst this;rw [q] at q1;cases q1
theorem ya3 {h:Hist} {a:Nat} (ha:a < h.evs.length) (q3:h.evs[a].kind≠3) (q4:h.evs[a].kind≠4):¬OvB h (a:Int):=fun ⟨b,e,hb,_,q1⟩=>by
 have:b=a:=by omega
 subst this;exact q1.elim q3 q4
def ovB (h:Hist) (n:Int):Bool:=decide (0≤n) && match h.evs[n.toNat]? with
 |some e=>zf7 h.evs e.t 5 && (e.kind==3||e.kind==4)
 |none=>false
theorem zxa {h:Hist} {n:Int}:ovB h n=true ↔ OvB h n:=by
 rw [ovB,Bool.and_eq_true,decide_eq_true_iff]
 constructor
 ·rintro ⟨h2,h3⟩
  split at h3
  ·rename_i e he
   obtain ⟨hl,rfl⟩:=List.getElem?_eq_some_iff.1 he
   rw [Bool.and_eq_true,Bool.or_eq_true,beq_iff_eq,beq_iff_eq] at h3
   exact ⟨n.toNat,by omega,hl,h3.1,h3.2⟩
  ·cases h3
 ·rintro ⟨a,e,ha,hm,hk⟩
  refine ⟨by omega,?_⟩
  rw [show n.toNat=a by omega,List.getElem?_eq_getElem ha]
  simp only
  rw [hm,Bool.true_and,Bool.or_eq_true,beq_iff_eq,beq_iff_eq];exact hk
def ovC (h:Hist) (n:Int):Int:=if q6 h=0 then (if ovB h n=true then 0 else 2) else q6 h
def ovO (h:Hist) (n:Int):List Int:=if ovC h n=0 then (match h.evs[n.toNat]? with|some e=>yjd h e n.toNat|none=> []) else []
theorem ynt {h:Hist} {n:Int} (hc:q6 h≠0):ovC h n=q6 h∧ovO h n= []:=by
 have e:ovC h n=q6 h:=by rw [ovC,if_neg hc]
 exact ⟨e,by rw [ovO,e,if_neg hc]⟩
theorem ydf {h:Hist} {n:Int} (hc:q6 h=0) (hn:¬OvB h n):ovC h n=2∧ovO h n= []:=by
 have e:ovC h n=2:=by rw [ovC,if_pos hc,if_neg fun q=>hn (zxa.1 q)]
 exact ⟨e,by rw [ovO,e];rfl⟩
theorem ylj {h:Hist} {a:Nat} (hc:q6 h=0) (ha:a < h.evs.length) (hn:OvB h (a:Int)):ovC h (a:Int)=0∧ovO h (a:Int)=yjd h h.evs[a] a:=by
 have e:ovC h (a:Int)=0:=by rw [ovC,if_pos hc,if_pos (zxa.2 hn)]
 refine ⟨e,?_⟩
 rw [ovO,if_pos e,show ((a:Nat):Int).toNat=a from rfl,List.getElem?_eq_getElem ha]
theorem ynd {d c:Conf} (q:zib d c=true):d=c:=by rw [zlf] at q;exact oT q
theorem ync {d c:Conf} (q:zib d c=false):¬d=c:=by rw [zlf] at q;exact oF q
theorem ye7 (h:Hist) (la:Lim 4611686018427387904 h) (rO:Nat) (oK:Obj) (hK:KO oK) (n:Int):y8 Tryz.prog 35 [.agg (y9 h),iv n] (.glob 2 156 y2:: .glob 4 305 y3:: .glob 5 308 z8:: .glob 3 246 w6:: .glob 1 175 zb1:: .glob 0 171 [mpv rO]:: .obj rO oK:: []) (fun r h'=>∃s:SV,h'= .row s.v 1 3 ((ovO h n).map za9):: .glob 2 156 y2:: .glob 4 305 y3:: .glob 5 308 z8:: .glob 3 246 w6:: .glob 1 175 zb1:: .glob 0 171 [mpv rO]:: .obj rO oK:: []∧r= .tup [.v s.v,iv (ovC h n)]):=by
 refine z6 Tryz.func35 rfl rfl rfl ?_
 refine rn ?_;refine z7 rfl (w7 rfl rfl rfl fun b2=> ?_)
 refine q1 ?_;refine q1 ?_;refine u4 (zai ?_)
 refine w9 (y6 ?_)
 refine q1 ?_;refine z7 rfl (q7 rfl rfl (y1.fr1 (y1.of_fun (yl3 h la rO oK))) rfl ?_)
 rintro _ _ ⟨_,rfl,⟨hc,rc,rl,rk,rg,rfl,rfl⟩|⟨hc,rfl,rfl⟩⟩
 ·refine rn ?_;refine z7 rfl (y7 rfl fun b6=> ?_)
  refine rn ?_;refine y0 rfl (fun hc16=> ?_) (fun hc16=> ?_)
  ·first|cases hc16|exact absurd hc16 (by decide)|(exfalso;simp_all;done)
  ·refine rn ?_;refine j3 33 rfl ?_
   refine rn ?_;refine zcu (fun hg4_2=> ?_) (fun hg4_2=> ?_)
   ·refine rn ?_;refine y0 rfl (fun hc56=> ?_) (fun hc56=> ?_)
    ·first
     |have hn:=ya6 (h:=h) (oT hg4_2)
     |(have q:=oT hg4_9;rw [oM] at q;have hn:=ya5 (h:=h) q)
     |(have q:zf7 h.evs h.evs[a].t 5=false:=(by rw [←zeq];simpa using hg4_21);have hn:=ya4 ha q)
     |(have q3:h.evs[a].kind≠3:=(by simpa using hg4_29);have q4:h.evs[a].kind≠4:=(by simpa using hc56);have hn:=ya3 ha q3 q4)
     refine rn ?_;exact zbk rfl rfl (.trans (.drop [_,_,_,_,_,_] _ _) (zae 1 3 _)) ⟨⟨none,0,0⟩,by rw [(ydf hc hn).2];rfl,by rw [(ydf hc hn).1];rfl⟩
    ·first|cases hc56|exact absurd hc56 (by decide)|(exfalso;simp_all;done)
   ·refine rn ?_;refine zcu (fun hg4_9=> ?_) (fun hg4_9=> ?_)
    ·refine rn ?_;refine y0 rfl (fun hc56=> ?_) (fun hc56=> ?_)
     ·first
      |have hn:=ya6 (h:=h) (oT hg4_2)
      |(have q:=oT hg4_9;rw [oM] at q;have hn:=ya5 (h:=h) q)
      |(have q:zf7 h.evs h.evs[a].t 5=false:=(by rw [←zeq];simpa using hg4_21);have hn:=ya4 ha q)
      |(have q3:h.evs[a].kind≠3:=(by simpa using hg4_29);have q4:h.evs[a].kind≠4:=(by simpa using hc56);have hn:=ya3 ha q3 q4)
      refine rn ?_;exact zbk rfl rfl (.trans (.drop [_,_,_,_,_,_] _ _) (zae 1 3 _)) ⟨⟨none,0,0⟩,by rw [(ydf hc hn).2];rfl,by rw [(ydf hc hn).1];rfl⟩
     ·first|cases hc56|exact absurd hc56 (by decide)|(exfalso;simp_all;done)
    ·have h0:0≤n:=by have q:=oF hg4_2;omega
     have h1:n < h.evs.length:=by have q:=oF hg4_9;rw [oM] at q;omega
     obtain ⟨a,rfl⟩:∃a:Nat,n=(a:Int):=⟨n.toNat,by omega⟩
     have ha:a < h.evs.length:=by omega
     have ra:=zbs (f:=evR) ha
     refine dq rfl rfl qrA ?_;refine dq rfl rfl qrA ?_;refine dq rfl rfl qrA ?_;refine dq rfl rfl qrA ?_;refine dq rfl rfl qrA ?_;refine dq rfl rfl qrA ?_;refine dq rfl rfl qrA ?_;refine dq rfl rfl qrA ?_;refine dq rfl rfl (zay (enc:=intK) (k:=h.evs[a].t) false rfl rfl) ?_
     refine rn ?_;refine zcu (fun hg4_21=> ?_) (fun hg4_21=> ?_)
     ·refine rn ?_;refine y0 rfl (fun hc56=> ?_) (fun hc56=> ?_)
      ·first
       |have hn:=ya6 (h:=h) (oT hg4_2)
       |(have q:=oT hg4_9;rw [oM] at q;have hn:=ya5 (h:=h) q)
       |(have q:zf7 h.evs h.evs[a].t 5=false:=(by rw [←zeq];simpa using hg4_21);have hn:=ya4 ha q)
       |(have q3:h.evs[a].kind≠3:=(by simpa using hg4_29);have q4:h.evs[a].kind≠4:=(by simpa using hc56);have hn:=ya3 ha q3 q4)
       refine rn ?_;exact zbk rfl rfl (.trans (.drop [_,_,_,_,_,_] _ _) (zae 1 3 _)) ⟨⟨none,0,0⟩,by rw [(ydf hc hn).2];rfl,by rw [(ydf hc hn).1];rfl⟩
      ·first|cases hc56|exact absurd hc56 (by decide)|(exfalso;simp_all;done)
     ·refine rn ?_;refine zcu (fun hg4_29=> ?_) (fun hg4_29=> ?_)
      ·refine rn ?_;refine y0 rfl (fun hc56=> ?_) (fun hc56=> ?_)
       ·first
        |have hn:=ya6 (h:=h) (oT hg4_2)
        |(have q:=oT hg4_9;rw [oM] at q;have hn:=ya5 (h:=h) q)
        |(have q:zf7 h.evs h.evs[a].t 5=false:=(by rw [←zeq];simpa using hg4_21);have hn:=ya4 ha q)
        |(have q3:h.evs[a].kind≠3:=(by simpa using hg4_29);have q4:h.evs[a].kind≠4:=(by simpa using hc56);have hn:=ya3 ha q3 q4)
        refine rn ?_;exact zbk rfl rfl (.trans (.drop [_,_,_,_,_,_] _ _) (zae 1 3 _)) ⟨⟨none,0,0⟩,by rw [(ydf hc hn).2];rfl,by rw [(ydf hc hn).1];rfl⟩
       ·have hm:zf7 h.evs h.evs[a].t 5=true:=by rw [←zeq];simpa using hg4_21
        have hkd:h.evs[a].kind=3∨h.evs[a].kind=4:=by
         first
         |(have q:h.evs[a].kind=3:=(by simpa using hg4_29);exact .inl q)
         |(have q:h.evs[a].kind=4:=(by simpa using hc56);exact .inr q)
        have hn:OvB h (a:Int):=⟨a,rfl,ha,hm,hkd⟩
        have hfl:=ztg hc ha
        refine rn ?_;refine z7 rfl (y7 rfl fun b8=> ?_)
        refine rn ?_;refine z7 rfl (q7 rfl rfl (y1.of_fun (ydd h a rc rl rk rg _)) rfl ?_)
        rintro _ _ ⟨ba,bp,rfl,rfl⟩
        refine rn ?_;refine zfl (s':=⟨[(59,.fn (.func 134) [] [pZ bp,pZ ba]),(8,pZ b8)],.box ba 3 [iv (a:Nat)]:: .box bp 119 (rwP h rc rl rk rg):: .box b8 29 [.v (⟨none,0,0⟩:SV).v]:: .row (⟨none,0,0⟩:SV).v 1 3 ((([]:List Conf).map Conf.t).map za9):: .box b6 119 (rwP h rc rl rk rg):: .box b2 28 (y9 h)::rgR rg []::rkS h rk::zbr h rl::rcR h rc:: .glob 2 156 y2:: .glob 4 305 y3:: .glob 5 308 z8:: .glob 3 246 w6:: .glob 1 175 zb1:: .glob 0 171 [mpv rO]:: .obj rO oK:: [],[]⟩) (v6 (zaz 1 3) (v6 (zau ((pt1 _ _ _).trans (.cons _ ((pt1 _ _ _).trans (.cons _ (pt1 _ _ _)))))) es)) ?_
        refine zjt (fun pend h''=>pend=none∧∃(s:SV) (M:List ((Int×Int)×List Int)),h''= .box ba 3 [iv (a:Nat)]:: .box bp 119 (rwP h rc rl rk rg)::rgR rg M::rkS h rk::zbr h rl::rcR h rc:: .glob 2 156 y2:: .glob 4 305 y3:: .glob 5 308 z8:: .glob 3 246 w6:: .glob 1 175 zb1:: .glob 0 171 [mpv rO]:: .obj rO oK:: .box b8 29 [.v s.v]:: .row s.v 1 3 (((zf8 h h.evs[a] a).map Conf.t).map za9):: .box b6 119 (rwP h rc rl rk rg):: .box b2 28 (y9 h):: []) rfl (fun fn l q lp hlp=> ?_) (fun q h'' hK'=> ?_) (fun q h'' cc hK'=> ?_)
        ·suffices hy:∀pre d rest (s:SV) M,zf8 h h.evs[a] a=pre++d::rest→True→zek h M→y1 Tryz.prog (yv l) [.agg (zan d)] (.box ba 3 [iv (a:Nat)]:: .box bp 119 (rwP h rc rl rk rg)::rgR rg M::rkS h rk::zbr h rl::rcR h rc:: .glob 2 156 y2:: .glob 4 305 y3:: .glob 5 308 z8:: .glob 3 246 w6:: .glob 1 175 zb1:: .glob 0 171 [mpv rO]:: .obj rO oK::lp .ready none:: .defs q:: .box b8 29 [.v s.v]:: .row s.v 1 3 ((pre.map Conf.t).map za9):: .box b6 119 (rwP h rc rl rk rg):: .box b2 28 (y9 h):: []) (fun r h'=>∃s':SV,(r=bv true∧True∧h'= .box ba 3 [iv (a:Nat)]:: .box bp 119 (rwP h rc rl rk rg)::rgR rg M::rkS h rk::zbr h rl::rcR h rc:: .glob 2 156 y2:: .glob 4 305 y3:: .glob 5 308 z8:: .glob 3 246 w6:: .glob 1 175 zb1:: .glob 0 171 [mpv rO]:: .obj rO oK::lp .ready none:: .defs q:: .box b8 29 [.v s'.v]:: .row s'.v 1 3 (((pre++ [d]).map Conf.t).map za9):: .box b6 119 (rwP h rc rl rk rg):: .box b2 28 (y9 h):: [])∨(r=bv false∧False∧h'= .box ba 3 [iv (a:Nat)]:: .box bp 119 (rwP h rc rl rk rg)::rgR rg M::rkS h rk::zbr h rl::rcR h rc:: .glob 2 156 y2:: .glob 4 305 y3:: .glob 5 308 z8:: .glob 3 246 w6:: .glob 1 175 zb1:: .glob 0 171 [mpv rO]:: .obj rO oK:: [])) by
          refine y8.mono (y8.perm ((pt2 _ _ _ _).trans (.cons _ ((pt2 _ _ _ _).trans (.cons _ ((pt6 _ _ _ _ _ _ _ _).trans (.cons _ ((pt6 _ _ _ _ _ _ _ _).trans (.cons _ ((pt6 _ _ _ _ _ _ _ _).trans (.cons _ ((pt6 _ _ _ _ _ _ _ _).trans (.cons _ ((pt6 _ _ _ _ _ _ _ _).trans (.cons _ ((pt6 _ _ _ _ _ _ _ _).trans (.cons _ ((pt6 _ _ _ _ _ _ _ _).trans (.cons _ ((pt6 _ _ _ _ _ _ _ _).trans (.cons _ ((pt6 _ _ _ _ _ _ _ _).trans (.cons _ ((pt6 _ _ _ _ _ _ _ _).trans (.cons _ (pt6 _ _ _ _ _ _ _ _))))))))))))))))))))))))) (ydc h la hc a ha (yv l) bp ba rc rl rk rg [] (zkg h) rO oK hK (fun _ (_:SV)=>True) (fun _=>False) (fun pre (s:SV)=>lp .ready none:: .defs q:: .box b8 29 [.v s.v]:: .row s.v 1 3 ((pre.map Conf.t).map za9):: .box b6 119 (rwP h rc rl rk rg):: .box b2 28 (y9 h):: []) (fun _=> []) ⟨none,0,0⟩ trivial hy)) ?_
          rintro _ _ ⟨s,M,hM,⟨-,rfl⟩|⟨hF,_⟩⟩
          ·exact ⟨none,.ready,_,((yfs _ _ _ _ _ _ _ _ _ _ _ _ _ _ _).trans (.cons _ (yfs _ _ _ _ _ _ _ _ _ _ _ _ _ _ _))),by simp,rfl,s,M,rfl⟩
          ·exact hF.elim
         intro pre d rest s M hL _ hM
         have hlen:pre.length < (zf8 h h.evs[a] a).length:=by rw [hL,List.length_append,List.length_cons];omega
         refine y1.perm (yfs _ _ _ _ _ _ _ _ _ _ _ _ _ _ _) (y1.ventE ?_)
         refine zcl hlp rfl rfl ?_
         refine rn ?_;refine z7 rfl (y7 rfl fun b9=> ?_)
         refine rn ?_;refine ⟨[(9,pZ b9),(8,pZ b8)],.box b9 41 (zan d):: .box ba 3 [iv (a:Nat)]:: .box bp 119 (rwP h rc rl rk rg)::rgR rg M::rkS h rk::zbr h rl::rcR h rc:: .glob 2 156 y2:: .glob 4 305 y3:: .glob 5 308 z8:: .glob 3 246 w6:: .glob 1 175 zb1:: .glob 0 171 [mpv rO]:: .obj rO oK:: .defs q:: .box b8 29 [.v s.v]:: .row s.v 1 3 ((pre.map Conf.t).map za9):: .box b6 119 (rwP h rc rl rk rg):: .box b2 28 (y9 h):: [],v6 (zau (pt1 _ _ _)) es,?_⟩
         refine rn ?_;refine qv rfl rfl (w8 rfl rfl) ?_
         refine z7 rfl (j6 rfl rfl (by simp only [oM,List.length_cons,List.length_nil];omega) rfl (fun s65=> ?_) (ziq [d.t]))
         refine zal s65 fun sv hsv=> ?_
         subst hsv
         refine rn ?_;exact zce (.refl _) ⟨_,_,.trans (.perm ((pt1 _ _ _).trans (.cons _ ((pt1 _ _ _).trans (.cons _ ((pt1 _ _ _).trans (.cons _ ((pt1 _ _ _).trans (.cons _ ((pt1 _ _ _).trans (.cons _ ((pt1 _ _ _).trans (.cons _ ((pt1 _ _ _).trans (.cons _ ((pt1 _ _ _).trans (.cons _ ((pt1 _ _ _).trans (.cons _ ((pt1 _ _ _).trans (.cons _ ((pt1 _ _ _).trans (.cons _ ((pt1 _ _ _).trans (.cons _ ((pt1 _ _ _).trans (.cons _ (pt1 _ _ _))))))))))))))))))))))))))) _) (.drop [_] _ _),sv,.inl ⟨rfl,trivial,by rw [List.map_append,List.map_append];rfl⟩⟩
        ·obtain ⟨_,s,M,rfl⟩:=hK'
         refine rn ?_;refine z7 rfl (q7 rfl rfl (ze2 (y1.of_fun (zv6 s _ (by rw [oM];omega)))) rfl ?_)
         rintro _ _ ⟨rfl,rfl⟩
         refine rn ?_;refine z7 rfl (q7 rfl rfl (zf9 (y1.of_fun (zyq s _ (by rw [(zb9 _).length_eq,oM];omega)))) rfl ?_)
         rintro _ _ ⟨s',rfl,rfl⟩
         refine rn ?_;exact zfy (.refl _) (.cons _ _ _ _ (.tmp _ _ rfl) (.cons _ _ _ _ (.tmp _ _ rfl) .nil)) (.trans (.perm (.cons _ (.cons _ (.cons _ (.cons _ (.cons _ (.cons _ ((pt7 _ _ _ _ _ _ _ _ _).trans (.cons _ ((pt8 _ _ _ _ _ _ _ _ _ _).trans (.cons _ ((pt8 _ _ _ _ _ _ _ _ _ _).trans (.cons _ (pt7 _ _ _ _ _ _ _ _ _))))))))))))) _) (.drop [_,_,_,_,_,_,_,_,_] _ _)) ⟨s',by rw [(ylj hc ha hn).2];rfl,by rw [(ylj hc ha hn).1];rfl⟩
        ·obtain ⟨hc',_⟩:=hK'
         exact absurd hc' (by simp)
      ·refine rn ?_;refine y0 rfl (fun hc56=> ?_) (fun hc56=> ?_)
       ·first|cases hc56|exact absurd hc56 (by decide)|(exfalso;simp_all;done)
       ·have hm:zf7 h.evs h.evs[a].t 5=true:=by rw [←zeq];simpa using hg4_21
        have hkd:h.evs[a].kind=3∨h.evs[a].kind=4:=by
         first
         |(have q:h.evs[a].kind=3:=(by simpa using hg4_29);exact .inl q)
         |(have q:h.evs[a].kind=4:=(by simpa using hc56);exact .inr q)
        have hn:OvB h (a:Int):=⟨a,rfl,ha,hm,hkd⟩
        have hfl:=ztg hc ha
        refine rn ?_;refine z7 rfl (y7 rfl fun b8=> ?_)
        refine rn ?_;refine z7 rfl (q7 rfl rfl (y1.of_fun (ydd h a rc rl rk rg _)) rfl ?_)
        rintro _ _ ⟨ba,bp,rfl,rfl⟩
        refine rn ?_;refine zfl (s':=⟨[(59,.fn (.func 134) [] [pZ bp,pZ ba]),(8,pZ b8)],.box ba 3 [iv (a:Nat)]:: .box bp 119 (rwP h rc rl rk rg):: .box b8 29 [.v (⟨none,0,0⟩:SV).v]:: .row (⟨none,0,0⟩:SV).v 1 3 ((([]:List Conf).map Conf.t).map za9):: .box b6 119 (rwP h rc rl rk rg):: .box b2 28 (y9 h)::rgR rg []::rkS h rk::zbr h rl::rcR h rc:: .glob 2 156 y2:: .glob 4 305 y3:: .glob 5 308 z8:: .glob 3 246 w6:: .glob 1 175 zb1:: .glob 0 171 [mpv rO]:: .obj rO oK:: [],[]⟩) (v6 (zaz 1 3) (v6 (zau ((pt1 _ _ _).trans (.cons _ ((pt1 _ _ _).trans (.cons _ (pt1 _ _ _)))))) es)) ?_
        refine zjt (fun pend h''=>pend=none∧∃(s:SV) (M:List ((Int×Int)×List Int)),h''= .box ba 3 [iv (a:Nat)]:: .box bp 119 (rwP h rc rl rk rg)::rgR rg M::rkS h rk::zbr h rl::rcR h rc:: .glob 2 156 y2:: .glob 4 305 y3:: .glob 5 308 z8:: .glob 3 246 w6:: .glob 1 175 zb1:: .glob 0 171 [mpv rO]:: .obj rO oK:: .box b8 29 [.v s.v]:: .row s.v 1 3 (((zf8 h h.evs[a] a).map Conf.t).map za9):: .box b6 119 (rwP h rc rl rk rg):: .box b2 28 (y9 h):: []) rfl (fun fn l q lp hlp=> ?_) (fun q h'' hK'=> ?_) (fun q h'' cc hK'=> ?_)
        ·suffices hy:∀pre d rest (s:SV) M,zf8 h h.evs[a] a=pre++d::rest→True→zek h M→y1 Tryz.prog (yv l) [.agg (zan d)] (.box ba 3 [iv (a:Nat)]:: .box bp 119 (rwP h rc rl rk rg)::rgR rg M::rkS h rk::zbr h rl::rcR h rc:: .glob 2 156 y2:: .glob 4 305 y3:: .glob 5 308 z8:: .glob 3 246 w6:: .glob 1 175 zb1:: .glob 0 171 [mpv rO]:: .obj rO oK::lp .ready none:: .defs q:: .box b8 29 [.v s.v]:: .row s.v 1 3 ((pre.map Conf.t).map za9):: .box b6 119 (rwP h rc rl rk rg):: .box b2 28 (y9 h):: []) (fun r h'=>∃s':SV,(r=bv true∧True∧h'= .box ba 3 [iv (a:Nat)]:: .box bp 119 (rwP h rc rl rk rg)::rgR rg M::rkS h rk::zbr h rl::rcR h rc:: .glob 2 156 y2:: .glob 4 305 y3:: .glob 5 308 z8:: .glob 3 246 w6:: .glob 1 175 zb1:: .glob 0 171 [mpv rO]:: .obj rO oK::lp .ready none:: .defs q:: .box b8 29 [.v s'.v]:: .row s'.v 1 3 (((pre++ [d]).map Conf.t).map za9):: .box b6 119 (rwP h rc rl rk rg):: .box b2 28 (y9 h):: [])∨(r=bv false∧False∧h'= .box ba 3 [iv (a:Nat)]:: .box bp 119 (rwP h rc rl rk rg)::rgR rg M::rkS h rk::zbr h rl::rcR h rc:: .glob 2 156 y2:: .glob 4 305 y3:: .glob 5 308 z8:: .glob 3 246 w6:: .glob 1 175 zb1:: .glob 0 171 [mpv rO]:: .obj rO oK:: [])) by
          refine y8.mono (y8.perm ((pt2 _ _ _ _).trans (.cons _ ((pt2 _ _ _ _).trans (.cons _ ((pt6 _ _ _ _ _ _ _ _).trans (.cons _ ((pt6 _ _ _ _ _ _ _ _).trans (.cons _ ((pt6 _ _ _ _ _ _ _ _).trans (.cons _ ((pt6 _ _ _ _ _ _ _ _).trans (.cons _ ((pt6 _ _ _ _ _ _ _ _).trans (.cons _ ((pt6 _ _ _ _ _ _ _ _).trans (.cons _ ((pt6 _ _ _ _ _ _ _ _).trans (.cons _ ((pt6 _ _ _ _ _ _ _ _).trans (.cons _ ((pt6 _ _ _ _ _ _ _ _).trans (.cons _ ((pt6 _ _ _ _ _ _ _ _).trans (.cons _ (pt6 _ _ _ _ _ _ _ _))))))))))))))))))))))))) (ydc h la hc a ha (yv l) bp ba rc rl rk rg [] (zkg h) rO oK hK (fun _ (_:SV)=>True) (fun _=>False) (fun pre (s:SV)=>lp .ready none:: .defs q:: .box b8 29 [.v s.v]:: .row s.v 1 3 ((pre.map Conf.t).map za9):: .box b6 119 (rwP h rc rl rk rg):: .box b2 28 (y9 h):: []) (fun _=> []) ⟨none,0,0⟩ trivial hy)) ?_
          rintro _ _ ⟨s,M,hM,⟨-,rfl⟩|⟨hF,_⟩⟩
          ·exact ⟨none,.ready,_,((yfs _ _ _ _ _ _ _ _ _ _ _ _ _ _ _).trans (.cons _ (yfs _ _ _ _ _ _ _ _ _ _ _ _ _ _ _))),by simp,rfl,s,M,rfl⟩
          ·exact hF.elim
         intro pre d rest s M hL _ hM
         have hlen:pre.length < (zf8 h h.evs[a] a).length:=by rw [hL,List.length_append,List.length_cons];omega
         refine y1.perm (yfs _ _ _ _ _ _ _ _ _ _ _ _ _ _ _) (y1.ventE ?_)
         refine zcl hlp rfl rfl ?_
         refine rn ?_;refine z7 rfl (y7 rfl fun b9=> ?_)
         refine rn ?_;refine ⟨[(9,pZ b9),(8,pZ b8)],.box b9 41 (zan d):: .box ba 3 [iv (a:Nat)]:: .box bp 119 (rwP h rc rl rk rg)::rgR rg M::rkS h rk::zbr h rl::rcR h rc:: .glob 2 156 y2:: .glob 4 305 y3:: .glob 5 308 z8:: .glob 3 246 w6:: .glob 1 175 zb1:: .glob 0 171 [mpv rO]:: .obj rO oK:: .defs q:: .box b8 29 [.v s.v]:: .row s.v 1 3 ((pre.map Conf.t).map za9):: .box b6 119 (rwP h rc rl rk rg):: .box b2 28 (y9 h):: [],v6 (zau (pt1 _ _ _)) es,?_⟩
         refine rn ?_;refine qv rfl rfl (w8 rfl rfl) ?_
         refine z7 rfl (j6 rfl rfl (by simp only [oM,List.length_cons,List.length_nil];omega) rfl (fun s65=> ?_) (ziq [d.t]))
         refine zal s65 fun sv hsv=> ?_
         subst hsv
         refine rn ?_;exact zce (.refl _) ⟨_,_,.trans (.perm ((pt1 _ _ _).trans (.cons _ ((pt1 _ _ _).trans (.cons _ ((pt1 _ _ _).trans (.cons _ ((pt1 _ _ _).trans (.cons _ ((pt1 _ _ _).trans (.cons _ ((pt1 _ _ _).trans (.cons _ ((pt1 _ _ _).trans (.cons _ ((pt1 _ _ _).trans (.cons _ ((pt1 _ _ _).trans (.cons _ ((pt1 _ _ _).trans (.cons _ ((pt1 _ _ _).trans (.cons _ ((pt1 _ _ _).trans (.cons _ ((pt1 _ _ _).trans (.cons _ (pt1 _ _ _))))))))))))))))))))))))))) _) (.drop [_] _ _),sv,.inl ⟨rfl,trivial,by rw [List.map_append,List.map_append];rfl⟩⟩
        ·obtain ⟨_,s,M,rfl⟩:=hK'
         refine rn ?_;refine z7 rfl (q7 rfl rfl (ze2 (y1.of_fun (zv6 s _ (by rw [oM];omega)))) rfl ?_)
         rintro _ _ ⟨rfl,rfl⟩
         refine rn ?_;refine z7 rfl (q7 rfl rfl (zf9 (y1.of_fun (zyq s _ (by rw [(zb9 _).length_eq,oM];omega)))) rfl ?_)
         rintro _ _ ⟨s',rfl,rfl⟩
         refine rn ?_;exact zfy (.refl _) (.cons _ _ _ _ (.tmp _ _ rfl) (.cons _ _ _ _ (.tmp _ _ rfl) .nil)) (.trans (.perm (.cons _ (.cons _ (.cons _ (.cons _ (.cons _ (.cons _ ((pt7 _ _ _ _ _ _ _ _ _).trans (.cons _ ((pt8 _ _ _ _ _ _ _ _ _ _).trans (.cons _ ((pt8 _ _ _ _ _ _ _ _ _ _).trans (.cons _ (pt7 _ _ _ _ _ _ _ _ _))))))))))))) _) (.drop [_,_,_,_,_,_,_,_,_] _ _)) ⟨s',by rw [(ylj hc ha hn).2];rfl,by rw [(ylj hc ha hn).1];rfl⟩
        ·obtain ⟨hc',_⟩:=hK'
         exact absurd hc' (by simp)
 ·refine rn ?_;refine z7 rfl (y7 rfl fun b6=> ?_)
  refine rn ?_;refine y0 rfl (fun hc16=> ?_) (fun hc16=> ?_)
  ·refine rn ?_;exact zbk rfl rfl (.trans (.drop [_,_] _ _) (zae 1 3 _)) ⟨⟨none,0,0⟩,by rw [(ynt hc).2];rfl,by rw [(ynt hc).1];rfl⟩
  ·first|cases hc16|exact absurd hc16 (by decide)|(exfalso;simp_all;done)
theorem rwOver (h:Hist) (la:Lim 4611686018427387904 h) (rO:Nat) (oK:Obj) (hK:KO oK) (n:Int):y8 Tryz.prog 35 [.agg (y9 h),iv n] (.glob 2 156 y2:: .glob 4 305 y3:: .glob 5 308 z8:: .glob 3 246 w6:: .glob 1 175 zb1:: .glob 0 171 [mpv rO]:: .obj rO oK:: []) (fun r h'=>h'= .glob 2 156 y2:: .glob 4 305 y3:: .glob 5 308 z8:: .glob 3 246 w6:: .glob 1 175 zb1:: .glob 0 171 [mpv rO]:: .obj rO oK:: []∧r= .tup [za5 (ovO h n),iv (ovC h n)]):=(ye7 h la rO oK hK n).ventR (by rintro _ _ ⟨s,rfl,rfl⟩;exact ⟨_,_,zav [] [_],rfl,rfl⟩)
def zma (h:Hist):List Conf:=if q6 h=0 then zbv (zco h) else []
def ycw (h:Hist):List Conf:=if q6 h=0 then zbv (zdh h) else []
theorem zl9 {h:Hist} (hc:q6 h=0):zma h=zbv (zco h):=by rw [zma,if_pos hc]
theorem ycy {h:Hist} (hc:q6 h≠0):zma h= []:=by rw [zma,if_neg hc]
theorem ycv {h:Hist} (hc:q6 h=0):ycw h=zbv (zdh h):=by rw [ycw,if_pos hc]
theorem yh1 {h:Hist} (hc:q6 h≠0):ycw h= []:=by rw [ycw,if_neg hc]
def wrF (h:Hist) (k:Nat):Ev→Nat→List Conf:=if k=0 then zbe h else zcz h
def wrJ (h:Hist) (c:Conf):Bool:=decide (q6 h=0) && (decide (c∈zco h)||decide (c∈zdh h))
theorem ylt {h:Hist} {c:Conf} (hc:q6 h≠0):wrJ h c=false:=by rw [wrJ,decide_eq_false hc];rfl
theorem ylr {h:Hist} {c:Conf} {k:Nat} (hc:q6 h=0) (hk:k < 2) (hm:c∈j9 h (wrF h k) h.evs.length):wrJ h c=true:=by
 rw [wrJ,decide_eq_true hc,Bool.true_and]
 rcases (show k=0∨k=1 by omega) with rfl|rfl
 ·have hm:c∈zco h:=hm
  rw [decide_eq_true hm];rfl
 ·have hm:c∈zdh h:=hm
  rw [decide_eq_true hm,Bool.or_true]
theorem yls {h:Hist} {c:Conf} (hm:∀i,i < 2→¬c∈j9 h (wrF h i) h.evs.length):wrJ h c=false:=by
 have h0:¬c∈zco h:=hm 0 (by omega)
 have h1:¬c∈zdh h:=hm 1 (by omega)
 rw [wrJ,decide_eq_false h0,decide_eq_false h1,Bool.or_false,Bool.and_false]
theorem ygh {p:Nat→Prop} {k:Nat} (h:∀i,i < k→p i) (hk:p k):∀i,i < k+1→p i:=fun i hi=>by
 rcases (show i < k∨i=k by omega) with q|rfl
 ·exact h i q
 ·exact hk
theorem zvm (h:Hist) (la:Lim 4611686018427387904 h):y8 Tryz.prog 53 [.agg (y9 h)] (.glob 2 156 y2:: .glob 4 305 y3:: .glob 5 308 z8:: .glob 3 246 w6:: []) (fun r h'=>∃s:SV,h'= .row s.v 7 41 ((zma h).map zan):: .glob 2 156 y2:: .glob 4 305 y3:: .glob 5 308 z8:: .glob 3 246 w6:: []∧r= .tup [.v s.v,iv (q6 h)]):=by
 refine z6 Tryz.func53 rfl rfl rfl ?_
 refine rn ?_;refine z7 rfl (w7 rfl rfl rfl fun b1=> ?_)
 refine q1 ?_;refine q1 ?_;refine u4 (zai ?_)
 refine w9 (y6 ?_)
 refine q1 ?_;refine z7 rfl (q7 rfl rfl (y1.fr1 (y1.of_fun (ylq h la))) rfl ?_)
 rintro _ _ ⟨_,rfl,⟨hc,bl,rd,rf,rk,rg,rfl,rfl⟩|⟨hc,rfl,rfl⟩⟩
 ·refine rn ?_;refine y0 rfl (fun hc12=> ?_) (fun hc12=> ?_)
  ·first|cases hc12|exact absurd hc12 (by decide)|(exfalso;simp_all;done)
  ·refine rn ?_;refine z7 rfl (q7 rfl rfl (y1.of_fun (zvp bl 114 _)) rfl ?_)
   rintro _ _ ⟨bE,bL,rfl,rfl⟩
   refine z7 rfl (q7 rfl rfl (y1.perm (pt2 _ _ _ _) (y1.fr1 (y1.of_fun (zsi h la 114 158 (zbe h) bl rd rf rk rg (zme h la hc bl rd rf rk rg) bL bE (zx2 (za0.1 hc)) (zph hc))))) rfl ?_)
   rintro _ _ ⟨_,rfl,s,M,rfl,rfl⟩
   refine rn ?_;exact zbk rfl rfl (.trans (.perm (.cons _ ((pt1 _ _ _).trans (.cons _ ((pt1 _ _ _).trans (.cons _ ((pt1 _ _ _).trans (.cons _ ((pt1 _ _ _).trans (.cons _ ((pt1 _ _ _).trans (.cons _ ((pt1 _ _ _).trans (.cons _ (pt1 _ _ _)))))))))))))) _) (.drop [_,_,_,_,_,_,_,_] _ _)) ⟨s,by rw [zl9 hc];rfl,by rw [hc];rfl⟩
 ·refine rn ?_;refine y0 rfl (fun hc12=> ?_) (fun hc12=> ?_)
  ·refine rn ?_;exact zbk rfl rfl (.trans (.drop [_] _ _) (zae 7 41 _)) ⟨⟨none,0,0⟩,by rw [ycy hc];rfl,rfl⟩
  ·first|cases hc12|exact absurd hc12 (by decide)|(exfalso;simp_all;done)
theorem zqm (h:Hist) (la:Lim 4611686018427387904 h):y8 Tryz.prog 53 [.agg (y9 h)] (.glob 2 156 y2:: .glob 4 305 y3:: .glob 5 308 z8:: .glob 3 246 w6:: []) (fun r h'=>h'= .glob 2 156 y2:: .glob 4 305 y3:: .glob 5 308 z8:: .glob 3 246 w6:: []∧r= .tup [zia (zma h),iv (q6 h)]):=(zvm h la).ventR (by rintro _ _ ⟨s,rfl,rfl⟩;exact ⟨_,_,zav [] [_],rfl,rfl⟩)
theorem zt7 (h:Hist) (la:Lim 4611686018427387904 h):y8 Tryz.prog 54 [.agg (y9 h)] (.glob 2 156 y2:: .glob 4 305 y3:: .glob 5 308 z8:: .glob 3 246 w6:: []) (fun r h'=>∃s:SV,h'= .row s.v 7 41 ((ycw h).map zan):: .glob 2 156 y2:: .glob 4 305 y3:: .glob 5 308 z8:: .glob 3 246 w6:: []∧r= .tup [.v s.v,iv (q6 h)]):=by
 refine z6 Tryz.func54 rfl rfl rfl ?_
 refine rn ?_;refine z7 rfl (w7 rfl rfl rfl fun b1=> ?_)
 refine q1 ?_;refine q1 ?_;refine u4 (zai ?_)
 refine w9 (y6 ?_)
 refine q1 ?_;refine z7 rfl (q7 rfl rfl (y1.fr1 (y1.of_fun (ylq h la))) rfl ?_)
 rintro _ _ ⟨_,rfl,⟨hc,bl,rd,rf,rk,rg,rfl,rfl⟩|⟨hc,rfl,rfl⟩⟩
 ·refine rn ?_;refine y0 rfl (fun hc12=> ?_) (fun hc12=> ?_)
  ·first|cases hc12|exact absurd hc12 (by decide)|(exfalso;simp_all;done)
  ·refine rn ?_;refine z7 rfl (q7 rfl rfl (y1.of_fun (zvp bl 115 _)) rfl ?_)
   rintro _ _ ⟨bE,bL,rfl,rfl⟩
   refine z7 rfl (q7 rfl rfl (y1.perm (pt2 _ _ _ _) (y1.fr1 (y1.of_fun (zsi h la 115 160 (zcz h) bl rd rf rk rg (zmd h la hc bl rd rf rk rg) bL bE (zwh (za0.1 hc)) (zwj hc))))) rfl ?_)
   rintro _ _ ⟨_,rfl,s,M,rfl,rfl⟩
   refine rn ?_;exact zbk rfl rfl (.trans (.perm (.cons _ ((pt1 _ _ _).trans (.cons _ ((pt1 _ _ _).trans (.cons _ ((pt1 _ _ _).trans (.cons _ ((pt1 _ _ _).trans (.cons _ ((pt1 _ _ _).trans (.cons _ ((pt1 _ _ _).trans (.cons _ (pt1 _ _ _)))))))))))))) _) (.drop [_,_,_,_,_,_,_,_] _ _)) ⟨s,by rw [ycv hc];rfl,by rw [hc];rfl⟩
 ·refine rn ?_;refine y0 rfl (fun hc12=> ?_) (fun hc12=> ?_)
  ·refine rn ?_;exact zbk rfl rfl (.trans (.drop [_] _ _) (zae 7 41 _)) ⟨⟨none,0,0⟩,by rw [yh1 hc];rfl,rfl⟩
  ·first|cases hc12|exact absurd hc12 (by decide)|(exfalso;simp_all;done)
theorem zsd (h:Hist) (la:Lim 4611686018427387904 h):y8 Tryz.prog 54 [.agg (y9 h)] (.glob 2 156 y2:: .glob 4 305 y3:: .glob 5 308 z8:: .glob 3 246 w6:: []) (fun r h'=>h'= .glob 2 156 y2:: .glob 4 305 y3:: .glob 5 308 z8:: .glob 3 246 w6:: []∧r= .tup [zia (ycw h),iv (q6 h)]):=(zt7 h la).ventR (by rintro _ _ ⟨s,rfl,rfl⟩;exact ⟨_,_,zav [] [_],rfl,rfl⟩)
def ym3 (bl:Nat):List AV:= [.fn (.func 114) [pZ bl] [],.fn (.func 115) [pZ bl] []]
theorem yec (h:Hist) (la:Lim 4611686018427387904 h) (hc:q6 h=0) (bl rd rf rk rg:Nat) {k:Nat} (hk:k < 2):∃ee g,Go.Ab.Enters Tryz.prog g∧zzi h (.fn (.func ee) [pZ bl] []) g (wrF h k) bl rd rf rk rg∧(ym3 bl)[k]? =some (.fn (.func ee) [pZ bl] []):=by
 rcases (show k=0∨k=1 by omega) with rfl|rfl
 ·exact ⟨_,_,inferInstance,zme h la hc bl rd rf rk rg,rfl⟩
 ·exact ⟨_,_,inferInstance,zmd h la hc bl rd rf rk rg,rfl⟩
theorem ycx (h:Hist) (la:Lim 4611686018427387904 h) (c:Conf):y8 Tryz.prog 59 [.agg (y9 h),.agg (zan c)] (.glob 2 156 y2:: .glob 4 305 y3:: .glob 5 308 z8:: .glob 3 246 w6:: []) (fun r h'=>h'= .glob 2 156 y2:: .glob 4 305 y3:: .glob 5 308 z8:: .glob 3 246 w6:: []∧r=bv (wrJ h c)):=by
 refine z6 Tryz.func59 rfl rfl rfl ?_
 refine rn ?_;refine z7 rfl (w7 rfl rfl rfl fun b2=> ?_)
 refine z7 rfl (w7 rfl rfl rfl fun b3=> ?_)
 refine z7 rfl (y7 rfl fun b4=> ?_)
 refine u4 (zai ?_)
 refine w9 (y6 ?_)
 refine q1 ?_;refine z7 rfl (q7 rfl rfl (y1.fr3 (y1.of_fun (ylq h la))) rfl ?_)
 rintro _ _ ⟨_,rfl,⟨hc,bl,rd,rf,rk,rg,rfl,rfl⟩|⟨hc,rfl,rfl⟩⟩
 ·refine rn ?_;refine y0 rfl (fun hc16=> ?_) (fun hc16=> ?_)
  ·first|cases hc16|exact absurd hc16 (by decide)|(exfalso;simp_all;done)
  ·refine rn ?_;refine zfg 2 (fun k (z:List ((Int×Int)×List Int)×List Nat)=>(∀i,i < k→¬c∈j9 h (wrF h i) h.evs.length)∧zek h z.1) (fun k z=>⟨[(22,iv k),(5,pZ bl),(21,.agg (ym3 bl)),(2,pZ b2),(3,pZ b3),(4,pZ b4)],.box b4 4 [bv false]:: .box b3 41 (zan c):: .box b2 28 (y9 h):: .box bl 202 (wrP h rd rf rk rg)::rgR rg z.1::rkS h rk::zcx h rf::rcR h rd:: .glob 2 156 y2:: .glob 4 305 y3:: .glob 5 308 z8:: .glob 3 246 w6::(z.2.map Res.defs),z.2⟩) ([],[]) ⟨fun i hi=>by omega,zkg h⟩ es ?_
   rintro k ⟨M,dfs⟩ lk ⟨zk,hM⟩
   have zk:∀i,i < k→¬c∈j9 h (wrF h i) h.evs.length:=zk
   have hM:zek h M:=hM
   show aw _ _ _ _ _ ⟨[(22,iv k),(5,pZ bl),(21,.agg (ym3 bl)),(2,pZ b2),(3,pZ b3),(4,pZ b4)],.box b4 4 [bv false]:: .box b3 41 (zan c):: .box b2 28 (y9 h):: .box bl 202 (wrP h rd rf rk rg)::rgR rg M::rkS h rk::zcx h rf::rcR h rd:: .glob 2 156 y2:: .glob 4 305 y3:: .glob 5 308 z8:: .glob 3 246 w6::(dfs.map Res.defs),dfs⟩
   refine rn ?_;refine y0 rfl (fun hc23=> ?_) (fun hc23=> ?_)
   ·have hk:k < 2:=by have q:=oT hc23;omega
    obtain ⟨ee,g,hE,hT,hix⟩:=yec h la hc bl rd rf rk rg hk
    refine zbz ?_;refine zai ?_;refine w9 ?_;refine zc9 ?_;refine w9 (y6 ?_)
    refine qq rfl rfl (zb0 rfl rfl hk (by rw [Nat.mul_one];exact hix)) ?_
    refine rn ?_;refine z7 rfl (q7 rfl rfl (y1.of_fun (zvp bl ee _)) rfl ?_)
    rintro _ _ ⟨bE,bL,rfl,rfl⟩
    refine rn ?_;refine zjt (fun pend h''=>(pend=none∧(¬c∈(j9 h (wrF h k) h.evs.length))∧∃M,zek h M∧h''= .box bE 95 [(.fn (.func ee) [pZ bl] [])]:: .box bL 147 [pZ bl]:: .box bl 202 (wrP h rd rf rk rg)::rgR rg M::rkS h rk::zcx h rf::rcR h rd:: .glob 2 156 y2:: .glob 4 305 y3:: .glob 5 308 z8:: .glob 3 246 w6:: .box b4 4 [bv false]:: .box b3 41 (zan c):: .box b2 28 (y9 h)::(dfs.map Res.defs))∨(pend=some .ret∧c∈(j9 h (wrF h k) h.evs.length)∧∃M,zek h M∧h''= .box bE 95 [(.fn (.func ee) [pZ bl] [])]:: .box bL 147 [pZ bl]:: .box bl 202 (wrP h rd rf rk rg)::rgR rg M::rkS h rk::zcx h rf::rcR h rd:: .glob 2 156 y2:: .glob 4 305 y3:: .glob 5 308 z8:: .glob 3 246 w6:: .box b4 4 [bv true]:: .box b3 41 (zan c):: .box b2 28 (y9 h)::(dfs.map Res.defs))) rfl (fun fn l q lp hlp=> ?_) (fun q h'' hK'=> ?_) (fun q h'' cc hK'=> ?_)
    ·suffices hy:∀pre d rest (x:Unit) M,(j9 h (wrF h k) h.evs.length)=pre++d::rest→(¬c∈pre)→zek h M→y1 Tryz.prog (yv l) [.agg (zan d)] (.box bE 95 [(.fn (.func ee) [pZ bl] [])]:: .box bL 147 [pZ bl]:: .box bl 202 (wrP h rd rf rk rg)::rgR rg M::rkS h rk::zcx h rf::rcR h rd:: .glob 2 156 y2:: .glob 4 305 y3:: .glob 5 308 z8:: .glob 3 246 w6::lp .ready none:: .defs q:: .box b4 4 [bv false]:: .box b3 41 (zan c):: .box b2 28 (y9 h)::(dfs.map Res.defs)) (fun r h'=>∃x':Unit,(r=bv true∧(¬c∈pre++ [d])∧h'= .box bE 95 [(.fn (.func ee) [pZ bl] [])]:: .box bL 147 [pZ bl]:: .box bl 202 (wrP h rd rf rk rg)::rgR rg M::rkS h rk::zcx h rf::rcR h rd:: .glob 2 156 y2:: .glob 4 305 y3:: .glob 5 308 z8:: .glob 3 246 w6::lp .ready none:: .defs q:: .box b4 4 [bv false]:: .box b3 41 (zan c):: .box b2 28 (y9 h)::(dfs.map Res.defs))∨(r=bv false∧c∈(j9 h (wrF h k) h.evs.length)∧h'= .box bE 95 [(.fn (.func ee) [pZ bl] [])]:: .box bL 147 [pZ bl]:: .box bl 202 (wrP h rd rf rk rg)::rgR rg M::rkS h rk::zcx h rf::rcR h rd:: .glob 2 156 y2:: .glob 4 305 y3:: .glob 5 308 z8:: .glob 3 246 w6::lp .done (some .ret):: .defs q:: .box b4 4 [bv true]:: .box b3 41 (zan c):: .box b2 28 (y9 h)::(dfs.map Res.defs))) by
      refine y8.mono (y8.perm ((pt2 _ _ _ _).trans (.cons _ ((pt2 _ _ _ _).trans (.cons _ ((pt5 _ _ _ _ _ _ _).trans (.cons _ ((pt5 _ _ _ _ _ _ _).trans (.cons _ ((pt5 _ _ _ _ _ _ _).trans (.cons _ ((pt5 _ _ _ _ _ _ _).trans (.cons _ ((pt5 _ _ _ _ _ _ _).trans (.cons _ ((pt5 _ _ _ _ _ _ _).trans (.cons _ ((pt5 _ _ _ _ _ _ _).trans (.cons _ ((pt5 _ _ _ _ _ _ _).trans (.cons _ (pt5 _ _ _ _ _ _ _))))))))))))))))))))) (yc0 h la ee g (wrF h k) bl rd rf rk rg hT (yv l) rfl bL bE M hM (fun pre (_:Unit)=>¬c∈pre) (fun _=>c∈(j9 h (wrF h k) h.evs.length)) (fun _ _=>lp .ready none:: .defs q:: .box b4 4 [bv false]:: .box b3 41 (zan c):: .box b2 28 (y9 h)::(dfs.map Res.defs)) (fun _=>lp .done (some .ret):: .defs q:: .box b4 4 [bv true]:: .box b3 41 (zan c):: .box b2 28 (y9 h)::(dfs.map Res.defs)) () (by simp) hy)) ?_
      rintro _ _ ⟨x,M,hM,⟨hn,rfl⟩|⟨hn,rfl⟩⟩
      ·exact ⟨none,.ready,_,((zs2 _ _ _ _ _ _ _ _ _ _ _ _ _).trans (.cons _ (zs2 _ _ _ _ _ _ _ _ _ _ _ _ _))),by simp,.inl ⟨rfl,hn,M,hM,rfl⟩⟩
      ·exact ⟨some .ret,.done,_,((zs2 _ _ _ _ _ _ _ _ _ _ _ _ _).trans (.cons _ (zs2 _ _ _ _ _ _ _ _ _ _ _ _ _))),by simp,.inr ⟨rfl,hn,M,hM,rfl⟩⟩
     intro pre d rest x M hL hpre hM
     refine y1.perm (zs2 _ _ _ _ _ _ _ _ _ _ _ _ _) (y1.ventE ?_)
     refine zcl hlp rfl rfl ?_
     refine rn ?_;refine z7 rfl (y7 rfl fun b9=> ?_)
     refine rn ?_;refine ⟨[(9,pZ b9),(3,pZ b3),(4,pZ b4)],.box b9 41 (zan d):: .box bE 95 [(.fn (.func ee) [pZ bl] [])]:: .box bL 147 [pZ bl]:: .box bl 202 (wrP h rd rf rk rg)::rgR rg M::rkS h rk::zcx h rf::rcR h rd:: .glob 2 156 y2:: .glob 4 305 y3:: .glob 5 308 z8:: .glob 3 246 w6:: .defs q:: .box b4 4 [bv false]:: .box b3 41 (zan c):: .box b2 28 (y9 h)::(dfs.map Res.defs),v6 (zau (pt1 _ _ _)) es,?_⟩
     refine rn ?_;refine y0 rfl (fun hc31=> ?_) (fun hc31=> ?_)
     ·have hz:d=c:=ynd hc31
      refine rn ?_;exact znr (.refl _) ⟨_,_,.trans (.perm ((pt1 _ _ _).trans (.cons _ ((pt1 _ _ _).trans (.cons _ ((pt1 _ _ _).trans (.cons _ ((pt1 _ _ _).trans (.cons _ ((pt1 _ _ _).trans (.cons _ ((pt1 _ _ _).trans (.cons _ ((pt1 _ _ _).trans (.cons _ ((pt1 _ _ _).trans (.cons _ ((pt1 _ _ _).trans (.cons _ ((pt1 _ _ _).trans (.cons _ ((pt1 _ _ _).trans (.cons _ (pt1 _ _ _))))))))))))))))))))))) _) (.drop [_] _ _),(),.inr ⟨rfl,by rw [hL,←hz];simp,rfl⟩⟩
     ·have hz:¬d=c:=ync hc31
      refine rn ?_;exact zce (.refl _) ⟨_,_,.trans (.perm ((pt1 _ _ _).trans (.cons _ ((pt1 _ _ _).trans (.cons _ ((pt1 _ _ _).trans (.cons _ ((pt1 _ _ _).trans (.cons _ ((pt1 _ _ _).trans (.cons _ ((pt1 _ _ _).trans (.cons _ ((pt1 _ _ _).trans (.cons _ ((pt1 _ _ _).trans (.cons _ ((pt1 _ _ _).trans (.cons _ ((pt1 _ _ _).trans (.cons _ ((pt1 _ _ _).trans (.cons _ (pt1 _ _ _))))))))))))))))))))))) _) (.drop [_] _ _),(),.inl ⟨rfl,by simp [hpre,Ne.symm hz],rfl⟩⟩
    ·obtain ⟨_,hn,M,hM,rfl⟩|⟨hc',_⟩:=hK'
     rotate_left
     ·cases hc'
     refine rn ?_;exact ⟨hk,(M,q::dfs),⟨ygh zk hn,hM⟩,v6 (zau ((pt1 _ _ _).trans (.cons _ ((pt1 _ _ _).trans (.cons _ ((ymi _ _ _ _ _ _ _ _ _ _ _ _).trans (.cons _ ((ymi _ _ _ _ _ _ _ _ _ _ _ _).trans (.cons _ ((ymi _ _ _ _ _ _ _ _ _ _ _ _).trans (.cons _ ((pt1 _ _ _).trans (.cons _ ((pt1 _ _ _).trans (.cons _ ((pt1 _ _ _).trans (.cons _ ((pt1 _ _ _).trans (.cons _ ((pt1 _ _ _).trans (.cons _ ((pt1 _ _ _).trans (.cons _ ((pt1 _ _ _).trans (.cons _ ((pt1 _ _ _).trans (.cons _ (pt1 _ _ _)))))))))))))))))))))))))))) (v6 (zb2 (h1:= [_,_])) es)⟩
    ·obtain ⟨hc',_⟩|⟨hc',hn,M,hM,rfl⟩:=hK'
     ·cases hc'
     obtain rfl:cc= .ret:=by simpa using hc'
     refine rn ?_;exact zfy (.cons _ (List.perm_append_comm (l₁:= [_,_,_,_,_,_,_,_,_,_,_,_,_,_]) (l₂:=(dfs.map Res.defs)))) (.cons _ _ _ _ (.one _ _ _ _ _ _ _ rfl inferInstance inferInstance rfl) .nil) (.trans (.perm (.cons _ (.cons _ (.cons _ (.cons _ (.cons _ (.cons _ (.cons _ ((pt4 _ _ _ _ _ _).trans (.cons _ ((pt4 _ _ _ _ _ _).trans (.cons _ (pt4 _ _ _ _ _ _)))))))))))) _) (.drop [_,_,_,_,_,_,_,_,_,_] _ _)) ⟨rfl,congrArg bv (ylr hc hk hn).symm⟩
   ·have qk:k=2:=by have q:=oF hc23;omega
    refine rn ?_;exact zfy (List.perm_append_comm (l₁:= [_,_,_,_,_,_,_,_,_,_,_,_]) (l₂:=(dfs.map Res.defs))) (.cons _ _ _ _ (.one _ _ _ _ _ _ _ rfl inferInstance inferInstance rfl) .nil) (.trans (.perm (.refl _) _) (.drop [_,_,_,_,_,_,_,_] _ _)) ⟨rfl,congrArg bv (yls (qk ▸ zk)).symm⟩
 ·refine rn ?_;refine y0 rfl (fun hc16=> ?_) (fun hc16=> ?_)
  ·refine rn ?_;exact zdw (.cons _ _ _ _ (.one _ _ _ _ _ _ _ rfl inferInstance inferInstance rfl) .nil) (.drop [_,_,_] _ _) ⟨rfl,congrArg bv (ylt hc).symm⟩
  ·first|cases hc16|exact absurd hc16 (by decide)|(exfalso;simp_all;done)
def chR (h:Hist) (f t:Int) (k:Nat):List Int:=(upR k).filter fun x=>decide (atI f 0 (zoj h x) ≥ 0) && decide (atI t 0 (zoj h x) > atI f 0 (zoj h x))
theorem ycb {full:Bool} (l:List ByteArray) (most:Nat) (hm:most≤1000):y8 Tryz.prog 109 [.list full 1 (l.map zfn),iv most] [] (fun r h'=>h'= []∧r=zci (zl0 most l)):=by
 refine z6 Tryz.func109 rfl rfl rfl ?_
 refine w9 (y6 ?_)
 refine q1 ?_;refine u4 (zai ?_)
 refine w9 (y6 ?_)
 refine q1 ?_;refine q1 ?_;refine q1 ?_;refine q1 ?_;refine qq rfl rfl (zin (l.map zfn).length most rfl rfl) ?_
 refine qq rfl rfl (zd7 (rows':=(l.take most).map zfn) rfl rfl (by omega) (by rw [oM];exact zhs zfn l most)) ?_
 refine z7 rfl (q7 rfl rfl (y1.rowS (y1.of_fun (zr5 _ (by simp;omega) (yfz _)))) rfl ?_)
 rintro _ _ ⟨s,rfl,rfl⟩
 refine rn ?_;refine zaa (fun k:Nat=>k≤(l.take most).length) (fun k=>⟨[(17,iv k),(16,iv ((l.take most).map zfn).length),(15,.v s.v),(5,.v s.v)],[.row s.v 1 9 ((((l.take most).take k).map cutS).map zfn++((l.take most).drop k).map zfn)],[]⟩) (fun k=>(l.take most).length - k) 0 (by omega)
  (by simp only [List.take_zero,List.map_nil,List.nil_append,List.drop_zero];exact (v1 (.cons _ _ _ rfl (.cons _ _ _ rfl (.cons _ _ _ rfl (.cons _ _ _ rfl (.nil))))))) ?_
 intro k hk
 refine rn ?_;refine y0 rfl (fun hc18=> ?_) (fun hc18=> ?_)
 ·have hk2:k < (l.take most).length:=by simpa using hc18
  obtain ⟨b,hb⟩:∃b,b=(l.take most)[k]:=⟨_,rfl⟩
  have hd:=List.drop_eq_getElem_cons hk2
  rw [←hb] at hd
  have hL:=List.length_take_le most l
  have hkl:(((l.take most).take k).map cutS).length=k:=by rw [oM,List.length_take];omega
  have hrow:=yf8 (f:=zfn) (g:=zfn) (xs:=((l.take most).take k).map cutS) (k:=k) hkl hd
  have hk3:k < ((((l.take most).take k).map cutS).map zfn++((l.take most).drop k).map zfn).length:=by rw [yf7 hkl hk];exact hk2
  refine zbz ?_;refine zai ?_;refine w9 ?_;refine zc9 ?_;refine w9 (y6 ?_)
  refine q1 ?_;refine q1 ?_;refine qq rfl rfl (zgx rfl hrow rfl) ?_
  refine q1 ?_;refine q1 ?_;refine u4 (zai ?_)
  refine y6 ?_;refine q1 ?_;refine q1 ?_;refine q1 ?_;refine q1 ?_;refine q1 ?_;refine qq rfl rfl (zin b.size 40 rfl rfl) ?_
  refine qq rfl rfl (zex rfl rfl (by omega)) ?_
  refine rn ?_;refine z7 rfl (zrb rfl rfl rfl hrow rfl (Nat.le_of_ble_eq_true rfl) ?_)
  refine rn ?_;have hset:=yf6 (f:=zfn) (g:=zfn) (l:=(l.take most)) (xs:=((l.take most).take k).map cutS) (a:=cutS b) (r:=(zfn b).take 0++ [sv (cutS b)]++(zfn b).drop (0+1)) hkl hd rfl
  have hx:((l.take most).take k).map cutS++ [cutS b]=((l.take most).take (k+1)).map cutS:=by rw [List.take_succ_eq_append_getElem hk2,hb];simp
  rw [hx] at hset
  exact ⟨k+1,by omega,(by rw [←hset];exact (v1 (.cons _ _ _ rfl (.cons _ _ _ rfl (.cons _ _ _ rfl (.cons _ _ _ rfl (.nil))))))),by omega⟩
 ·obtain rfl:k=(l.take most).length:=by
   have:¬k < (l.take most).length:=by simpa using hc18
   omega
  rw [List.take_length,List.drop_length,List.map_nil,List.append_nil]
  refine rn ?_;exact zak rfl zg8 ⟨rfl,rfl⟩
theorem ym7 (h:Hist) (la:Lim 4611686018427387904 h):y8 Tryz.prog 52 [.agg (y9 h)] [] (fun r h'=>h'= []∧r= .agg (y9 (zep h))):=by
 refine z6 Tryz.func52 rfl rfl rfl ?_
 refine rn ?_;refine z7 rfl (w7 rfl rfl rfl fun b1=> ?_)
 refine z7 rfl (y7 rfl fun b2=> ?_)
 refine rn0 ?_;refine zy5 (fun _:Nat=>True) (fun b3=>⟨[(1,pZ b1),(2,pZ b2),(3,pZ b3)],[.box b3 28 [zci (zl0 12 h.ts),zci (zl0 8 h.ss),zci (zl0 10 h.os),zci (zl0 6 h.ps),zoi,zoi,zoi,zoi],.box b2 28 zl7,.box b1 28 (y9 h)],[]⟩) ?_ ?_
 ·refine j3 14 rfl ?_
  refine rn ?_;refine dv rfl rfl (by exact y4 rfl rfl (zat (ycb h.ts 12 (by decide)) (Sbs.refl _))) ?_
  refine rn ?_;refine dv rfl rfl (by exact y4 rfl rfl (zat (ycb h.ss 8 (by decide)) (Sbs.refl _))) ?_
  refine rn ?_;refine dv rfl rfl (by exact y4 rfl rfl (zat (ycb h.os 10 (by decide)) (Sbs.refl _))) ?_
  refine rn ?_;refine dv rfl rfl (by exact y4 rfl rfl (zat (ycb h.ps 6 (by decide)) (Sbs.refl _))) ?_
  refine rn ?_;refine zke rfl fun b3=> ?_
  refine rn ?_;exact ⟨b3,trivial,(v1 (.cons _ _ _ rfl (.cons _ _ _ rfl (.cons _ _ _ rfl (.nil)))))⟩
 ·intro b3 _
  refine rn ?_;refine zaa (fun x:Nat×SV=>x.1≤h.evs.length) (fun x=>⟨[(26,iv x.1),(25,iv (h.evs.map evR).length),(24,zvg h.evs),(1,pZ b1),(2,pZ b2),(3,pZ b3)],[.row x.2.v 9 60 (((h.evs.take (min x.1 70)).map zpy).map evR),.box b3 28 [zci (zl0 12 h.ts),zci (zl0 8 h.ss),zci (zl0 10 h.os),zci (zl0 6 h.ps),.v x.2.v,zoi,zoi,zoi],.box b2 28 zl7,.box b1 28 (y9 h)],[]⟩) (fun x=>h.evs.length - x.1) (0,ymo) (by simp)
   (v6 (zaz 9 60) (v1 (.cons _ _ _ rfl (.cons _ _ _ rfl (.cons _ _ _ rfl (.cons _ _ _ rfl (.cons _ _ _ rfl (.cons _ _ _ rfl (.nil))))))))) ?_
  rintro ⟨k,s⟩ hk
  simp only at hk
  refine rn ?_;refine y0 rfl (fun hc27=> ?_) (fun hc27=> ?_)
  ·have hk2:k < h.evs.length:=by simpa using hc27
   obtain ⟨e,he⟩:∃e,e=h.evs[k]:=⟨_,rfl⟩
   have hrow:(h.evs.map evR)[k]? =some (evR e):=by rw [he];simp [hk2]
   have hle:=la.evs
   refine rn ?_;refine z7 rfl (y7 rfl fun b5=> ?_)
   refine rn ?_;refine y0 rfl (fun hc32=> ?_) (fun hc32=> ?_)
   ·have hlt:k < 70:=by have:=hc32;simp at this;omega
    refine w9 (y6 ?_)
    refine q1 ?_;refine q1 ?_;refine q1 ?_;refine q1 ?_;refine q1 ?_;refine qq rfl rfl (zin (e.scan.map zas).length 12 rfl rfl) ?_
    refine qq rfl rfl (zd7 (rows':=(e.scan.take 12).map zas) rfl rfl (by omega) (by rw [oM];exact zhs zas e.scan 12)) ?_
    refine qv rfl rfl (y4 rfl rfl (zat (zyv ((e.scan.take 12).map zas) (by simp;omega)) (Sbs.refl _))) ?_
    refine rn ?_;refine qv rfl rfl (w8 rfl rfl) ?_
    refine z7 rfl (j6 rfl rfl (by have:=zvz h.evs k 70;simp at this ⊢;omega) rfl (fun s46=> ?_) (fun r hr=>by simp at hr;subst hr;rfl))
    refine zal s46 fun sv hsv=> ?_
    subst hsv
    refine rn ?_;have hx:((h.evs.take (min (k+1) 70)).map zpy).map evR=((h.evs.take (min k 70)).map zpy).map evR++ [evR (zpy e)]:=by rw [yes hk2 hlt he];simp
    exact ⟨(k+1,sv),by simp only;omega,(by rw [hx];exact (v6 (zb2 (h1:= [_])) (v1 (.cons _ _ _ rfl (.cons _ _ _ rfl (.cons _ _ _ rfl (.cons _ _ _ rfl (.cons _ _ _ rfl (.cons _ _ _ rfl (.nil)))))))))),by simp only;omega⟩
   ·have hlt:¬k < 70:=by have:=hc32;simp at this;omega
    refine rn ?_;exact ⟨(k+1,s),by simp only;omega,(by rw [yer hlt];exact (v6 (zb2 (h1:= [_])) (v1 (.cons _ _ _ rfl (.cons _ _ _ rfl (.cons _ _ _ rfl (.cons _ _ _ rfl (.cons _ _ _ rfl (.cons _ _ _ rfl (.nil)))))))))),by simp only;omega⟩
  ·obtain rfl:k=h.evs.length:=by
    have:¬k < h.evs.length:=by simpa using hc27
    omega
   obtain ⟨sE,hsE⟩:∃sE:SV,sE=s:=⟨_,rfl⟩
   simp only [zv0,←hsE]
   refine rn ?_;refine zaa (fun x:Nat×SV=>x.1≤h.ords.length) (fun x=>⟨[(52,iv x.1),(51,iv (h.ords.map zet).length),(50,yfv h.ords),(1,pZ b1),(2,pZ b2),(3,pZ b3)],[.row x.2.v 2 87 (((h.ords.take (min x.1 14)).map zr4).map zet),.row sE.v 9 60 (((h.evs.take 70).map zpy).map evR),.box b3 28 [zci (zl0 12 h.ts),zci (zl0 8 h.ss),zci (zl0 10 h.os),zci (zl0 6 h.ps),.v sE.v,.v x.2.v,zoi,zoi],.box b2 28 zl7,.box b1 28 (y9 h)],[]⟩) (fun x=>h.ords.length - x.1) (0,ymo) (by simp)
    (v6 (zaz 2 87) (v1 (.cons _ _ _ rfl (.cons _ _ _ rfl (.cons _ _ _ rfl (.cons _ _ _ rfl (.cons _ _ _ rfl (.cons _ _ _ rfl (.nil))))))))) ?_
   rintro ⟨k,s⟩ hk
   simp only at hk
   refine rn ?_;refine y0 rfl (fun hc53=> ?_) (fun hc53=> ?_)
   ·have hk2:k < h.ords.length:=by simpa using hc53
    obtain ⟨e,he⟩:∃e,e=h.ords[k]:=⟨_,rfl⟩
    have hrow:(h.ords.map zet)[k]? =some (zet e):=by rw [he];simp [hk2]
    have hle:=la.ords
    refine rn ?_;refine z7 rfl (y7 rfl fun b7=> ?_)
    refine rn ?_;refine y0 rfl (fun hc58=> ?_) (fun hc58=> ?_)
    ·have hlt:k < 14:=by have:=hc58;simp at this;omega
     refine j3 14 rfl ?_
     refine dq rfl rfl qrA ?_;refine dq rfl rfl qrA ?_;refine dq rfl rfl qrA ?_;refine dq rfl rfl qrA ?_;refine dq rfl rfl qrA ?_;refine dq rfl rfl qrA ?_;refine dq rfl rfl qrA ?_;refine dq rfl rfl qrA ?_;refine dq rfl rfl qrA ?_;refine dq rfl rfl (zin (e.ts.map za9).length 14 rfl rfl) ?_
     refine dq rfl rfl (zd7 (rows':=(e.ts.take 14).map za9) rfl rfl (by omega) (by rw [oM];exact zhs za9 e.ts 14)) ?_
     refine dv rfl rfl (by exact y4 rfl rfl (zat (ztp ((e.ts.take 14).map za9) (by simp;omega)) (Sbs.refl _))) ?_
     refine rn ?_;refine dv rfl rfl (w8 rfl rfl) ?_
     refine rn ?_;refine z7 rfl (j6 rfl rfl (by have:=zvz h.ords k 14;simp at this ⊢;omega) rfl (fun s73=> ?_) (fun r hr=>by simp at hr;subst hr;rfl))
     refine zal s73 fun sv hsv=> ?_
     subst hsv
     refine rn ?_;have hx:((h.ords.take (min (k+1) 14)).map zr4).map zet=((h.ords.take (min k 14)).map zr4).map zet++ [zet (zr4 e)]:=by rw [yes hk2 hlt he];simp
     exact ⟨(k+1,sv),by simp only;omega,(by rw [hx];exact (v6 (zb2 (h1:= [_])) (v1 (.cons _ _ _ rfl (.cons _ _ _ rfl (.cons _ _ _ rfl (.cons _ _ _ rfl (.cons _ _ _ rfl (.cons _ _ _ rfl (.nil)))))))))),by simp only;omega⟩
    ·have hlt:¬k < 14:=by have:=hc58;simp at this;omega
     refine rn ?_;exact ⟨(k+1,s),by simp only;omega,(by rw [yer hlt];exact (v6 (zb2 (h1:= [_])) (v1 (.cons _ _ _ rfl (.cons _ _ _ rfl (.cons _ _ _ rfl (.cons _ _ _ rfl (.cons _ _ _ rfl (.cons _ _ _ rfl (.nil)))))))))),by simp only;omega⟩
   ·obtain rfl:k=h.ords.length:=by
     have:¬k < h.ords.length:=by simpa using hc53
     omega
    obtain ⟨sO,hsO⟩:∃sO:SV,sO=s:=⟨_,rfl⟩
    simp only [zv0,←hsO]
    refine rn ?_;refine zaa (fun x:Nat×SV=>x.1≤h.mats.length) (fun x=>⟨[(79,iv x.1),(78,iv (h.mats.map zee).length),(77,ybh h.mats),(1,pZ b1),(2,pZ b2),(3,pZ b3)],[.row x.2.v 4 109 (((h.mats.take (min x.1 20)).map zu7).map zee),.row sO.v 2 87 (((h.ords.take 14).map zr4).map zet),.row sE.v 9 60 (((h.evs.take 70).map zpy).map evR),.box b3 28 [zci (zl0 12 h.ts),zci (zl0 8 h.ss),zci (zl0 10 h.os),zci (zl0 6 h.ps),.v sE.v,.v sO.v,.v x.2.v,zoi],.box b2 28 zl7,.box b1 28 (y9 h)],[]⟩) (fun x=>h.mats.length - x.1) (0,ymo) (by simp)
     (v6 (zaz 4 109) (v1 (.cons _ _ _ rfl (.cons _ _ _ rfl (.cons _ _ _ rfl (.cons _ _ _ rfl (.cons _ _ _ rfl (.cons _ _ _ rfl (.nil))))))))) ?_
    rintro ⟨k,s⟩ hk
    simp only at hk
    refine rn ?_;refine y0 rfl (fun hc80=> ?_) (fun hc80=> ?_)
    ·have hk2:k < h.mats.length:=by simpa using hc80
     obtain ⟨e,he⟩:∃e,e=h.mats[k]:=⟨_,rfl⟩
     have hrow:(h.mats.map zee)[k]? =some (zee e):=by rw [he];simp [hk2]
     have hle:=la.mats
     refine rn ?_;refine z7 rfl (y7 rfl fun b9=> ?_)
     refine rn ?_;refine y0 rfl (fun hc85=> ?_) (fun hc85=> ?_)
     ·have hlt:k < 20:=by have:=hc85;simp at this;omega
      refine w9 (y6 ?_)
      refine q1 ?_;refine q1 ?_;refine q1 ?_;refine q1 ?_;refine q1 ?_;refine qq rfl rfl (zin (e.ts.map za9).length 14 rfl rfl) ?_
      refine qq rfl rfl (zd7 (rows':=(e.ts.take 14).map za9) rfl rfl (by omega) (by rw [oM];exact zhs za9 e.ts 14)) ?_
      refine qv rfl rfl (y4 rfl rfl (zat (ztp ((e.ts.take 14).map za9) (by simp;omega)) (Sbs.refl _))) ?_
      refine rn ?_;refine qv rfl rfl (w8 rfl rfl) ?_
      refine z7 rfl (j6 rfl rfl (by have:=zvz h.mats k 20;simp at this ⊢;omega) rfl (fun s99=> ?_) (fun r hr=>by simp at hr;subst hr;rfl))
      refine zal s99 fun sv hsv=> ?_
      subst hsv
      refine rn ?_;have hx:((h.mats.take (min (k+1) 20)).map zu7).map zee=((h.mats.take (min k 20)).map zu7).map zee++ [zee (zu7 e)]:=by rw [yes hk2 hlt he];simp
      exact ⟨(k+1,sv),by simp only;omega,(by rw [hx];exact (v6 (zb2 (h1:= [_])) (v1 (.cons _ _ _ rfl (.cons _ _ _ rfl (.cons _ _ _ rfl (.cons _ _ _ rfl (.cons _ _ _ rfl (.cons _ _ _ rfl (.nil)))))))))),by simp only;omega⟩
     ·have hlt:¬k < 20:=by have:=hc85;simp at this;omega
      refine rn ?_;exact ⟨(k+1,s),by simp only;omega,(by rw [yer hlt];exact (v6 (zb2 (h1:= [_])) (v1 (.cons _ _ _ rfl (.cons _ _ _ rfl (.cons _ _ _ rfl (.cons _ _ _ rfl (.cons _ _ _ rfl (.cons _ _ _ rfl (.nil)))))))))),by simp only;omega⟩
    ·obtain rfl:k=h.mats.length:=by
      have:¬k < h.mats.length:=by simpa using hc80
      omega
     obtain ⟨sM,hsM⟩:∃sM:SV,sM=s:=⟨_,rfl⟩
     simp only [zv0,←hsM]
     refine zhi ?_;refine zg9 ?_;refine zg9 ?_;refine zdt ?_;refine zai ?_;refine w9 (y6 ?_)
     refine q1 ?_;refine q1 ?_;refine q1 ?_;refine q1 ?_;refine q1 ?_;refine qq rfl rfl (zin (h.wants.map zfq).length 12 rfl rfl) ?_
     refine qq rfl rfl (zd7 (rows':=(h.wants.take 12).map zfq) rfl rfl (by omega) (by rw [oM];exact zhs zfq h.wants 12)) ?_
     refine qv rfl rfl (y4 rfl rfl (zat (ycg ((h.wants.take 12).map zfq) (by simp;omega)) (Sbs.refl _))) ?_
     refine rn ?_;exact zdw (.cons _ _ _ _ (.agg _ _ _ _ _ _ _ rfl inferInstance inferInstance inferInstance rfl) .nil) (.trans (zdv [_,_,_,_,_,_] _) (.trans (zdv [_,_,_,_,_] _) (.trans (zdv [_,_,_,_] _) (.drop [_,_,_] _ _)))) ⟨rfl,rfl⟩
theorem znm  :y8 Tryz.prog 108 [] [] (fun r h'=>h'= []∧r= .agg (y9 weH)):=by
 refine z6 Tryz.func108 rfl rfl rfl ?_
 refine rn ?_;refine z7 rfl (y7 rfl fun b0=> ?_)
 refine u4 (zai ?_)
 refine w9 (y6 ?_)
 refine qq rfl rfl (u9 (out:= [iv 0,iv 1]) rfl (by rfl)) ?_
 refine z7 rfl (y7 rfl fun b1=> ?_)
 refine rn ?_;refine qv rfl rfl (w8 rfl rfl) ?_
 refine qv rfl rfl (w8 rfl rfl) ?_
 refine qv rfl rfl (w8 rfl rfl) ?_
 refine qv rfl rfl (w8 rfl rfl) ?_
 refine qq rfl rfl (u9 (out:= [iv 1,iv 0,iv 0,iv 4,iv 0,iv 0,iv 0,iv 0,.v (.slice none 0 0)]) rfl (by rfl)) ?_
 refine q1 ?_;refine qq rfl rfl (u9 (out:= [iv 2,iv 0,iv 0,iv 0,iv 0,iv 0,iv 1,iv 0,.v (.slice none 0 0)]) rfl (by rfl)) ?_
 refine qq rfl rfl (u9 (out:= [iv 5,iv 0,iv 0,iv 0,iv 0,iv 0,iv 0,iv 0,.v (.slice none 0 0)]) rfl (by rfl)) ?_
 refine qq rfl rfl (u9 (out:= [iv 1,iv 1,iv 0,iv 4,iv 0,iv 0,iv 0,iv 0,.v (.slice none 0 0)]) rfl (by rfl)) ?_
 refine q1 ?_;refine qq rfl rfl (u9 (out:= [iv 3,iv 1,iv 0,iv 0,iv 0,iv 0,iv 1,iv 0,.v (.slice none 0 0)]) rfl (by rfl)) ?_
 refine q1 ?_;refine qq rfl rfl (u9 (out:= [iv 0,iv 0,iv 1]) rfl (by rfl)) ?_
 refine qv rfl rfl (w8 rfl rfl) ?_
 refine qq rfl rfl (u9 (out:= [iv 4,iv 1,iv 0,iv 0,iv 0,iv 0,iv 0,iv 0,.list true 3 [[iv 0,iv 0,iv 1]]]) rfl (by rfl)) ?_
 refine qq rfl rfl (u9 (out:= [iv 5,iv 1,iv 0,iv 0,iv 0,iv 0,iv 0,iv 0,.v (.slice none 0 0)]) rfl (by rfl)) ?_
 refine qv rfl rfl (w8 rfl rfl) ?_
 refine qv rfl rfl (w8 rfl rfl) ?_
 refine qq rfl rfl (u9 (out:= [iv 0,iv 0,bv false,.list true 1 [[iv 0]]]) rfl (by rfl)) ?_
 refine qv rfl rfl (w8 rfl rfl) ?_
 refine rn ?_;exact zdw (.cons _ _ _ _ (.agg _ _ _ _ _ _ _ rfl inferInstance inferInstance inferInstance rfl) .nil) (.trans (.drop [_,_] _ _) (.le (Sb.aggs (bs:=y9 weH) (by exact ⟨.unfull,.unfull,.unfull,.unfull,(.lists (by simp) ⟨⟨.refl _,.refl _,.refl _,.refl _,.refl _,.refl _,.refl _,.refl _,.nil _ _,trivial⟩,⟨.refl _,.refl _,.refl _,.refl _,.refl _,.refl _,.refl _,.refl _,.nil _ _,trivial⟩,⟨.refl _,.refl _,.refl _,.refl _,.refl _,.refl _,.refl _,.refl _,.nil _ _,trivial⟩,⟨.refl _,.refl _,.refl _,.refl _,.refl _,.refl _,.refl _,.refl _,.nil _ _,trivial⟩,⟨.refl _,.refl _,.refl _,.refl _,.refl _,.refl _,.refl _,.refl _,.nil _ _,trivial⟩,⟨.refl _,.refl _,.refl _,.refl _,.refl _,.refl _,.refl _,.refl _,.unfull,trivial⟩,⟨.refl _,.refl _,.refl _,.refl _,.refl _,.refl _,.refl _,.refl _,.nil _ _,trivial⟩,trivial⟩),.nil _ _,(.lists (by simp) ⟨⟨.refl _,.refl _,.refl _,.unfull,trivial⟩,trivial⟩),.nil _ _,trivial⟩)).le)) ⟨rfl,rfl⟩
theorem yll:Lim 4611686018427387904 weH:=⟨by decide,by decide,by decide,by decide,by decide,by decide,by decide,by decide,by decide,by decide,by decide⟩
abbrev ynp:Conf:=⟨0,1,1,1,4,0,0⟩
abbrev yh6:Conf:=⟨0,1,2,1,5,0,0⟩
abbrev yld:Conf:=⟨0,1,1,1,6,0,0⟩
theorem we_j1:wrJ weH yh6=true:=by rw [wrJ,decide_eq_true zhp,decide_eq_true ylv,Bool.or_true];rfl
theorem we_j2:wrJ weH yld=false:=by rw [wrJ,decide_eq_false yc1.1,decide_eq_false yc1.2];simp
theorem yn5:y8 Tryz.prog 53 [.agg (y9 weH)] (.glob 2 156 y2:: .glob 4 305 y3:: .glob 5 308 z8:: .glob 3 246 w6:: []) (fun r h'=>h'= .glob 2 156 y2:: .glob 4 305 y3:: .glob 5 308 z8:: .glob 3 246 w6:: []∧r= .tup [zia [ynp],iv 0]):=(zqm weH yll).mono fun _ _ q=>⟨q.1,by rw [q.2,zl9 zhp,zz5,zhp]⟩
theorem yn4:y8 Tryz.prog 54 [.agg (y9 weH)] (.glob 2 156 y2:: .glob 4 305 y3:: .glob 5 308 z8:: .glob 3 246 w6:: []) (fun r h'=>h'= .glob 2 156 y2:: .glob 4 305 y3:: .glob 5 308 z8:: .glob 3 246 w6:: []∧r= .tup [zia [yh6],iv 0]):=(zsd weH yll).mono fun _ _ q=>⟨q.1,by rw [q.2,ycv zhp,zz4,zhp]⟩
theorem yn3:y8 Tryz.prog 59 [.agg (y9 weH),.agg (zan yh6)] (.glob 2 156 y2:: .glob 4 305 y3:: .glob 5 308 z8:: .glob 3 246 w6:: []) (fun r h'=>h'= .glob 2 156 y2:: .glob 4 305 y3:: .glob 5 308 z8:: .glob 3 246 w6:: []∧r=bv true):=(ycx weH yll yh6).mono fun _ _ q=>⟨q.1,by rw [q.2,we_j1]⟩
theorem yn2:y8 Tryz.prog 59 [.agg (y9 weH),.agg (zan yld)] (.glob 2 156 y2:: .glob 4 305 y3:: .glob 5 308 z8:: .glob 3 246 w6:: []) (fun r h'=>h'= .glob 2 156 y2:: .glob 4 305 y3:: .glob 5 308 z8:: .glob 3 246 w6:: []∧r=bv false):=(ycx weH yll yld).mono fun _ _ q=>⟨q.1,by rw [q.2,we_j2]⟩
theorem ynq {f g:Bool} (c:Conf):y8 Tryz.prog 19 [.list f 7 [zan c],.list g 7 [zan c]] [] (fun r h'=>h'= []∧r=bv true):=ykq [c] (by show 1≤_;decide)
theorem yem  :y8 Tryz.prog 51 [] (.glob 2 156 y2:: .glob 4 305 y3:: .glob 5 308 z8:: .glob 3 246 w6:: []) (fun r h'=>h'= .glob 2 156 y2:: .glob 4 305 y3:: .glob 5 308 z8:: .glob 3 246 w6:: []∧r=bv true):=by
 refine z6 Tryz.func51 rfl rfl rfl ?_
 refine rn ?_;refine qv rfl rfl (y4 rfl rfl (y1.pure (R:=fun r=>r= .agg (y9 weH)) (y1.of_fun znm))) ?_
 refine qv rfl rfl (y4 rfl rfl (y1.of_fun yn5)) ?_
 refine rn ?_;refine qv rfl rfl (y4 rfl rfl (y1.pure (R:=fun r=>r= .agg (y9 weH)) (y1.of_fun znm))) ?_
 refine qv rfl rfl (y4 rfl rfl (y1.of_fun yn4)) ?_
 refine q1 ?_;refine q1 ?_;refine q1 ?_;refine q1 ?_;refine q1 ?_;refine u4 (zai ?_)
 refine w9 (y6 ?_)
 refine qq rfl rfl (u9 (out:=zan ynp) rfl (by rfl)) ?_
 refine z7 rfl (y7 rfl fun b5=> ?_)
 first|refine z7 rfl (u7 rfl rfl rfl ?_)|refine z7 rfl (zad rfl rfl rfl rfl (Nat.le_of_ble_eq_true rfl) ?_)
 refine u4 (zai ?_)
 refine w9 (y6 ?_)
 refine qq rfl rfl (u9 (out:=zan yh6) rfl (by rfl)) ?_
 refine z7 rfl (y7 rfl fun b6=> ?_)
 refine rn ?_;refine j3 26 rfl ?_
 refine rn ?_;refine dv rfl rfl (w8 rfl rfl) ?_
 refine dv rfl rfl (by exact y4 rfl rfl (y1.pure (R:=fun r=>r=bv true) (y1.of_fun (ynq _)))) ?_
 refine rn ?_;refine dv rfl rfl (w8 rfl rfl) ?_
 refine dv rfl rfl (by exact y4 rfl rfl (y1.pure (R:=fun r=>r=bv true) (y1.of_fun (ynq _)))) ?_
 refine rn ?_;refine dv rfl rfl (by exact y4 rfl rfl (y1.pure (R:=fun r=>r= .agg (y9 weH)) (y1.of_fun znm))) ?_
 refine rn ?_;refine dv rfl rfl (by exact y4 rfl rfl (y1.qt (y1.of_fun yn3) ((pt2 _ _ _ _).trans (.cons _ ((pt2 _ _ _ _).trans (.cons _ ((pt2 _ _ _ _).trans (.cons _ (pt2 _ _ _ _))))))))) ?_
 refine rn ?_;refine dv rfl rfl (by exact y4 rfl rfl (y1.pure (R:=fun r=>r= .agg (y9 weH)) (y1.of_fun znm))) ?_
 refine dq rfl rfl (u9 (out:=zan yld) rfl (by rfl)) ?_
 refine rn ?_;refine qv rfl rfl (y4 rfl rfl (y1.qt (y1.of_fun yn2) ((pt2 _ _ _ _).trans (.cons _ ((pt2 _ _ _ _).trans (.cons _ ((pt2 _ _ _ _).trans (.cons _ (pt2 _ _ _ _))))))))) ?_
 refine rn ?_;refine rq 2 ?_
 exact ⟨rfl,rfl⟩
theorem zql (l:List Conf):(zbv l).length≤l.length:=by
 rw [zbv,(zil zgt _).length_eq,oM];exact zp8 l
theorem zz3 (h:Hist):(zma h).length≤36000000000:=by
 by_cases hc:q6 h=0
 ·rw [zl9 hc];exact Nat.le_trans (zql _) (zph hc)
 ·rw [ycy hc];exact Nat.zero_le _
def zax (h:Hist):Hist:={h with mats:= []}
theorem zfb {h:Hist} {N:Nat} (la:Lim N h):Lim N (zax h):=⟨la.ts,la.ss,la.os,la.ps,la.evs,la.ords,Nat.zero_le _,la.wants,la.scans,la.ordts,fun e he=>by cases he⟩
theorem zzy (h:Hist):ycw (zax h)= []:=by
 rw [ycw];split
 ·exact zwi rfl
 ·rfl
theorem zz2 {h:Hist} (hc:q6 h=0) (hc2:q6 (zax h)=0):zma (zax h)=zma h:=by
 rw [zl9 hc,zl9 hc2,zax,zuz]
def rdQ (e:Ev):Bool:=e.kind==3 && (decide (e.v.k > 0) && (e.v.t !=e.t))
def rdS (m:List ((Int×Int)×Bool)) (e:Ev):List ((Int×Int)×Bool):=if rdQ e=true then zcq (e.v.t,e.t) true m else m
def rdM (l:List Ev):List ((Int×Int)×Bool):=l.foldl rdS []
theorem yl7 {l:List Ev} {j:Nat} (hj:j < l.length) (q:rdQ l[j]=true):rdM (l.take (j+1))=zcq (l[j].v.t,l[j].t) true (rdM (l.take j)):=by
 rw [rdM,List.take_succ_eq_append_getElem hj,List.foldl_append]
 show rdS (rdM (l.take j)) l[j]=_
 rw [rdS,if_pos q]
theorem yfc {l:List Ev} {j:Nat} (hj:j < l.length) (q:rdQ l[j]=false):rdM (l.take (j+1))=rdM (l.take j):=by
 rw [rdM,List.take_succ_eq_append_getElem hj,List.foldl_append]
 show rdS (rdM (l.take j)) l[j]=_
 rw [rdS,if_neg (by rw [q];decide)]
theorem yis {k:Int×Int}:∀(l:List Ev) (m:List ((Int×Int)×Bool)),((zap k m).getD false=true∨∃e∈l,rdQ e=true∧(e.v.t,e.t)=k)→(zap k (l.foldl rdS m)).getD false=true
 | [],m,h=>h.resolve_right (by rintro ⟨e,he,_⟩;cases he)
 |e::l,m,h=>by
  refine yis l (rdS m e) ?_
  by_cases q:rdQ e=true
  ·rw [rdS,if_pos q,zbl]
   by_cases e1:(e.v.t,e.t)=k
   ·rw [if_pos e1];exact .inl rfl
   ·rw [if_neg e1]
    rcases h with h|⟨z,hz,h1,h2⟩
    ·exact .inl h
    ·rcases List.mem_cons.1 hz with rfl|hz
     ·exact absurd h2 e1
     ·exact .inr ⟨z,hz,h1,h2⟩
  ·rw [rdS,if_neg q]
   rcases h with h|⟨z,hz,h1,h2⟩
   ·exact .inl h
   ·rcases List.mem_cons.1 hz with rfl|hz
    ·exact absurd h1 q
    ·exact .inr ⟨z,hz,h1,h2⟩
theorem yfb {h:Hist} (hc:q6 h=0) {z:Conf} (hz:z∈zma h):(zap (z.f,z.t) (rdM h.evs)).getD false=true:=by
 rw [zl9 hc] at hz
 obtain ⟨_,hne,_,i,j,hi,hj,_,_,_,_,_,_,v0,vt,e1,e2,e3,_⟩:=zx3 (za0.1 hc) ((zg7 _ _).1 hz).1
 refine yis h.evs [] (.inr ⟨h.evs[j],List.getElem_mem hj,?_,by rw [e3,vt,e1]⟩)
 rw [rdQ,e2,e3,e1,vt,decide_eq_true v0,bne_iff_ne.2 hne];rfl
theorem zzw (h:Hist) (la:Lim 4611686018427387904 h):y8 Tryz.prog 54 [.agg (y9 (zax h))] (.glob 2 156 y2:: .glob 4 305 y3:: .glob 5 308 z8:: .glob 3 246 w6:: []) (fun r h'=>h'= .glob 2 156 y2:: .glob 4 305 y3:: .glob 5 308 z8:: .glob 3 246 w6:: []∧r= .tup [zia [],iv (q6 (zax h))]):=(zsd (zax h) (zfb la)).mono fun _ _ q=>⟨q.1,by rw [q.2,zzy]⟩
theorem yeh (h:Hist) (la:Lim 4611686018427387904 h) (hc:q6 h=0) (hc2:q6 (zax h)=0):y8 Tryz.prog 53 [.agg (y9 (zax h))] (.glob 2 156 y2:: .glob 4 305 y3:: .glob 5 308 z8:: .glob 3 246 w6:: []) (fun r h'=>h'= .glob 2 156 y2:: .glob 4 305 y3:: .glob 5 308 z8:: .glob 3 246 w6:: []∧r= .tup [zia (zma h),iv 0]):=(zqm (zax h) (zfb la)).mono fun _ _ q=>⟨q.1,by rw [q.2,zz2 hc hc2,hc2]⟩
theorem yh3 (x:Hist)  (lb:Lim 4611686018427387904 x)  :y8 Tryz.prog 12 [.agg (y9 x)] (.glob 2 156 y2:: .glob 4 305 y3:: .glob 5 308 z8:: .glob 3 246 w6:: []) (fun r h'=>h'= .glob 2 156 y2:: .glob 4 305 y3:: .glob 5 308 z8:: .glob 3 246 w6:: []∧r=bv true):=by
 refine z6 Tryz.func12 rfl rfl rfl ?_
 have hgE:=(zh7 x).evs
 refine rn ?_;refine z7 rfl (w7 rfl rfl rfl fun b1=> ?_)
 refine rn ?_;refine qv rfl rfl (y4 rfl rfl (y1.qt (y1.of_fun yem) ((pt1 _ _ _).trans (.cons _ ((pt1 _ _ _).trans (.cons _ ((pt1 _ _ _).trans (.cons _ (pt1 _ _ _))))))))) ?_
 refine rn ?_;refine y0 rfl (fun hc15=> ?_) (fun hc15=> ?_)
 ·exact absurd hc15 (by decide)
 ·refine rn ?_;refine qv rfl rfl (y4 rfl rfl (zat (ym7 x lb) (Sbs.refl _))) ?_
  refine z7 rfl (y7 rfl fun b3=> ?_)
  refine rn ?_;refine qv rfl rfl (y4 rfl rfl (y1.qt (y1.of_fun (zqm (zep x) ((zh7 x).mono (by decide)))) ((pt2 _ _ _ _).trans (.cons _ ((pt2 _ _ _ _).trans (.cons _ ((pt2 _ _ _ _).trans (.cons _ (pt2 _ _ _ _))))))))) ?_
  refine rn ?_;refine y0 rfl (fun hc24=> ?_) (fun hc24=> ?_)
  ·have hc:q6 (zep x)≠0:=nzT hc24
   refine rn ?_;first|(refine rq 2 ?_;exact ⟨rfl,rfl⟩)|(refine rq 3 ?_;exact ⟨rfl,rfl⟩)
  ·have hc:q6 (zep x)=0:=nzF hc24
   have hLL:=zz3 (zep x)
   refine rn ?_;refine z7 rfl (zab (enc:=zag) rfl fun bm=> ?_)
   refine rn ?_;refine zbn (zep x).evs.length (fun _=>True) (fun j=>⟨[(29,iv j),(3,pZ b3),(4,zia (zma (zep x))),(6,mpv bm),(27,zvg (zep x).evs),(28,iv ((zep x).evs.map evR).length)],.map bm (j8 zag (zar bv (rdM ((zep x).evs.take j)))):: .box b3 28 (y9 (zep x)):: .box b1 28 (y9 x):: .glob 2 156 y2:: .glob 4 305 y3:: .glob 5 308 z8:: .glob 3 246 w6:: [],[]⟩) trivial es ?_
   intro j lj _
   refine rn ?_;refine y0 rfl (fun hc30=> ?_) (fun hc30=> ?_)
   ·have hj:=zdb hc30
    have rj:=zbs (f:=evR) hj
    refine rn ?_;refine z7 rfl (y7 rfl fun b8=> ?_)
    refine rn ?_;refine v8 (fun hg11_3=> ?_) (fun hg11_3=> ?_)
    ·refine rn ?_;refine v8 (fun hg11_9=> ?_) (fun hg11_9=> ?_)
     ·refine rn ?_;refine y0 rfl (fun hc49=> ?_) (fun hc49=> ?_)
      ·have hq:rdQ (zep x).evs[j]=true:=by rw [rdQ];simp_all
       refine y6 ?_;refine q1 ?_;refine q1 ?_;refine q1 ?_;refine q1 ?_;refine q1 ?_;refine q1 ?_;refine qq rfl rfl (za7 (out:= [iv (zep x).evs[j].v.t,iv (zep x).evs[j].t]) rfl (by rfl)) ?_
       refine z7 rfl (j7 (g:=bv) (enc:=zag) (k:=((zep x).evs[j].v.t,(zep x).evs[j].t)) (v:=true) rfl rfl rfl ?_)
       refine rn ?_;exact ⟨hj,trivial,by rw [yl7 hj hq];exact eA⟩
      ·have hq:rdQ (zep x).evs[j]=false:=by
        rw [rdQ]
        first
        |(simp_all;done)
        |(simp_all;omega)
       refine rn ?_;exact ⟨hj,trivial,by rw [yfc hj hq];exact eA⟩
     ·refine rn ?_;refine y0 rfl (fun hc49=> ?_) (fun hc49=> ?_)
      ·first|cases hc49|exact absurd hc49 (by decide)|(exfalso;simp_all;done)
      ·have hq:rdQ (zep x).evs[j]=false:=by
        rw [rdQ]
        first
        |(simp_all;done)
        |(simp_all;omega)
       refine rn ?_;exact ⟨hj,trivial,by rw [yfc hj hq];exact eA⟩
    ·refine rn ?_;refine y0 rfl (fun hc49=> ?_) (fun hc49=> ?_)
     ·first|cases hc49|exact absurd hc49 (by decide)|(exfalso;simp_all;done)
     ·have hq:rdQ (zep x).evs[j]=false:=by
       rw [rdQ]
       first
       |(simp_all;done)
       |(simp_all;omega)
      refine rn ?_;exact ⟨hj,trivial,by rw [yfc hj hq];exact eA⟩
   ·have qj:=zdd hc30 lj
    subst qj
    refine rn ?_;rw [List.take_length]
    refine zbn (zma (zep x)).length (fun _=>True) (fun i=>⟨[(60,iv i),(3,pZ b3),(4,zia (zma (zep x))),(6,mpv bm),(58,zia (zma (zep x))),(59,iv ((zma (zep x)).map zan).length)],.map bm (j8 zag (zar bv (rdM (zep x).evs))):: .box b3 28 (y9 (zep x)):: .box b1 28 (y9 x):: .glob 2 156 y2:: .glob 4 305 y3:: .glob 5 308 z8:: .glob 3 246 w6:: [],[]⟩) trivial es ?_
    intro i li _
    refine rn ?_;refine y0 rfl (fun hc61=> ?_) (fun hc61=> ?_)
    ·have hi:=zdb hc61
     have ri:=zbs (f:=zan) hi
     have hrd:=yfb hc (List.getElem_mem hi)
     refine rn ?_;refine z7 rfl (y7 rfl fun b10=> ?_)
     first|refine z7 rfl (u7 rfl rfl rfl ?_)|refine z7 rfl (zad rfl rfl rfl rfl (Nat.le_of_ble_eq_true rfl) ?_)
     refine u4 (zai ?_)
     refine w9 (y6 ?_)
     refine q1 ?_;refine q1 ?_;refine q1 ?_;refine q1 ?_;refine q1 ?_;refine qq rfl rfl (za7 (out:= [iv (zma (zep x))[i].f,iv (zma (zep x))[i].t]) rfl (by rfl)) ?_
     refine qq rfl rfl (zq6 (zay (enc:=zag) (k:=((zma (zep x))[i].f,(zma (zep x))[i].t)) false rfl rfl) (congrArg bv hrd)) ?_
     refine rn ?_;refine y0 rfl (fun hc71=> ?_) (fun hc71=> ?_)
     ·exact absurd hc71 (by decide)
     ·refine rn ?_;exact ⟨hi,trivial,eA⟩
    ·have qi:=zdd hc61 li
     refine zhi ?_;refine zg9 ?_;refine zg9 ?_;refine zdt ?_;refine zai ?_;refine w9 (y6 ?_)
     refine q1 ?_;first|refine z7 rfl (u7 rfl rfl rfl ?_)|refine z7 rfl (zad rfl rfl rfl rfl (Nat.le_of_ble_eq_true rfl) ?_)
     refine u4 (zai ?_)
     refine w9 (y6 ?_)
     refine qq rfl rfl (zen (fun w O v hr=>Sb.rel (Sb.aggs (bs:=y9 (zax (zep x))) (by exact ⟨.refl _,.refl _,.refl _,.refl _,.refl _,.refl _,.nil _ _,.refl _,trivial⟩)) hr) (zdi rfl rfl)) ?_
     refine qv rfl rfl (y4 rfl rfl (y1.qt (y1.of_fun (zzw (zep x) ((zh7 x).mono (by decide)))) ((pt3 _ _ _ _ _).trans (.cons _ ((pt3 _ _ _ _ _).trans (.cons _ ((pt3 _ _ _ _ _).trans (.cons _ (pt3 _ _ _ _ _))))))))) ?_
     refine q1 ?_;refine q1 ?_;refine q1 ?_;refine q1 ?_;refine q1 ?_;refine u4 (zai ?_)
     refine w9 ?_;refine w9 (y6 ?_)
     refine qq rfl rfl (zen (fun w O v hr=>Sb.rel (Sb.aggs (bs:=y9 (zax (zep x))) (by exact ⟨.refl _,.refl _,.refl _,.refl _,.refl _,.refl _,.nil _ _,.refl _,trivial⟩)) hr) (zdi rfl rfl)) ?_
     refine qv rfl rfl (y4 rfl rfl (y1.qt (y1.of_fun (zro (zax (zep x)) (zfb ((zh7 x).mono (by decide))))) ((pt3 _ _ _ _ _).trans (.cons _ ((pt3 _ _ _ _ _).trans (.cons _ ((pt3 _ _ _ _ _).trans (.cons _ (pt3 _ _ _ _ _))))))))) ?_
     refine rn ?_;refine y0 rfl (fun hc81=> ?_) (fun hc81=> ?_)
     ·have hc2:q6 (zax (zep x))≠0:=nzT hc81
      refine w9 (y6 ?_)
      refine q1 ?_;refine q1 ?_;refine qq rfl rfl (zcc (c:=true) rfl rfl (congrArg some (beq_self_eq_true _))) ?_
      refine rn ?_;first|(refine rq 2 ?_;exact ⟨rfl,rfl⟩)|(refine rq 3 ?_;exact ⟨rfl,rfl⟩)
     ·have hc2:q6 (zax (zep x))=0:=nzF hc81
      refine zbz ?_;refine zai ?_;refine w9 (y6 ?_)
      refine qq rfl rfl (zen (fun w O v hr=>Sb.rel (Sb.aggs (bs:=y9 (zax (zep x))) (by exact ⟨.refl _,.refl _,.refl _,.refl _,.refl _,.refl _,.nil _ _,.refl _,trivial⟩)) hr) (zdi rfl rfl)) ?_
      refine qv rfl rfl (y4 rfl rfl (y1.qt (y1.of_fun (yeh (zep x) ((zh7 x).mono (by decide)) hc hc2)) ((pt3 _ _ _ _ _).trans (.cons _ ((pt3 _ _ _ _ _).trans (.cons _ ((pt3 _ _ _ _ _).trans (.cons _ (pt3 _ _ _ _ _))))))))) ?_
      refine q1 ?_;refine q1 ?_;refine q1 ?_;refine q1 ?_;refine q1 ?_;refine u4 (zai ?_)
      refine w9 (y6 ?_)
      refine q1 ?_;refine qq rfl rfl (zcc (c:=true) rfl rfl (congrArg some (by rw [hc2];rfl))) ?_
      refine q1 ?_;refine q1 ?_;refine qq rfl rfl (zcc (c:=true) rfl rfl (congrArg some (beq_self_eq_true _))) ?_
      refine q1 ?_;refine q1 ?_;refine q1 ?_;refine q1 ?_;refine qq rfl rfl (zcc (c:=true) rfl rfl (congrArg some (beq_self_eq_true _))) ?_
      refine q1 ?_;refine q1 ?_;refine q1 ?_;refine q1 ?_;refine q1 ?_;refine q1 ?_;refine qq rfl rfl (zcc (c:=true) rfl rfl (congrArg some (beq_self_eq_true _))) ?_
      refine rn ?_;first|(refine rq 2 ?_;exact ⟨rfl,rfl⟩)|(refine rq 3 ?_;exact ⟨rfl,rfl⟩)
end Go.Proofs
