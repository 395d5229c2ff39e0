/- The abstract logic: slices.SortFunc over a row of one's own whose elements are k plain cells, as a contract (the kit's shelf has walked it). .. -/
import Derived.Test.YtfmcbdjnmlcacaaGreatDoorWTeK
import Derived.Shelf.SlSortCmp.NoneTotal
set_option maxHeartbeats 4000000
set_option linter.unusedSectionVars false
set_option linter.unusedSimpArgs false
set_option linter.unusedVariables false
namespace Go.Ab
open Go Go.Shelf Go.Sort Go.Proofs
theorem zy7 {w w':World} (hk:Keep [] w [] w'):∃q os,w'=grow (w.drewN q) os:=by
 obtain ⟨⟨h1,h2⟩,h3,h4⟩:=hk.env
 have hh:w'.heap=w.heap++w'.heap.extract w.heap.size w'.heap.size:=by
  apply Array.ext_getElem?
  intro i
  by_cases hi:i < w.heap.size
  ·rw [Array.getElem?_append_left hi];exact (hk.same i hi (by simp)).1
  ·rw [Array.getElem?_append_right (by omega)]
   rw [Array.getElem?_extract]
   split
   ·congr 1;omega
   ·rw [Array.getElem?_eq_none (by omega)]
 refine ⟨w'.drawn - w.drawn,w'.heap.extract w.heap.size w'.heap.size,?_⟩
 have hd:w.drawn+(w'.drawn - w.drawn)=w'.drawn:=by omega
 cases w;cases w'
 simp only [grow,World.drewN] at *
 simp only [World.mk.injEq]
 exact ⟨hh,h3,by omega,h1,h2⟩
section
variable {P:Program} {α:Type} [Inhabited α] {enc:α→List Value} {k:Nat} {cf:α→α→Int}
def zew (enc:α→List Value) (x:α):List AV:=(enc x).map .v
theorem zs0 {w:World} {O:Nat→Prop} (x:α):Rel w O (.agg (zew enc x)) (.agg (enc x).toArray):=
 .agg _ _ (by simp [zew]) fun j h1 h2=>by simp only [zew,List.getElem_map,List.getElem_toArray];exact .v _
theorem yi5 (w:World):HRel noX w []:=⟨List.nodup_nil,fun b hb=>by simp [k9] at hb,fun b hb=>hb.elim,fun r hr=>by simp at hr⟩
theorem yjt {g:FuncId} (hp:∀x y,y7 P g [.agg (zew enc x),.agg (zew enc y)] [] (fun r h'=>h'= []∧r= .v (.int .i64 (cf x y)))) (blk off size:Nat) (w:World):CmpLays P g #[] enc k cf blk off size w:=fun m os dk hs x y=>by
 have h:=((hp x y) noX (sortWorldK enc k w blk off m dk os) [.agg (enc x).toArray,.agg (enc y).toArray] (yi5 _) ⟨zs0 x,zs0 y,trivial⟩).calls (fun k=>ycd none k)
 refine h.mono ?_;rintro e w' ⟨v,av,h',rfl,⟨rfl,rfl⟩,hr,_,hk⟩
 obtain rfl:=hr.v_eq
 exact ⟨rfl,zy7 hk⟩
end
section
variable {P:Program} {ρ:Ren} {α:Type} [Inhabited α] {enc:α→List Value} {k:Nat} {X:Nat→Prop} {w:World} {a:Addr} {cap:Nat} {T:TypeId} {xs ys:List α}
theorem rowK_holds (hk:∀x,(enc x).length=k) (hh:HRel X w [.row (.slice (some a) xs.length cap) k T (xs.map (zew enc))]):HoldsK enc k w a.block a.off xs.toArray∧a.block < w.heap.size∧a.spot=none:=by
 obtain ⟨h1,h2,h3,h4,c,h5,h6,h7⟩:=hh.holds _ (List.mem_singleton.2 rfl)
 refine ⟨fun t ht=> ?_,(hh.lt a.block (by simp [k9,Res.own])).1,h1⟩
 have ht':t < xs.length * k:=by simpa using ht
 have k0:0 < k:=by
  rcases Nat.eq_zero_or_pos k with q|q
  ·rw [q,Nat.mul_zero] at ht';omega
  ·exact q
 have hi:t / k < xs.length:=Nat.div_lt_of_lt_mul (by rw [Nat.mul_comm];exact ht')
 have hj:t % k < k:=Nat.mod_lt _ k0
 obtain ⟨v,e,r⟩:=h7 (t / k) (by simpa using hi) (t % k) (by simp [zew,hk];exact hj)
 simp only [List.getElem_map,zew] at r
 have hv:=r.v_eq
 have et:a.off+t / k * k+t % k=a.off+t:=by have:=Nat.div_add_mod t k;rw [Nat.mul_comm] at this;omega
 rw [et] at e
 have ef:(flatK enc k xs.toArray)[t]! =(enc xs[t / k])[t % k]'(by rw [hk];exact hj):=by
  rw [get_flatK _ _ _ _ (by simpa using ht'),getElem!_pos xs.toArray (t / k) (by simpa using hi),getElem!_pos _ _ (by rw [hk];exact hj)]
  simp
 refine ⟨?_,by simp [World.frozen?,h5]⟩
 show World.cell? w ⟨a.block,a.off+t,none⟩=some (id _)
 rw [ef]
 simp [World.cell?,h5,e,hv]
theorem ycb (hk:∀x,(enc x).length=k) (hh:HRel X w [.row (.slice (some a) xs.length cap) k T (xs.map (zew enc))]) (hl:ys.length=xs.length) (n:Nat) (os:Array Obj):
 HRel X (sortWorldK enc k w a.block a.off n ys.toArray os) [.row (.slice (some a) xs.length cap) k T (ys.map (zew enc))]∧Keep [a.block] w [a.block] (sortWorldK enc k w a.block a.off n ys.toArray os):=by
 obtain ⟨h1,h2,h3,h4,c,h5,h6,h7⟩:=hh.holds _ (List.mem_singleton.2 rfl)
 have hb:a.block < w.heap.size:=(hh.lt a.block (by simp [k9,Res.own])).1
 have hX:¬X a.block:=(hh.lt a.block (by simp [k9,Res.own])).2
 obtain ⟨w',hw'⟩:∃w',w'=sortWorldK enc k w a.block a.off n ys.toArray os:=⟨_,rfl⟩
 rw [←hw']
 have hheap:w'.heap=(w.heap.modify a.block (onCells (putCells id a.off (flatK enc k ys.toArray))))++os:=by rw [hw'];rfl
 have hos:zjg w w':=by rw [hw'];exact ⟨⟨rfl,rfl⟩,rfl,Nat.le_add_right _ _⟩
 have hsize:w.heap.size≤w'.heap.size:=by rw [hheap];simp
 have hold:∀b,b < w.heap.size→b≠a.block→w'.heap[b]? =w.heap[b]? :=fun b hb hne=>by
  rw [hheap,Array.getElem?_append_left (by simpa using hb),Array.getElem?_modify,if_neg (Ne.symm hne)]
 have hnew:w'.heap[a.block]? =some (.cells (putCells id a.off (flatK enc k ys.toArray) c) T (0,0)):=by
  rw [hheap,Array.getElem?_append_left (by simpa using hb),Array.getElem?_modify,if_pos rfl,h5];rfl
 refine ⟨⟨by simp [k9,Res.own],fun b hb2=> ?_,fun b hb2=>Nat.lt_of_lt_of_le (hh.xlt b hb2) hsize,fun r hr=> ?_⟩,⟨hsize,fun b hb2 hne=> ?_,hos⟩⟩
 ·have:b=a.block:=by simpa [k9,Res.own] using hb2
  subst this;exact ⟨Nat.lt_of_lt_of_le hb hsize,hX⟩
 ·rw [List.mem_singleton] at hr
  subst hr
  refine ⟨h1,by simp [hl],h3,fun i hi=>by simp [zew,hk],_,hnew,by simpa [putCells] using h6,fun i hi j hj=> ?_⟩
  have hi2:i < ys.length:=by simpa using hi
  have hj2:j < k:=by simpa [zew,hk] using hj
  have hm1:(i+1) * k≤ys.length * k:=Nat.mul_le_mul_right k hi2
  have hm2:xs.length * k≤cap * k:=Nat.mul_le_mul_right k (by simpa using h3)
  rw [Nat.add_mul,Nat.one_mul] at hm1
  have hin:i * k+j < ys.length * k:=by omega
  have hc:a.off+i * k+j < c.size:=by rw [hl] at hin;omega
  have k0:0 < k:=by omega
  have ed:(i * k+j) / k=i:=by rw [Nat.mul_comm,Nat.mul_add_div k0,Nat.div_eq_of_lt hj2,Nat.add_zero]
  have em:(i * k+j) % k=j:=by rw [Nat.mul_comm,Nat.mul_add_mod,Nat.mod_eq_of_lt hj2]
  refine ⟨(enc ys[i])[j]'(by rw [hk];exact hj2),?_,?_⟩
  ·simp only [putCells,Array.getElem?_mapIdx]
   rw [Array.getElem?_eq_getElem hc]
   simp only [Option.map_some]
   rw [if_pos ⟨by omega,by simp;omega⟩]
   have e2:a.off+i * k+j - a.off=i * k+j:=by omega
   rw [e2]
   congr 1
   show (flatK enc k ys.toArray)[i * k+j]! =_
   rw [get_flatK _ _ _ _ (by simpa using hin),ed,em,getElem!_pos ys.toArray i (by simpa using hi2),getElem!_pos _ _ (by rw [hk];exact hj2)]
   simp
  ·simp only [List.getElem_map,zew]
   exact .v _
 ·have hne2:b≠a.block:=by simpa using hne
  exact ⟨hold b hb2 hne2,hne⟩
theorem zo9 (L:SlLaysF0.n6 P ρ) (aE:∀w,(isAgg (ρ.t 24)).run P w= .ok true w) (zE:∀w,(Go.sizeOf (ρ.t 24)).run P w= .ok k w) (hk:∀x,(enc x).length=k) (h1:∀x,∀v∈enc x,v.oneCell'=true) (cf:α→α→Int) (hO:SWO (ltOf cf)) (g:FuncId) [Enters P g]
 (hp:∀x y,y7 P g [.agg (zew enc x),.agg (zew enc y)] [] (fun r h'=>h'= []∧r= .v (.int .i64 (cf x y)))) (s:SV) (T:TypeId) (xs:List α) (hs:xs.length < 4611686018427387904):
 y7 P (ρ.f 6) [.v s.v,.fn (.func g) [] []] [.row s.v k T (xs.map (zew enc))] (fun r h'=>∃ys:List α,ys.Perm xs∧(∀i j (hi:i < j) (hj:j < ys.length),¬cf ys[j] (ys[i]'(by omega)) < 0)∧h'= [.row s.v k T (ys.map (zew enc))]∧r= .v (.tuple #[])):=by
 intro X w vs hh ha
 match vs,ha with
 | [v,u],⟨hv,hu,_⟩=>
   obtain rfl:=hv.v_eq
   have hu':u= .func (.func g) #[] #[]:=by
    cases hu with
    |fn _ _ _ fa ca e1 e2 _ _=>rw [Array.eq_empty_of_size_eq_zero (xs:=fa) e1.symm,Array.eq_empty_of_size_eq_zero (xs:=ca) e2.symm]
   subst hu'
   obtain ⟨a,n,cap⟩:=s
   cases a with
   |none=>
    obtain ⟨g1,rfl,rfl⟩:=hh.holds _ (List.mem_singleton.2 rfl)
    obtain rfl:xs= []:=by simpa using g1
    refine callsIn_wide.2 ((AnyF.slices_SortFunc_none L none 0 _ w).mono ?_)
    rintro e w' ⟨rfl,rfl⟩
    exact ⟨_,_,_,rfl,⟨[],.refl _,fun i j hi hj=>by simp at hj,rfl,rfl⟩,.v _,hh,.refl _ _⟩
   |some a=>
    have hn:n=xs.length:=by
     have:=(hh.holds _ (List.mem_singleton.2 rfl)).2.1
     simpa using this
    subst hn
    obtain ⟨g1,g2,g3⟩:=rowK_holds hk hh
    obtain ⟨b,off,sp⟩:=a
    simp only at g1 g2 g3
    subst g3
    refine callsIn_wide.2 ((AnyQ.slices_SortFunc L k aE zE enc hk h1 cf hO g #[] b off cap xs.toArray w (fun args w=>zhy args w) (yjt hp b off _ w) g1 g2 (by simpa using hs)).mono ?_)
    rintro e w' ⟨rfl,d',n,os,⟨p1,_,p3⟩,p4,rfl⟩
    have hl:d'.toList.length=xs.length:=by simpa using p1
    have hperm:d'.toList.Perm xs:=by
     have q1:(d'.extract 0 xs.toArray.size)=d':=by rw [←p1];simp
     have q2:(xs.toArray.extract 0 xs.toArray.size)=xs.toArray:=by simp
     rw [q1,q2] at p3;simpa using p3
    obtain ⟨k1,k2⟩:=ycb (ys:=d'.toList) hk hh hl n os
    refine ⟨_,_,_,rfl,⟨d'.toList,hperm,fun i j hi hj=> ?_,rfl,rfl⟩,.v _,k1,k2⟩
    have hj':j < d'.size:=by simpa using hj
    have:=p4 i j (Nat.zero_le _) hi (by rw [←p1];exact hj')
    rw [getElem!_pos d' j hj',getElem!_pos d' i (by omega)] at this
    simpa [ltOf] using this
end
end Go.Ab
namespace Go.Proofs
open Go Go.Ab Go.Shelf
def yg5:Go.Shelf.Ren:=⟨fun|6=>156|14=>213|15=>137|20=>248|21=>249|22=>250|23=>251|24=>252|25=>253|26=>254|27=>255|28=>184|29=>185|46=>273|47=>220|48=>221|49=>274|50=>275|57=>283|n=>n,fun|0=>0|3=>3|4=>4|5=>5|9=>9|22=>35|24=>41|25=>64|39=>180|45=>218|46=>219|50=>67|53=>225|55=>227|66=>265|70=>185|76=>288|77=>289|n=>n,fun n=>n⟩
theorem ybs:SlLaysF0.n6 Tryz.prog yg5:={
 mixed:=by kernel_rfl
 f6:=⟨ "slices.SortFunc[[]yardarm/api.Conflict,yardarm/api.Conflict]",by decide,Tryz.func156.trans (congrArg some (by kernel_rfl))⟩
 f14:=⟨ "slices.pdqsortCmpFunc[yardarm/api.Conflict]",by decide,Tryz.func213.trans (congrArg some (by kernel_rfl))⟩
 f15:=Tryz.func137.trans (congrArg some (by kernel_rfl))
 f20:=⟨ "slices.insertionSortCmpFunc[yardarm/api.Conflict]",by decide,Tryz.func248.trans (congrArg some (by kernel_rfl))⟩
 f21:=⟨ "slices.heapSortCmpFunc[yardarm/api.Conflict]",by decide,Tryz.func249.trans (congrArg some (by kernel_rfl))⟩
 f22:=⟨ "slices.breakPatternsCmpFunc[yardarm/api.Conflict]",by decide,Tryz.func250.trans (congrArg some (by kernel_rfl))⟩
 f23:=⟨ "slices.choosePivotCmpFunc[yardarm/api.Conflict]",by decide,Tryz.func251.trans (congrArg some (by kernel_rfl))⟩
 f24:=⟨ "slices.reverseRangeCmpFunc[yardarm/api.Conflict]",by decide,Tryz.func252.trans (congrArg some (by kernel_rfl))⟩
 f25:=⟨ "slices.partialInsertionSortCmpFunc[yardarm/api.Conflict]",by decide,Tryz.func253.trans (congrArg some (by kernel_rfl))⟩
 f26:=⟨ "slices.partitionEqualCmpFunc[yardarm/api.Conflict]",by decide,Tryz.func254.trans (congrArg some (by kernel_rfl))⟩
 f27:=⟨ "slices.partitionCmpFunc[yardarm/api.Conflict]",by decide,Tryz.func255.trans (congrArg some (by kernel_rfl))⟩
 f28:=Tryz.func184.trans (congrArg some (by kernel_rfl))
 f29:=Tryz.func185.trans (congrArg some (by kernel_rfl))
 f46:=⟨ "slices.siftDownCmpFunc[yardarm/api.Conflict]",by decide,Tryz.func273.trans (congrArg some (by kernel_rfl))⟩
 f47:=Tryz.func220.trans (congrArg some (by kernel_rfl))
 f48:=Tryz.func221.trans (congrArg some (by kernel_rfl))
 f49:=⟨ "slices.medianAdjacentCmpFunc[yardarm/api.Conflict]",by decide,Tryz.func274.trans (congrArg some (by kernel_rfl))⟩
 f50:=⟨ "slices.medianCmpFunc[yardarm/api.Conflict]",by decide,Tryz.func275.trans (congrArg some (by kernel_rfl))⟩
 f57:=⟨ "slices.order2CmpFunc[yardarm/api.Conflict]",by decide,Tryz.func283.trans (congrArg some (by kernel_rfl))⟩
 t0:=Tryz.underlying0
 a0:=Tryz.isAgg0
 z0:=Tryz.sizeOf0
 v0:=Tryz.zeroValue0
 t3:=Tryz.underlying3
 a3:=Tryz.isAgg3
 z3:=Tryz.sizeOf3
 v3:=Tryz.zeroValue3
 t4:=Tryz.underlying4
 a4:=Tryz.isAgg4
 z4:=Tryz.sizeOf4
 v4:=Tryz.zeroValue4
 t5:=Tryz.underlying5
 a5:=Tryz.isAgg5
 z5:=Tryz.sizeOf5
 v5:=Tryz.zeroValue5
 t9:=Tryz.underlying9
 a9:=Tryz.isAgg9
 z9:=Tryz.sizeOf9
 v9:=Tryz.zeroValue9
 t22:=Tryz.underlying35
 a22:=Tryz.isAgg35
 z22:=Tryz.sizeOf35
 v22:=Tryz.zeroValue35
 t25:=Tryz.underlying64
 a25:=Tryz.isAgg64
 z25:=Tryz.sizeOf64
 v25:=Tryz.zeroValue64
 t39:=Tryz.underlying180
 a39:=Tryz.isAgg180
 z39:=Tryz.sizeOf180
 v39:=Tryz.zeroValue180
 t45:=Tryz.underlying218
 a45:=Tryz.isAgg218
 z45:=Tryz.sizeOf218
 v45:=Tryz.zeroValue218
 t46:=Tryz.underlying219
 a46:=Tryz.isAgg219
 z46:=Tryz.sizeOf219
 v46:=Tryz.zeroValue219
 t50:=Tryz.underlying67
 a50:=Tryz.isAgg67
 z50:=Tryz.sizeOf67
 v50:=Tryz.zeroValue67
 t53:=Tryz.underlying225
 a53:=Tryz.isAgg225
 z53:=Tryz.sizeOf225
 v53:=Tryz.zeroValue225
 t55:=Tryz.underlying227
 a55:=Tryz.isAgg227
 z55:=Tryz.sizeOf227
 v55:=Tryz.zeroValue227
 t66:=Tryz.underlying265
 a66:=Tryz.isAgg265
 z66:=Tryz.sizeOf265
 v66:=Tryz.zeroValue265
 t70:=Tryz.underlying185
 a70:=Tryz.isAgg185
 z70:=Tryz.sizeOf185
 v70:=Tryz.zeroValue185
 t76:=Tryz.underlying288
 a76:=Tryz.isAgg288
 z76:=Tryz.sizeOf288
 v76:=Tryz.zeroValue288
 t77:=Tryz.underlying289
 a77:=Tryz.isAgg289
 z77:=Tryz.sizeOf289
 v77:=Tryz.zeroValue289}
set_option maxRecDepth 10000
attribute [local irreducible] QR QV OE zch aw zc6 zdc zbg zb8 thn zfa zd9 jch zfo
open Go.H
def orL:List Int→Int
 | []=>0
 |a::l=>if a≠0 then a else orL l
theorem ynx (a b:Conf):orL [zmg a.f b.f,zmg a.t b.t,zmg a.a b.a,zmg a.b b.b,zmg a.o b.o,zmg a.p b.p]=zo8 a b:=by
 rw [zo8]
 simp only [ztz,orL,ite_not]
 rfl
theorem yrq {l:List Int} {k:Nat} (hk:k < l.length) (h:l[k]≠0):orL (l.drop k)=l[k]:=by
 rw [List.drop_eq_getElem_cons hk,orL,if_pos h]
theorem yvc {l:List Int} {k:Nat} (hk:k < l.length) (h:l[k]=0):orL (l.drop k)=orL (l.drop (k+1)):=by
 rw [List.drop_eq_getElem_cons hk,orL,if_neg (by simpa using h)]
theorem ynw {l:List Int} {k:Nat} (hk:k=l.length):orL (l.drop k)=0:=by rw [hk,List.drop_length];rfl
theorem zii (a b:Conf):zo8 b a= - zo8 a b:=zoj _ _
theorem zlr {a b c:Conf} (h:zo8 a b≤0) (k:zo8 b c≤0):zo8 a c≤0:=ziw _ _ _ h k
theorem yv5 {f:Bool} (l:List Int) (hl:l.length≤4611686018427387904):y7 Tryz.prog 212 [.list f 1 (l.map zai)] [] (fun r h'=>h'= []∧r=iv (orL l)):=by
 refine z6 Tryz.func212 rfl rfl rfl ?_
 refine rn ?_;refine zc8 (l.length) (fun k:Nat=>orL l=orL (l.drop k)) (fun k=> [(8,iv k)]) [(3,_),(6,_),(7,_)] rfl ?_
 intro k lk zk
 refine rn ?_;refine z7 rfl (fun hc9=> ?_) (fun hc9=> ?_)
 ·have hk:=zay hc9
  have rk:=zae (f:=zai) hk
  refine rn ?_;refine z7 rfl (fun hc14=> ?_) (fun hc14=> ?_)
  ·refine rn ?_;refine rq 0 ?_
   exact ⟨rfl,congrArg iv (by rw [zk,yrq hk (by simpa using hc14)])⟩
  ·refine rn ?_;exact ⟨hk,by rw [zk,yvc hk (by simpa using hc14)],eA⟩
 ·have qk:=zaz hc9 lk
  refine rn ?_;refine rq 0 ?_
  exact ⟨rfl,congrArg iv (by rw [zk,ynw qk])⟩
theorem zr3 (a b:Conf):y7 Tryz.prog 155 [.agg (j3 a),.agg (j3 b)] [] (fun r h'=>h'= []∧r=iv (zo8 a b)):=by
 refine z6 Tryz.func155 rfl rfl rfl ?_
 refine rn ?_;refine z8 rfl (w8 rfl rfl rfl fun b2=> ?_)
 refine z8 rfl (w8 rfl rfl rfl fun b3=> ?_)
 refine rn ?_;refine u4 29 rfl ?_
 refine rn ?_;refine dv rfl rfl (by exact y0 rfl rfl (v8 (zqc _ _) (Sbs.refl _))) ?_
 refine rn ?_;refine dv rfl rfl (by exact y0 rfl rfl (v8 (zqc _ _) (Sbs.refl _))) ?_
 refine rn ?_;refine dv rfl rfl (by exact y0 rfl rfl (v8 (zqc _ _) (Sbs.refl _))) ?_
 refine rn ?_;refine dv rfl rfl (by exact y0 rfl rfl (v8 (zqc _ _) (Sbs.refl _))) ?_
 refine rn ?_;refine dv rfl rfl (by exact y0 rfl rfl (v8 (zqc _ _) (Sbs.refl _))) ?_
 refine rn ?_;refine qv rfl rfl (y0 rfl rfl (v8 (zqc _ _) (Sbs.refl _))) ?_
 refine qv rfl rfl (q6 rfl rfl) ?_
 refine qv rfl rfl (y0 rfl rfl (v8 (yv5 [zmg a.f b.f,zmg a.t b.t,zmg a.a b.a,zmg a.b b.b,zmg a.o b.o,zmg a.p b.p] (by simp only [List.length_cons,List.length_nil];omega)) (Sbs.refl _))) ?_
 refine rn ?_;refine rq 2 ?_
 exact ⟨rfl,congrArg iv (ynx a b)⟩
theorem yw5:Go.Sort.SWO (ltOf zo8):=⟨fun x=>decide_eq_false (by rw [zo8,zoi];decide),fun x y z h k=>decide_eq_true (by
 have h:=oT h;have k:=oT k
 rcases Int.lt_or_eq_of_le (zlr (Int.le_of_lt h) (Int.le_of_lt k)) with q|q
 ·exact q
 ·have h2:=zlr (a:=z) (b:=x) (c:=y) (by rw [zii];omega) (Int.le_of_lt h)
  rw [zii] at h2;omega),fun x y z h k=>decide_eq_false (by
 have h:=oF h;have k:=oF k
 rw [zii] at h k
 have:=zlr (a:=z) (b:=y) (c:=x) (by omega) (by omega)
 rw [zii] at this;omega)⟩
def zv8 (c:Conf):List Value:= [.int .i64 c.f,.int .i64 c.t,.int .i64 c.k,.int .i64 c.a,.int .i64 c.b,.int .i64 c.o,.int .i64 c.p]
instance:Inhabited Conf:=⟨cfz⟩
theorem zv7 (c:Conf):∀v∈zv8 c,v.oneCell'=true:=by
 intro v hv;simp only [zv8,List.mem_cons,List.not_mem_nil,or_false] at hv
 rcases hv with rfl|rfl|rfl|rfl|rfl|rfl|rfl <;> rfl
theorem ytk {l:List Conf} (hk:yav l) {pre rest:List Conf} {d:Conf} (hL:l=pre++d::rest) {z:Conf} (hz:za6 (d.f,d.t) (zbi pre)=some z):zo8 d z=zi2 d z:=by
 have:=zyr pre (d.f,d.t)
 rw [hz] at this
 exact zoh (hk d (by rw [hL];simp) z (by rw [hL];exact List.mem_append_left _ this.2.1))
theorem zru {l:List Conf} (hk:yav l) {pre rest:List Conf} {d:Conf} (hL:l=pre++d::rest) (h:(!(za6 (d.f,d.t) (zbi pre)).isSome)=true∨decide (zo8 d ((za6 (d.f,d.t) (zbi pre)).getD cfz) < 0)=true):zfu (zbi pre) d=zdy (d.f,d.t) d (zbi pre):=by
 cases hz:za6 (d.f,d.t) (zbi pre) with
 |none=>exact ylr (.inl (by rw [hz];rfl))
 |some z=>
  rw [hz] at h
  refine ylr (.inr (by rw [hz,Option.getD_some,←ytk hk hL hz];exact h.resolve_left (by simp)))
theorem ypj {l:List Conf} (hk:yav l) {pre rest:List Conf} {d:Conf} (hL:l=pre++d::rest) (h1:(!(za6 (d.f,d.t) (zbi pre)).isSome)=false) (h2:decide (zo8 d ((za6 (d.f,d.t) (zbi pre)).getD cfz) < 0)=false):zfu (zbi pre) d=zbi pre:=by
 cases hz:za6 (d.f,d.t) (zbi pre) with
 |none=>rw [hz] at h1;cases h1
 |some z=>exact ytj h1 (by rw [hz,Option.getD_some,←ytk hk hL hz];rw [hz] at h2;exact h2)
theorem yfi (m:List ((Int×Int)×Conf)) (c:Conf):(zfu m c).length≤m.length+1:=by
 have hp:(zdy (zmf c) c m).length≤m.length+1:=by rw [zva];split <;> omega
 unfold zfu;split
 ·exact hp
 ·split
  ·exact hp
  ·omega
theorem zys:∀(l:List Conf) (m:List ((Int×Int)×Conf)),(l.foldl zfu m).length≤m.length+l.length
 | [],_=>Nat.le_refl _
 |c::l,m=>by
  have h1:=zys l (zfu m c)
  have h2:=yfi m c
  rw [List.foldl_cons,List.length_cons];omega
theorem zt5 (l:List Conf):(zbi l).length≤l.length:=by
 have h1:=zys l []
 rw [List.length_nil,Nat.zero_add] at h1;exact h1
theorem ydv {l:List Conf} (hk:yav l) {sn:List Nat} (hn:sn.Nodup) (hl:∀i∈sn,i < (zbi l).length) (ha:∀i,i < (zbi l).length→i∈sn) {ys:List Conf} (hp:ys.Perm (yf7 (zbi l) sn)) (hs:ys.Pairwise fun a b=>zo8 a b≤0):ys=zcz l:=
 zz7 hk (hp.trans (yda hn hl ha)) hs
theorem zhu {h:Hist} {F:Ev→Nat→List Conf} {c:Nat} (hF:∀j (hj:j < h.evs.length),(F h.evs[j] j).length≤c):∀n,n≤h.evs.length→(zaf h F n).length≤n * c
 |0,_=>by simp [zaf]
 |n+1,hn=>by
  have h1:=zhu hF n (by omega)
  have h2:=hF n (by omega)
  rw [zaf,List.getElem?_eq_getElem (by omega),List.length_append,Nat.succ_mul]
  simp only
  split
  ·omega
  ·simp only [List.length_nil];omega
theorem zy6 (h:Hist) (e:Ev) (a:Nat):(zcy h e a).length≤1:=by
 rw [zcy];split
 ·split
  ·simp
  ·split <;> simp
 ·simp
theorem zy5 {h:Hist} (hc:v7 h=0) (e:Ev) (a:Nat):(zet h e a).length≤3000 * 4000:=by
 rw [zet];split
 ·refine Nat.le_trans (zgm _ 4000 _ fun s hs=> ?_) (Nat.mul_le_mul_right _ (by rw [zjk];exact (zb9 hc).os))
  rw [za5];split
  ·exact Nat.zero_le _
  ·exact Nat.le_trans (List.length_filterMap_le _ _) (Nat.le_trans (List.takeWhile_sublist _).length_le (zyq hc _ _))
 ·exact Nat.zero_le _
theorem zta {h:Hist} (hc:v7 h=0):(zaf h (zcy h) h.evs.length).length≤36000000000:=by
 have h1:=zhu (fun j hj=>zy6 h h.evs[j] j) _ (Nat.le_refl _)
 have:=(zb9 hc).evs
 omega
theorem zsk {h:Hist} (hc:v7 h=0):(zaf h (zet h) h.evs.length).length≤36000000000:=by
 have h1:=zhu (fun j hj=>zy5 hc h.evs[j] j) _ (Nat.le_refl _)
 have:=(zb9 hc).evs
 omega
theorem ybt (s:SV) (xs:List Conf) (hs:xs.length < 4611686018427387904):y7 Tryz.prog 156 [.v s.v,.fn (.func 155) [] []] [.row s.v 7 41 (xs.map j3)] (fun r h'=>∃ys:List Conf,ys.Perm xs∧ys.Pairwise (fun a b=>zo8 a b≤0)∧h'= [.row s.v 7 41 (ys.map j3)]∧r= .v (.tuple #[])):=
 (zo9 ybs (k:=7) (enc:=zv8) Tryz.isAgg41 Tryz.sizeOf41 (fun _=>rfl) zv7 zo8 yw5 155 (fun x y=>zr3 x y) s 41 xs hs).mono (by
  rintro _ _ ⟨ys,hp,hq,rfl,rfl⟩
  refine ⟨ys,hp,List.pairwise_iff_getElem.2 fun i j hi hj hij=> ?_,rfl,rfl⟩
  have:=hq i j hij hj
  rw [zii] at this;omega)
theorem zww (h:Hist) (la:Lim 4611686018427387904 h) (ee g:Nat) [Go.Ab.Enters Tryz.prog g] (F:Ev→Nat→List Conf) (bl rd rf rk rg:Nat) (hT:yfz h (.fn (.func ee) [pZ bl] []) g F bl rd rf rk rg) (bL bE:Nat) (hk:yav (zaf h F h.evs.length)) (hLn:(zaf h F h.evs.length).length≤36000000000):y7 Tryz.prog 112 [.fn (.func 157) [] [pZ bL,pZ bE]] (.box bE 95 [(.fn (.func ee) [pZ bl] [])]:: .box bL 147 [pZ bl]:: .box bl 202 (wrP h rd rf rk rg)::rgR rg []::rkS h rk::zd0 h rf::rcR h rd:: .glob 2 156 y3:: .glob 4 305 y4:: .glob 5 308 y2:: .glob 3 246 q7:: []) (fun r h'=>∃(s:SV) (M:List ((Int×Int)×List Int)),h'= .row s.v 7 41 ((zcz (zaf h F h.evs.length)).map j3):: .box bE 95 [(.fn (.func ee) [pZ bl] [])]:: .box bL 147 [pZ bl]:: .box bl 202 (wrP h rd rf rk rg)::rgR rg M::rkS h rk::zd0 h rf::rcR h rd:: .glob 2 156 y3:: .glob 4 305 y4:: .glob 5 308 y2:: .glob 3 246 q7:: []∧r= .v s.v):=by
 refine z6 Tryz.func112 rfl rfl rfl ?_
 refine rn ?_;refine z8 rfl (zaw (enc:=za1) rfl fun bm=> ?_)
 refine z8 rfl (y5 rfl fun b3=> ?_)
 refine rn ?_;refine zf3 (s':=⟨[(12,.fn (.func 157) [] [pZ bL,pZ bE]),(3,pZ b3)],.box b3 166 [mpv bm]:: .map bm (zal za1 (zbd gC (zbi []))):: .box bE 95 [(.fn (.func ee) [pZ bl] [])]:: .box bL 147 [pZ bl]:: .box bl 202 (wrP h rd rf rk rg)::rgR rg []::rkS h rk::zd0 h rf::rcR h rd:: .glob 2 156 y3:: .glob 4 305 y4:: .glob 5 308 y2:: .glob 3 246 q7:: [],[]⟩) es ?_
 refine zmh (fun pend h''=>pend=none∧∃M,h''= .box bE 95 [(.fn (.func ee) [pZ bl] [])]:: .box bL 147 [pZ bl]:: .box bl 202 (wrP h rd rf rk rg)::rgR rg M::rkS h rk::zd0 h rf::rcR h rd:: .glob 2 156 y3:: .glob 4 305 y4:: .glob 5 308 y2:: .glob 3 246 q7:: .map bm (zal za1 (zbd gC (zbi (zaf h F h.evs.length)))):: .box b3 166 [mpv bm]:: []) rfl (fun fn l q lp hlp=> ?_) (fun q h'' hK=> ?_) (fun q h'' c hK=> ?_)
 ·suffices hy:∀pre d rest (x:Unit) M,(zaf h F h.evs.length)=pre++d::rest→True→zf6 h M→y1 Tryz.prog (yv l) [.agg (j3 d)] (.box bE 95 [(.fn (.func ee) [pZ bl] [])]:: .box bL 147 [pZ bl]:: .box bl 202 (wrP h rd rf rk rg)::rgR rg M::rkS h rk::zd0 h rf::rcR h rd:: .glob 2 156 y3:: .glob 4 305 y4:: .glob 5 308 y2:: .glob 3 246 q7::lp .ready none:: .defs q:: .map bm (zal za1 (zbd gC (zbi pre))):: .box b3 166 [mpv bm]:: []) (fun r h'=>∃x':Unit,(r=bv true∧True∧h'= .box bE 95 [(.fn (.func ee) [pZ bl] [])]:: .box bL 147 [pZ bl]:: .box bl 202 (wrP h rd rf rk rg)::rgR rg M::rkS h rk::zd0 h rf::rcR h rd:: .glob 2 156 y3:: .glob 4 305 y4:: .glob 5 308 y2:: .glob 3 246 q7::lp .ready none:: .defs q:: .map bm (zal za1 (zbd gC (zbi (pre++ [d])))):: .box b3 166 [mpv bm]:: [])∨(r=bv false∧False∧h'= .box bE 95 [(.fn (.func ee) [pZ bl] [])]:: .box bL 147 [pZ bl]:: .box bl 202 (wrP h rd rf rk rg)::rgR rg M::rkS h rk::zd0 h rf::rcR h rd:: .glob 2 156 y3:: .glob 4 305 y4:: .glob 5 308 y2:: .glob 3 246 q7:: [])) by
   refine y7.mono (y7.perm ((pt4 _ _ _ _ _ _).trans (.cons _ ((pt4 _ _ _ _ _ _).trans (.cons _ ((pt4 _ _ _ _ _ _).trans (.cons _ ((pt4 _ _ _ _ _ _).trans (.cons _ ((pt4 _ _ _ _ _ _).trans (.cons _ ((pt4 _ _ _ _ _ _).trans (.cons _ ((pt4 _ _ _ _ _ _).trans (.cons _ ((pt4 _ _ _ _ _ _).trans (.cons _ ((pt4 _ _ _ _ _ _).trans (.cons _ ((pt4 _ _ _ _ _ _).trans (.cons _ ((pt4 _ _ _ _ _ _).trans (.cons _ (.cons _ (.cons _ (pt1 _ _ _))))))))))))))))))))))))) (ykc h la ee g F bl rd rf rk rg hT (yv l) rfl bL bE [] (zm5 h) (fun _ (_:Unit)=>True) (fun _=>False) (fun pre _=>lp .ready none:: .defs q:: .map bm (zal za1 (zbd gC (zbi pre))):: .box b3 166 [mpv bm]:: []) (fun _=> []) () trivial hy)) ?_
   rintro _ _ ⟨x,M,hM,⟨-,rfl⟩|⟨hF,_⟩⟩
   ·exact ⟨none,.ready,_,((zxs _ _ _ _ _ _ _ _ _ _ _ _ _).trans (.cons _ (zxs _ _ _ _ _ _ _ _ _ _ _ _ _))),by simp,rfl,M,rfl⟩
   ·exact hF.elim
  intro pre d rest x M hL _ hM
  refine y1.perm (zxs _ _ _ _ _ _ _ _ _ _ _ _ _) (y1.ventE ?_)
  refine zdn hlp rfl rfl ?_
  refine rn ?_;refine z8 rfl (y5 rfl fun b4=> ?_)
  refine rn ?_;refine ⟨[(4,pZ b4),(3,pZ b3)],.box b4 41 (j3 d):: .box bE 95 [(.fn (.func ee) [pZ bl] [])]:: .box bL 147 [pZ bl]:: .box bl 202 (wrP h rd rf rk rg)::rgR rg M::rkS h rk::zd0 h rf::rcR h rd:: .glob 2 156 y3:: .glob 4 305 y4:: .glob 5 308 y2:: .glob 3 246 q7:: .defs q:: .map bm (zal za1 (zbd gC (zbi pre))):: .box b3 166 [mpv bm]:: [],v6 (zbb (pt1 _ _ _)) es,?_⟩
  refine zcn ?_;refine w9 (y6 ?_)
  refine q1 ?_;refine q1 ?_;refine q1 ?_;refine q1 ?_;refine qq rfl rfl (zbt (out:= [iv d.f,iv d.t]) rfl (by rfl)) ?_
  refine z8 rfl (y5 rfl fun b5=> ?_)
  first|refine z8 rfl (j5 rfl rfl rfl ?_)|refine z8 rfl (zak rfl rfl rfl rfl (Nat.le_of_ble_eq_true rfl) ?_)
  refine u3 (zag ?_)
  refine w9 (y6 ?_)
  refine q1 ?_;refine q1 ?_;refine qq rfl rfl (zfm (g:=gC) (enc:=za1) (k:=(d.f,d.t)) cfz rfl rfl rfl) ?_
  refine rn ?_;refine z8 rfl (y5 rfl fun b6=> ?_)
  refine rn ?_;refine w7 (fun hg6_2=> ?_) (fun hg6_2=> ?_)
  ·refine rn ?_;refine zdh rfl ?_;have hb:zfu (zbi pre) d=zdy (d.f,d.t) d (zbi pre):=by first|exact zru hk hL (.inl hg6_2)|exact zru hk hL (.inr hc32)
   refine rn ?_;refine z8 rfl (zan (g:=gC) (enc:=za1) (k:=(d.f,d.t)) (v:=d) rfl rfl rfl ?_)
   refine rn ?_;exact zdf (pt2 _ _ _ _) ⟨_,_,.trans (.perm ((pt1 _ _ _).trans (.cons _ ((pt1 _ _ _).trans (.cons _ ((pt1 _ _ _).trans (.cons _ ((pt1 _ _ _).trans (.cons _ ((pt1 _ _ _).trans (.cons _ ((pt1 _ _ _).trans (.cons _ ((pt1 _ _ _).trans (.cons _ ((pt1 _ _ _).trans (.cons _ ((pt1 _ _ _).trans (.cons _ ((pt1 _ _ _).trans (.cons _ ((pt1 _ _ _).trans (.cons _ ((pt1 _ _ _).trans (.cons _ ((pt1 _ _ _).trans (.cons _ (pt1 _ _ _))))))))))))))))))))))))))) _) (.drop [_,_,_] _ _),(),.inl ⟨rfl,trivial,by rw [zwi,hb]⟩⟩
  ·refine rn ?_;refine qv rfl rfl (y0 rfl rfl (v8 (zr3 _ _) (Sbs.refl _))) ?_
   refine rn ?_;refine z7 rfl (fun hc32=> ?_) (fun hc32=> ?_)
   ·have hb:zfu (zbi pre) d=zdy (d.f,d.t) d (zbi pre):=by first|exact zru hk hL (.inl hg6_2)|exact zru hk hL (.inr hc32)
    refine rn ?_;refine z8 rfl (zan (g:=gC) (enc:=za1) (k:=(d.f,d.t)) (v:=d) rfl rfl rfl ?_)
    refine rn ?_;exact zdf (pt2 _ _ _ _) ⟨_,_,.trans (.perm ((pt1 _ _ _).trans (.cons _ ((pt1 _ _ _).trans (.cons _ ((pt1 _ _ _).trans (.cons _ ((pt1 _ _ _).trans (.cons _ ((pt1 _ _ _).trans (.cons _ ((pt1 _ _ _).trans (.cons _ ((pt1 _ _ _).trans (.cons _ ((pt1 _ _ _).trans (.cons _ ((pt1 _ _ _).trans (.cons _ ((pt1 _ _ _).trans (.cons _ ((pt1 _ _ _).trans (.cons _ ((pt1 _ _ _).trans (.cons _ ((pt1 _ _ _).trans (.cons _ (pt1 _ _ _))))))))))))))))))))))))))) _) (.drop [_,_,_] _ _),(),.inl ⟨rfl,trivial,by rw [zwi,hb]⟩⟩
   ·have hb:zfu (zbi pre) d=(zbi pre):=ypj hk hL hg6_2 hc32
    refine rn ?_;exact zdf (pt2 _ _ _ _) ⟨_,_,.trans (.perm ((pt1 _ _ _).trans (.cons _ ((pt1 _ _ _).trans (.cons _ ((pt1 _ _ _).trans (.cons _ ((pt1 _ _ _).trans (.cons _ ((pt1 _ _ _).trans (.cons _ ((pt1 _ _ _).trans (.cons _ ((pt1 _ _ _).trans (.cons _ ((pt1 _ _ _).trans (.cons _ ((pt1 _ _ _).trans (.cons _ ((pt1 _ _ _).trans (.cons _ ((pt1 _ _ _).trans (.cons _ ((pt1 _ _ _).trans (.cons _ ((pt1 _ _ _).trans (.cons _ (pt1 _ _ _))))))))))))))))))))))))))) _) (.drop [_,_,_] _ _),(),.inl ⟨rfl,trivial,by rw [zwi,hb]⟩⟩
 ·obtain ⟨_,M',rfl⟩:=hK
  have hbl:=Nat.le_trans (zt5 (zaf h F h.evs.length)) hLn
  refine zic ?_;refine zag ?_;refine w9 (y6 ?_)
  refine q1 ?_;refine u3 (zag ?_)
  refine w9 ?_;refine w9 (y6 ?_)
  refine q1 ?_;refine zix (zbb ((yu9 _ _ _ _ _ _ _ _ _ _ _ _ _ _).trans (.cons _ ((yu9 _ _ _ _ _ _ _ _ _ _ _ _ _ _).trans (.cons _ ((pt1 _ _ _).trans (.cons _ ((pt1 _ _ _).trans (.cons _ ((pt1 _ _ _).trans (.cons _ ((pt1 _ _ _).trans (.cons _ ((pt1 _ _ _).trans (.cons _ ((pt1 _ _ _).trans (.cons _ ((pt1 _ _ _).trans (.cons _ ((pt1 _ _ _).trans (.cons _ ((pt1 _ _ _).trans (.cons _ ((pt1 _ _ _).trans (.cons _ (pt1 _ _ _)))))))))))))))))))))))))) ?_
  refine z8 rfl (zs1 rfl rfl fun b37=> ?_)
  refine rn ?_;refine k7 (fun x:List Nat×SV=>x.1.Nodup∧∀i∈x.1,i < (zbi (zaf h F h.evs.length)).length) (fun x=>⟨[(37,pZ b37),(8,.v x.2.v)],.mapr bm (zal za1 (zbd gC (zbi (zaf h F h.evs.length)))) b37 x.1:: .row x.2.v 7 41 ((yf7 (zbi (zaf h F h.evs.length)) x.1).map j3):: .box b3 166 [mpv bm]:: .box bE 95 [(.fn (.func ee) [pZ bl] [])]:: .box bL 147 [pZ bl]:: .box bl 202 (wrP h rd rf rk rg)::rgR rg M'::rkS h rk::zd0 h rf::rcR h rd:: .glob 2 156 y3:: .glob 4 305 y4:: .glob 5 308 y2:: .glob 3 246 q7:: .defs q:: [],[q]⟩) (fun x=>(zbi (zaf h F h.evs.length)).length - x.1.length) ([],⟨none,0,0⟩) ⟨.nil,fun i hi=>(by cases hi)⟩ (v6 (zac 7 41) (v6 (zbb (pt1 _ _ _)) es)) ?_
  rintro ⟨sn,s⟩ ⟨hsn,hsl⟩
  simp only at hsn hsl
  refine w9 (y6 ?_)
  refine z8 rfl (zvf rfl rfl (fun hall=> ?_) (fun i hi hni=> ?_))
  ·refine rn ?_;refine z7 rfl (fun hc39=> ?_) (fun hc39=> ?_)
   ·first|cases hc39|exact absurd hc39 (by decide)|(exfalso;simp_all;done)
   ·refine rn ?_;have hsb:=zqz hsn hsl
    refine rn ?_;refine z8 rfl (v2 rfl rfl (y1.perm (pt1 _ _ _) ((y1.of_fun (ybt s (yf7 (zbi (zaf h F h.evs.length)) sn) (by rw [zxv];omega))).frame _)) rfl ?_)
    rintro _ _ ⟨_,rfl,ys,hp,hys,rfl,rfl⟩
    refine rn ?_;exact zh3 (yxl _ _ _ _ _ _ _ _ _ _ _ _ _ _ _ _) (.cons _ _ _ _ (.tmp _ _ rfl) .nil) (.trans (.perm ((pt1 _ _ _).trans (.cons _ (pt1 _ _ _))) _) (.drop [_,_] _ _)) ⟨s,M',by rw [ydv hk hsn hsl (fun i hi=>hall i (by simpa [zal,zbd] using hi)) hp hys],rfl⟩
  ·refine rn ?_;refine z7 rfl (fun hc39=> ?_) (fun hc39=> ?_)
   ·refine za8 ?_;refine zag ?_;refine zcn ?_;refine w9 (y6 ?_)
    have hi2:i < (zbi (zaf h F h.evs.length)).length:=by simpa [zal,zbd] using hi
    refine qq rfl rfl (ycz (k:=za1 (zbi (zaf h F h.evs.length))[i].1) (a:=gC (zbi (zaf h F h.evs.length))[i].2) hi (by simp [zal,zbd]) (by simp [zal,zbd]) rfl) ?_
    refine rn ?_;refine z8 rfl (y5 rfl fun b10=> ?_)
    refine rn ?_;refine qv rfl rfl (q6 rfl rfl) ?_
    refine z8 rfl (u7 rfl rfl (by have:=zqz hsn hsl;simp only [oM,zxv,List.length_cons,List.length_nil];omega) rfl (fun s45=> ?_) (ze9 [(zbi (zaf h F h.evs.length))[i].2]))
    refine k8 s45 fun sv hsv=> ?_
    subst hsv
    refine rn ?_;have hnd:(i::sn).Nodup:=List.nodup_cons.2 ⟨hni,hsn⟩
    have hal:∀j∈i::sn,j < (zbi (zaf h F h.evs.length)).length:=fun j hj=>(List.mem_cons.1 hj).elim (fun q=>q ▸ hi2) (hsl j)
    have hlen:=zqz hnd hal
    exact ⟨(i::sn,sv),⟨hnd,hal⟩,by simp only;rw [yrn hi2,List.map_append];exact eA,by simp only [List.length_cons] at hlen ⊢;omega⟩
   ·first|cases hc39|exact absurd hc39 (by decide)|(exfalso;simp_all;done)
 ·obtain ⟨hc',_⟩:=hK
  exact absurd hc' (by simp)
theorem ask_c {h:Hist} {x n:Int} (hc:v7 h≠0):zhn h x n=v7 h:=by rw [zhn,if_neg hc]
theorem zkc {f g:Bool} (l m:List ByteArray) (hl:l.length≤4611686018427387904) (hm:m.length≤4611686018427387904):y7 Tryz.prog 78 [.list f 1 (l.map zdi),.list g 1 (m.map zdi)] [] (fun r h'=>h'= []∧r=bv (decide (l=m))):=
 (yhk l m hl hm).mono (fun r h' q=>⟨q.1,by rw [q.2,zhl zxc]⟩)
theorem znq {f g:Bool} (l m:List Int) (hl:l.length≤4611686018427387904) (hm:m.length≤4611686018427387904):y7 Tryz.prog 80 [.list f 1 (l.map zai),.list g 1 (m.map zai)] [] (fun r h'=>h'= []∧r=bv (decide (l=m))):=
 (zzj l m hl hm).mono (fun r h' q=>⟨q.1,by rw [q.2,zhl zrj]⟩)
theorem ycn (a b:Ev) (ha:a.scan.length≤4611686018427387904) (hb:b.scan.length≤4611686018427387904):y7 Tryz.prog 79 [.agg (evR a),.agg (evR b)] [] (fun r h'=>h'= []∧r=bv (decide (a=b))):=
 (zfx a b ha hb).mono (fun r h' q=>⟨q.1,by rw [q.2,zv5]⟩)
theorem zde {a b:Hist} (h:a≠b):zuv a b=false:=by
 cases q:zuv a b with
 |false=>rfl
 |true=>exact absurd ((znm a b).1 q) h
theorem ym1 {a b:Hist} (h:a=b):zuv a b=true:=(znm a b).2 h
theorem ync (a b:Hist) (la:Lim 4611686018427387904 a) (lb:Lim 4611686018427387904 b):y7 Tryz.prog 26 [.agg (y9 a),.agg (y9 b)] [] (fun r h'=>h'= []∧r=bv (zuv a b)):=by
 refine z6 Tryz.func26 rfl rfl rfl ?_
 refine rn ?_;refine z8 rfl (w8 rfl rfl rfl fun b2=> ?_)
 refine z8 rfl (w8 rfl rfl rfl fun b3=> ?_)
 refine rn ?_;refine qv rfl rfl (y0 rfl rfl (v8 (zkc a.ts b.ts la.ts lb.ts) (Sbs.refl _))) ?_
 refine rn ?_;refine w7 (fun hg1_6=> ?_) (fun hg1_6=> ?_)
 ·refine rn ?_;refine zdh rfl ?_;refine rn ?_;exact j6 rfl (.drop [_,_] _ _) ⟨rfl,congrArg bv (Eq.symm (zde fun q=>by subst q;simp_all))⟩
 ·refine rn ?_;refine qv rfl rfl (y0 rfl rfl (v8 (zkc a.ss b.ss la.ss lb.ss) (Sbs.refl _))) ?_
  refine rn ?_;refine w7 (fun hg1_14=> ?_) (fun hg1_14=> ?_)
  ·refine rn ?_;refine zdh rfl ?_;refine rn ?_;exact j6 rfl (.drop [_,_] _ _) ⟨rfl,congrArg bv (Eq.symm (zde fun q=>by subst q;simp_all))⟩
  ·refine rn ?_;refine qv rfl rfl (y0 rfl rfl (v8 (zkc a.os b.os la.os lb.os) (Sbs.refl _))) ?_
   refine rn ?_;refine w7 (fun hg1_22=> ?_) (fun hg1_22=> ?_)
   ·refine rn ?_;refine zdh rfl ?_;refine rn ?_;exact j6 rfl (.drop [_,_] _ _) ⟨rfl,congrArg bv (Eq.symm (zde fun q=>by subst q;simp_all))⟩
   ·refine rn ?_;refine qv rfl rfl (y0 rfl rfl (v8 (zkc a.ps b.ps la.ps lb.ps) (Sbs.refl _))) ?_
    refine rn ?_;refine w7 (fun hg1_30=> ?_) (fun hg1_30=> ?_)
    ·refine rn ?_;refine zdh rfl ?_;refine rn ?_;exact j6 rfl (.drop [_,_] _ _) ⟨rfl,congrArg bv (Eq.symm (zde fun q=>by subst q;simp_all))⟩
    ·refine rn ?_;refine w7 (fun hg1_39=> ?_) (fun hg1_39=> ?_)
     ·refine rn ?_;refine zdh rfl ?_;refine rn ?_;exact j6 rfl (.drop [_,_] _ _) ⟨rfl,congrArg bv (Eq.symm (zde fun q=>by subst q;simp_all))⟩
     ·refine rn ?_;refine w7 (fun hg1_48=> ?_) (fun hg1_48=> ?_)
      ·refine rn ?_;refine zdh rfl ?_;refine rn ?_;exact j6 rfl (.drop [_,_] _ _) ⟨rfl,congrArg bv (Eq.symm (zde fun q=>by subst q;simp_all))⟩
      ·refine rn ?_;refine w7 (fun hg1_57=> ?_) (fun hg1_57=> ?_)
       ·refine rn ?_;refine zdh rfl ?_;refine rn ?_;exact j6 rfl (.drop [_,_] _ _) ⟨rfl,congrArg bv (Eq.symm (zde fun q=>by subst q;simp_all))⟩
       ·refine rn ?_;refine z7 rfl (fun hc78=> ?_) (fun hc78=> ?_)
        ·refine rn ?_;exact j6 rfl (.drop [_,_] _ _) ⟨rfl,congrArg bv (Eq.symm (zde fun q=>by subst q;simp_all))⟩
        ·have Ets:a.ts=b.ts:=by simp_all
         have Ess:a.ss=b.ss:=by simp_all
         have Eos:a.os=b.os:=by simp_all
         have Eps:a.ps=b.ps:=by simp_all
         have Levs:a.evs.length=b.evs.length:=by simp at *;omega
         have Lords:a.ords.length=b.ords.length:=by simp at *;omega
         have Lmats:a.mats.length=b.mats.length:=by simp at *;omega
         have Lwants:a.wants.length=b.wants.length:=by simp at *;omega
         refine rn ?_;refine k7 (fun k:Nat=>k≤a.evs.length∧a.evs.take k=b.evs.take k) (fun k=>⟨[(82,iv k),(81,iv (a.evs.map evR).length),(2,pZ b2),(3,pZ b3)],[.box b3 28 (y9 b),.box b2 28 (y9 a)],[]⟩) (fun k=>a.evs.length - k) 0 ⟨Nat.zero_le _,by simp⟩
          (v1 (.cons _ _ _ rfl (.cons _ _ _ rfl (.cons _ _ _ rfl (.cons _ _ _ rfl (.nil)))))) ?_
         rintro k ⟨hk,ht⟩
         refine rn ?_;refine z7 rfl (fun hc83=> ?_) (fun hc83=> ?_)
         ·have hbig:=la.evs
          have hk2:k < a.evs.length:=by simpa using hc83
          have hk3:k < b.evs.length:=by omega
          obtain ⟨x,hx0⟩:∃x,x=a.evs[k]:=⟨_,rfl⟩
          obtain ⟨y,hy0⟩:∃y,y=b.evs[k]:=⟨_,rfl⟩
          have hrow1:(a.evs.map evR)[k]? =some (evR x):=by rw [hx0];simp [hk2]
          have hrow2:(b.evs.map evR)[k]? =some (evR y):=by rw [hy0];simp [hk3]
          refine rn ?_;refine u4 10 rfl ?_
          refine rn ?_;refine qv rfl rfl (y0 rfl rfl (v8 (ycn x y (la.scans _ (by rw [hx0];exact List.getElem_mem _)) (lb.scans _ (by rw [hy0];exact List.getElem_mem _))) (Sbs.refl _))) ?_
          refine rn ?_;refine z7 rfl (fun hc96=> ?_) (fun hc96=> ?_)
          ·have hne:x≠y:=by clear hx0 hy0 hrow1 hrow2 ht;intro q;subst q;simp_all
           refine rn ?_;exact j6 rfl (.drop [_,_] _ _) ⟨rfl,congrArg bv (Eq.symm (zde fun q=>by subst q;exact hne (hx0.trans hy0.symm)))⟩
          ·have hxy:x=y:=by simpa using hc96
           refine rn ?_;exact ⟨k+1,⟨by omega,by rw [List.take_succ_eq_append_getElem hk2,List.take_succ_eq_append_getElem hk3,ht,←hx0,←hy0,hxy]⟩,(v1 (.cons _ _ _ rfl (.cons _ _ _ rfl (.cons _ _ _ rfl (.cons _ _ _ rfl (.nil)))))),by omega⟩
         ·have hk2:¬k < a.evs.length:=by simpa using hc83
          have Eevs:a.evs=b.evs:=by
           have hk3:k=a.evs.length:=by omega
           rw [hk3,List.take_length] at ht
           rw [ht,Levs,List.take_length]
          clear ht hk
          refine rn ?_;refine k7 (fun k:Nat=>k≤a.ords.length∧a.ords.take k=b.ords.take k) (fun k=>⟨[(101,iv k),(100,iv (a.ords.map zef).length),(99,zz3 a.ords),(2,pZ b2),(3,pZ b3)],[.box b3 28 (y9 b),.box b2 28 (y9 a)],[]⟩) (fun k=>a.ords.length - k) 0 ⟨Nat.zero_le _,by simp⟩
           (v1 (.cons _ _ _ rfl (.cons _ _ _ rfl (.cons _ _ _ rfl (.cons _ _ _ rfl (.cons _ _ _ rfl (.nil))))))) ?_
          rintro k ⟨hk,ht⟩
          refine rn ?_;refine z7 rfl (fun hc102=> ?_) (fun hc102=> ?_)
          ·have hbig:=la.ords
           have hk2:k < a.ords.length:=by simpa using hc102
           have hk3:k < b.ords.length:=by omega
           obtain ⟨x,hx0⟩:∃x,x=a.ords[k]:=⟨_,rfl⟩
           obtain ⟨y,hy0⟩:∃y,y=b.ords[k]:=⟨_,rfl⟩
           have hrow1:(a.ords.map zef)[k]? =some (zef x):=by rw [hx0];simp [hk2]
           have hrow2:(b.ords.map zef)[k]? =some (zef y):=by rw [hy0];simp [hk3]
           refine rn ?_;refine z8 rfl (y5 rfl fun b7=> ?_)
           refine rn ?_;refine z8 rfl (y5 rfl fun b8=> ?_)
           refine rn ?_;refine w7 (fun hg13_5=> ?_) (fun hg13_5=> ?_)
           ·refine rn ?_;refine zdh rfl ?_;have hne:x≠y:=by clear hx0 hy0 hrow1 hrow2 ht;intro q;subst q;simp_all
            refine rn ?_;exact j6 rfl (.drop [_,_,_,_] _ _) ⟨rfl,congrArg bv (Eq.symm (zde fun q=>by subst q;exact hne (hx0.trans hy0.symm)))⟩
           ·refine rn ?_;refine qv rfl rfl (y0 rfl rfl (v8 (znq x.ts y.ts (la.ordts _ (by rw [hx0];exact List.getElem_mem _)) (lb.ordts _ (by rw [hy0];exact List.getElem_mem _))) (Sbs.refl _))) ?_
            refine rn ?_;refine z7 rfl (fun hc123=> ?_) (fun hc123=> ?_)
            ·have hne:x≠y:=by clear hx0 hy0 hrow1 hrow2 ht;intro q;subst q;simp_all
             refine rn ?_;exact j6 rfl (.drop [_,_,_,_] _ _) ⟨rfl,congrArg bv (Eq.symm (zde fun q=>by subst q;exact hne (hx0.trans hy0.symm)))⟩
            ·have hxy:x=y:=by clear hx0 hy0 hrow1 hrow2 ht;cases x;cases y;simp_all
             refine rn ?_;exact ⟨k+1,⟨by omega,by rw [List.take_succ_eq_append_getElem hk2,List.take_succ_eq_append_getElem hk3,ht,←hx0,←hy0,hxy]⟩,(v6 (zbm (h1:= [_,_])) (v1 (.cons _ _ _ rfl (.cons _ _ _ rfl (.cons _ _ _ rfl (.cons _ _ _ rfl (.cons _ _ _ rfl (.nil)))))))),by omega⟩
          ·have hk2:¬k < a.ords.length:=by simpa using hc102
           have Eords:a.ords=b.ords:=by
            have hk3:k=a.ords.length:=by omega
            rw [hk3,List.take_length] at ht
            rw [ht,Lords,List.take_length]
           clear ht hk
           refine rn ?_;refine k7 (fun k:Nat=>k≤a.mats.length∧a.mats.take k=b.mats.take k) (fun k=>⟨[(128,iv k),(127,iv (a.mats.map zd8).length),(126,zvm a.mats),(2,pZ b2),(3,pZ b3)],[.box b3 28 (y9 b),.box b2 28 (y9 a)],[]⟩) (fun k=>a.mats.length - k) 0 ⟨Nat.zero_le _,by simp⟩
            (v1 (.cons _ _ _ rfl (.cons _ _ _ rfl (.cons _ _ _ rfl (.cons _ _ _ rfl (.cons _ _ _ rfl (.nil))))))) ?_
           rintro k ⟨hk,ht⟩
           refine rn ?_;refine z7 rfl (fun hc129=> ?_) (fun hc129=> ?_)
           ·have hbig:=la.mats
            have hk2:k < a.mats.length:=by simpa using hc129
            have hk3:k < b.mats.length:=by omega
            obtain ⟨x,hx0⟩:∃x,x=a.mats[k]:=⟨_,rfl⟩
            obtain ⟨y,hy0⟩:∃y,y=b.mats[k]:=⟨_,rfl⟩
            have hrow1:(a.mats.map zd8)[k]? =some (zd8 x):=by rw [hx0];simp [hk2]
            have hrow2:(b.mats.map zd8)[k]? =some (zd8 y):=by rw [hy0];simp [hk3]
            refine rn ?_;refine z8 rfl (y5 rfl fun b10=> ?_)
            refine rn ?_;refine z8 rfl (y5 rfl fun b11=> ?_)
            refine rn ?_;refine w7 (fun hg20_5=> ?_) (fun hg20_5=> ?_)
            ·refine rn ?_;refine zdh rfl ?_;have hne:x≠y:=by clear hx0 hy0 hrow1 hrow2 ht;intro q;subst q;simp_all
             refine rn ?_;exact j6 rfl (.drop [_,_,_,_] _ _) ⟨rfl,congrArg bv (Eq.symm (zde fun q=>by subst q;exact hne (hx0.trans hy0.symm)))⟩
            ·refine rn ?_;refine w7 (fun hg20_12=> ?_) (fun hg20_12=> ?_)
             ·refine rn ?_;refine zdh rfl ?_;have hne:x≠y:=by clear hx0 hy0 hrow1 hrow2 ht;intro q;subst q;simp_all
              refine rn ?_;exact j6 rfl (.drop [_,_,_,_] _ _) ⟨rfl,congrArg bv (Eq.symm (zde fun q=>by subst q;exact hne (hx0.trans hy0.symm)))⟩
             ·refine rn ?_;refine w7 (fun hg20_19=> ?_) (fun hg20_19=> ?_)
              ·refine rn ?_;refine zdh rfl ?_;have hne:x≠y:=by clear hx0 hy0 hrow1 hrow2 ht;intro q;subst q;simp_all
               refine rn ?_;exact j6 rfl (.drop [_,_,_,_] _ _) ⟨rfl,congrArg bv (Eq.symm (zde fun q=>by subst q;exact hne (hx0.trans hy0.symm)))⟩
              ·refine rn ?_;refine qv rfl rfl (y0 rfl rfl (v8 (znq x.ts y.ts (la.matts _ (by rw [hx0];exact List.getElem_mem _)) (lb.matts _ (by rw [hy0];exact List.getElem_mem _))) (Sbs.refl _))) ?_
               refine rn ?_;refine z7 rfl (fun hc164=> ?_) (fun hc164=> ?_)
               ·have hne:x≠y:=by clear hx0 hy0 hrow1 hrow2 ht;intro q;subst q;simp_all
                refine rn ?_;exact j6 rfl (.drop [_,_,_,_] _ _) ⟨rfl,congrArg bv (Eq.symm (zde fun q=>by subst q;exact hne (hx0.trans hy0.symm)))⟩
               ·have hxy:x=y:=by clear hx0 hy0 hrow1 hrow2 ht;cases x;cases y;simp_all
                refine rn ?_;exact ⟨k+1,⟨by omega,by rw [List.take_succ_eq_append_getElem hk2,List.take_succ_eq_append_getElem hk3,ht,←hx0,←hy0,hxy]⟩,(v6 (zbm (h1:= [_,_])) (v1 (.cons _ _ _ rfl (.cons _ _ _ rfl (.cons _ _ _ rfl (.cons _ _ _ rfl (.cons _ _ _ rfl (.nil)))))))),by omega⟩
           ·have hk2:¬k < a.mats.length:=by simpa using hc129
            have Emats:a.mats=b.mats:=by
             have hk3:k=a.mats.length:=by omega
             rw [hk3,List.take_length] at ht
             rw [ht,Lmats,List.take_length]
            clear ht hk
            refine rn ?_;refine k7 (fun k:Nat=>k≤a.wants.length∧a.wants.take k=b.wants.take k) (fun k=>⟨[(169,iv k),(168,iv (a.wants.map zfh).length),(2,pZ b2),(3,pZ b3)],[.box b3 28 (y9 b),.box b2 28 (y9 a)],[]⟩) (fun k=>a.wants.length - k) 0 ⟨Nat.zero_le _,by simp⟩
             (v1 (.cons _ _ _ rfl (.cons _ _ _ rfl (.cons _ _ _ rfl (.cons _ _ _ rfl (.nil)))))) ?_
            rintro k ⟨hk,ht⟩
            refine rn ?_;refine z7 rfl (fun hc170=> ?_) (fun hc170=> ?_)
            ·have hbig:=la.wants
             have hk2:k < a.wants.length:=by simpa using hc170
             have hk3:k < b.wants.length:=by omega
             obtain ⟨x,hx0⟩:∃x,x=a.wants[k]:=⟨_,rfl⟩
             obtain ⟨y,hy0⟩:∃y,y=b.wants[k]:=⟨_,rfl⟩
             have hrow1:(a.wants.map zfh)[k]? =some (zfh x):=by rw [hx0];simp [hk2]
             have hrow2:(b.wants.map zfh)[k]? =some (zfh y):=by rw [hy0];simp [hk3]
             refine rn ?_;refine u4 10 rfl ?_
             refine rn ?_;refine z7 rfl (fun hc182=> ?_) (fun hc182=> ?_)
             ·have hne:x≠y:=by clear hx0 hy0 hrow1 hrow2 ht;intro q;subst q;simp_all
              refine rn ?_;exact j6 rfl (.drop [_,_] _ _) ⟨rfl,congrArg bv (Eq.symm (zde fun q=>by subst q;exact hne (hx0.trans hy0.symm)))⟩
             ·have hxy:x=y:=by clear hx0 hy0 hrow1 hrow2 ht;cases x;cases y;simp_all
              refine rn ?_;exact ⟨k+1,⟨by omega,by rw [List.take_succ_eq_append_getElem hk2,List.take_succ_eq_append_getElem hk3,ht,←hx0,←hy0,hxy]⟩,(v1 (.cons _ _ _ rfl (.cons _ _ _ rfl (.cons _ _ _ rfl (.cons _ _ _ rfl (.nil)))))),by omega⟩
            ·have hk2:¬k < a.wants.length:=by simpa using hc170
             have Ewants:a.wants=b.wants:=by
              have hk3:k=a.wants.length:=by omega
              rw [hk3,List.take_length] at ht
              rw [ht,Lwants,List.take_length]
             clear ht hk
             refine rn ?_;exact j6 rfl (.drop [_,_] _ _) ⟨rfl,congrArg bv (Eq.symm (ym1 (by cases a;cases b;simp_all)))⟩
theorem yes {f g:Bool} (l m:List Conf) (hl:l.length≤4611686018427387904) (hm:m.length≤4611686018427387904):y7 Tryz.prog 19 [.list f 7 (l.map j3),.list g 7 (m.map j3)] [] (fun r h'=>h'= []∧r=bv (eqF ze4 l m)):=by
 refine z6 Tryz.func19 rfl rfl rfl ?_
 refine rn ?_;refine z7 rfl (fun hc10=> ?_) (fun hc10=> ?_)
 ·refine rn ?_;have hne:(l.length==m.length)=false:=beq_eq_false_iff_ne.2 fun q=>by simp [q] at hc10
  exact j6 rfl (.refl _ _) ⟨rfl,by rw [eqF,hne,Bool.false_and];rfl⟩
 ·have hlm:l.length=m.length:=by simp at hc10;omega
  refine rn ?_;refine k7 (fun k:Nat=>k≤l.length∧zmc ze4 l m=zmc ze4 (l.drop k) (m.drop k)) (fun k=>⟨[(13,iv k),(0,.list f 7 (l.map j3)),(1,.list g 7 (m.map j3)),(12,iv (l.map j3).length)],[],[]⟩) (fun k=>l.length - k) 0 ⟨Nat.zero_le _,by simp⟩
   (v1 (.cons _ _ _ rfl (.cons _ _ _ rfl (.cons _ _ _ rfl (.cons _ _ _ rfl (.nil)))))) ?_
  rintro k ⟨hk,hz⟩
  refine rn ?_;refine z7 rfl (fun hc14=> ?_) (fun hc14=> ?_)
  ·have hk2:k < l.length:=by simpa using hc14
   have hk3:k < m.length:=by omega
   have hrow1:(l.map j3)[k]? =some (j3 l[k]):=by simp [hk2]
   have hrow2:(m.map j3)[k]? =some (j3 m[k]):=by simp [hk3]
   have hd1:=List.drop_eq_getElem_cons hk2
   have hd2:=List.drop_eq_getElem_cons hk3
   refine rn ?_;refine u4 8 rfl ?_
   refine rn ?_;refine z7 rfl (fun hc24=> ?_) (fun hc24=> ?_)
   ·refine rn ?_;exact j6 rfl (.refl _ _) ⟨rfl,by rw [eqF,hz,hd1,hd2,zmc,show ze4 l[k] m[k]=false from zvh hc24,Bool.false_and,Bool.and_false];rfl⟩
   ·refine rn ?_;exact ⟨k+1,⟨by omega,by rw [hz,hd1,hd2,zmc,show ze4 l[k] m[k]=true from zvi hc24,Bool.true_and]⟩,(v1 (.cons _ _ _ rfl (.cons _ _ _ rfl (.cons _ _ _ rfl (.cons _ _ _ rfl (.nil)))))),by omega⟩
  ·have hk3:k=l.length:=by
    have:l.length≤k:=by simpa using hc14
    omega
   refine rn ?_;exact j6 rfl (.refl _ _) ⟨rfl,by rw [eqF,hz,hk3,List.drop_length,zjy,hlm,beq_self_eq_true];rfl⟩
theorem yet {f g:Bool} (l:List Conf) (hl:l.length≤4611686018427387904):y7 Tryz.prog 19 [.list f 7 (l.map j3),.list g 7 (l.map j3)] [] (fun r h'=>h'= []∧r=bv true):=(yes l l hl hl).mono fun _ _ q=>⟨q.1,by rw [q.2,zhl zkt];simp⟩
def OvB (h:Hist) (n:Int):Prop:=∃a:Nat,n=(a:Int)∧∃ha:a < h.evs.length,zfb h.evs h.evs[a].t 5=true∧(h.evs[a].kind=3∨h.evs[a].kind=4)
theorem yh6 {h:Hist} {n:Int} (q:n < 0):¬OvB h n:=fun ⟨a,e,_⟩=>by omega
theorem yh5 {h:Hist} {n:Int} (q:(h.evs.length:Int)≤n):¬OvB h n:=fun ⟨a,e,ha,_⟩=>by omega
theorem yh4 {h:Hist} {a:Nat} (ha:a < h.evs.length) (q:zfb h.evs h.evs[a].t 5=false):¬OvB h (a:Int):=fun ⟨b,e,hb,q1,_⟩=>by
 have:b=a:=by omega
 subst this;rw [q] at q1;cases q1
theorem yh3 {h:Hist} {a:Nat} (ha:a < h.evs.length) (q3:h.evs[a].kind≠3) (q4:h.evs[a].kind≠4):¬OvB h (a:Int):=fun ⟨b,e,hb,_,q1⟩=>by
 have:b=a:=by omega
 subst this;exact q1.elim q3 q4
def ovB (h:Hist) (n:Int):Bool:=decide (0≤n) && match h.evs[n.toNat]? with
 |some e=>zfb h.evs e.t 5 && (e.kind==3||e.kind==4)
 |none=>false
theorem yc9 {h:Hist} {n:Int}:ovB h n=true ↔ OvB h n:=by
 rw [ovB,Bool.and_eq_true,decide_eq_true_iff]
 constructor
 ·rintro ⟨h2,h3⟩
  split at h3
  ·rename_i e he
   obtain ⟨hl,rfl⟩:=List.getElem?_eq_some_iff.1 he
   rw [Bool.and_eq_true,Bool.or_eq_true,beq_iff_eq,beq_iff_eq] at h3
   exact ⟨n.toNat,by omega,hl,h3.1,h3.2⟩
  ·cases h3
 ·rintro ⟨a,e,ha,hm,hk⟩
  refine ⟨by omega,?_⟩
  rw [show n.toNat=a by omega,List.getElem?_eq_getElem ha]
  simp only
  rw [hm,Bool.true_and,Bool.or_eq_true,beq_iff_eq,beq_iff_eq];exact hk
def ovC (h:Hist) (n:Int):Int:=if v7 h=0 then (if ovB h n=true then 0 else 2) else v7 h
def ovO (h:Hist) (n:Int):List Int:=if ovC h n=0 then (match h.evs[n.toNat]? with|some e=>yrm h e n.toNat|none=> []) else []
theorem ywn {h:Hist} {n:Int} (hc:v7 h≠0):ovC h n=v7 h∧ovO h n= []:=by
 have e:ovC h n=v7 h:=by rw [ovC,if_neg hc]
 exact ⟨e,by rw [ovO,e,if_neg hc]⟩
theorem yky {h:Hist} {n:Int} (hc:v7 h=0) (hn:¬OvB h n):ovC h n=2∧ovO h n= []:=by
 have e:ovC h n=2:=by rw [ovC,if_pos hc,if_neg fun q=>hn (yc9.1 q)]
 exact ⟨e,by rw [ovO,e];rfl⟩
theorem yt5 {h:Hist} {a:Nat} (hc:v7 h=0) (ha:a < h.evs.length) (hn:OvB h (a:Int)):ovC h (a:Int)=0∧ovO h (a:Int)=yrm h h.evs[a] a:=by
 have e:ovC h (a:Int)=0:=by rw [ovC,if_pos hc,if_pos (yc9.2 hn)]
 refine ⟨e,?_⟩
 rw [ovO,if_pos e,show ((a:Nat):Int).toNat=a from rfl,List.getElem?_eq_getElem ha]
theorem ytc {d c:Conf} (q:ze4 d c=true):d=c:=by rw [zkt] at q;exact oT q
theorem yv4 {d c:Conf} (q:ze4 d c=false):¬d=c:=by rw [zkt] at q;exact oF q
theorem ym3 (h:Hist) (la:Lim 4611686018427387904 h) (rO:Nat) (oK:Obj) (hK:KO oK) (n:Int):y7 Tryz.prog 35 [.agg (y9 h),iv n] (.glob 2 156 y3:: .glob 4 305 y4:: .glob 5 308 y2:: .glob 3 246 q7:: .glob 1 175 zcr:: .glob 0 171 [mpv rO]:: .obj rO oK:: []) (fun r h'=>∃s:SV,h'= .row s.v 1 3 ((ovO h n).map zai):: .glob 2 156 y3:: .glob 4 305 y4:: .glob 5 308 y2:: .glob 3 246 q7:: .glob 1 175 zcr:: .glob 0 171 [mpv rO]:: .obj rO oK:: []∧r= .tup [.v s.v,iv (ovC h n)]):=by
 refine z6 Tryz.func35 rfl rfl rfl ?_
 refine rn ?_;refine z8 rfl (w8 rfl rfl rfl fun b2=> ?_)
 refine q1 ?_;refine q1 ?_;refine u3 (zag ?_)
 refine w9 (y6 ?_)
 refine q1 ?_;refine z8 rfl (v2 rfl rfl (y1.fr1 (y1.of_fun (yuu h la rO oK))) rfl ?_)
 rintro _ _ ⟨_,rfl,⟨hc,rc,rl,rk,rg,rfl,rfl⟩|⟨hc,rfl,rfl⟩⟩
 ·refine rn ?_;refine z8 rfl (y5 rfl fun b6=> ?_)
  refine rn ?_;refine z7 rfl (fun hc16=> ?_) (fun hc16=> ?_)
  ·first|cases hc16|exact absurd hc16 (by decide)|(exfalso;simp_all;done)
  ·refine rn ?_;refine u4 33 rfl ?_
   refine rn ?_;refine zcv (fun hg4_2=> ?_) (fun hg4_2=> ?_)
   ·refine rn ?_;refine z7 rfl (fun hc56=> ?_) (fun hc56=> ?_)
    ·first
     |have hn:=yh6 (h:=h) (oT hg4_2)
     |(have q:=oT hg4_9;rw [oM] at q;have hn:=yh5 (h:=h) q)
     |(have q:zfb h.evs h.evs[a].t 5=false:=(by rw [←zga];simpa using hg4_21);have hn:=yh4 ha q)
     |(have q3:h.evs[a].kind≠3:=(by simpa using hg4_29);have q4:h.evs[a].kind≠4:=(by simpa using hc56);have hn:=yh3 ha q3 q4)
     refine rn ?_;exact zb0 rfl rfl (.trans (.drop [_,_,_,_,_,_] _ _) (zat 1 3 _)) ⟨⟨none,0,0⟩,by rw [(yky hc hn).2];rfl,by rw [(yky hc hn).1];rfl⟩
    ·first|cases hc56|exact absurd hc56 (by decide)|(exfalso;simp_all;done)
   ·refine rn ?_;refine zcv (fun hg4_9=> ?_) (fun hg4_9=> ?_)
    ·refine rn ?_;refine z7 rfl (fun hc56=> ?_) (fun hc56=> ?_)
     ·first
      |have hn:=yh6 (h:=h) (oT hg4_2)
      |(have q:=oT hg4_9;rw [oM] at q;have hn:=yh5 (h:=h) q)
      |(have q:zfb h.evs h.evs[a].t 5=false:=(by rw [←zga];simpa using hg4_21);have hn:=yh4 ha q)
      |(have q3:h.evs[a].kind≠3:=(by simpa using hg4_29);have q4:h.evs[a].kind≠4:=(by simpa using hc56);have hn:=yh3 ha q3 q4)
      refine rn ?_;exact zb0 rfl rfl (.trans (.drop [_,_,_,_,_,_] _ _) (zat 1 3 _)) ⟨⟨none,0,0⟩,by rw [(yky hc hn).2];rfl,by rw [(yky hc hn).1];rfl⟩
     ·first|cases hc56|exact absurd hc56 (by decide)|(exfalso;simp_all;done)
    ·have h0:0≤n:=by have q:=oF hg4_2;omega
     have h1:n < h.evs.length:=by have q:=oF hg4_9;rw [oM] at q;omega
     obtain ⟨a,rfl⟩:∃a:Nat,n=(a:Int):=⟨n.toNat,by omega⟩
     have ha:a < h.evs.length:=by omega
     have ra:=zae (f:=evR) ha
     refine dq rfl rfl qrA ?_;refine dq rfl rfl qrA ?_;refine dq rfl rfl qrA ?_;refine dq rfl rfl qrA ?_;refine dq rfl rfl qrA ?_;refine dq rfl rfl qrA ?_;refine dq rfl rfl qrA ?_;refine dq rfl rfl qrA ?_;refine dq rfl rfl (zbl (enc:=intK) (k:=h.evs[a].t) false rfl rfl) ?_
     refine rn ?_;refine zcv (fun hg4_21=> ?_) (fun hg4_21=> ?_)
     ·refine rn ?_;refine z7 rfl (fun hc56=> ?_) (fun hc56=> ?_)
      ·first
       |have hn:=yh6 (h:=h) (oT hg4_2)
       |(have q:=oT hg4_9;rw [oM] at q;have hn:=yh5 (h:=h) q)
       |(have q:zfb h.evs h.evs[a].t 5=false:=(by rw [←zga];simpa using hg4_21);have hn:=yh4 ha q)
       |(have q3:h.evs[a].kind≠3:=(by simpa using hg4_29);have q4:h.evs[a].kind≠4:=(by simpa using hc56);have hn:=yh3 ha q3 q4)
       refine rn ?_;exact zb0 rfl rfl (.trans (.drop [_,_,_,_,_,_] _ _) (zat 1 3 _)) ⟨⟨none,0,0⟩,by rw [(yky hc hn).2];rfl,by rw [(yky hc hn).1];rfl⟩
      ·first|cases hc56|exact absurd hc56 (by decide)|(exfalso;simp_all;done)
     ·refine rn ?_;refine zcv (fun hg4_29=> ?_) (fun hg4_29=> ?_)
      ·refine rn ?_;refine z7 rfl (fun hc56=> ?_) (fun hc56=> ?_)
       ·first
        |have hn:=yh6 (h:=h) (oT hg4_2)
        |(have q:=oT hg4_9;rw [oM] at q;have hn:=yh5 (h:=h) q)
        |(have q:zfb h.evs h.evs[a].t 5=false:=(by rw [←zga];simpa using hg4_21);have hn:=yh4 ha q)
        |(have q3:h.evs[a].kind≠3:=(by simpa using hg4_29);have q4:h.evs[a].kind≠4:=(by simpa using hc56);have hn:=yh3 ha q3 q4)
        refine rn ?_;exact zb0 rfl rfl (.trans (.drop [_,_,_,_,_,_] _ _) (zat 1 3 _)) ⟨⟨none,0,0⟩,by rw [(yky hc hn).2];rfl,by rw [(yky hc hn).1];rfl⟩
       ·have hm:zfb h.evs h.evs[a].t 5=true:=by rw [←zga];simpa using hg4_21
        have hkd:h.evs[a].kind=3∨h.evs[a].kind=4:=by
         first
         |(have q:h.evs[a].kind=3:=(by simpa using hg4_29);exact .inl q)
         |(have q:h.evs[a].kind=4:=(by simpa using hc56);exact .inr q)
        have hn:OvB h (a:Int):=⟨a,rfl,ha,hm,hkd⟩
        have hfl:=zx9 hc ha
        refine rn ?_;refine z8 rfl (y5 rfl fun b8=> ?_)
        refine rn ?_;refine z8 rfl (v2 rfl rfl (y1.of_fun (ykr h a rc rl rk rg _)) rfl ?_)
        rintro _ _ ⟨ba,bp,rfl,rfl⟩
        refine rn ?_;refine zf3 (s':=⟨[(59,.fn (.func 134) [] [pZ bp,pZ ba]),(8,pZ b8)],.box ba 3 [iv (a:Nat)]:: .box bp 119 (rwP h rc rl rk rg):: .box b8 29 [.v (⟨none,0,0⟩:SV).v]:: .row (⟨none,0,0⟩:SV).v 1 3 ((([]:List Conf).map Conf.t).map zai):: .box b6 119 (rwP h rc rl rk rg):: .box b2 28 (y9 h)::rgR rg []::rkS h rk::zcg h rl::rcR h rc:: .glob 2 156 y3:: .glob 4 305 y4:: .glob 5 308 y2:: .glob 3 246 q7:: .glob 1 175 zcr:: .glob 0 171 [mpv rO]:: .obj rO oK:: [],[]⟩) (v6 (zac 1 3) (v6 (zbb ((pt1 _ _ _).trans (.cons _ ((pt1 _ _ _).trans (.cons _ (pt1 _ _ _)))))) es)) ?_
        refine zmh (fun pend h''=>pend=none∧∃(s:SV) (M:List ((Int×Int)×List Int)),h''= .box ba 3 [iv (a:Nat)]:: .box bp 119 (rwP h rc rl rk rg)::rgR rg M::rkS h rk::zcg h rl::rcR h rc:: .glob 2 156 y3:: .glob 4 305 y4:: .glob 5 308 y2:: .glob 3 246 q7:: .glob 1 175 zcr:: .glob 0 171 [mpv rO]:: .obj rO oK:: .box b8 29 [.v s.v]:: .row s.v 1 3 (((zid h h.evs[a] a).map Conf.t).map zai):: .box b6 119 (rwP h rc rl rk rg):: .box b2 28 (y9 h):: []) rfl (fun fn l q lp hlp=> ?_) (fun q h'' hK'=> ?_) (fun q h'' cc hK'=> ?_)
        ·suffices hy:∀pre d rest (s:SV) M,zid h h.evs[a] a=pre++d::rest→True→zf6 h M→y1 Tryz.prog (yv l) [.agg (j3 d)] (.box ba 3 [iv (a:Nat)]:: .box bp 119 (rwP h rc rl rk rg)::rgR rg M::rkS h rk::zcg h rl::rcR h rc:: .glob 2 156 y3:: .glob 4 305 y4:: .glob 5 308 y2:: .glob 3 246 q7:: .glob 1 175 zcr:: .glob 0 171 [mpv rO]:: .obj rO oK::lp .ready none:: .defs q:: .box b8 29 [.v s.v]:: .row s.v 1 3 ((pre.map Conf.t).map zai):: .box b6 119 (rwP h rc rl rk rg):: .box b2 28 (y9 h):: []) (fun r h'=>∃s':SV,(r=bv true∧True∧h'= .box ba 3 [iv (a:Nat)]:: .box bp 119 (rwP h rc rl rk rg)::rgR rg M::rkS h rk::zcg h rl::rcR h rc:: .glob 2 156 y3:: .glob 4 305 y4:: .glob 5 308 y2:: .glob 3 246 q7:: .glob 1 175 zcr:: .glob 0 171 [mpv rO]:: .obj rO oK::lp .ready none:: .defs q:: .box b8 29 [.v s'.v]:: .row s'.v 1 3 (((pre++ [d]).map Conf.t).map zai):: .box b6 119 (rwP h rc rl rk rg):: .box b2 28 (y9 h):: [])∨(r=bv false∧False∧h'= .box ba 3 [iv (a:Nat)]:: .box bp 119 (rwP h rc rl rk rg)::rgR rg M::rkS h rk::zcg h rl::rcR h rc:: .glob 2 156 y3:: .glob 4 305 y4:: .glob 5 308 y2:: .glob 3 246 q7:: .glob 1 175 zcr:: .glob 0 171 [mpv rO]:: .obj rO oK:: [])) by
          refine y7.mono (y7.perm ((pt2 _ _ _ _).trans (.cons _ ((pt2 _ _ _ _).trans (.cons _ ((pt6 _ _ _ _ _ _ _ _).trans (.cons _ ((pt6 _ _ _ _ _ _ _ _).trans (.cons _ ((pt6 _ _ _ _ _ _ _ _).trans (.cons _ ((pt6 _ _ _ _ _ _ _ _).trans (.cons _ ((pt6 _ _ _ _ _ _ _ _).trans (.cons _ ((pt6 _ _ _ _ _ _ _ _).trans (.cons _ ((pt6 _ _ _ _ _ _ _ _).trans (.cons _ ((pt6 _ _ _ _ _ _ _ _).trans (.cons _ ((pt6 _ _ _ _ _ _ _ _).trans (.cons _ ((pt6 _ _ _ _ _ _ _ _).trans (.cons _ (pt6 _ _ _ _ _ _ _ _))))))))))))))))))))))))) (ykq h la hc a ha (yv l) bp ba rc rl rk rg [] (zm5 h) rO oK hK (fun _ (_:SV)=>True) (fun _=>False) (fun pre (s:SV)=>lp .ready none:: .defs q:: .box b8 29 [.v s.v]:: .row s.v 1 3 ((pre.map Conf.t).map zai):: .box b6 119 (rwP h rc rl rk rg):: .box b2 28 (y9 h):: []) (fun _=> []) ⟨none,0,0⟩ trivial hy)) ?_
          rintro _ _ ⟨s,M,hM,⟨-,rfl⟩|⟨hF,_⟩⟩
          ·exact ⟨none,.ready,_,((yns _ _ _ _ _ _ _ _ _ _ _ _ _ _ _).trans (.cons _ (yns _ _ _ _ _ _ _ _ _ _ _ _ _ _ _))),by simp,rfl,s,M,rfl⟩
          ·exact hF.elim
         intro pre d rest s M hL _ hM
         have hlen:pre.length < (zid h h.evs[a] a).length:=by rw [hL,List.length_append,List.length_cons];omega
         refine y1.perm (yns _ _ _ _ _ _ _ _ _ _ _ _ _ _ _) (y1.ventE ?_)
         refine zdn hlp rfl rfl ?_
         refine rn ?_;refine z8 rfl (y5 rfl fun b9=> ?_)
         refine rn ?_;refine ⟨[(9,pZ b9),(8,pZ b8)],.box b9 41 (j3 d):: .box ba 3 [iv (a:Nat)]:: .box bp 119 (rwP h rc rl rk rg)::rgR rg M::rkS h rk::zcg h rl::rcR h rc:: .glob 2 156 y3:: .glob 4 305 y4:: .glob 5 308 y2:: .glob 3 246 q7:: .glob 1 175 zcr:: .glob 0 171 [mpv rO]:: .obj rO oK:: .defs q:: .box b8 29 [.v s.v]:: .row s.v 1 3 ((pre.map Conf.t).map zai):: .box b6 119 (rwP h rc rl rk rg):: .box b2 28 (y9 h):: [],v6 (zbb (pt1 _ _ _)) es,?_⟩
         refine rn ?_;refine qv rfl rfl (q6 rfl rfl) ?_
         refine z8 rfl (u7 rfl rfl (by simp only [oM,List.length_cons,List.length_nil];omega) rfl (fun s65=> ?_) (zg3 [d.t]))
         refine k8 s65 fun sv hsv=> ?_
         subst hsv
         refine rn ?_;exact zdf (.refl _) ⟨_,_,.trans (.perm ((pt1 _ _ _).trans (.cons _ ((pt1 _ _ _).trans (.cons _ ((pt1 _ _ _).trans (.cons _ ((pt1 _ _ _).trans (.cons _ ((pt1 _ _ _).trans (.cons _ ((pt1 _ _ _).trans (.cons _ ((pt1 _ _ _).trans (.cons _ ((pt1 _ _ _).trans (.cons _ ((pt1 _ _ _).trans (.cons _ ((pt1 _ _ _).trans (.cons _ ((pt1 _ _ _).trans (.cons _ ((pt1 _ _ _).trans (.cons _ ((pt1 _ _ _).trans (.cons _ (pt1 _ _ _))))))))))))))))))))))))))) _) (.drop [_] _ _),sv,.inl ⟨rfl,trivial,by rw [List.map_append,List.map_append];rfl⟩⟩
        ·obtain ⟨_,s,M,rfl⟩:=hK'
         refine rn ?_;refine z8 rfl (v2 rfl rfl (zgn (y1.of_fun (ybr s _ (by rw [oM];omega)))) rfl ?_)
         rintro _ _ ⟨rfl,rfl⟩
         refine rn ?_;refine z8 rfl (v2 rfl rfl (za2 (y1.of_fun (ye4 s _ (by rw [(zcs _).length_eq,oM];omega)))) rfl ?_)
         rintro _ _ ⟨s',rfl,rfl⟩
         refine rn ?_;exact zh3 (.refl _) (.cons _ _ _ _ (.tmp _ _ rfl) (.cons _ _ _ _ (.tmp _ _ rfl) .nil)) (.trans (.perm (.cons _ (.cons _ (.cons _ (.cons _ (.cons _ (.cons _ ((pt7 _ _ _ _ _ _ _ _ _).trans (.cons _ ((pt8 _ _ _ _ _ _ _ _ _ _).trans (.cons _ ((pt8 _ _ _ _ _ _ _ _ _ _).trans (.cons _ (pt7 _ _ _ _ _ _ _ _ _))))))))))))) _) (.drop [_,_,_,_,_,_,_,_,_] _ _)) ⟨s',by rw [(yt5 hc ha hn).2];rfl,by rw [(yt5 hc ha hn).1];rfl⟩
        ·obtain ⟨hc',_⟩:=hK'
         exact absurd hc' (by simp)
      ·refine rn ?_;refine z7 rfl (fun hc56=> ?_) (fun hc56=> ?_)
       ·first|cases hc56|exact absurd hc56 (by decide)|(exfalso;simp_all;done)
       ·have hm:zfb h.evs h.evs[a].t 5=true:=by rw [←zga];simpa using hg4_21
        have hkd:h.evs[a].kind=3∨h.evs[a].kind=4:=by
         first
         |(have q:h.evs[a].kind=3:=(by simpa using hg4_29);exact .inl q)
         |(have q:h.evs[a].kind=4:=(by simpa using hc56);exact .inr q)
        have hn:OvB h (a:Int):=⟨a,rfl,ha,hm,hkd⟩
        have hfl:=zx9 hc ha
        refine rn ?_;refine z8 rfl (y5 rfl fun b8=> ?_)
        refine rn ?_;refine z8 rfl (v2 rfl rfl (y1.of_fun (ykr h a rc rl rk rg _)) rfl ?_)
        rintro _ _ ⟨ba,bp,rfl,rfl⟩
        refine rn ?_;refine zf3 (s':=⟨[(59,.fn (.func 134) [] [pZ bp,pZ ba]),(8,pZ b8)],.box ba 3 [iv (a:Nat)]:: .box bp 119 (rwP h rc rl rk rg):: .box b8 29 [.v (⟨none,0,0⟩:SV).v]:: .row (⟨none,0,0⟩:SV).v 1 3 ((([]:List Conf).map Conf.t).map zai):: .box b6 119 (rwP h rc rl rk rg):: .box b2 28 (y9 h)::rgR rg []::rkS h rk::zcg h rl::rcR h rc:: .glob 2 156 y3:: .glob 4 305 y4:: .glob 5 308 y2:: .glob 3 246 q7:: .glob 1 175 zcr:: .glob 0 171 [mpv rO]:: .obj rO oK:: [],[]⟩) (v6 (zac 1 3) (v6 (zbb ((pt1 _ _ _).trans (.cons _ ((pt1 _ _ _).trans (.cons _ (pt1 _ _ _)))))) es)) ?_
        refine zmh (fun pend h''=>pend=none∧∃(s:SV) (M:List ((Int×Int)×List Int)),h''= .box ba 3 [iv (a:Nat)]:: .box bp 119 (rwP h rc rl rk rg)::rgR rg M::rkS h rk::zcg h rl::rcR h rc:: .glob 2 156 y3:: .glob 4 305 y4:: .glob 5 308 y2:: .glob 3 246 q7:: .glob 1 175 zcr:: .glob 0 171 [mpv rO]:: .obj rO oK:: .box b8 29 [.v s.v]:: .row s.v 1 3 (((zid h h.evs[a] a).map Conf.t).map zai):: .box b6 119 (rwP h rc rl rk rg):: .box b2 28 (y9 h):: []) rfl (fun fn l q lp hlp=> ?_) (fun q h'' hK'=> ?_) (fun q h'' cc hK'=> ?_)
        ·suffices hy:∀pre d rest (s:SV) M,zid h h.evs[a] a=pre++d::rest→True→zf6 h M→y1 Tryz.prog (yv l) [.agg (j3 d)] (.box ba 3 [iv (a:Nat)]:: .box bp 119 (rwP h rc rl rk rg)::rgR rg M::rkS h rk::zcg h rl::rcR h rc:: .glob 2 156 y3:: .glob 4 305 y4:: .glob 5 308 y2:: .glob 3 246 q7:: .glob 1 175 zcr:: .glob 0 171 [mpv rO]:: .obj rO oK::lp .ready none:: .defs q:: .box b8 29 [.v s.v]:: .row s.v 1 3 ((pre.map Conf.t).map zai):: .box b6 119 (rwP h rc rl rk rg):: .box b2 28 (y9 h):: []) (fun r h'=>∃s':SV,(r=bv true∧True∧h'= .box ba 3 [iv (a:Nat)]:: .box bp 119 (rwP h rc rl rk rg)::rgR rg M::rkS h rk::zcg h rl::rcR h rc:: .glob 2 156 y3:: .glob 4 305 y4:: .glob 5 308 y2:: .glob 3 246 q7:: .glob 1 175 zcr:: .glob 0 171 [mpv rO]:: .obj rO oK::lp .ready none:: .defs q:: .box b8 29 [.v s'.v]:: .row s'.v 1 3 (((pre++ [d]).map Conf.t).map zai):: .box b6 119 (rwP h rc rl rk rg):: .box b2 28 (y9 h):: [])∨(r=bv false∧False∧h'= .box ba 3 [iv (a:Nat)]:: .box bp 119 (rwP h rc rl rk rg)::rgR rg M::rkS h rk::zcg h rl::rcR h rc:: .glob 2 156 y3:: .glob 4 305 y4:: .glob 5 308 y2:: .glob 3 246 q7:: .glob 1 175 zcr:: .glob 0 171 [mpv rO]:: .obj rO oK:: [])) by
          refine y7.mono (y7.perm ((pt2 _ _ _ _).trans (.cons _ ((pt2 _ _ _ _).trans (.cons _ ((pt6 _ _ _ _ _ _ _ _).trans (.cons _ ((pt6 _ _ _ _ _ _ _ _).trans (.cons _ ((pt6 _ _ _ _ _ _ _ _).trans (.cons _ ((pt6 _ _ _ _ _ _ _ _).trans (.cons _ ((pt6 _ _ _ _ _ _ _ _).trans (.cons _ ((pt6 _ _ _ _ _ _ _ _).trans (.cons _ ((pt6 _ _ _ _ _ _ _ _).trans (.cons _ ((pt6 _ _ _ _ _ _ _ _).trans (.cons _ ((pt6 _ _ _ _ _ _ _ _).trans (.cons _ ((pt6 _ _ _ _ _ _ _ _).trans (.cons _ (pt6 _ _ _ _ _ _ _ _))))))))))))))))))))))))) (ykq h la hc a ha (yv l) bp ba rc rl rk rg [] (zm5 h) rO oK hK (fun _ (_:SV)=>True) (fun _=>False) (fun pre (s:SV)=>lp .ready none:: .defs q:: .box b8 29 [.v s.v]:: .row s.v 1 3 ((pre.map Conf.t).map zai):: .box b6 119 (rwP h rc rl rk rg):: .box b2 28 (y9 h):: []) (fun _=> []) ⟨none,0,0⟩ trivial hy)) ?_
          rintro _ _ ⟨s,M,hM,⟨-,rfl⟩|⟨hF,_⟩⟩
          ·exact ⟨none,.ready,_,((yns _ _ _ _ _ _ _ _ _ _ _ _ _ _ _).trans (.cons _ (yns _ _ _ _ _ _ _ _ _ _ _ _ _ _ _))),by simp,rfl,s,M,rfl⟩
          ·exact hF.elim
         intro pre d rest s M hL _ hM
         have hlen:pre.length < (zid h h.evs[a] a).length:=by rw [hL,List.length_append,List.length_cons];omega
         refine y1.perm (yns _ _ _ _ _ _ _ _ _ _ _ _ _ _ _) (y1.ventE ?_)
         refine zdn hlp rfl rfl ?_
         refine rn ?_;refine z8 rfl (y5 rfl fun b9=> ?_)
         refine rn ?_;refine ⟨[(9,pZ b9),(8,pZ b8)],.box b9 41 (j3 d):: .box ba 3 [iv (a:Nat)]:: .box bp 119 (rwP h rc rl rk rg)::rgR rg M::rkS h rk::zcg h rl::rcR h rc:: .glob 2 156 y3:: .glob 4 305 y4:: .glob 5 308 y2:: .glob 3 246 q7:: .glob 1 175 zcr:: .glob 0 171 [mpv rO]:: .obj rO oK:: .defs q:: .box b8 29 [.v s.v]:: .row s.v 1 3 ((pre.map Conf.t).map zai):: .box b6 119 (rwP h rc rl rk rg):: .box b2 28 (y9 h):: [],v6 (zbb (pt1 _ _ _)) es,?_⟩
         refine rn ?_;refine qv rfl rfl (q6 rfl rfl) ?_
         refine z8 rfl (u7 rfl rfl (by simp only [oM,List.length_cons,List.length_nil];omega) rfl (fun s65=> ?_) (zg3 [d.t]))
         refine k8 s65 fun sv hsv=> ?_
         subst hsv
         refine rn ?_;exact zdf (.refl _) ⟨_,_,.trans (.perm ((pt1 _ _ _).trans (.cons _ ((pt1 _ _ _).trans (.cons _ ((pt1 _ _ _).trans (.cons _ ((pt1 _ _ _).trans (.cons _ ((pt1 _ _ _).trans (.cons _ ((pt1 _ _ _).trans (.cons _ ((pt1 _ _ _).trans (.cons _ ((pt1 _ _ _).trans (.cons _ ((pt1 _ _ _).trans (.cons _ ((pt1 _ _ _).trans (.cons _ ((pt1 _ _ _).trans (.cons _ ((pt1 _ _ _).trans (.cons _ ((pt1 _ _ _).trans (.cons _ (pt1 _ _ _))))))))))))))))))))))))))) _) (.drop [_] _ _),sv,.inl ⟨rfl,trivial,by rw [List.map_append,List.map_append];rfl⟩⟩
        ·obtain ⟨_,s,M,rfl⟩:=hK'
         refine rn ?_;refine z8 rfl (v2 rfl rfl (zgn (y1.of_fun (ybr s _ (by rw [oM];omega)))) rfl ?_)
         rintro _ _ ⟨rfl,rfl⟩
         refine rn ?_;refine z8 rfl (v2 rfl rfl (za2 (y1.of_fun (ye4 s _ (by rw [(zcs _).length_eq,oM];omega)))) rfl ?_)
         rintro _ _ ⟨s',rfl,rfl⟩
         refine rn ?_;exact zh3 (.refl _) (.cons _ _ _ _ (.tmp _ _ rfl) (.cons _ _ _ _ (.tmp _ _ rfl) .nil)) (.trans (.perm (.cons _ (.cons _ (.cons _ (.cons _ (.cons _ (.cons _ ((pt7 _ _ _ _ _ _ _ _ _).trans (.cons _ ((pt8 _ _ _ _ _ _ _ _ _ _).trans (.cons _ ((pt8 _ _ _ _ _ _ _ _ _ _).trans (.cons _ (pt7 _ _ _ _ _ _ _ _ _))))))))))))) _) (.drop [_,_,_,_,_,_,_,_,_] _ _)) ⟨s',by rw [(yt5 hc ha hn).2];rfl,by rw [(yt5 hc ha hn).1];rfl⟩
        ·obtain ⟨hc',_⟩:=hK'
         exact absurd hc' (by simp)
 ·refine rn ?_;refine z8 rfl (y5 rfl fun b6=> ?_)
  refine rn ?_;refine z7 rfl (fun hc16=> ?_) (fun hc16=> ?_)
  ·refine rn ?_;exact zb0 rfl rfl (.trans (.drop [_,_] _ _) (zat 1 3 _)) ⟨⟨none,0,0⟩,by rw [(ywn hc).2];rfl,by rw [(ywn hc).1];rfl⟩
  ·first|cases hc16|exact absurd hc16 (by decide)|(exfalso;simp_all;done)
theorem rwOver (h:Hist) (la:Lim 4611686018427387904 h) (rO:Nat) (oK:Obj) (hK:KO oK) (n:Int):y7 Tryz.prog 35 [.agg (y9 h),iv n] (.glob 2 156 y3:: .glob 4 305 y4:: .glob 5 308 y2:: .glob 3 246 q7:: .glob 1 175 zcr:: .glob 0 171 [mpv rO]:: .obj rO oK:: []) (fun r h'=>h'= .glob 2 156 y3:: .glob 4 305 y4:: .glob 5 308 y2:: .glob 3 246 q7:: .glob 1 175 zcr:: .glob 0 171 [mpv rO]:: .obj rO oK:: []∧r= .tup [zaq (ovO h n),iv (ovC h n)]):=(ym3 h la rO oK hK n).ventR (by rintro _ _ ⟨s,rfl,rfl⟩;exact ⟨_,_,zbe [] [_],rfl,rfl⟩)
def ya4 (h:Hist):List Conf:=if v7 h=0 then zcz (zff h) else []
def ya0 (h:Hist):List Conf:=if v7 h=0 then zcz (zfd h) else []
theorem zwx {h:Hist} (hc:v7 h=0):ya4 h=zcz (zff h):=by rw [ya4,if_pos hc]
theorem zwy {h:Hist} (hc:v7 h≠0):ya4 h= []:=by rw [ya4,if_neg hc]
theorem zwr {h:Hist} (hc:v7 h=0):ya0 h=zcz (zfd h):=by rw [ya0,if_pos hc]
theorem zws {h:Hist} (hc:v7 h≠0):ya0 h= []:=by rw [ya0,if_neg hc]
def wrF (h:Hist) (k:Nat):Ev→Nat→List Conf:=if k=0 then zcy h else zet h
def wrJ (h:Hist) (c:Conf):Bool:=decide (v7 h=0) && (decide (c∈zff h)||decide (c∈zfd h))
theorem yug {h:Hist} {c:Conf} (hc:v7 h≠0):wrJ h c=false:=by rw [wrJ,decide_eq_false hc];rfl
theorem yue {h:Hist} {c:Conf} {k:Nat} (hc:v7 h=0) (hk:k < 2) (hm:c∈zaf h (wrF h k) h.evs.length):wrJ h c=true:=by
 rw [wrJ,decide_eq_true hc,Bool.true_and]
 rcases (show k=0∨k=1 by omega) with rfl|rfl
 ·have hm:c∈zff h:=hm
  rw [decide_eq_true hm];rfl
 ·have hm:c∈zfd h:=hm
  rw [decide_eq_true hm,Bool.or_true]
theorem yuf {h:Hist} {c:Conf} (hm:∀i,i < 2→¬c∈zaf h (wrF h i) h.evs.length):wrJ h c=false:=by
 have h0:¬c∈zff h:=hm 0 (by omega)
 have h1:¬c∈zfd h:=hm 1 (by omega)
 rw [wrJ,decide_eq_false h0,decide_eq_false h1,Bool.or_false,Bool.and_false]
theorem yoi {p:Nat→Prop} {k:Nat} (h:∀i,i < k→p i) (hk:p k):∀i,i < k+1→p i:=fun i hi=>by
 rcases (show i < k∨i=k by omega) with q|rfl
 ·exact h i q
 ·exact hk
theorem ya1 (h:Hist) (la:Lim 4611686018427387904 h):y7 Tryz.prog 53 [.agg (y9 h)] (.glob 2 156 y3:: .glob 4 305 y4:: .glob 5 308 y2:: .glob 3 246 q7:: []) (fun r h'=>∃s:SV,h'= .row s.v 7 41 ((ya4 h).map j3):: .glob 2 156 y3:: .glob 4 305 y4:: .glob 5 308 y2:: .glob 3 246 q7:: []∧r= .tup [.v s.v,iv (v7 h)]):=by
 refine z6 Tryz.func53 rfl rfl rfl ?_
 refine rn ?_;refine z8 rfl (w8 rfl rfl rfl fun b1=> ?_)
 refine q1 ?_;refine q1 ?_;refine u3 (zag ?_)
 refine w9 (y6 ?_)
 refine q1 ?_;refine z8 rfl (v2 rfl rfl (y1.fr1 (y1.of_fun (yud h la))) rfl ?_)
 rintro _ _ ⟨_,rfl,⟨hc,bl,rd,rf,rk,rg,rfl,rfl⟩|⟨hc,rfl,rfl⟩⟩
 ·refine rn ?_;refine z7 rfl (fun hc12=> ?_) (fun hc12=> ?_)
  ·first|cases hc12|exact absurd hc12 (by decide)|(exfalso;simp_all;done)
  ·refine rn ?_;refine z8 rfl (v2 rfl rfl (y1.of_fun (ya6 bl 114 _)) rfl ?_)
   rintro _ _ ⟨bE,bL,rfl,rfl⟩
   refine z8 rfl (v2 rfl rfl (y1.perm (pt2 _ _ _ _) (y1.fr1 (y1.of_fun (zww h la 114 158 (zcy h) bl rd rf rk rg (zph h la hc bl rd rf rk rg) bL bE (yd6 (za4.1 hc)) (zta hc))))) rfl ?_)
   rintro _ _ ⟨_,rfl,s,M,rfl,rfl⟩
   refine rn ?_;exact zb0 rfl rfl (.trans (.perm (.cons _ ((pt1 _ _ _).trans (.cons _ ((pt1 _ _ _).trans (.cons _ ((pt1 _ _ _).trans (.cons _ ((pt1 _ _ _).trans (.cons _ ((pt1 _ _ _).trans (.cons _ ((pt1 _ _ _).trans (.cons _ (pt1 _ _ _)))))))))))))) _) (.drop [_,_,_,_,_,_,_,_] _ _)) ⟨s,by rw [zwx hc];rfl,by rw [hc];rfl⟩
 ·refine rn ?_;refine z7 rfl (fun hc12=> ?_) (fun hc12=> ?_)
  ·refine rn ?_;exact zb0 rfl rfl (.trans (.drop [_] _ _) (zat 7 41 _)) ⟨⟨none,0,0⟩,by rw [zwy hc];rfl,rfl⟩
  ·first|cases hc12|exact absurd hc12 (by decide)|(exfalso;simp_all;done)
theorem ya2 (h:Hist) (la:Lim 4611686018427387904 h):y7 Tryz.prog 53 [.agg (y9 h)] (.glob 2 156 y3:: .glob 4 305 y4:: .glob 5 308 y2:: .glob 3 246 q7:: []) (fun r h'=>h'= .glob 2 156 y3:: .glob 4 305 y4:: .glob 5 308 y2:: .glob 3 246 q7:: []∧r= .tup [zih (ya4 h),iv (v7 h)]):=(ya1 h la).ventR (by rintro _ _ ⟨s,rfl,rfl⟩;exact ⟨_,_,zbe [] [_],rfl,rfl⟩)
theorem zy4 (h:Hist) (la:Lim 4611686018427387904 h):y7 Tryz.prog 54 [.agg (y9 h)] (.glob 2 156 y3:: .glob 4 305 y4:: .glob 5 308 y2:: .glob 3 246 q7:: []) (fun r h'=>∃s:SV,h'= .row s.v 7 41 ((ya0 h).map j3):: .glob 2 156 y3:: .glob 4 305 y4:: .glob 5 308 y2:: .glob 3 246 q7:: []∧r= .tup [.v s.v,iv (v7 h)]):=by
 refine z6 Tryz.func54 rfl rfl rfl ?_
 refine rn ?_;refine z8 rfl (w8 rfl rfl rfl fun b1=> ?_)
 refine q1 ?_;refine q1 ?_;refine u3 (zag ?_)
 refine w9 (y6 ?_)
 refine q1 ?_;refine z8 rfl (v2 rfl rfl (y1.fr1 (y1.of_fun (yud h la))) rfl ?_)
 rintro _ _ ⟨_,rfl,⟨hc,bl,rd,rf,rk,rg,rfl,rfl⟩|⟨hc,rfl,rfl⟩⟩
 ·refine rn ?_;refine z7 rfl (fun hc12=> ?_) (fun hc12=> ?_)
  ·first|cases hc12|exact absurd hc12 (by decide)|(exfalso;simp_all;done)
  ·refine rn ?_;refine z8 rfl (v2 rfl rfl (y1.of_fun (ya6 bl 115 _)) rfl ?_)
   rintro _ _ ⟨bE,bL,rfl,rfl⟩
   refine z8 rfl (v2 rfl rfl (y1.perm (pt2 _ _ _ _) (y1.fr1 (y1.of_fun (zww h la 115 160 (zet h) bl rd rf rk rg (zpg h la hc bl rd rf rk rg) bL bE (yb2 (za4.1 hc)) (zsk hc))))) rfl ?_)
   rintro _ _ ⟨_,rfl,s,M,rfl,rfl⟩
   refine rn ?_;exact zb0 rfl rfl (.trans (.perm (.cons _ ((pt1 _ _ _).trans (.cons _ ((pt1 _ _ _).trans (.cons _ ((pt1 _ _ _).trans (.cons _ ((pt1 _ _ _).trans (.cons _ ((pt1 _ _ _).trans (.cons _ ((pt1 _ _ _).trans (.cons _ (pt1 _ _ _)))))))))))))) _) (.drop [_,_,_,_,_,_,_,_] _ _)) ⟨s,by rw [zwr hc];rfl,by rw [hc];rfl⟩
 ·refine rn ?_;refine z7 rfl (fun hc12=> ?_) (fun hc12=> ?_)
  ·refine rn ?_;exact zb0 rfl rfl (.trans (.drop [_] _ _) (zat 7 41 _)) ⟨⟨none,0,0⟩,by rw [zws hc];rfl,rfl⟩
  ·first|cases hc12|exact absurd hc12 (by decide)|(exfalso;simp_all;done)
theorem zwp (h:Hist) (la:Lim 4611686018427387904 h):y7 Tryz.prog 54 [.agg (y9 h)] (.glob 2 156 y3:: .glob 4 305 y4:: .glob 5 308 y2:: .glob 3 246 q7:: []) (fun r h'=>h'= .glob 2 156 y3:: .glob 4 305 y4:: .glob 5 308 y2:: .glob 3 246 q7:: []∧r= .tup [zih (ya0 h),iv (v7 h)]):=(zy4 h la).ventR (by rintro _ _ ⟨s,rfl,rfl⟩;exact ⟨_,_,zbe [] [_],rfl,rfl⟩)
def yvx (bl:Nat):List AV:= [.fn (.func 114) [pZ bl] [],.fn (.func 115) [pZ bl] []]
theorem yl3 (h:Hist) (la:Lim 4611686018427387904 h) (hc:v7 h=0) (bl rd rf rk rg:Nat) {k:Nat} (hk:k < 2):∃ee g,Go.Ab.Enters Tryz.prog g∧yfz h (.fn (.func ee) [pZ bl] []) g (wrF h k) bl rd rf rk rg∧(yvx bl)[k]? =some (.fn (.func ee) [pZ bl] []):=by
 rcases (show k=0∨k=1 by omega) with rfl|rfl
 ·exact ⟨_,_,inferInstance,zph h la hc bl rd rf rk rg,rfl⟩
 ·exact ⟨_,_,inferInstance,zpg h la hc bl rd rf rk rg,rfl⟩
theorem yka (h:Hist) (la:Lim 4611686018427387904 h) (c:Conf):y7 Tryz.prog 59 [.agg (y9 h),.agg (j3 c)] (.glob 2 156 y3:: .glob 4 305 y4:: .glob 5 308 y2:: .glob 3 246 q7:: []) (fun r h'=>h'= .glob 2 156 y3:: .glob 4 305 y4:: .glob 5 308 y2:: .glob 3 246 q7:: []∧r=bv (wrJ h c)):=by
 refine z6 Tryz.func59 rfl rfl rfl ?_
 refine rn ?_;refine z8 rfl (w8 rfl rfl rfl fun b2=> ?_)
 refine z8 rfl (w8 rfl rfl rfl fun b3=> ?_)
 refine z8 rfl (y5 rfl fun b4=> ?_)
 refine u3 (zag ?_)
 refine w9 (y6 ?_)
 refine q1 ?_;refine z8 rfl (v2 rfl rfl (y1.fr3 (y1.of_fun (yud h la))) rfl ?_)
 rintro _ _ ⟨_,rfl,⟨hc,bl,rd,rf,rk,rg,rfl,rfl⟩|⟨hc,rfl,rfl⟩⟩
 ·refine rn ?_;refine z7 rfl (fun hc16=> ?_) (fun hc16=> ?_)
  ·first|cases hc16|exact absurd hc16 (by decide)|(exfalso;simp_all;done)
  ·refine rn ?_;refine zhh 2 (fun k (z:List ((Int×Int)×List Int)×List Nat)=>(∀i,i < k→¬c∈zaf h (wrF h i) h.evs.length)∧zf6 h z.1) (fun k z=>⟨[(22,iv k),(5,pZ bl),(21,.agg (yvx bl)),(2,pZ b2),(3,pZ b3),(4,pZ b4)],.box b4 4 [bv false]:: .box b3 41 (j3 c):: .box b2 28 (y9 h):: .box bl 202 (wrP h rd rf rk rg)::rgR rg z.1::rkS h rk::zd0 h rf::rcR h rd:: .glob 2 156 y3:: .glob 4 305 y4:: .glob 5 308 y2:: .glob 3 246 q7::(z.2.map Res.defs),z.2⟩) ([],[]) ⟨fun i hi=>by omega,zm5 h⟩ es ?_
   rintro k ⟨M,dfs⟩ lk ⟨zk,hM⟩
   have zk:∀i,i < k→¬c∈zaf h (wrF h i) h.evs.length:=zk
   have hM:zf6 h M:=hM
   show aw _ _ _ _ _ ⟨[(22,iv k),(5,pZ bl),(21,.agg (yvx bl)),(2,pZ b2),(3,pZ b3),(4,pZ b4)],.box b4 4 [bv false]:: .box b3 41 (j3 c):: .box b2 28 (y9 h):: .box bl 202 (wrP h rd rf rk rg)::rgR rg M::rkS h rk::zd0 h rf::rcR h rd:: .glob 2 156 y3:: .glob 4 305 y4:: .glob 5 308 y2:: .glob 3 246 q7::(dfs.map Res.defs),dfs⟩
   refine rn ?_;refine z7 rfl (fun hc23=> ?_) (fun hc23=> ?_)
   ·have hk:k < 2:=by have q:=oT hc23;omega
    obtain ⟨ee,g,hE,hT,hix⟩:=yl3 h la hc bl rd rf rk rg hk
    refine za8 ?_;refine zag ?_;refine w9 ?_;refine zcn ?_;refine w9 (y6 ?_)
    refine qq rfl rfl (zcp rfl rfl hk (by rw [Nat.mul_one];exact hix)) ?_
    refine rn ?_;refine z8 rfl (v2 rfl rfl (y1.of_fun (ya6 bl ee _)) rfl ?_)
    rintro _ _ ⟨bE,bL,rfl,rfl⟩
    refine rn ?_;refine zmh (fun pend h''=>(pend=none∧(¬c∈(zaf h (wrF h k) h.evs.length))∧∃M,zf6 h M∧h''= .box bE 95 [(.fn (.func ee) [pZ bl] [])]:: .box bL 147 [pZ bl]:: .box bl 202 (wrP h rd rf rk rg)::rgR rg M::rkS h rk::zd0 h rf::rcR h rd:: .glob 2 156 y3:: .glob 4 305 y4:: .glob 5 308 y2:: .glob 3 246 q7:: .box b4 4 [bv false]:: .box b3 41 (j3 c):: .box b2 28 (y9 h)::(dfs.map Res.defs))∨(pend=some .ret∧c∈(zaf h (wrF h k) h.evs.length)∧∃M,zf6 h M∧h''= .box bE 95 [(.fn (.func ee) [pZ bl] [])]:: .box bL 147 [pZ bl]:: .box bl 202 (wrP h rd rf rk rg)::rgR rg M::rkS h rk::zd0 h rf::rcR h rd:: .glob 2 156 y3:: .glob 4 305 y4:: .glob 5 308 y2:: .glob 3 246 q7:: .box b4 4 [bv true]:: .box b3 41 (j3 c):: .box b2 28 (y9 h)::(dfs.map Res.defs))) rfl (fun fn l q lp hlp=> ?_) (fun q h'' hK'=> ?_) (fun q h'' cc hK'=> ?_)
    ·suffices hy:∀pre d rest (x:Unit) M,(zaf h (wrF h k) h.evs.length)=pre++d::rest→(¬c∈pre)→zf6 h M→y1 Tryz.prog (yv l) [.agg (j3 d)] (.box bE 95 [(.fn (.func ee) [pZ bl] [])]:: .box bL 147 [pZ bl]:: .box bl 202 (wrP h rd rf rk rg)::rgR rg M::rkS h rk::zd0 h rf::rcR h rd:: .glob 2 156 y3:: .glob 4 305 y4:: .glob 5 308 y2:: .glob 3 246 q7::lp .ready none:: .defs q:: .box b4 4 [bv false]:: .box b3 41 (j3 c):: .box b2 28 (y9 h)::(dfs.map Res.defs)) (fun r h'=>∃x':Unit,(r=bv true∧(¬c∈pre++ [d])∧h'= .box bE 95 [(.fn (.func ee) [pZ bl] [])]:: .box bL 147 [pZ bl]:: .box bl 202 (wrP h rd rf rk rg)::rgR rg M::rkS h rk::zd0 h rf::rcR h rd:: .glob 2 156 y3:: .glob 4 305 y4:: .glob 5 308 y2:: .glob 3 246 q7::lp .ready none:: .defs q:: .box b4 4 [bv false]:: .box b3 41 (j3 c):: .box b2 28 (y9 h)::(dfs.map Res.defs))∨(r=bv false∧c∈(zaf h (wrF h k) h.evs.length)∧h'= .box bE 95 [(.fn (.func ee) [pZ bl] [])]:: .box bL 147 [pZ bl]:: .box bl 202 (wrP h rd rf rk rg)::rgR rg M::rkS h rk::zd0 h rf::rcR h rd:: .glob 2 156 y3:: .glob 4 305 y4:: .glob 5 308 y2:: .glob 3 246 q7::lp .done (some .ret):: .defs q:: .box b4 4 [bv true]:: .box b3 41 (j3 c):: .box b2 28 (y9 h)::(dfs.map Res.defs))) by
      refine y7.mono (y7.perm ((pt2 _ _ _ _).trans (.cons _ ((pt2 _ _ _ _).trans (.cons _ ((pt5 _ _ _ _ _ _ _).trans (.cons _ ((pt5 _ _ _ _ _ _ _).trans (.cons _ ((pt5 _ _ _ _ _ _ _).trans (.cons _ ((pt5 _ _ _ _ _ _ _).trans (.cons _ ((pt5 _ _ _ _ _ _ _).trans (.cons _ ((pt5 _ _ _ _ _ _ _).trans (.cons _ ((pt5 _ _ _ _ _ _ _).trans (.cons _ ((pt5 _ _ _ _ _ _ _).trans (.cons _ (pt5 _ _ _ _ _ _ _))))))))))))))))))))) (ykc h la ee g (wrF h k) bl rd rf rk rg hT (yv l) rfl bL bE M hM (fun pre (_:Unit)=>¬c∈pre) (fun _=>c∈(zaf h (wrF h k) h.evs.length)) (fun _ _=>lp .ready none:: .defs q:: .box b4 4 [bv false]:: .box b3 41 (j3 c):: .box b2 28 (y9 h)::(dfs.map Res.defs)) (fun _=>lp .done (some .ret):: .defs q:: .box b4 4 [bv true]:: .box b3 41 (j3 c):: .box b2 28 (y9 h)::(dfs.map Res.defs)) () (by simp) hy)) ?_
      rintro _ _ ⟨x,M,hM,⟨hn,rfl⟩|⟨hn,rfl⟩⟩
      ·exact ⟨none,.ready,_,((zxs _ _ _ _ _ _ _ _ _ _ _ _ _).trans (.cons _ (zxs _ _ _ _ _ _ _ _ _ _ _ _ _))),by simp,.inl ⟨rfl,hn,M,hM,rfl⟩⟩
      ·exact ⟨some .ret,.done,_,((zxs _ _ _ _ _ _ _ _ _ _ _ _ _).trans (.cons _ (zxs _ _ _ _ _ _ _ _ _ _ _ _ _))),by simp,.inr ⟨rfl,hn,M,hM,rfl⟩⟩
     intro pre d rest x M hL hpre hM
     refine y1.perm (zxs _ _ _ _ _ _ _ _ _ _ _ _ _) (y1.ventE ?_)
     refine zdn hlp rfl rfl ?_
     refine rn ?_;refine z8 rfl (y5 rfl fun b9=> ?_)
     refine rn ?_;refine ⟨[(9,pZ b9),(3,pZ b3),(4,pZ b4)],.box b9 41 (j3 d):: .box bE 95 [(.fn (.func ee) [pZ bl] [])]:: .box bL 147 [pZ bl]:: .box bl 202 (wrP h rd rf rk rg)::rgR rg M::rkS h rk::zd0 h rf::rcR h rd:: .glob 2 156 y3:: .glob 4 305 y4:: .glob 5 308 y2:: .glob 3 246 q7:: .defs q:: .box b4 4 [bv false]:: .box b3 41 (j3 c):: .box b2 28 (y9 h)::(dfs.map Res.defs),v6 (zbb (pt1 _ _ _)) es,?_⟩
     refine rn ?_;refine z7 rfl (fun hc31=> ?_) (fun hc31=> ?_)
     ·have hz:d=c:=ytc hc31
      refine rn ?_;exact zq3 (.refl _) ⟨_,_,.trans (.perm ((pt1 _ _ _).trans (.cons _ ((pt1 _ _ _).trans (.cons _ ((pt1 _ _ _).trans (.cons _ ((pt1 _ _ _).trans (.cons _ ((pt1 _ _ _).trans (.cons _ ((pt1 _ _ _).trans (.cons _ ((pt1 _ _ _).trans (.cons _ ((pt1 _ _ _).trans (.cons _ ((pt1 _ _ _).trans (.cons _ ((pt1 _ _ _).trans (.cons _ ((pt1 _ _ _).trans (.cons _ (pt1 _ _ _))))))))))))))))))))))) _) (.drop [_] _ _),(),.inr ⟨rfl,by rw [hL,←hz];simp,rfl⟩⟩
     ·have hz:¬d=c:=yv4 hc31
      refine rn ?_;exact zdf (.refl _) ⟨_,_,.trans (.perm ((pt1 _ _ _).trans (.cons _ ((pt1 _ _ _).trans (.cons _ ((pt1 _ _ _).trans (.cons _ ((pt1 _ _ _).trans (.cons _ ((pt1 _ _ _).trans (.cons _ ((pt1 _ _ _).trans (.cons _ ((pt1 _ _ _).trans (.cons _ ((pt1 _ _ _).trans (.cons _ ((pt1 _ _ _).trans (.cons _ ((pt1 _ _ _).trans (.cons _ ((pt1 _ _ _).trans (.cons _ (pt1 _ _ _))))))))))))))))))))))) _) (.drop [_] _ _),(),.inl ⟨rfl,by simp [hpre,Ne.symm hz],rfl⟩⟩
    ·obtain ⟨_,hn,M,hM,rfl⟩|⟨hc',_⟩:=hK'
     rotate_left
     ·cases hc'
     refine rn ?_;exact ⟨hk,(M,q::dfs),⟨yoi zk hn,hM⟩,v6 (zbb ((pt1 _ _ _).trans (.cons _ ((pt1 _ _ _).trans (.cons _ ((yva _ _ _ _ _ _ _ _ _ _ _ _).trans (.cons _ ((yva _ _ _ _ _ _ _ _ _ _ _ _).trans (.cons _ ((yva _ _ _ _ _ _ _ _ _ _ _ _).trans (.cons _ ((pt1 _ _ _).trans (.cons _ ((pt1 _ _ _).trans (.cons _ ((pt1 _ _ _).trans (.cons _ ((pt1 _ _ _).trans (.cons _ ((pt1 _ _ _).trans (.cons _ ((pt1 _ _ _).trans (.cons _ ((pt1 _ _ _).trans (.cons _ ((pt1 _ _ _).trans (.cons _ (pt1 _ _ _)))))))))))))))))))))))))))) (v6 (zbm (h1:= [_,_])) es)⟩
    ·obtain ⟨hc',_⟩|⟨hc',hn,M,hM,rfl⟩:=hK'
     ·cases hc'
     obtain rfl:cc= .ret:=by simpa using hc'
     refine rn ?_;exact zh3 (.cons _ (List.perm_append_comm (l₁:= [_,_,_,_,_,_,_,_,_,_,_,_,_,_]) (l₂:=(dfs.map Res.defs)))) (.cons _ _ _ _ (.one _ _ _ _ _ _ _ rfl inferInstance inferInstance rfl) .nil) (.trans (.perm (.cons _ (.cons _ (.cons _ (.cons _ (.cons _ (.cons _ (.cons _ ((pt4 _ _ _ _ _ _).trans (.cons _ ((pt4 _ _ _ _ _ _).trans (.cons _ (pt4 _ _ _ _ _ _)))))))))))) _) (.drop [_,_,_,_,_,_,_,_,_,_] _ _)) ⟨rfl,congrArg bv (yue hc hk hn).symm⟩
   ·have qk:k=2:=by have q:=oF hc23;omega
    refine rn ?_;exact zh3 (List.perm_append_comm (l₁:= [_,_,_,_,_,_,_,_,_,_,_,_]) (l₂:=(dfs.map Res.defs))) (.cons _ _ _ _ (.one _ _ _ _ _ _ _ rfl inferInstance inferInstance rfl) .nil) (.trans (.perm (.refl _) _) (.drop [_,_,_,_,_,_,_,_] _ _)) ⟨rfl,congrArg bv (yuf (qk ▸ zk)).symm⟩
 ·refine rn ?_;refine z7 rfl (fun hc16=> ?_) (fun hc16=> ?_)
  ·refine rn ?_;exact zej (.cons _ _ _ _ (.one _ _ _ _ _ _ _ rfl inferInstance inferInstance rfl) .nil) (.drop [_,_,_] _ _) ⟨rfl,congrArg bv (yug hc).symm⟩
  ·first|cases hc16|exact absurd hc16 (by decide)|(exfalso;simp_all;done)
theorem ytm (n:Int) (l:List Int):decide (atI n 0 l ≥ 0)=l.contains n:=by
 have:=zyx n l
 cases hc:l.contains n with
 |true=>rw [hc] at this;have:=oF this;exact decide_eq_true (by omega)
 |false=>rw [hc] at this;have:=oT this;exact decide_eq_false (by omega)
theorem yr1 {p x:Int} {m:Mat} (h:(m.p !=p)=true):zre p x m=false:=by
 have:(m.p==p)=false:=by simpa using h
 rw [zre,this];rfl
theorem yr0 {p x:Int} {m:Mat} (h:(m.o !=x)=true):zre p x m=false:=by
 have:(m.o==x)=false:=by simpa using h
 rw [zre,this,Bool.and_false]
theorem yxr {p x:Int} {m:Mat} (h1:(m.p !=p)=false) (h2:(m.o !=x)=false):zre p x m=true:=by
 rw [zre,Bool.and_eq_true];exact ⟨by simpa using h1,by simpa using h2⟩
theorem yr2 {h:Hist} {p x:Int} {k:Nat} (hk:k < h.mats.length) (hq:zre p x h.mats[k]=true) (hz:((h.mats.take k).all fun m=> !zre p x m)=true):yk4 h p x=some h.mats[k]:=by
 rw [yk4,List.find?_eq_some_iff_getElem]
 exact ⟨hq,k,hk,rfl,fun j hj=>by have:=List.all_eq_true.1 hz h.mats[j] (zg5 (by omega) hj);exact this⟩
theorem yvi {h:Hist} {p x:Int} (hz:(h.mats.all fun m=> !zre p x m)=true):yk4 h p x=none:=by
 rw [yk4,List.find?_eq_none];intro s hs q
 have:=List.all_eq_true.1 hz s hs
 rw [q] at this;cases this
theorem ytg {f:Nat→Bool} {k:Nat} (h:(f (k+1) !=f k)=true):chR f (k+1)=chR f k++ [((k+1:Nat):Int)]:=by rw [chR,if_pos (by simpa using h)]
theorem yth {f:Nat→Bool} {k:Nat} (h:(f (k+1) !=f k)=false):chR f (k+1)=chR f k:=by rw [chR,if_neg (by simpa using h)];simp
def yc8 (l:List Ev) (t:Int) (n:Nat) (scan:List Seen) (j:Nat) (x:Int):Ver:=match zut (scan.take j) x with
 |some v=>v
 |none=>zqs (zc4 l t x n)
theorem ykw {l:List Ev} {t x:Int} {n j:Nat} {scan:List Seen} (hj:j < scan.length) (h:(scan[j].o==x)=true):yc8 l t n scan (j+1) x=scan[j].v:=by rw [yc8,yb3 hj,if_pos h]
theorem ykx {l:List Ev} {t x:Int} {n j:Nat} {scan:List Seen} (hj:j < scan.length) (h:(scan[j].o==x)=false):yc8 l t n scan (j+1) x=yc8 l t n scan j x:=by rw [yc8,yb3 hj,if_neg (by rw [h];decide),yc8]
theorem yrl (l:List Ev) (t x:Int) (n:Nat) (scan:List Seen):yc8 l t n scan 0 x=zqs (zc4 l t x n):=rfl
theorem yrk (l:List Ev) (t x:Int) (n:Nat) (scan:List Seen):yc8 l t n scan scan.length x=yf5 l t n scan x:=by rw [yc8,List.take_length];rfl
theorem yql {s:Seen} {x:Int} (h:(s.o==x)=true):zaj s= [iv x,iv s.v.t,iv s.v.k]:=by rw [zaj,eq_of_beq h]
theorem zlw (h:Hist) (la:Lim 1000000 h) (p x n:Int) (h0:0≤n) (h1:n≤(zbz h x).length):y7 Tryz.prog 162 [.agg (y9 h),iv p,iv x,iv n] [] (fun r h'=>h'= []∧r=bv (zub h p x n)):=by
 refine z6 Tryz.func162 rfl rfl rfl ?_
 have lm:=la.mats
 have lI:=zn7 la x
 refine rn ?_;refine z8 rfl (w8 rfl rfl rfl fun b4=> ?_)
 refine rn ?_;refine zc8 (h.mats.length) (fun k:Nat=>((h.mats.take k).all fun m=> !zre p x m)=true) (fun k=> [(14,iv k)]) [(1,_),(2,_),(3,_),(4,_),(12,_),(13,_)] rfl ?_
 intro k lk zk
 refine rn ?_;refine z7 rfl (fun hc15=> ?_) (fun hc15=> ?_)
 ·have hk:=zay hc15
  have rk:=zae (f:=zd8) hk
  have lT:=la.matts h.mats[k] (List.getElem_mem hk)
  refine rn ?_;refine z8 rfl (y5 rfl fun b10=> ?_)
  refine rn ?_;refine w7 (fun hg4_4=> ?_) (fun hg4_4=> ?_)
  ·refine rn ?_;refine zdh rfl ?_;have hq:zre p x h.mats[k]=false:=by first|exact yr1 hg4_4|exact yr0 hc27
   refine rn ?_;exact ⟨hk,by rw [zm8 hk,zk,hq];rfl,eA⟩
  ·refine rn ?_;refine z7 rfl (fun hc27=> ?_) (fun hc27=> ?_)
   ·have hq:zre p x h.mats[k]=false:=by first|exact yr1 hg4_4|exact yr0 hc27
    refine rn ?_;exact ⟨hk,by rw [zm8 hk,zk,hq];rfl,eA⟩
   ·have hq:zre p x h.mats[k]=true:=yxr hg4_4 hc27
    have hf:=yr2 hk hq zk
    refine rn ?_;refine z7 rfl (fun hc29=> ?_) (fun hc29=> ?_)
    ·have hn:n=0:=eq_of_beq hc29
     refine rn ?_;refine rq 2 ?_
     exact ⟨rfl,congrArg bv (by rw [zub,hf,mtM,if_pos hn])⟩
    ·have hn:n≠0:=beq_eq_false_iff_ne.1 hc29
     obtain ⟨a,ha,ea⟩:∃a:Nat,a < (zbz h x).length∧n=(a:Int)+1:=⟨(n - 1).toNat,by omega,by omega⟩
     subst ea
     have ra:=zae (f:=zai) ha
     refine rn ?_;refine u4 9 rfl ?_
     refine rn ?_;refine dv rfl rfl (by exact y0 rfl rfl (v8 (zh4 h la x) (Sbs.refl _))) ?_
     refine dq rfl rfl qrA ?_;refine dq rfl rfl (zsz (zc1 rfl rfl rfl (by omega)) (show iv ((a:Int)+1 - 1)=iv (a:Int) by rw [Int.add_sub_cancel])) ?_
     refine rn ?_;refine qv rfl rfl (y0 rfl rfl (v8 (zzp h.mats[k].ts (zbz h x)[a] (Nat.le_trans lT (by decide))) (Sbs.refl _))) ?_
     refine rn ?_;refine rq 2 ?_
     exact ⟨rfl,congrArg bv (by rw [ytm,zub,hf,mtM,if_neg (by omega),Int.add_sub_cancel,Int.toNat_natCast,List.getElem?_eq_getElem ha];rfl)⟩
 ·have qk:=zaz hc15 lk
  rw [qk,List.take_length] at zk
  refine rn ?_;refine rq 1 ?_
  exact ⟨rfl,congrArg bv (by rw [zub,yvi zk];rfl)⟩
theorem zsq (h:Hist) (la:Lim 1000000 h) (p x:Int):y7 Tryz.prog 120 [.agg (y9 h),iv p,iv x] [] (fun r h'=>h'= []∧r=zaq (chR (fun k:Nat=>zub h p x (k:Int)) (zbz h x).length)):=by
 refine z6 Tryz.func120 rfl rfl rfl ?_
 have lI:=zn7 la x
 refine rn ?_;refine z8 rfl (w8 rfl rfl rfl fun b3=> ?_)
 refine rn ?_;refine zc7 (zbz h x).length (fun k s=>⟨[(8,iv ((k:Int)+1)),(7,.v s.v),(1,iv p),(2,iv x),(3,pZ b3)],.row s.v 1 3 ((chR (fun k:Nat=>zub h p x (k:Int)) k).map zai):: .box b3 28 (y9 h):: [],[]⟩) ⟨none,0,0⟩ (v6 (zac 1 3) es) ?_
 intro k s lk
 refine rn ?_;refine qv rfl rfl (y0 rfl rfl (v8 (zh4 h la x) (Sbs.refl _))) ?_
 refine rn ?_;refine z7 rfl (fun hc14=> ?_) (fun hc14=> ?_)
 ·have hk:k < (zbz h x).length:=by have q:=oT hc14;rw [oM] at q;omega
  have hcs:((k+1:Nat):Int)=(k:Int)+1:=by omega
  refine rn ?_;refine u4 10 rfl ?_
  refine rn ?_;refine dv rfl rfl (by exact y0 rfl rfl (v8 (zlw h la p x ((k:Int)+1) (by omega) (by omega)) (Sbs.refl _))) ?_
  refine dq rfl rfl qrA ?_;refine dq rfl rfl qrA ?_;refine dq rfl rfl qrA ?_;refine dq rfl rfl qrA ?_;refine dq rfl rfl (zsz (zc1 rfl rfl rfl (by omega)) (show iv ((k:Int)+1 - 1)=iv (k:Int) by rw [Int.add_sub_cancel])) ?_
  refine rn ?_;refine qv rfl rfl (y0 rfl rfl (v8 (zlw h la p x (k:Int) (by omega) (by omega)) (Sbs.refl _))) ?_
  refine qq rfl rfl (znt rfl rfl) ?_
  refine rn ?_;refine z7 rfl (fun hc28=> ?_) (fun hc28=> ?_)
  ·refine rn ?_;refine qv rfl rfl (q6 rfl rfl) ?_
   refine z8 rfl (u7 rfl rfl (by simp only [oM,List.length_cons,List.length_nil];have:=chR_len (fun k:Nat=>zub h p x (k:Int)) k;omega) rfl (fun s32=> ?_) (zg3 [(k:Int)+1]))
   refine k8 s32 fun sv hsv=> ?_
   subst hsv
   refine q1 ?_;refine u3 ?_;refine zic ?_;refine zag ?_;refine y6 ?_;refine q1 ?_;refine qq rfl rfl (zc1 rfl rfl rfl (by omega)) ?_
   refine rn ?_;first|exact ⟨hk,sv,by rw [ytg (f:=fun k:Nat=>zub h p x (k:Int)) (by rw [hcs];exact hc28),List.map_append,hcs];exact eA⟩|exact ⟨hk,s,by rw [yth (f:=fun k:Nat=>zub h p x (k:Int)) (by rw [hcs];exact hc28),hcs];exact eA⟩
  ·refine za8 ?_;refine zic ?_;refine zag ?_;refine y6 ?_;refine q1 ?_;refine qq rfl rfl (zc1 rfl rfl rfl (by omega)) ?_
   refine rn ?_;first|exact ⟨hk,sv,by rw [ytg (f:=fun k:Nat=>zub h p x (k:Int)) (by rw [hcs];exact hc28),List.map_append,hcs];exact eA⟩|exact ⟨hk,s,by rw [yth (f:=fun k:Nat=>zub h p x (k:Int)) (by rw [hcs];exact hc28),hcs];exact eA⟩
 ·have qk:k=(zbz h x).length:=by have q:=oF hc14;rw [oM] at q;omega
  refine rn ?_;exact j6 rfl (.trans zbr (.drop [_] _ _)) ⟨rfl,by rw [qk];rfl⟩
theorem yhg (h:Hist) (la:Lim 1000000 h) (a:Nat) (ha:a < h.evs.length):y7 Tryz.prog 118 [.agg (y9 h),iv (a:Int)] [] (fun r h'=>h'= []∧r=zei (j9 h h.evs[a] a)):=by
 refine z6 Tryz.func118 rfl rfl rfl ?_
 have be:=la.evs
 have bo:=la.os
 have bs:=la.scans h.evs[a] (List.getElem_mem ha)
 refine rn ?_;refine z8 rfl (w8 rfl rfl rfl fun b2=> ?_)
 refine q1 ?_;refine u3 (zag ?_)
 refine w9 (y6 ?_)
 refine q1 ?_;refine u3 (zag ?_)
 refine w9 (y6 ?_)
 refine q1 ?_;refine q1 ?_;refine q1 ?_;refine qq rfl rfl (zau rfl rfl (Int.natCast_nonneg a) (by rw [Int.toNat_natCast];exact zae (f:=evR) ha)) ?_
 refine rn ?_;refine z8 rfl (y5 rfl fun b6=> ?_)
 refine rn ?_;refine zc7 h.os.length (fun k s=>⟨[(21,iv k),(5,.v s.v),(1,iv (a:Int)),(2,pZ b2),(6,pZ b6),(20,iv (h.os.map zdi).length)],.row s.v 3 70 (((upR k).map fun x:Int=>(⟨x,yf5 h.evs h.evs[a].t a h.evs[a].scan x⟩:Seen)).map zaj):: .box b6 60 (evR h.evs[a]):: .box b2 28 (y9 h):: [],[]⟩) ⟨none,0,0⟩ (v6 (zac 3 70) es) ?_
 intro k s lk
 refine rn ?_;refine z7 rfl (fun hc22=> ?_) (fun hc22=> ?_)
 ·have hk:k < h.os.length:=by have q:=oT hc22;rw [oM] at q;omega
  refine za8 ?_;refine zag ?_;refine w9 ?_;refine zcn ?_;refine w9 (y6 ?_)
  refine q1 ?_;refine q1 ?_;refine u3 (zag ?_)
  refine w9 (y6 ?_)
  refine q1 ?_;refine qq rfl rfl (j7 (out:= [iv (k:Int),iv 0,iv 0]) rfl (by rfl)) ?_
  refine z8 rfl (y5 rfl fun b8=> ?_)
  first|refine z8 rfl (j5 rfl rfl rfl ?_)|refine z8 rfl (zak rfl rfl rfl rfl (Nat.le_of_ble_eq_true rfl) ?_)
  refine u3 (zag ?_)
  refine w9 ?_;refine w9 (y6 ?_)
  refine q1 ?_;refine q1 ?_;refine q1 ?_;refine qq rfl rfl (zen (k:=a) (rows':=(h.evs.take a).map evR) rfl rfl (by rw [oM];omega) List.map_take.symm) ?_
  refine rn ?_;refine zbn (h.evs.take a).length (fun _=>True) (fun j=>⟨[(31,iv j),(1,iv (a:Int)),(2,pZ b2),(5,.v s.v),(6,pZ b6),(7,iv (k:Int)),(8,pZ b8),(20,iv (h.os.map zdi).length),(21,iv k),(29,zoc (h.evs.take a)),(30,iv ((h.evs.take a).map evR).length)],.box b8 70 [iv (k:Int),iv (zqs (zc4 (h.evs.take a) h.evs[a].t (k:Int) j)).t,iv (zqs (zc4 (h.evs.take a) h.evs[a].t (k:Int) j)).k]:: .row s.v 3 70 (((upR k).map fun x:Int=>(⟨x,yf5 h.evs h.evs[a].t a h.evs[a].scan x⟩:Seen)).map zaj):: .box b6 60 (evR h.evs[a]):: .box b2 28 (y9 h):: [],[]⟩) trivial eA ?_
  intro j lj _
  refine rn ?_;refine z7 rfl (fun hc32=> ?_) (fun hc32=> ?_)
  ·have hj:=zay hc32
   have rj:=zae (f:=evR) hj
   have bj:=hj
   rw [List.length_take] at bj
   refine rn ?_;refine z8 rfl (y5 rfl fun b10=> ?_)
   refine rn ?_;refine w7 (fun hg10_5=> ?_) (fun hg10_5=> ?_)
   ·refine rn ?_;refine w7 (fun hg10_10=> ?_) (fun hg10_10=> ?_)
    ·refine rn ?_;refine z7 rfl (fun hc50=> ?_) (fun hc50=> ?_)
     ·have hw:zam h.evs[a].t (k:Int) (h.evs.take a)[j]=true:=by rw [zam,Bool.and_comm ((h.evs.take a)[j].kind==2)];first|(rw [hg10_5,hg10_10,hc50];rfl)|(rw [hg10_5,hg10_10];rfl)|(rw [hg10_5];rfl)|(rw [hg10_5,hc50];rfl)
      refine rn ?_;first|exact ⟨hj,trivial,by rw [zpv hj hw];exact eA⟩|exact ⟨hj,trivial,by rw [zg8 hj hw];exact eA⟩
     ·have hw:zam h.evs[a].t (k:Int) (h.evs.take a)[j]=false:=by rw [zam,Bool.and_comm ((h.evs.take a)[j].kind==2)];first|(rw [hg10_5,hg10_10,hc50];rfl)|(rw [hg10_5,hg10_10];rfl)|(rw [hg10_5];rfl)|(rw [hg10_5,hc50];rfl)
      refine rn ?_;first|exact ⟨hj,trivial,by rw [zpv hj hw];exact eA⟩|exact ⟨hj,trivial,by rw [zg8 hj hw];exact eA⟩
    ·refine rn ?_;refine zdo rfl ?_;have hw:zam h.evs[a].t (k:Int) (h.evs.take a)[j]=false:=by rw [zam,Bool.and_comm ((h.evs.take a)[j].kind==2)];first|(rw [hg10_5,hg10_10,hc50];rfl)|(rw [hg10_5,hg10_10];rfl)|(rw [hg10_5];rfl)|(rw [hg10_5,hc50];rfl)
     refine rn ?_;first|exact ⟨hj,trivial,by rw [zpv hj hw];exact eA⟩|exact ⟨hj,trivial,by rw [zg8 hj hw];exact eA⟩
   ·refine rn ?_;refine zdo rfl ?_;have hw:zam h.evs[a].t (k:Int) (h.evs.take a)[j]=false:=by rw [zam,Bool.and_comm ((h.evs.take a)[j].kind==2)];first|(rw [hg10_5,hg10_10,hc50];rfl)|(rw [hg10_5,hg10_10];rfl)|(rw [hg10_5];rfl)|(rw [hg10_5,hc50];rfl)
    refine rn ?_;first|exact ⟨hj,trivial,by rw [zpv hj hw];exact eA⟩|exact ⟨hj,trivial,by rw [zg8 hj hw];exact eA⟩
  ·have qj:=zaz hc32 lj
   rw [qj,←zjc,←yg8 ha,←yrl h.evs h.evs[a].t (k:Int) a h.evs[a].scan]
   refine rn ?_;refine zbn h.evs[a].scan.length (fun _=>True) (fun u=>⟨[(58,iv u),(1,iv (a:Int)),(2,pZ b2),(5,.v s.v),(6,pZ b6),(7,iv (k:Int)),(8,pZ b8),(20,iv (h.os.map zdi).length),(21,iv k),(56,zei h.evs[a].scan),(57,iv (h.evs[a].scan.map zaj).length)],.box b8 70 [iv (k:Int),iv (yc8 h.evs h.evs[a].t a h.evs[a].scan u (k:Int)).t,iv (yc8 h.evs h.evs[a].t a h.evs[a].scan u (k:Int)).k]:: .row s.v 3 70 (((upR k).map fun x:Int=>(⟨x,yf5 h.evs h.evs[a].t a h.evs[a].scan x⟩:Seen)).map zaj):: .box b6 60 (evR h.evs[a]):: .box b2 28 (y9 h):: [],[]⟩) trivial eA ?_
   intro u lu _
   refine rn ?_;refine z7 rfl (fun hc59=> ?_) (fun hc59=> ?_)
   ·have hu:=zay hc59
    have ru:=zae (f:=zaj) hu
    refine rn ?_;refine z8 rfl (y5 rfl fun b12=> ?_)
    refine rn ?_;refine z7 rfl (fun hc65=> ?_) (fun hc65=> ?_)
    ·have ho:=yql hc65
     refine rn ?_;first|exact ⟨hu,trivial,by rw [ho,ykw hu hc65];exact eA⟩|exact ⟨hu,trivial,by rw [ykx hu hc65];exact eA⟩
    ·refine rn ?_;first|exact ⟨hu,trivial,by rw [ho,ykw hu hc65];exact eA⟩|exact ⟨hu,trivial,by rw [ykx hu hc65];exact eA⟩
   ·have qu:=zaz hc59 lu
    rw [qu,yrk]
    refine rn ?_;refine qv rfl rfl (q6 rfl rfl) ?_
    refine z8 rfl (u7 rfl rfl (by simp only [oM,upR,List.length_range,List.length_cons,List.length_nil];omega) rfl (fun s71=> ?_) (by exact zkf [(⟨(k:Int),yf5 h.evs h.evs[a].t a h.evs[a].scan (k:Int)⟩:Seen)]))
    refine k8 s71 fun sv hsv=> ?_
    subst hsv
    refine rn ?_;exact ⟨hk,sv,by rw [zow,List.map_append,List.map_append,List.map_singleton,List.map_singleton];exact eA⟩
 ·have qk:k=h.os.length:=by have q:=oF hc22;rw [oM] at q;omega
  subst qk
  refine rn ?_;exact j6 rfl (.trans zbr (.drop [_,_] _ _)) ⟨rfl,rfl⟩
theorem yi4 {h:Hist} (hc:v7 h=0) {x:Int} (h0:0≤x) (h1:x < h.os.length):(zbz h x).length≤3000:=by
 rw [←zn6 (za4.1 hc) h0 h1];exact zl3 hc h0 h1
def chR (h:Hist) (f t:Int) (k:Nat):List Int:=(upR k).filter fun x=>decide (atI f 0 (zbz h x) ≥ 0) && decide (atI t 0 (zbz h x) > atI f 0 (zbz h x))
theorem chR_len (h:Hist) (f t:Int) (k:Nat):(chR h f t k).length≤k:=by
 refine Nat.le_trans (List.length_filter_le _ _) ?_
 rw [upR,oM,List.length_range];exact Nat.le_refl _
theorem zu2 (h:Hist) (x:Int) (v:Ver):zhp h x v=((rkR h x v).getD 0,(rkR h x v).isSome):=by
 rw [zhp,rkR]
 by_cases hv:v=⟨0,0⟩
 ·rw [if_pos hv,if_pos hv];rfl
 ·rw [if_neg hv,if_neg hv]
  by_cases hf:zbq (fun t=>zhr h x t==v) 0 (zbz h x) ≥ 0
  ·rw [if_pos hf,if_pos (show zbq (rkQ h x v) 0 (zbz h x) ≥ 0 from hf)];rfl
  ·rw [if_neg hf,if_neg (show ¬zbq (rkQ h x v) 0 (zbz h x) ≥ 0 from hf)];rfl
def scT (h:Hist) (s:Seen) (k:Int):Int:=((zbz h s.o)[(k - 1).toNat]?).getD 0
theorem ye9 {h:Hist} (hc:v7 h=0) {x:Int} (h0:0≤x) (h1:x < h.os.length) (p:Int):(zjx h p x).length≤3000:=by
 rw [zjx]
 exact Nat.le_trans (H.chR_len _ _) (yi4 hc h0 h1)
theorem zyo {f:Nat→Bool} {k:Int}:∀{n:Nat},k∈H.chR f n→1≤k∧k≤n
 |0,hk=>by simp [H.chR] at hk
 |n+1,hk=>by
  rw [H.chR,List.mem_append] at hk
  rcases hk with hk|hk
  ·have:=zyo hk;omega
  ·split at hk
   ·rw [List.mem_singleton] at hk;omega
   ·cases hk
theorem zhd {h:Hist} (hs:zar h=true) (t:Int):decide (atI t 0 (zgo h) ≥ 0)=zfb h.evs t 5:=by
 rw [decide_eq_decide.2 (show atI t 0 (zgo h) ≥ 0 ↔ ¬atI t 0 (zgo h) < 0 by omega),decide_not,zyx,Bool.not_not,Bool.eq_iff_iff,List.contains_iff_mem,←ye5 hs,zku]
theorem ztx {h:Hist} (hs:zar h=true) (t:Int):decide (atI t 0 (zgo h) < 0)= !zfb h.evs t 5:=by
 rw [←zhd hs,←decide_not];exact decide_eq_decide.2 (by omega)
theorem zod {h:Hist} (hs:zar h=true):(zgo h).length≤h.evs.length:=by
 rw [←ye5 hs];exact zwf _
theorem zk4 {a b:Ver}:a=b ↔ a.t=b.t∧a.k=b.k:=by cases a;cases b;simp
def itF (h:Hist) (x f:Int):List Conf:=zec (zfg h x f) h.evs h.evs.length
def itO (h:Hist) (k:Nat):List Conf:=(upR k).flatMap fun x=>(zbz h x).flatMap (itF h x)
theorem ysi (h:Hist) (k:Nat):itO h (k+1)=itO h k++(zbz h k).flatMap (itF h k):=by
 rw [itO,zow,List.flatMap_append];simp [itO]
theorem yd7 (h:Hist):itO h h.os.length=ze0 h:=rfl
theorem ysv {α β:Type} {f:α→List β} {l:List α} {i:Nat} (hi:i < l.length):(l.take (i+1)).flatMap f=(l.take i).flatMap f++f l[i]:=by
 rw [List.take_succ_eq_append_getElem hi,List.flatMap_append];simp
theorem yd8 {h:Hist} (hc:v7 h=0) (x:Int) (l:List Int):(l.flatMap (itF h x)).length≤l.length * 3000:=
 zgm _ 3000 _ fun f _=>Nat.le_trans (zf2 _ _ _) (zb9 hc).evs
theorem zvw {h:Hist} (hc:v7 h=0):∀k:Nat,k≤h.os.length→(itO h k).length≤k * 9000000
 |0,_=>Nat.le_refl _
 |k+1,hk=>by
  have h1:=zvw hc k (by omega)
  have h2:=yd8 hc k (zbz h k)
  have h3:=yi4 hc (x:=k) (by omega) (by omega)
  rw [ysi,List.length_append,Nat.succ_mul]
  omega
theorem yd5 {h:Hist} {x f:Int} {j:Nat} {e:Ev} (q:(e.kind==3 && (e.o==x && (e.v==zhr h x f && (!(e.t==f) && zfb h.evs e.t 5))))=false):zfg h x f j e=none:=by rw [zfg,if_neg (by rw [q];decide)]
theorem yvo {h:Hist} {x f:Int} {j:Nat} {e:Ev} (q:(e.kind==3 && (e.o==x && (e.v==zhr h x f && (!(e.t==f) && zfb h.evs e.t 5))))=true):zfg h x f j e=some (wrC h e j 1 f x 0):=by rw [zfg,if_pos q]
theorem yae {h:Hist} {f:Nat→Ev→Option Conf} {j:Nat} (hj:j < h.evs.length) (q:f j h.evs[j]=none):zec f h.evs (j+1)=zec f h.evs j:=by rw [zn9 hj,q];simp
theorem yad {h:Hist} {f:Nat→Ev→Option Conf} {j:Nat} {d:Conf} (hj:j < h.evs.length) (q:f j h.evs[j]=some d):zec f h.evs (j+1)=zec f h.evs j++ [d]:=by rw [zn9 hj,q];rfl
theorem zzl (h:Hist) (la:Lim 1000000 h) (hc:v7 h=0):y7 Tryz.prog 56 [.agg (y9 h)] [] (fun r h'=>∃s:SV,h'= [.row s.v 7 41 ((ze0 h).map j3)]∧r= .v s.v):=by
 refine z6 Tryz.func56 rfl rfl rfl ?_
 have hs:=za4.1 hc
 have lA:=zb9 hc
 have lE:=lA.evs
 have lO:=lA.os
 have bC:(zgo h).length≤4611686018427387904:=Nat.le_trans (zod hs) (Nat.le_trans lE (by decide))
 refine rn ?_;refine z8 rfl (w8 rfl rfl rfl fun b1=> ?_)
 refine rn ?_;refine qv rfl rfl (y0 rfl rfl (v8 (zsp h la) (Sbs.refl _))) ?_
 refine rn ?_;refine zc7 h.os.length (fun k s=>⟨[(18,iv k),(3,.v s.v),(1,pZ b1),(4,zaq (zgo h)),(17,iv (h.os.map zdi).length)],.row s.v 7 41 ((itO h k).map j3):: .box b1 28 (y9 h):: [],[]⟩) ⟨none,0,0⟩ (v6 (zac 7 41) es) ?_
 intro k s lk
 refine rn ?_;refine z7 rfl (fun hc19=> ?_) (fun hc19=> ?_)
 ·have hk:k < h.os.length:=by have q:=oT hc19;rw [oM] at q;omega
  have k0:(0:Int)≤(k:Int):=by omega
  have k1:(k:Int) < h.os.length:=by omega
  have hil:=yi4 hc k0 k1
  have hol:=zvw hc k (by omega)
  refine rn ?_;refine qv rfl rfl (y0 rfl rfl (v8 (zh4 h la k) (Sbs.refl _))) ?_
  refine rn ?_;refine zc7 (zbz h k).length (fun i s=>⟨[(25,iv i),(3,.v s.v),(1,pZ b1),(4,zaq (zgo h)),(5,iv k),(17,iv (h.os.map zdi).length),(18,iv k),(23,zaq (zbz h k)),(24,iv ((zbz h k).map zai).length)],.row s.v 7 41 ((itO h k++((zbz h k).take i).flatMap (itF h k)).map j3):: .box b1 28 (y9 h):: [],[]⟩) s (by rw [List.take_zero,List.flatMap_nil,List.append_nil];exact es) ?_
  intro i s li
  refine rn ?_;refine z7 rfl (fun hc26=> ?_) (fun hc26=> ?_)
  ·have hi:=zay hc26
   have ri:=zae (f:=zai) hi
   have hml:=yd8 hc k ((zbz h k).take i)
   have htl:=List.length_take_le i (zbz h k)
   refine rn ?_;refine qv rfl rfl (y0 rfl rfl (v8 (zla h la.evs (zbz h k)[i] k) (Sbs.refl _))) ?_
   refine rn ?_;refine z8 rfl (y5 rfl fun b8=> ?_)
   refine rn ?_;refine zc7 h.evs.length (fun j s=>⟨[(40,iv j),(3,.v s.v),(1,pZ b1),(4,zaq (zgo h)),(5,iv k),(7,iv (zbz h k)[i]),(8,pZ b8),(9,iv (zc5 h (zbz h k)[i] k)),(17,iv (h.os.map zdi).length),(18,iv k),(23,zaq (zbz h k)),(24,iv ((zbz h k).map zai).length),(25,iv i),(38,zoc h.evs),(39,iv (h.evs.map evR).length)],.box b8 57 (zy8 (zhr h k (zbz h k)[i])):: .row s.v 7 41 (((itO h k++((zbz h k).take i).flatMap (itF h k))++zec (zfg h k (zbz h k)[i]) h.evs j).map j3):: .box b1 28 (y9 h):: [],[]⟩) s (by rw [zec,List.append_nil];exact es) ?_
   intro j s lj
   refine rn ?_;refine z7 rfl (fun hc41=> ?_) (fun hc41=> ?_)
   ·have hj:=zay hc41
    have rj:=zae (f:=evR) hj
    have hgl:=zf2 (zfg h k (zbz h k)[i]) h.evs j
    refine rn ?_;refine z8 rfl (y5 rfl fun b12=> ?_)
    refine rn ?_;refine w7 (fun hg13_3=> ?_) (fun hg13_3=> ?_)
    ·refine rn ?_;refine w7 (fun hg13_9=> ?_) (fun hg13_9=> ?_)
     ·refine rn ?_;refine w7 (fun hg13_15=> ?_) (fun hg13_15=> ?_)
      ·refine rn ?_;refine w7 (fun hg13_21=> ?_) (fun hg13_21=> ?_)
       ·refine rn ?_;refine qv rfl rfl (y0 rfl rfl (v8 (zzp (zgo h) h.evs[j].t bC) (Sbs.refl _))) ?_
        refine rn ?_;refine z7 rfl (fun hc72=> ?_) (fun hc72=> ?_)
        ·have hw:zfg h k (zbz h k)[i] j h.evs[j]=some (wrC h h.evs[j] j 1 (zbz h k)[i] k 0):=yvo (by
          have q:=hc72
          rw [zhd hs] at q
          simp_all [zk4])
         refine y6 ?_;refine q1 ?_;refine q1 ?_;refine q1 ?_;refine q1 ?_;refine q1 ?_;refine q1 ?_;refine q1 ?_;refine qq rfl rfl (j7 (out:=j3 (wrC h h.evs[j] j 1 (zbz h k)[i] k 0)) rfl (by rfl)) ?_
         refine qv rfl rfl (q6 rfl rfl) ?_
         refine z8 rfl (u7 rfl rfl (by simp only [oM,List.length_append,List.length_cons,List.length_nil];omega) rfl (fun s82=> ?_) (ze9 [(wrC h h.evs[j] j 1 (zbz h k)[i] k 0)]))
         refine k8 s82 fun sv hsv=> ?_
         subst hsv
         refine rn ?_;first|exact ⟨hj,sv,by rw [yad hj hw,←List.append_assoc,List.map_append (l₁:=((itO h k++((zbz h k).take i).flatMap (itF h k))++zec (zfg h k (zbz h k)[i]) h.evs j))];exact eA⟩|exact ⟨hj,s,by rw [yae hj hw];exact eA⟩
        ·have hw:zfg h k (zbz h k)[i] j h.evs[j]=none:=yd5 (by
          try (have q:=hc72;rw [zhd hs] at q)
          simp_all [zk4])
         refine rn ?_;first|exact ⟨hj,sv,by rw [yad hj hw,←List.append_assoc,List.map_append (l₁:=((itO h k++((zbz h k).take i).flatMap (itF h k))++zec (zfg h k (zbz h k)[i]) h.evs j))];exact eA⟩|exact ⟨hj,s,by rw [yae hj hw];exact eA⟩
       ·refine rn ?_;refine zdo rfl ?_;have hw:zfg h k (zbz h k)[i] j h.evs[j]=none:=yd5 (by
         try (have q:=hc72;rw [zhd hs] at q)
         simp_all [zk4])
        refine rn ?_;first|exact ⟨hj,sv,by rw [yad hj hw,←List.append_assoc,List.map_append (l₁:=((itO h k++((zbz h k).take i).flatMap (itF h k))++zec (zfg h k (zbz h k)[i]) h.evs j))];exact eA⟩|exact ⟨hj,s,by rw [yae hj hw];exact eA⟩
      ·refine rn ?_;refine zdo rfl ?_;have hw:zfg h k (zbz h k)[i] j h.evs[j]=none:=yd5 (by
        try (have q:=hc72;rw [zhd hs] at q)
        simp_all [zk4])
       refine rn ?_;first|exact ⟨hj,sv,by rw [yad hj hw,←List.append_assoc,List.map_append (l₁:=((itO h k++((zbz h k).take i).flatMap (itF h k))++zec (zfg h k (zbz h k)[i]) h.evs j))];exact eA⟩|exact ⟨hj,s,by rw [yae hj hw];exact eA⟩
     ·refine rn ?_;refine zdo rfl ?_;have hw:zfg h k (zbz h k)[i] j h.evs[j]=none:=yd5 (by
       try (have q:=hc72;rw [zhd hs] at q)
       simp_all [zk4])
      refine rn ?_;first|exact ⟨hj,sv,by rw [yad hj hw,←List.append_assoc,List.map_append (l₁:=((itO h k++((zbz h k).take i).flatMap (itF h k))++zec (zfg h k (zbz h k)[i]) h.evs j))];exact eA⟩|exact ⟨hj,s,by rw [yae hj hw];exact eA⟩
    ·refine rn ?_;refine zdo rfl ?_;have hw:zfg h k (zbz h k)[i] j h.evs[j]=none:=yd5 (by
      try (have q:=hc72;rw [zhd hs] at q)
      simp_all [zk4])
     refine rn ?_;first|exact ⟨hj,sv,by rw [yad hj hw,←List.append_assoc,List.map_append (l₁:=((itO h k++((zbz h k).take i).flatMap (itF h k))++zec (zfg h k (zbz h k)[i]) h.evs j))];exact eA⟩|exact ⟨hj,s,by rw [yae hj hw];exact eA⟩
   ·have qj:=zaz hc41 lj
    refine rn ?_;exact ⟨hi,s,by rw [ysv hi,←List.append_assoc];rw [qj];exact eA⟩
  ·have qi:=zaz hc26 li
   refine rn ?_;exact ⟨hk,s,by rw [ysi];rw [qi,List.take_length];exact eA⟩
 ·have qk:k=h.os.length:=by have q:=oF hc19;rw [oM] at q;omega
  refine rn ?_;exact j6 rfl (.trans (.perm (zdm [_] [_]) _) (.drop [_] _ _)) ⟨s,by rw [qk,yd7],rfl⟩
theorem ycm (h:Hist) (la:Lim 1000000 h) (hc:v7 h=0):y7 Tryz.prog 56 [.agg (y9 h)] [] (fun r h'=>h'= []∧r=zih (ze0 h)):=(zzl h la hc).ventR (by rintro _ _ ⟨s,rfl,rfl⟩;exact ⟨_,_,zbr,rfl,rfl⟩)
theorem yul {h:Hist} {e:Ev} {a:Nat} {s:Seen} {k:Int} (h1:(zhp h s.o s.v).2=false):zev h e a s k=none:=by
 rw [zu2] at h1
 rw [zev]
 cases hr:rkR h s.o s.v with
 |none=>rfl
 |some r=>rw [hr] at h1;simp at h1
theorem w_o {h:Hist} {x:Int} {v:Ver} (h1:(zhp h x v).2=true):∃r,rkR h x v=some r∧(zhp h x v).1=r:=by
 rw [zu2] at h1
 cases hr:rkR h x v with
 |none=>rw [hr] at h1;simp at h1
 |some r=>exact ⟨r,rfl,by rw [zu2,hr];rfl⟩
theorem yuk {h:Hist} {e:Ev} {a:Nat} {s:Seen} {k:Int} (h1:(zhp h s.o s.v).2=true) (h2:decide (k≤(zhp h s.o s.v).1)=false):zev h e a s k=none:=by
 obtain ⟨r,hr,e1⟩:=w_o h1
 rw [e1] at h2
 rw [zev,hr];simp only;rw [if_neg (oF h2)]
theorem yuj {h:Hist} {e:Ev} {a:Nat} {s:Seen} {k:Int} (h3:(scT h s k !=e.t)=false):zev h e a s k=none:=by
 rw [zev]
 have h3:(((zbz h s.o)[(k - 1).toNat]?).getD 0==e.t)=true:=by
  have:(scT h s k==e.t)=true:=by simpa using h3
  exact this
 cases hr:rkR h s.o s.v with
 |none=>rfl
 |some r=>simp only;rw [if_pos h3];split <;> rfl
theorem w_y {h:Hist} {e:Ev} {a:Nat} {s:Seen} {k:Int} (h1:(zhp h s.o s.v).2=true) (h2:decide (k≤(zhp h s.o s.v).1)=true) (h3:(scT h s k !=e.t)=true):zev h e a s k=some (wrC h e a 2 (scT h s k) s.o e.p):=by
 obtain ⟨r,hr,e1⟩:=w_o h1
 rw [e1] at h2
 have h3:¬(((zbz h s.o)[(k - 1).toNat]?).getD 0==e.t)=true:=by
  have:¬(scT h s k==e.t)=true:=by simpa using h3
  exact this
 rw [zev,hr];simp only;rw [if_pos (oT h2),if_neg h3];rfl
def wsP (h:Hist) (e:Ev) (a i:Nat):List Conf:=((j9 h e a).take i).flatMap fun s=>(zjx h e.p s.o).filterMap (zev h e a s)
theorem yub {h:Hist} {e:Ev} {a i:Nat} (hi:i < (j9 h e a).length):wsP h e a (i+1)=wsP h e a i++(zjx h e.p (j9 h e a)[i].o).filterMap (zev h e a (j9 h e a)[i]):=ysv hi
theorem yax {h:Hist} {e:Ev} {a:Nat} (h4:e.kind=4):wsP h e a (j9 h e a).length=zeu h e a:=by rw [wsP,List.take_length,zeu,if_pos (by simpa using h4)]
theorem yaw {h:Hist} (hc:v7 h=0) (e:Ev) (a i:Nat):(wsP h e a i).length≤9000000:=by
 have lO:=(zb9 hc).os
 have h1:=zgm (fun s=>(zjx h e.p s.o).filterMap (zev h e a s)) 3000 ((j9 h e a).take i) fun s hs=>by
  obtain ⟨⟨o0,o1⟩,_⟩:=zqy (List.mem_of_mem_take hs)
  exact Nat.le_trans (List.length_filterMap_le _ _) (ye9 hc o0 o1 _)
 have h2:((j9 h e a).take i).length≤3000:=Nat.le_trans (List.length_take_le' _ _) (by rw [zjk];omega)
 rw [wsP];omega
theorem zr2 {h:Hist} (hc:v7 h=0) (e:Ev) (a:Nat):(zeu h e a).length≤9000000:=by
 by_cases h4:e.kind=4
 ·rw [←yax h4];exact yaw hc e a _
 ·rw [zeu,if_neg (by simpa using h4)];exact Nat.zero_le _
theorem zml {h:Hist} (hs:zar h=true) {k:Nat} (hk:k < h.evs.length) (q:(h.evs[k].kind !=4)=true∨decide (atI h.evs[k].t 0 (zgo h) < 0)=true):zaf h (zeu h) (k+1)=zaf h (zeu h) k:=by
 rcases q with q|q
 ·cases hb:zfb h.evs h.evs[k].t 5 with
  |false=>exact zuj hk hb
  |true=>rw [zqq hk hb,zeu,if_neg (by simpa using q),List.append_nil]
 ·rw [ztx hs] at q
  exact zuj hk (by simpa using q)
theorem yp6 {h:Hist} (hs:zar h=true) {k:Nat} (hk:k < h.evs.length) (q4:(h.evs[k].kind !=4)=false) (q:decide (atI h.evs[k].t 0 (zgo h) < 0)=false):h.evs[k].kind=4∧zaf h (zeu h) (k+1)=zaf h (zeu h) k++zeu h h.evs[k] k:=by
 rw [ztx hs] at q
 exact ⟨by simpa using q4,zqq hk (by simpa using q)⟩
theorem zuz (h:Hist) (la:Lim 1000000 h) (hc:v7 h=0):y7 Tryz.prog 57 [.agg (y9 h)] [] (fun r h'=>∃s:SV,h'= [.row s.v 7 41 ((zfe h).map j3)]∧r= .v s.v):=by
 refine z6 Tryz.func57 rfl rfl rfl ?_
 have hs:=za4.1 hc
 have lA:=zb9 hc
 have lE:=lA.evs
 have lO:=lA.os
 have bC:(zgo h).length≤4611686018427387904:=Nat.le_trans (zod hs) (Nat.le_trans lE (by decide))
 refine rn ?_;refine z8 rfl (w8 rfl rfl rfl fun b1=> ?_)
 refine rn ?_;refine qv rfl rfl (y0 rfl rfl (v8 (zsp h la) (Sbs.refl _))) ?_
 refine rn ?_;refine zc7 h.evs.length (fun k s=>⟨[(22,iv k),(3,.v s.v),(1,pZ b1),(4,zaq (zgo h)),(20,zoc h.evs),(21,iv (h.evs.map evR).length)],.row s.v 7 41 ((zaf h (zeu h) k).map j3):: .box b1 28 (y9 h):: [],[]⟩) ⟨none,0,0⟩ (v6 (zac 7 41) es) ?_
 intro k s lk
 refine rn ?_;refine z7 rfl (fun hc23=> ?_) (fun hc23=> ?_)
 ·have hk:=zay hc23
  have rk:=zae (f:=evR) hk
  have hal:=zhu (fun j hj=>zr2 hc h.evs[j] j) k lk
  have hsl:(j9 h h.evs[k] k).length≤3000:=by rw [zjk];exact lO
  refine rn ?_;refine z8 rfl (y5 rfl fun b6=> ?_)
  refine rn ?_;refine w7 (fun hg6_3=> ?_) (fun hg6_3=> ?_)
  ·refine rn ?_;refine zdh rfl ?_;have hw:zaf h (zeu h) (k+1)=(zaf h (zeu h) k):=by
    first
    |exact zml hs hk (.inl hg6_3)
    |exact zml hs hk (.inr hc36)
   refine rn ?_;exact ⟨hk,s,by rw [hw];exact eA⟩
  ·refine rn ?_;refine qv rfl rfl (y0 rfl rfl (v8 (zzp (zgo h) h.evs[k].t bC) (Sbs.refl _))) ?_
   refine rn ?_;refine z7 rfl (fun hc36=> ?_) (fun hc36=> ?_)
   ·have hw:zaf h (zeu h) (k+1)=(zaf h (zeu h) k):=by
     first
     |exact zml hs hk (.inl hg6_3)
     |exact zml hs hk (.inr hc36)
    refine rn ?_;exact ⟨hk,s,by rw [hw];exact eA⟩
   ·obtain ⟨h4,hw⟩:=yp6 hs hk hg6_3 hc36
    refine rn ?_;refine qv rfl rfl (y0 rfl rfl (v8 (yhg h la k hk) (Sbs.refl _))) ?_
    refine rn ?_;refine zc7 (j9 h h.evs[k] k).length (fun i s=>⟨[(41,iv i),(3,.v s.v),(1,pZ b1),(4,zaq (zgo h)),(5,iv k),(6,pZ b6),(20,zoc h.evs),(21,iv (h.evs.map evR).length),(22,iv k),(39,zei (j9 h h.evs[k] k)),(40,iv ((j9 h h.evs[k] k).map zaj).length)],.box b6 60 (evR h.evs[k]):: .row s.v 7 41 (((zaf h (zeu h) k)++wsP h h.evs[k] k i).map j3):: .box b1 28 (y9 h):: [],[]⟩) s (by rw [wsP,List.take_zero,List.flatMap_nil,List.append_nil];exact eA) ?_
    intro i s li
    refine rn ?_;refine z7 rfl (fun hc42=> ?_) (fun hc42=> ?_)
    ·have hi:=zay hc42
     have ri:=zae (f:=zaj) hi
     obtain ⟨⟨o0,o1⟩,_⟩:=zqy (List.getElem_mem hi)
     have hgl:=ye9 hc o0 o1 h.evs[k].p
     have hil:=yi4 hc o0 o1
     have hpl:=yaw hc h.evs[k] k i
     refine rn ?_;refine z8 rfl (y5 rfl fun b8=> ?_)
     refine rn ?_;refine qv rfl rfl (y0 rfl rfl (v8 (ycl h la (j9 h h.evs[k] k)[i].o (j9 h h.evs[k] k)[i].v) (Sbs.refl _))) ?_
     refine rn ?_;refine qv rfl rfl (y0 rfl rfl (y1.pure (R:=fun r=>r=zaq (zjx h h.evs[k].p (j9 h h.evs[k] k)[i].o)) (y1.of_fun (zsq h la h.evs[k].p (j9 h h.evs[k] k)[i].o)))) ?_
     refine rn ?_;refine zc7 (zjx h h.evs[k].p (j9 h h.evs[k] k)[i].o).length (fun j s=>⟨[(61,iv j),(3,.v s.v),(1,pZ b1),(4,zaq (zgo h)),(5,iv k),(6,pZ b6),(8,pZ b8),(9,iv (zhp h (j9 h h.evs[k] k)[i].o (j9 h h.evs[k] k)[i].v).1),(10,bv (zhp h (j9 h h.evs[k] k)[i].o (j9 h h.evs[k] k)[i].v).2),(20,zoc h.evs),(21,iv (h.evs.map evR).length),(22,iv k),(39,zei (j9 h h.evs[k] k)),(40,iv ((j9 h h.evs[k] k).map zaj).length),(41,iv i),(59,zaq (zjx h h.evs[k].p (j9 h h.evs[k] k)[i].o)),(60,iv ((zjx h h.evs[k].p (j9 h h.evs[k] k)[i].o).map zai).length)],.box b8 70 (zaj (j9 h h.evs[k] k)[i]):: .box b6 60 (evR h.evs[k]):: .row s.v 7 41 ((((zaf h (zeu h) k)++wsP h h.evs[k] k i)++((zjx h h.evs[k].p (j9 h h.evs[k] k)[i].o).take j).filterMap (zev h h.evs[k] k (j9 h h.evs[k] k)[i])).map j3):: .box b1 28 (y9 h):: [],[]⟩) s (by rw [List.take_zero,List.filterMap_nil,List.append_nil];exact es) ?_
     intro j s lj
     refine rn ?_;refine z7 rfl (fun hc62=> ?_) (fun hc62=> ?_)
     ·have hj:=zay hc62
      have rj:=zae (f:=zai) hj
      obtain ⟨k0,k1⟩:=zyo (List.getElem_mem hj:(zjx h h.evs[k].p (j9 h h.evs[k] k)[i].o)[j]∈H.chR _ _)
      have hkl:((zjx h h.evs[k].p (j9 h h.evs[k] k)[i].o)[j] - 1).toNat < ((zbz h (j9 h h.evs[k] k)[i].o).map zai).length:=by rw [oM];omega
      have rkk:((zbz h (j9 h h.evs[k] k)[i].o).map zai)[((zjx h h.evs[k].p (j9 h h.evs[k] k)[i].o)[j] - 1).toNat]? =some (zai (scT h (j9 h h.evs[k] k)[i] (zjx h h.evs[k].p (j9 h h.evs[k] k)[i].o)[j])):=by rw [List.getElem?_map,scT,List.getElem?_eq_getElem (by rw [oM] at hkl;exact hkl)];rfl
      have hfl:=Nat.le_trans (List.length_filterMap_le (zev h h.evs[k] k (j9 h h.evs[k] k)[i]) ((zjx h h.evs[k].p (j9 h h.evs[k] k)[i].o).take j)) (List.length_take_le _ _)
      refine rn ?_;refine qv rfl rfl (y0 rfl rfl (v8 (zh4 h la (j9 h h.evs[k] k)[i].o) (Sbs.refl _))) ?_
      refine q1 ?_;refine qq rfl rfl (zc1 rfl rfl rfl (by omega)) ?_
      refine qq rfl rfl (zau rfl rfl (by omega) rkk) ?_
      refine rn ?_;refine w7 (fun hg15_1=> ?_) (fun hg15_1=> ?_)
      ·refine rn ?_;refine w7 (fun hg15_6=> ?_) (fun hg15_6=> ?_)
       ·refine rn ?_;refine z7 rfl (fun hc84=> ?_) (fun hc84=> ?_)
        ·have hq:zev h h.evs[k] k (j9 h h.evs[k] k)[i] (zjx h h.evs[k].p (j9 h h.evs[k] k)[i].o)[j]=some (wrC h h.evs[k] k 2 (scT h (j9 h h.evs[k] k)[i] (zjx h h.evs[k].p (j9 h h.evs[k] k)[i].o)[j]) (j9 h h.evs[k] k)[i].o h.evs[k].p):=w_y hg15_1 hg15_6 hc84
         refine rn ?_;refine qv rfl rfl (y0 rfl rfl (v8 (zla h la.evs (scT h (j9 h h.evs[k] k)[i] (zjx h h.evs[k].p (j9 h h.evs[k] k)[i].o)[j]) (j9 h h.evs[k] k)[i].o) (Sbs.refl _))) ?_
         refine rn ?_;refine z8 rfl (y5 rfl fun b14=> ?_)
         first|refine z8 rfl (j5 rfl rfl rfl ?_)|refine z8 rfl (zak rfl rfl rfl rfl (Nat.le_of_ble_eq_true rfl) ?_)
         refine q1 ?_;refine q1 ?_;refine u3 (zag ?_)
         refine y6 ?_;refine q1 ?_;refine q1 ?_;refine q1 ?_;refine q1 ?_;refine q1 ?_;refine q1 ?_;refine q1 ?_;refine q1 ?_;refine q1 ?_;refine q1 ?_;refine qq rfl rfl (j7 (out:=j3 (wrC h h.evs[k] k 2 (scT h (j9 h h.evs[k] k)[i] (zjx h h.evs[k].p (j9 h h.evs[k] k)[i].o)[j]) (j9 h h.evs[k] k)[i].o h.evs[k].p)) rfl (by rfl)) ?_
         refine qv rfl rfl (q6 rfl rfl) ?_
         refine z8 rfl (u7 rfl rfl (by simp only [oM,List.length_append,List.length_cons,List.length_nil];omega) rfl (fun s106=> ?_) (ze9 [(wrC h h.evs[k] k 2 (scT h (j9 h h.evs[k] k)[i] (zjx h h.evs[k].p (j9 h h.evs[k] k)[i].o)[j]) (j9 h h.evs[k] k)[i].o h.evs[k].p)]))
         refine k8 s106 fun sv hsv=> ?_
         subst hsv
         refine rn ?_;first|exact ⟨hj,sv,by rw [ygd hj hq,←List.append_assoc,List.map_append (l₁:=(((zaf h (zeu h) k)++wsP h h.evs[k] k i)++((zjx h h.evs[k].p (j9 h h.evs[k] k)[i].o).take j).filterMap (zev h h.evs[k] k (j9 h h.evs[k] k)[i])))];exact eA⟩|exact ⟨hj,s,by rw [yge hj hq];exact eA⟩
        ·have hq:zev h h.evs[k] k (j9 h h.evs[k] k)[i] (zjx h h.evs[k].p (j9 h h.evs[k] k)[i].o)[j]=none:=by
          first
          |exact yul hg15_1
          |exact yuk hg15_1 hg15_6
          |exact yuj hc84
         refine rn ?_;first|exact ⟨hj,sv,by rw [ygd hj hq,←List.append_assoc,List.map_append (l₁:=(((zaf h (zeu h) k)++wsP h h.evs[k] k i)++((zjx h h.evs[k].p (j9 h h.evs[k] k)[i].o).take j).filterMap (zev h h.evs[k] k (j9 h h.evs[k] k)[i])))];exact eA⟩|exact ⟨hj,s,by rw [yge hj hq];exact eA⟩
       ·refine rn ?_;refine zdo rfl ?_;have hq:zev h h.evs[k] k (j9 h h.evs[k] k)[i] (zjx h h.evs[k].p (j9 h h.evs[k] k)[i].o)[j]=none:=by
         first
         |exact yul hg15_1
         |exact yuk hg15_1 hg15_6
         |exact yuj hc84
        refine rn ?_;first|exact ⟨hj,sv,by rw [ygd hj hq,←List.append_assoc,List.map_append (l₁:=(((zaf h (zeu h) k)++wsP h h.evs[k] k i)++((zjx h h.evs[k].p (j9 h h.evs[k] k)[i].o).take j).filterMap (zev h h.evs[k] k (j9 h h.evs[k] k)[i])))];exact eA⟩|exact ⟨hj,s,by rw [yge hj hq];exact eA⟩
      ·refine rn ?_;refine zdo rfl ?_;have hq:zev h h.evs[k] k (j9 h h.evs[k] k)[i] (zjx h h.evs[k].p (j9 h h.evs[k] k)[i].o)[j]=none:=by
        first
        |exact yul hg15_1
        |exact yuk hg15_1 hg15_6
        |exact yuj hc84
       refine rn ?_;first|exact ⟨hj,sv,by rw [ygd hj hq,←List.append_assoc,List.map_append (l₁:=(((zaf h (zeu h) k)++wsP h h.evs[k] k i)++((zjx h h.evs[k].p (j9 h h.evs[k] k)[i].o).take j).filterMap (zev h h.evs[k] k (j9 h h.evs[k] k)[i])))];exact eA⟩|exact ⟨hj,s,by rw [yge hj hq];exact eA⟩
     ·have qj:=zaz hc62 lj
      refine rn ?_;exact ⟨hi,s,by rw [yub hi,←List.append_assoc];rw [qj,List.take_length];exact eA⟩
    ·have qi:=zaz hc42 li
     refine rn ?_;exact ⟨hk,s,by rw [hw,←yax h4];rw [qi];exact eA⟩
 ·have qk:=zaz hc23 lk
  refine rn ?_;exact j6 rfl (.trans (.perm (zdm [_] [_]) _) (.drop [_] _ _)) ⟨s,by rw [qk];rfl,rfl⟩
theorem zzh (h:Hist) (la:Lim 1000000 h) (hc:v7 h=0):y7 Tryz.prog 57 [.agg (y9 h)] [] (fun r h'=>h'= []∧r=zih (zfe h)):=(zuz h la hc).ventR (by rintro _ _ ⟨s,rfl,rfl⟩;exact ⟨_,_,zbr,rfl,rfl⟩)
def zi1 (c:Conf):List Int:= [c.f,c.t,c.a,c.b,c.o,c.p]
theorem yei (c:Conf) {k:Nat} (hk:k < 6):((zi1 c).map iv)[k]? =some (iv ((zi1 c)[k]'hk)):=by
 rw [List.getElem?_map,List.getElem?_eq_getElem (show k < (zi1 c).length from hk)];rfl
theorem ywv (a b:Conf) {k:Nat} (hk:k < 6):zjt ((zi1 a).drop k) ((zi1 b).drop k)=if zmg ((zi1 a)[k]'hk) ((zi1 b)[k]'hk)=0 then zjt ((zi1 a).drop (k+1)) ((zi1 b).drop (k+1)) else zmg ((zi1 a)[k]'hk) ((zi1 b)[k]'hk):=by
 rw [List.drop_eq_getElem_cons (l:=zi1 a) (show k < (zi1 a).length from hk),List.drop_eq_getElem_cons (l:=zi1 b) (show k < (zi1 b).length from hk),ztz];rfl
theorem ylo {a b:Int}:zmg a b=0 ↔ a=b:=by
 rw [zmg];constructor
 ·intro h;split at h
  ·cases h
  ·split at h
   ·cases h
   ·omega
 ·rintro rfl;rw [if_neg (by omega),if_neg (by omega)]
theorem yju {a b:Int}:zmg a b < 0 ↔ a < b:=by
 rw [zmg];constructor
 ·intro h;split at h
  ·assumption
  ·split at h <;> omega
 ·intro h;rw [if_pos h];decide
theorem ywc {a b:Conf} {k:Nat} (hk:k < 6) (h:((zi1 a)[k]'hk !=(zi1 b)[k]'hk)=false):zjt ((zi1 a).drop k) ((zi1 b).drop k)=zjt ((zi1 a).drop (k+1)) ((zi1 b).drop (k+1)):=by
 rw [ywv a b hk,if_pos (ylo.2 (by simpa using h))]
theorem yps {a b:Conf} {k:Nat} (hk:k < 6) (h:((zi1 a)[k]'hk !=(zi1 b)[k]'hk)=true):decide (zjt ((zi1 a).drop k) ((zi1 b).drop k) < 0)=decide ((zi1 a)[k]'hk < (zi1 b)[k]'hk):=by
 rw [ywv a b hk,if_neg (fun q=>by rw [ylo] at q;simp [q] at h)]
 exact decide_eq_decide.2 yju
theorem zyz {l:List Conf} {q:Conf→Bool} {j:Nat} (hj:j < l.length):(l.take (j+1)).any q=((l.take j).any q||q l[j]):=by
 rw [List.take_succ_eq_append_getElem hj,List.any_append];simp
def bqW (c d:Conf):Bool:=d.f==c.f && (d.t==c.t && zb1 d c)
theorem yxu {l:List Conf} {c:Conf} {j:Nat} (hj:j < l.length) (h:bqW c l[j]=true):(!((l.take (j+1)).any (bqW c)))=false:=by rw [zyz hj,h,Bool.or_true];rfl
theorem yv8 {l:List Conf} {c:Conf} {j:Nat} (hj:j < l.length) (h:bqW c l[j]=false):((l.take (j+1)).any (bqW c))=(l.take j).any (bqW c):=by rw [zyz hj,h,Bool.or_false]
theorem yxn {B A q:Bool} (h:(B && !A)=true):(B && !(A||q))= !q:=by cases B <;> cases A <;> simp_all
theorem yxo {B A q:Bool} (h:(B && !A)=false):(B && !(A||q))=false:=by cases B <;> cases A <;> simp_all
def leP (l:List Conf) (k:Nat):List Conf:=(l.take k).foldl (zf0 l) []
theorem yit {l:List Conf} {k:Nat} (hk:k < l.length):leP l (k+1)=zf0 l (leP l k) l[k]:=by
 rw [leP,List.take_succ_eq_append_getElem hk,List.foldl_append];rfl
theorem yol (l:List Conf):leP l l.length=zia l:=by rw [leP,List.take_length];rfl
theorem yi2 (out:List Conf) (c:Conf):(ygb out c).length=out.length+1:=by
 have h:=congrArg List.length (List.takeWhile_append_dropWhile (p:=(zb1 · c)) (l:=out))
 rw [List.length_append] at h
 rw [ygb,List.length_append,List.length_cons];omega
theorem yok (l out:List Conf) (c:Conf):(zf0 l out c).length≤out.length+1:=by
 rw [zf0];split
 ·omega
 ·split
  ·omega
  ·rw [yi2];exact Nat.le_refl _
theorem ydw (l:List Conf):∀k:Nat,k≤l.length→(leP l k).length≤k
 |0,_=>by simp [leP]
 |k+1,hk=>by
  have h1:=ydw l k (by omega)
  have h2:=yok l (leP l k) (l[k]'(by omega))
  rw [yit (by omega)];omega
theorem ysd {l out:List Conf} {c:Conf} {b:Bool} (hb:b=(!(l.any (bqW c)) && !(out.any (ze4 · c)))) (h:(!b)=true):zf0 l out c=out:=by
 rw [zf0];split
 ·rfl
 ·rename_i q
  have q:l.any (bqW c)=false:=by simpa [bqW] using q
  rw [if_pos]
  rw [hb,q] at h
  have h:out.any (ze4 · c)=true:=by simpa using h
  rw [List.any_eq_true] at h
  obtain ⟨d,hd,e⟩:=h
  have:=ytc e
  subst this
  exact List.contains_iff_mem.2 hd
theorem yoj {l out:List Conf} {c:Conf} {b:Bool} (hb:b=(!(l.any (bqW c)) && !(out.any (ze4 · c)))) (h:(!b)=false):zf0 l out c=ygb out c:=by
 have h:b=true:=by simpa using h
 rw [h] at hb
 have hb:=hb.symm
 rw [Bool.and_eq_true] at hb
 obtain ⟨h1,h2⟩:=hb
 have h1:¬l.any (bqW c)=true:=by simpa using h1
 have h2:¬out.contains c=true:=fun q=>by
  have:out.any (ze4 · c)=true:=List.any_eq_true.2 ⟨c,List.contains_iff_mem.1 q,by rw [zkt];exact decide_eq_true rfl⟩
  rw [this] at h2;cases h2
 rw [zf0,if_neg (by simpa [bqW] using h1),if_neg h2]
theorem yqe {α:Type} {p:α→Bool}:∀{l:List α} {k:Nat},(l.take k).all p=true→(∀hk:k < l.length,p l[k]=false)→l.takeWhile p=l.take k∧l.dropWhile p=l.drop k
 | [],k,_,_=>by simp
 |a::l,0,_,h=>by
  have:=h (by simp)
  simp only [List.getElem_cons_zero] at this
  rw [List.takeWhile_cons,List.dropWhile_cons,this];exact ⟨rfl,rfl⟩
 |a::l,k+1,h1,h2=>by
  rw [List.take_succ_cons,List.all_cons,Bool.and_eq_true] at h1
  obtain ⟨e1,e2⟩:=yqe (l:=l) (k:=k) h1.2 (fun hk=>h2 (by simpa using hk))
  rw [List.takeWhile_cons,List.dropWhile_cons,h1.1,if_pos rfl,if_pos rfl,e1,e2];exact ⟨rfl,rfl⟩
theorem ylf {out:List Conf} {c:Conf} {k:Nat} (h1:(out.take k).all (zb1 · c)=true) (h2:∀hk:k < out.length,zb1 out[k] c=false):ygb out c=out.take k++([c]++out.drop k):=by
 obtain ⟨e1,e2⟩:=yqe h1 h2
 rw [ygb,e1,e2];rfl
theorem ywa {out:List Conf} {c:Conf} {k:Nat} (hk:k < out.length) (h1:(out.take k).all (zb1 · c)=true) (h2:zb1 out[k] c=true):(out.take (k+1)).all (zb1 · c)=true:=by
 rw [List.take_succ_eq_append_getElem hk,List.all_append,h1];simp [h2]
theorem zxp (a b:Conf):y7 Tryz.prog 116 [.agg (j3 a),.agg (j3 b)] [] (fun r h'=>h'= []∧r=bv (zb1 a b)):=by
 refine z6 Tryz.func116 rfl rfl rfl ?_
 refine rn ?_;refine z8 rfl (w8 rfl rfl rfl fun b2=> ?_)
 refine z8 rfl (w8 rfl rfl rfl fun b3=> ?_)
 refine q1 ?_;refine u3 (zag ?_)
 refine w9 (y6 ?_)
 refine q1 ?_;refine q1 ?_;refine q1 ?_;refine q1 ?_;refine q1 ?_;refine q1 ?_;refine q1 ?_;refine q1 ?_;refine q1 ?_;refine q1 ?_;refine q1 ?_;refine q1 ?_;refine qq rfl rfl (zbt (out:=(zi1 a).map iv) rfl (by rfl)) ?_
 refine z8 rfl (y5 rfl fun b5=> ?_)
 first|refine z8 rfl (j5 rfl rfl rfl ?_)|refine z8 rfl (zak rfl rfl rfl rfl (Nat.le_of_ble_eq_true rfl) ?_)
 refine u3 (zag ?_)
 refine w9 (y6 ?_)
 refine q1 ?_;refine q1 ?_;refine q1 ?_;refine q1 ?_;refine q1 ?_;refine q1 ?_;refine q1 ?_;refine q1 ?_;refine q1 ?_;refine q1 ?_;refine q1 ?_;refine q1 ?_;refine qq rfl rfl (zbt (out:=(zi1 b).map iv) rfl (by rfl)) ?_
 refine z8 rfl (y5 rfl fun b6=> ?_)
 refine rn ?_;refine zbn 6 (fun k=>zo8 a b=zjt ((zi1 a).drop k) ((zi1 b).drop k)) (fun k=>⟨[(34,iv k),(5,pZ b5),(6,pZ b6)],.box b6 206 ((zi1 b).map iv):: .box b5 206 ((zi1 a).map iv):: .box b3 41 (j3 b):: .box b2 41 (j3 a):: [],[]⟩) rfl es ?_
 intro k lk zk
 refine rn ?_;refine z7 rfl (fun hc35=> ?_) (fun hc35=> ?_)
 ·have hk:k < 6:=by have q:=oT hc35;omega
  have ra:=yei a hk
  have rb:=yei b hk
  refine rn ?_;refine u4 6 rfl ?_
  refine dq rfl rfl qrA ?_;refine dq rfl rfl (zaa rfl rfl hk) ?_
  refine dq rfl rfl (zad rfl (by rw [Nat.zero_add,Nat.mul_one];exact ra)) ?_
  refine dq rfl rfl qrA ?_;refine dq rfl rfl (zaa rfl rfl hk) ?_
  refine dq rfl rfl (zad rfl (by rw [Nat.zero_add,Nat.mul_one];exact rb)) ?_
  refine rn ?_;refine z7 rfl (fun hc43=> ?_) (fun hc43=> ?_)
  ·refine rn ?_;refine u4 6 rfl ?_
   refine dq rfl rfl qrA ?_;refine dq rfl rfl (zaa rfl rfl hk) ?_
   refine dq rfl rfl (zad rfl (by rw [Nat.zero_add,Nat.mul_one];exact ra)) ?_
   refine dq rfl rfl qrA ?_;refine dq rfl rfl (zaa rfl rfl hk) ?_
   refine dq rfl rfl (zad rfl (by rw [Nat.zero_add,Nat.mul_one];exact rb)) ?_
   refine rn ?_;refine rq 4 ?_
   exact ⟨rfl,congrArg bv (by rw [zb1,zk];exact (yps hk hc43).symm)⟩
  ·refine rn ?_;exact ⟨hk,by rw [zk,ywc hk hc43],eA⟩
 ·have qk:k=6:=by have q:=oF hc35;omega
  refine rn ?_;refine rq 4 ?_
  exact ⟨rfl,congrArg bv (by rw [zb1,zk,qk];rfl)⟩
theorem zu1 {f:Bool} (l:List Conf) (hl:l.length≤100000000000):y7 Tryz.prog 55 [.list f 7 (l.map j3)] [] (fun r h'=>∃s:SV,h'= [.row s.v 7 41 ((zia l).map j3)]∧r= .v s.v):=by
 refine z6 Tryz.func55 rfl rfl rfl ?_
 refine rn ?_;refine zc7 l.length (fun k s=>⟨[(14,iv k),(3,.v s.v),(0,.list f 7 (l.map j3)),(12,.list f 7 (l.map j3)),(13,iv (l.map j3).length)],.row s.v 7 41 ((leP l k).map j3):: [],[]⟩) ⟨none,0,0⟩ (v6 (zac 7 41) es) ?_
 intro k s lk
 refine rn ?_;refine z7 rfl (fun hc15=> ?_) (fun hc15=> ?_)
 ·have hk:=zay hc15
  have rk:=zae (f:=j3) hk
  have hol:=ydw l k lk
  refine rn ?_;refine z8 rfl (y5 rfl fun b5=> ?_)
  refine rn ?_;refine zbn l.length (fun _=>True) (fun j=>⟨[(20,iv j),(6,bv (!((l.take j).any (bqW l[k])))),(0,.list f 7 (l.map j3)),(3,.v s.v),(5,pZ b5),(12,.list f 7 (l.map j3)),(13,iv (l.map j3).length),(14,iv k),(18,.list f 7 (l.map j3)),(19,iv (l.map j3).length)],.box b5 41 (j3 l[k]):: .row s.v 7 41 ((leP l k).map j3):: [],[]⟩) trivial es ?_
  intro j lj _
  refine rn ?_;refine z7 rfl (fun hc21=> ?_) (fun hc21=> ?_)
  ·have hj:=zay hc21
   have rj:=zae (f:=j3) hj
   refine rn ?_;refine z8 rfl (y5 rfl fun b8=> ?_)
   refine rn ?_;refine w7 (fun hg9_5=> ?_) (fun hg9_5=> ?_)
   ·refine rn ?_;refine w7 (fun hg9_12=> ?_) (fun hg9_12=> ?_)
    ·refine rn ?_;refine qv rfl rfl (y0 rfl rfl (v8 (zxp l[j] l[k]) (Sbs.refl _))) ?_
     refine rn ?_;refine z7 rfl (fun hc40=> ?_) (fun hc40=> ?_)
     ·have hq:bqW l[k] l[j]=true:=by rw [bqW];simp_all
      refine rn ?_;exact ⟨hj,trivial,by rw [yxu hj hq];exact eA⟩
     ·have hq:bqW l[k] l[j]=false:=by rw [bqW];simp_all
      refine rn ?_;exact ⟨hj,trivial,by rw [yv8 hj hq];exact eA⟩
    ·refine rn ?_;refine zdo rfl ?_;have hq:bqW l[k] l[j]=false:=by rw [bqW];simp_all
     refine rn ?_;exact ⟨hj,trivial,by rw [yv8 hj hq];exact eA⟩
   ·refine rn ?_;refine zdo rfl ?_;have hq:bqW l[k] l[j]=false:=by rw [bqW];simp_all
    refine rn ?_;exact ⟨hj,trivial,by rw [yv8 hj hq];exact eA⟩
  ·have qj:=zaz hc21 lj
   subst qj
   refine rn ?_;refine zbn (leP l k).length (fun _=>True) (fun i=>⟨[(44,iv i),(6,bv ((!((l.take l.length).any (bqW l[k]))) && !(((leP l k).take i).any (ze4 · l[k])))),(0,.list f 7 (l.map j3)),(3,.v s.v),(5,pZ b5),(12,.list f 7 (l.map j3)),(13,iv (l.map j3).length),(14,iv k),(42,.v s.v),(43,iv ((leP l k).map j3).length)],.box b5 41 (j3 l[k]):: .row s.v 7 41 ((leP l k).map j3):: [],[]⟩) trivial (by rw [List.take_zero,List.any_nil,Bool.not_false,Bool.and_true];exact es) ?_
   intro i li _
   refine rn ?_;refine z7 rfl (fun hc45=> ?_) (fun hc45=> ?_)
   ·have hi:i < (leP l k).length:=by have q:=oT hc45;rw [oM] at q;omega
    have ri:((leP l k).map j3)[i]? =some (j3 (leP l k)[i]):=zae hi
    refine za8 ?_;refine zag ?_;refine w9 ?_;refine zcn ?_;refine w9 (y6 ?_)
    refine qq rfl rfl (zfy (k:=i) rfl rfl (by rw [oM];exact hi)) ?_
    refine qq rfl rfl (zer (row:=j3 (leP l k)[i]) rfl ri rfl) ?_
    refine z8 rfl (y5 rfl fun b10=> ?_)
    refine rn ?_;refine w7 (fun hg15_1=> ?_) (fun hg15_1=> ?_)
    ·refine rn ?_;exact ⟨hi,trivial,by rw [zyz hi,yxn hg15_1];exact eA⟩
    ·refine rn ?_;exact ⟨hi,trivial,by rw [zyz hi,yxo hg15_1];exact eA⟩
   ·have qi:i=(leP l k).length:=by have q:=oF hc45;rw [oM] at q;omega
    refine rn ?_;refine z7 rfl (fun hc56=> ?_) (fun hc56=> ?_)
    ·have hw:=ysd (l:=l) (out:=(leP l k)) (c:=l[k]) (b:=((!((l.take l.length).any (bqW l[k]))) && !(((leP l k).take i).any (ze4 · l[k])))) (by rw [List.take_length,qi,List.take_length]) hc56
     refine rn ?_;exact ⟨hk,s,by rw [yit hk,hw];exact eA⟩
    ·have hw:=yoj (l:=l) (out:=(leP l k)) (c:=l[k]) (b:=((!((l.take l.length).any (bqW l[k]))) && !(((leP l k).take i).any (ze4 · l[k])))) (by rw [List.take_length,qi,List.take_length]) hc56
     refine rn ?_;refine zkw (fun a:Nat=>a≤(leP l k).length∧((leP l k).take a).all (zb1 · l[k])=true) (fun a=>⟨[(11,iv a),(3,.v s.v),(5,pZ b5),(0,.list f 7 (l.map j3)),(12,.list f 7 (l.map j3)),(13,iv (l.map j3).length),(14,iv k)],.box b5 41 (j3 l[k]):: .row s.v 7 41 ((leP l k).map j3):: [],[]⟩) (fun a=>(leP l k).length - a) 0 ⟨Nat.zero_le _,by simp⟩ es ?_
     rintro a ⟨la,za⟩
     refine rn ?_;refine u4 10 rfl ?_
     refine rn ?_;refine zcv (fun hg19_4=> ?_) (fun hg19_4=> ?_)
     ·first|(have ha:a < (leP l k).length:=by have q:=hg19_4;simp at q;omega);have rra:((leP l k).map j3)[a]? =some (j3 (leP l k)[a]):=zae ha|skip
      refine dq rfl rfl qrA ?_;refine dq rfl rfl qrA ?_;refine dq rfl rfl (zfy (k:=a) rfl rfl (by rw [oM];exact ha)) ?_
      refine dq rfl rfl (zer (row:=j3 (leP l k)[a]) rfl rra rfl) ?_
      refine rn ?_;refine qv rfl rfl (y0 rfl rfl (y1.pure (R:=fun r=>r=bv (zb1 (leP l k)[a] l[k])) (y1.of_fun (zxp (leP l k)[a] l[k])))) ?_
      refine rn ?_;refine z7 rfl (fun hc68=> ?_) (fun hc68=> ?_)
      ·have hah:zb1 (leP l k)[a] l[k]=true:=hc68
       refine rn ?_;exact ⟨a+1,⟨ha,ywa ha za hah⟩,eA,by omega⟩
      ·have hx:∀ha:a < (leP l k).length,zb1 (leP l k)[a] l[k]=false:=by first|(have q:=hg19_4;simp at q;exact fun ha=>by omega)|(intro ha;exact hc68)
       have hins:=ylf za hx
       refine zhi ?_;refine rn0 ?_;refine zf4 9 [4,8] [] (fun he=>he= [.box b5 41 (j3 l[k]),.row s.v 7 41 ((leP l k).map j3)]∨∃s' rows,he= [.row s' 7 41 rows,.box b5 41 (j3 l[k]),.row s.v 7 41 ((leP l k).map j3)]) rfl rfl (.inl rfl) ?_
       refine jq rfl (fun he hC=>by rcases hC with rfl|⟨s2,rows,rfl⟩ <;> exact qrA) ?_
       refine jq rfl (fun he hC=>by rcases hC with rfl|⟨s2,rows,rfl⟩ <;> exact qrA) ?_
       refine jq rfl (fun he hC=>by rcases hC with rfl|⟨s2,rows,rfl⟩ <;> exact (by exact zst (k:=a) rfl rfl (by rw [oM];exact la))) ?_
       refine jq rfl (fun he hC=>by rcases hC with rfl|⟨s2,rows,rfl⟩ <;> exact qrA) ?_
       refine je rfl ?_;refine jq rfl (fun he hC=>by rcases hC with rfl|⟨s2,rows,rfl⟩ <;> exact qrA) ?_
       refine jq rfl (fun he hC=>by rcases hC with rfl|⟨s2,rows,rfl⟩ <;> exact qrA) ?_
       refine jq rfl (fun he hC=>by rcases hC with rfl|⟨s2,rows,rfl⟩ <;> exact (by exact zss (l:=a) rfl rfl (by rw [oM];exact la))) ?_
       refine je rfl ?_;refine yix ?_;refine jce rfl fun u=> ?_
       refine zfn rfl rfl rfl fun s75=>⟨_,_,rfl,.inr ⟨_,_,rfl⟩,?_⟩
       refine jce rfl fun u=> ?_
       refine zi9 (lo:=a) (hi:=((leP l k).map j3).length) (ys:=((leP l k).map j3).drop a) rfl rfl (by rw [oM];exact la) (Nat.le_refl _) (List.take_of_length_le (by rw [List.length_drop];exact Nat.le_refl _)).symm (by simp;omega) rfl (fun s79=>⟨_,_,rfl,.inr ⟨_,_,rfl⟩,?_⟩) (fun r hr=>ze9 (leP l k) r (List.mem_of_mem_drop hr))
       refine jcn ?_;refine ln ?_;refine zqi s.v a (by rw [oM];exact la) ?_
       refine z8 rfl (zi8 rfl rfl (by simp;omega) rfl (fun s80=> ?_) (fun r hr=>(List.mem_append.1 hr).elim (ze9 [l[k]] r) (fun hr=>ze9 (leP l k) r (List.mem_of_mem_drop hr))))
       refine k8 s80 fun sv hsv=> ?_
       subst hsv
       refine rn ?_;exact ⟨hk,sv,by rw [yit hk,hw,hins];simp only [List.map_append,List.map_take,List.map_drop];exact v6 (zbm (h1:= [_,_])) es⟩
     ·first|(have ha:a < (leP l k).length:=by have q:=hg19_4;simp at q;omega);have rra:((leP l k).map j3)[a]? =some (j3 (leP l k)[a]):=zae ha|skip
      refine rn ?_;refine zdo rfl ?_;have hx:∀ha:a < (leP l k).length,zb1 (leP l k)[a] l[k]=false:=by first|(have q:=hg19_4;simp at q;exact fun ha=>by omega)|(intro ha;exact hc68)
      have hins:=ylf za hx
      refine zhi ?_;refine rn0 ?_;refine zf4 9 [4,8] [] (fun he=>he= [.box b5 41 (j3 l[k]),.row s.v 7 41 ((leP l k).map j3)]∨∃s' rows,he= [.row s' 7 41 rows,.box b5 41 (j3 l[k]),.row s.v 7 41 ((leP l k).map j3)]) rfl rfl (.inl rfl) ?_
      refine jq rfl (fun he hC=>by rcases hC with rfl|⟨s2,rows,rfl⟩ <;> exact qrA) ?_
      refine jq rfl (fun he hC=>by rcases hC with rfl|⟨s2,rows,rfl⟩ <;> exact qrA) ?_
      refine jq rfl (fun he hC=>by rcases hC with rfl|⟨s2,rows,rfl⟩ <;> exact (by exact zst (k:=a) rfl rfl (by rw [oM];exact la))) ?_
      refine jq rfl (fun he hC=>by rcases hC with rfl|⟨s2,rows,rfl⟩ <;> exact qrA) ?_
      refine je rfl ?_;refine jq rfl (fun he hC=>by rcases hC with rfl|⟨s2,rows,rfl⟩ <;> exact qrA) ?_
      refine jq rfl (fun he hC=>by rcases hC with rfl|⟨s2,rows,rfl⟩ <;> exact qrA) ?_
      refine jq rfl (fun he hC=>by rcases hC with rfl|⟨s2,rows,rfl⟩ <;> exact (by exact zss (l:=a) rfl rfl (by rw [oM];exact la))) ?_
      refine je rfl ?_;refine yix ?_;refine jce rfl fun u=> ?_
      refine zfn rfl rfl rfl fun s75=>⟨_,_,rfl,.inr ⟨_,_,rfl⟩,?_⟩
      refine jce rfl fun u=> ?_
      refine zi9 (lo:=a) (hi:=((leP l k).map j3).length) (ys:=((leP l k).map j3).drop a) rfl rfl (by rw [oM];exact la) (Nat.le_refl _) (List.take_of_length_le (by rw [List.length_drop];exact Nat.le_refl _)).symm (by simp;omega) rfl (fun s79=>⟨_,_,rfl,.inr ⟨_,_,rfl⟩,?_⟩) (fun r hr=>ze9 (leP l k) r (List.mem_of_mem_drop hr))
      refine jcn ?_;refine ln ?_;refine zqi s.v a (by rw [oM];exact la) ?_
      refine z8 rfl (zi8 rfl rfl (by simp;omega) rfl (fun s80=> ?_) (fun r hr=>(List.mem_append.1 hr).elim (ze9 [l[k]] r) (fun hr=>ze9 (leP l k) r (List.mem_of_mem_drop hr))))
      refine k8 s80 fun sv hsv=> ?_
      subst hsv
      refine rn ?_;exact ⟨hk,sv,by rw [yit hk,hw,hins];simp only [List.map_append,List.map_take,List.map_drop];exact v6 (zbm (h1:= [_,_])) es⟩
 ·have qk:=zaz hc15 lk
  refine rn ?_;exact j6 rfl (.refl _ _) ⟨s,by rw [qk,yol],rfl⟩
theorem zpp {f:Bool} (l:List Conf) (hl:l.length≤100000000000):y7 Tryz.prog 55 [.list f 7 (l.map j3)] [] (fun r h'=>h'= []∧r=zih (zia l)):=(zu1 l hl).ventR (by rintro _ _ ⟨s,rfl,rfl⟩;exact ⟨_,_,zbr,rfl,rfl⟩)
theorem yjp {full:Bool} (l:List ByteArray) (most:Nat) (hm:most≤1000):y7 Tryz.prog 109 [.list full 1 (l.map zdi),iv most] [] (fun r h'=>h'= []∧r=zdd (zov most l)):=by
 refine z6 Tryz.func109 rfl rfl rfl ?_
 refine w9 (y6 ?_)
 refine q1 ?_;refine u3 (zag ?_)
 refine w9 (y6 ?_)
 refine q1 ?_;refine q1 ?_;refine q1 ?_;refine q1 ?_;refine qq rfl rfl (zlb (l.map zdi).length most rfl rfl) ?_
 refine qq rfl rfl (zen (rows':=(l.take most).map zdi) rfl rfl (by omega) (by rw [oM];exact zj5 zdi l most)) ?_
 refine z8 rfl (v2 rfl rfl (y1.rowS (y1.of_fun (zwg _ (by simp;omega) (yny _)))) rfl ?_)
 rintro _ _ ⟨s,rfl,rfl⟩
 refine rn ?_;refine k7 (fun k:Nat=>k≤(l.take most).length) (fun k=>⟨[(17,iv k),(16,iv ((l.take most).map zdi).length),(15,.v s.v),(5,.v s.v)],[.row s.v 1 9 ((((l.take most).take k).map cutS).map zdi++((l.take most).drop k).map zdi)],[]⟩) (fun k=>(l.take most).length - k) 0 (by omega)
  (by simp only [List.take_zero,List.map_nil,List.nil_append,List.drop_zero];exact (v1 (.cons _ _ _ rfl (.cons _ _ _ rfl (.cons _ _ _ rfl (.cons _ _ _ rfl (.nil))))))) ?_
 intro k hk
 refine rn ?_;refine z7 rfl (fun hc18=> ?_) (fun hc18=> ?_)
 ·have hk2:k < (l.take most).length:=by simpa using hc18
  obtain ⟨b,hb⟩:∃b,b=(l.take most)[k]:=⟨_,rfl⟩
  have hd:=List.drop_eq_getElem_cons hk2
  rw [←hb] at hd
  have hL:=List.length_take_le most l
  have hkl:(((l.take most).take k).map cutS).length=k:=by rw [oM,List.length_take];omega
  have hrow:=yn8 (f:=zdi) (g:=zdi) (xs:=((l.take most).take k).map cutS) (k:=k) hkl hd
  have hk3:k < ((((l.take most).take k).map cutS).map zdi++((l.take most).drop k).map zdi).length:=by rw [yn7 hkl hk];exact hk2
  refine za8 ?_;refine zag ?_;refine w9 ?_;refine zcn ?_;refine w9 (y6 ?_)
  refine q1 ?_;refine q1 ?_;refine qq rfl rfl (zi6 rfl hrow rfl) ?_
  refine q1 ?_;refine q1 ?_;refine u3 (zag ?_)
  refine y6 ?_;refine q1 ?_;refine q1 ?_;refine q1 ?_;refine q1 ?_;refine q1 ?_;refine qq rfl rfl (zlb b.size 40 rfl rfl) ?_
  refine qq rfl rfl (zem rfl rfl (by omega)) ?_
  refine rn ?_;refine z8 rfl (zve rfl rfl rfl hrow rfl (Nat.le_of_ble_eq_true rfl) ?_)
  refine rn ?_;have hset:=yn6 (f:=zdi) (g:=zdi) (l:=(l.take most)) (xs:=((l.take most).take k).map cutS) (a:=cutS b) (r:=(zdi b).take 0++ [sv (cutS b)]++(zdi b).drop (0+1)) hkl hd rfl
  have hx:((l.take most).take k).map cutS++ [cutS b]=((l.take most).take (k+1)).map cutS:=by rw [List.take_succ_eq_append_getElem hk2,hb];simp
  rw [hx] at hset
  exact ⟨k+1,by omega,(by rw [←hset];exact (v1 (.cons _ _ _ rfl (.cons _ _ _ rfl (.cons _ _ _ rfl (.cons _ _ _ rfl (.nil))))))),by omega⟩
 ·obtain rfl:k=(l.take most).length:=by
   have:¬k < (l.take most).length:=by simpa using hc18
   omega
  rw [List.take_length,List.drop_length,List.map_nil,List.append_nil]
  refine rn ?_;exact j6 rfl zbr ⟨rfl,rfl⟩
theorem yjj (h:Hist) (la:Lim 4611686018427387904 h):y7 Tryz.prog 52 [.agg (y9 h)] [] (fun r h'=>h'= []∧r= .agg (y9 (zkq h))):=by
 refine z6 Tryz.func52 rfl rfl rfl ?_
 refine rn ?_;refine z8 rfl (w8 rfl rfl rfl fun b1=> ?_)
 refine z8 rfl (y5 rfl fun b2=> ?_)
 refine rn0 ?_;refine zwl (fun _:Nat=>True) (fun b3=>⟨[(1,pZ b1),(2,pZ b2),(3,pZ b3)],[.box b3 28 [zdd (zov 12 h.ts),zdd (zov 8 h.ss),zdd (zov 10 h.os),zdd (zov 6 h.ps),zr0,zr0,zr0,zr0],.box b2 28 zo7,.box b1 28 (y9 h)],[]⟩) ?_ ?_
 ·refine u4 14 rfl ?_
  refine rn ?_;refine dv rfl rfl (by exact y0 rfl rfl (v8 (yjp h.ts 12 (by decide)) (Sbs.refl _))) ?_
  refine rn ?_;refine dv rfl rfl (by exact y0 rfl rfl (v8 (yjp h.ss 8 (by decide)) (Sbs.refl _))) ?_
  refine rn ?_;refine dv rfl rfl (by exact y0 rfl rfl (v8 (yjp h.os 10 (by decide)) (Sbs.refl _))) ?_
  refine rn ?_;refine dv rfl rfl (by exact y0 rfl rfl (v8 (yjp h.ps 6 (by decide)) (Sbs.refl _))) ?_
  refine rn ?_;refine zm2 rfl fun b3=> ?_
  refine rn ?_;exact ⟨b3,trivial,(v1 (.cons _ _ _ rfl (.cons _ _ _ rfl (.cons _ _ _ rfl (.nil)))))⟩
 ·intro b3 _
  refine rn ?_;refine k7 (fun x:Nat×SV=>x.1≤h.evs.length) (fun x=>⟨[(26,iv x.1),(25,iv (h.evs.map evR).length),(24,zoc h.evs),(1,pZ b1),(2,pZ b2),(3,pZ b3)],[.row x.2.v 9 60 (((h.evs.take (min x.1 70)).map ztt).map evR),.box b3 28 [zdd (zov 12 h.ts),zdd (zov 8 h.ss),zdd (zov 10 h.os),zdd (zov 6 h.ps),.v x.2.v,zr0,zr0,zr0],.box b2 28 zo7,.box b1 28 (y9 h)],[]⟩) (fun x=>h.evs.length - x.1) (0,yvg) (by simp)
   (v6 (zac 9 60) (v1 (.cons _ _ _ rfl (.cons _ _ _ rfl (.cons _ _ _ rfl (.cons _ _ _ rfl (.cons _ _ _ rfl (.cons _ _ _ rfl (.nil))))))))) ?_
  rintro ⟨k,s⟩ hk
  simp only at hk
  refine rn ?_;refine z7 rfl (fun hc27=> ?_) (fun hc27=> ?_)
  ·have hk2:k < h.evs.length:=by simpa using hc27
   obtain ⟨e,he⟩:∃e,e=h.evs[k]:=⟨_,rfl⟩
   have hrow:(h.evs.map evR)[k]? =some (evR e):=by rw [he];simp [hk2]
   have hle:=la.evs
   refine rn ?_;refine z8 rfl (y5 rfl fun b5=> ?_)
   refine rn ?_;refine z7 rfl (fun hc32=> ?_) (fun hc32=> ?_)
   ·have hlt:k < 70:=by have:=hc32;simp at this;omega
    refine w9 (y6 ?_)
    refine q1 ?_;refine q1 ?_;refine q1 ?_;refine q1 ?_;refine q1 ?_;refine qq rfl rfl (zlb (e.scan.map zaj).length 12 rfl rfl) ?_
    refine qq rfl rfl (zen (rows':=(e.scan.take 12).map zaj) rfl rfl (by omega) (by rw [oM];exact zj5 zaj e.scan 12)) ?_
    refine qv rfl rfl (y0 rfl rfl (v8 (ye8 ((e.scan.take 12).map zaj) (by simp;omega)) (Sbs.refl _))) ?_
    refine rn ?_;refine qv rfl rfl (q6 rfl rfl) ?_
    refine z8 rfl (u7 rfl rfl (by have:=ybk h.evs k 70;simp at this ⊢;omega) rfl (fun s46=> ?_) (fun r hr=>by simp at hr;subst hr;rfl))
    refine k8 s46 fun sv hsv=> ?_
    subst hsv
    refine rn ?_;have hx:((h.evs.take (min (k+1) 70)).map ztt).map evR=((h.evs.take (min k 70)).map ztt).map evR++ [evR (ztt e)]:=by rw [yml hk2 hlt he];simp
    exact ⟨(k+1,sv),by simp only;omega,(by rw [hx];exact (v6 (zbm (h1:= [_])) (v1 (.cons _ _ _ rfl (.cons _ _ _ rfl (.cons _ _ _ rfl (.cons _ _ _ rfl (.cons _ _ _ rfl (.cons _ _ _ rfl (.nil)))))))))),by simp only;omega⟩
   ·have hlt:¬k < 70:=by have:=hc32;simp at this;omega
    refine rn ?_;exact ⟨(k+1,s),by simp only;omega,(by rw [ymk hlt];exact (v6 (zbm (h1:= [_])) (v1 (.cons _ _ _ rfl (.cons _ _ _ rfl (.cons _ _ _ rfl (.cons _ _ _ rfl (.cons _ _ _ rfl (.cons _ _ _ rfl (.nil)))))))))),by simp only;omega⟩
  ·obtain rfl:k=h.evs.length:=by
    have:¬k < h.evs.length:=by simpa using hc27
    omega
   obtain ⟨sE,hsE⟩:∃sE:SV,sE=s:=⟨_,rfl⟩
   simp only [ybl,←hsE]
   refine rn ?_;refine k7 (fun x:Nat×SV=>x.1≤h.ords.length) (fun x=>⟨[(52,iv x.1),(51,iv (h.ords.map zef).length),(50,zz3 h.ords),(1,pZ b1),(2,pZ b2),(3,pZ b3)],[.row x.2.v 2 87 (((h.ords.take (min x.1 14)).map zwd).map zef),.row sE.v 9 60 (((h.evs.take 70).map ztt).map evR),.box b3 28 [zdd (zov 12 h.ts),zdd (zov 8 h.ss),zdd (zov 10 h.os),zdd (zov 6 h.ps),.v sE.v,.v x.2.v,zr0,zr0],.box b2 28 zo7,.box b1 28 (y9 h)],[]⟩) (fun x=>h.ords.length - x.1) (0,yvg) (by simp)
    (v6 (zac 2 87) (v1 (.cons _ _ _ rfl (.cons _ _ _ rfl (.cons _ _ _ rfl (.cons _ _ _ rfl (.cons _ _ _ rfl (.cons _ _ _ rfl (.nil))))))))) ?_
   rintro ⟨k,s⟩ hk
   simp only at hk
   refine rn ?_;refine z7 rfl (fun hc53=> ?_) (fun hc53=> ?_)
   ·have hk2:k < h.ords.length:=by simpa using hc53
    obtain ⟨e,he⟩:∃e,e=h.ords[k]:=⟨_,rfl⟩
    have hrow:(h.ords.map zef)[k]? =some (zef e):=by rw [he];simp [hk2]
    have hle:=la.ords
    refine rn ?_;refine z8 rfl (y5 rfl fun b7=> ?_)
    refine rn ?_;refine z7 rfl (fun hc58=> ?_) (fun hc58=> ?_)
    ·have hlt:k < 14:=by have:=hc58;simp at this;omega
     refine u4 14 rfl ?_
     refine dq rfl rfl qrA ?_;refine dq rfl rfl qrA ?_;refine dq rfl rfl qrA ?_;refine dq rfl rfl qrA ?_;refine dq rfl rfl qrA ?_;refine dq rfl rfl qrA ?_;refine dq rfl rfl qrA ?_;refine dq rfl rfl qrA ?_;refine dq rfl rfl qrA ?_;refine dq rfl rfl (zlb (e.ts.map zai).length 14 rfl rfl) ?_
     refine dq rfl rfl (zen (rows':=(e.ts.take 14).map zai) rfl rfl (by omega) (by rw [oM];exact zj5 zai e.ts 14)) ?_
     refine dv rfl rfl (by exact y0 rfl rfl (v8 (zyl ((e.ts.take 14).map zai) (by simp;omega)) (Sbs.refl _))) ?_
     refine rn ?_;refine dv rfl rfl (q6 rfl rfl) ?_
     refine rn ?_;refine z8 rfl (u7 rfl rfl (by have:=ybk h.ords k 14;simp at this ⊢;omega) rfl (fun s73=> ?_) (fun r hr=>by simp at hr;subst hr;rfl))
     refine k8 s73 fun sv hsv=> ?_
     subst hsv
     refine rn ?_;have hx:((h.ords.take (min (k+1) 14)).map zwd).map zef=((h.ords.take (min k 14)).map zwd).map zef++ [zef (zwd e)]:=by rw [yml hk2 hlt he];simp
     exact ⟨(k+1,sv),by simp only;omega,(by rw [hx];exact (v6 (zbm (h1:= [_])) (v1 (.cons _ _ _ rfl (.cons _ _ _ rfl (.cons _ _ _ rfl (.cons _ _ _ rfl (.cons _ _ _ rfl (.cons _ _ _ rfl (.nil)))))))))),by simp only;omega⟩
    ·have hlt:¬k < 14:=by have:=hc58;simp at this;omega
     refine rn ?_;exact ⟨(k+1,s),by simp only;omega,(by rw [ymk hlt];exact (v6 (zbm (h1:= [_])) (v1 (.cons _ _ _ rfl (.cons _ _ _ rfl (.cons _ _ _ rfl (.cons _ _ _ rfl (.cons _ _ _ rfl (.cons _ _ _ rfl (.nil)))))))))),by simp only;omega⟩
   ·obtain rfl:k=h.ords.length:=by
     have:¬k < h.ords.length:=by simpa using hc53
     omega
    obtain ⟨sO,hsO⟩:∃sO:SV,sO=s:=⟨_,rfl⟩
    simp only [ybl,←hsO]
    refine rn ?_;refine k7 (fun x:Nat×SV=>x.1≤h.mats.length) (fun x=>⟨[(79,iv x.1),(78,iv (h.mats.map zd8).length),(77,zvm h.mats),(1,pZ b1),(2,pZ b2),(3,pZ b3)],[.row x.2.v 4 109 (((h.mats.take (min x.1 20)).map yaj).map zd8),.row sO.v 2 87 (((h.ords.take 14).map zwd).map zef),.row sE.v 9 60 (((h.evs.take 70).map ztt).map evR),.box b3 28 [zdd (zov 12 h.ts),zdd (zov 8 h.ss),zdd (zov 10 h.os),zdd (zov 6 h.ps),.v sE.v,.v sO.v,.v x.2.v,zr0],.box b2 28 zo7,.box b1 28 (y9 h)],[]⟩) (fun x=>h.mats.length - x.1) (0,yvg) (by simp)
     (v6 (zac 4 109) (v1 (.cons _ _ _ rfl (.cons _ _ _ rfl (.cons _ _ _ rfl (.cons _ _ _ rfl (.cons _ _ _ rfl (.cons _ _ _ rfl (.nil))))))))) ?_
    rintro ⟨k,s⟩ hk
    simp only at hk
    refine rn ?_;refine z7 rfl (fun hc80=> ?_) (fun hc80=> ?_)
    ·have hk2:k < h.mats.length:=by simpa using hc80
     obtain ⟨e,he⟩:∃e,e=h.mats[k]:=⟨_,rfl⟩
     have hrow:(h.mats.map zd8)[k]? =some (zd8 e):=by rw [he];simp [hk2]
     have hle:=la.mats
     refine rn ?_;refine z8 rfl (y5 rfl fun b9=> ?_)
     refine rn ?_;refine z7 rfl (fun hc85=> ?_) (fun hc85=> ?_)
     ·have hlt:k < 20:=by have:=hc85;simp at this;omega
      refine w9 (y6 ?_)
      refine q1 ?_;refine q1 ?_;refine q1 ?_;refine q1 ?_;refine q1 ?_;refine qq rfl rfl (zlb (e.ts.map zai).length 14 rfl rfl) ?_
      refine qq rfl rfl (zen (rows':=(e.ts.take 14).map zai) rfl rfl (by omega) (by rw [oM];exact zj5 zai e.ts 14)) ?_
      refine qv rfl rfl (y0 rfl rfl (v8 (zyl ((e.ts.take 14).map zai) (by simp;omega)) (Sbs.refl _))) ?_
      refine rn ?_;refine qv rfl rfl (q6 rfl rfl) ?_
      refine z8 rfl (u7 rfl rfl (by have:=ybk h.mats k 20;simp at this ⊢;omega) rfl (fun s99=> ?_) (fun r hr=>by simp at hr;subst hr;rfl))
      refine k8 s99 fun sv hsv=> ?_
      subst hsv
      refine rn ?_;have hx:((h.mats.take (min (k+1) 20)).map yaj).map zd8=((h.mats.take (min k 20)).map yaj).map zd8++ [zd8 (yaj e)]:=by rw [yml hk2 hlt he];simp
      exact ⟨(k+1,sv),by simp only;omega,(by rw [hx];exact (v6 (zbm (h1:= [_])) (v1 (.cons _ _ _ rfl (.cons _ _ _ rfl (.cons _ _ _ rfl (.cons _ _ _ rfl (.cons _ _ _ rfl (.cons _ _ _ rfl (.nil)))))))))),by simp only;omega⟩
     ·have hlt:¬k < 20:=by have:=hc85;simp at this;omega
      refine rn ?_;exact ⟨(k+1,s),by simp only;omega,(by rw [ymk hlt];exact (v6 (zbm (h1:= [_])) (v1 (.cons _ _ _ rfl (.cons _ _ _ rfl (.cons _ _ _ rfl (.cons _ _ _ rfl (.cons _ _ _ rfl (.cons _ _ _ rfl (.nil)))))))))),by simp only;omega⟩
    ·obtain rfl:k=h.mats.length:=by
      have:¬k < h.mats.length:=by simpa using hc80
      omega
     obtain ⟨sM,hsM⟩:∃sM:SV,sM=s:=⟨_,rfl⟩
     simp only [ybl,←hsM]
     refine zhi ?_;refine zjj ?_;refine zjj ?_;refine zey ?_;refine zag ?_;refine w9 (y6 ?_)
     refine q1 ?_;refine q1 ?_;refine q1 ?_;refine q1 ?_;refine q1 ?_;refine qq rfl rfl (zlb (h.wants.map zfh).length 12 rfl rfl) ?_
     refine qq rfl rfl (zen (rows':=(h.wants.take 12).map zfh) rfl rfl (by omega) (by rw [oM];exact zj5 zfh h.wants 12)) ?_
     refine qv rfl rfl (y0 rfl rfl (v8 (yjv ((h.wants.take 12).map zfh) (by simp;omega)) (Sbs.refl _))) ?_
     refine rn ?_;exact zej (.cons _ _ _ _ (.agg _ _ _ _ _ _ _ rfl inferInstance inferInstance inferInstance rfl) .nil) (.trans (zbh [_,_,_,_,_,_] _) (.trans (zbh [_,_,_,_,_] _) (.trans (zbh [_,_,_,_] _) (.drop [_,_,_] _ _)))) ⟨rfl,rfl⟩
theorem zqx  :y7 Tryz.prog 108 [] [] (fun r h'=>h'= []∧r= .agg (y9 weH)):=by
 refine z6 Tryz.func108 rfl rfl rfl ?_
 refine rn ?_;refine z8 rfl (y5 rfl fun b0=> ?_)
 refine u3 (zag ?_)
 refine w9 (y6 ?_)
 refine qq rfl rfl (j7 (out:= [iv 0,iv 1]) rfl (by rfl)) ?_
 refine z8 rfl (y5 rfl fun b1=> ?_)
 refine rn ?_;refine qv rfl rfl (q6 rfl rfl) ?_
 refine qv rfl rfl (q6 rfl rfl) ?_
 refine qv rfl rfl (q6 rfl rfl) ?_
 refine qv rfl rfl (q6 rfl rfl) ?_
 refine qq rfl rfl (j7 (out:= [iv 1,iv 0,iv 0,iv 4,iv 0,iv 0,iv 0,iv 0,.v (.slice none 0 0)]) rfl (by rfl)) ?_
 refine q1 ?_;refine qq rfl rfl (j7 (out:= [iv 2,iv 0,iv 0,iv 0,iv 0,iv 0,iv 1,iv 0,.v (.slice none 0 0)]) rfl (by rfl)) ?_
 refine qq rfl rfl (j7 (out:= [iv 5,iv 0,iv 0,iv 0,iv 0,iv 0,iv 0,iv 0,.v (.slice none 0 0)]) rfl (by rfl)) ?_
 refine qq rfl rfl (j7 (out:= [iv 1,iv 1,iv 0,iv 4,iv 0,iv 0,iv 0,iv 0,.v (.slice none 0 0)]) rfl (by rfl)) ?_
 refine q1 ?_;refine qq rfl rfl (j7 (out:= [iv 3,iv 1,iv 0,iv 0,iv 0,iv 0,iv 1,iv 0,.v (.slice none 0 0)]) rfl (by rfl)) ?_
 refine q1 ?_;refine qq rfl rfl (j7 (out:= [iv 0,iv 0,iv 1]) rfl (by rfl)) ?_
 refine qv rfl rfl (q6 rfl rfl) ?_
 refine qq rfl rfl (j7 (out:= [iv 4,iv 1,iv 0,iv 0,iv 0,iv 0,iv 0,iv 0,.list true 3 [[iv 0,iv 0,iv 1]]]) rfl (by rfl)) ?_
 refine qq rfl rfl (j7 (out:= [iv 5,iv 1,iv 0,iv 0,iv 0,iv 0,iv 0,iv 0,.v (.slice none 0 0)]) rfl (by rfl)) ?_
 refine qv rfl rfl (q6 rfl rfl) ?_
 refine qv rfl rfl (q6 rfl rfl) ?_
 refine qq rfl rfl (j7 (out:= [iv 0,iv 0,bv false,.list true 1 [[iv 0]]]) rfl (by rfl)) ?_
 refine qv rfl rfl (q6 rfl rfl) ?_
 refine rn ?_;exact zej (.cons _ _ _ _ (.agg _ _ _ _ _ _ _ rfl inferInstance inferInstance inferInstance rfl) .nil) (.trans (.drop [_,_] _ _) (.le (Sb.aggs (bs:=y9 weH) (by exact ⟨.unfull,.unfull,.unfull,.unfull,(.lists (by simp) ⟨⟨.refl _,.refl _,.refl _,.refl _,.refl _,.refl _,.refl _,.refl _,.nil _ _,trivial⟩,⟨.refl _,.refl _,.refl _,.refl _,.refl _,.refl _,.refl _,.refl _,.nil _ _,trivial⟩,⟨.refl _,.refl _,.refl _,.refl _,.refl _,.refl _,.refl _,.refl _,.nil _ _,trivial⟩,⟨.refl _,.refl _,.refl _,.refl _,.refl _,.refl _,.refl _,.refl _,.nil _ _,trivial⟩,⟨.refl _,.refl _,.refl _,.refl _,.refl _,.refl _,.refl _,.refl _,.nil _ _,trivial⟩,⟨.refl _,.refl _,.refl _,.refl _,.refl _,.refl _,.refl _,.refl _,.unfull,trivial⟩,⟨.refl _,.refl _,.refl _,.refl _,.refl _,.refl _,.refl _,.refl _,.nil _ _,trivial⟩,trivial⟩),.nil _ _,(.lists (by simp) ⟨⟨.refl _,.refl _,.refl _,.unfull,trivial⟩,trivial⟩),.nil _ _,trivial⟩)).le)) ⟨rfl,rfl⟩
theorem yt7:Lim 4611686018427387904 weH:=⟨by decide,by decide,by decide,by decide,by decide,by decide,by decide,by decide,by decide,by decide,by decide⟩
abbrev ywj:Conf:=⟨0,1,1,1,4,0,0⟩
abbrev yqa:Conf:=⟨0,1,2,1,5,0,0⟩
abbrev ytz:Conf:=⟨0,1,1,1,6,0,0⟩
theorem we_j1:wrJ weH yqa=true:=by rw [wrJ,decide_eq_true zj3,decide_eq_true yui,Bool.or_true];rfl
theorem we_j2:wrJ weH ytz=false:=by rw [wrJ,decide_eq_false ykd.1,decide_eq_false ykd.2];simp
theorem yw1:y7 Tryz.prog 53 [.agg (y9 weH)] (.glob 2 156 y3:: .glob 4 305 y4:: .glob 5 308 y2:: .glob 3 246 q7:: []) (fun r h'=>h'= .glob 2 156 y3:: .glob 4 305 y4:: .glob 5 308 y2:: .glob 3 246 q7:: []∧r= .tup [zih [ywj],iv 0]):=(ya2 weH yt7).mono fun _ _ q=>⟨q.1,by rw [q.2,zwx zj3,ygs,zj3]⟩
theorem yw0:y7 Tryz.prog 54 [.agg (y9 weH)] (.glob 2 156 y3:: .glob 4 305 y4:: .glob 5 308 y2:: .glob 3 246 q7:: []) (fun r h'=>h'= .glob 2 156 y3:: .glob 4 305 y4:: .glob 5 308 y2:: .glob 3 246 q7:: []∧r= .tup [zih [yqa],iv 0]):=(zwp weH yt7).mono fun _ _ q=>⟨q.1,by rw [q.2,zwr zj3,ygr,zj3]⟩
theorem ywz:y7 Tryz.prog 59 [.agg (y9 weH),.agg (j3 yqa)] (.glob 2 156 y3:: .glob 4 305 y4:: .glob 5 308 y2:: .glob 3 246 q7:: []) (fun r h'=>h'= .glob 2 156 y3:: .glob 4 305 y4:: .glob 5 308 y2:: .glob 3 246 q7:: []∧r=bv true):=(yka weH yt7 yqa).mono fun _ _ q=>⟨q.1,by rw [q.2,we_j1]⟩
theorem ywy:y7 Tryz.prog 59 [.agg (y9 weH),.agg (j3 ytz)] (.glob 2 156 y3:: .glob 4 305 y4:: .glob 5 308 y2:: .glob 3 246 q7:: []) (fun r h'=>h'= .glob 2 156 y3:: .glob 4 305 y4:: .glob 5 308 y2:: .glob 3 246 q7:: []∧r=bv false):=(yka weH yt7 ytz).mono fun _ _ q=>⟨q.1,by rw [q.2,we_j2]⟩
theorem ywk {f g:Bool} (c:Conf):y7 Tryz.prog 19 [.list f 7 [j3 c],.list g 7 [j3 c]] [] (fun r h'=>h'= []∧r=bv true):=yet [c] (by show 1≤_;decide)
theorem yme  :y7 Tryz.prog 51 [] (.glob 2 156 y3:: .glob 4 305 y4:: .glob 5 308 y2:: .glob 3 246 q7:: []) (fun r h'=>h'= .glob 2 156 y3:: .glob 4 305 y4:: .glob 5 308 y2:: .glob 3 246 q7:: []∧r=bv true):=by
 refine z6 Tryz.func51 rfl rfl rfl ?_
 refine rn ?_;refine qv rfl rfl (y0 rfl rfl (y1.pure (R:=fun r=>r= .agg (y9 weH)) (y1.of_fun zqx))) ?_
 refine qv rfl rfl (y0 rfl rfl (y1.of_fun yw1)) ?_
 refine rn ?_;refine qv rfl rfl (y0 rfl rfl (y1.pure (R:=fun r=>r= .agg (y9 weH)) (y1.of_fun zqx))) ?_
 refine qv rfl rfl (y0 rfl rfl (y1.of_fun yw0)) ?_
 refine q1 ?_;refine q1 ?_;refine q1 ?_;refine q1 ?_;refine q1 ?_;refine u3 (zag ?_)
 refine w9 (y6 ?_)
 refine qq rfl rfl (j7 (out:=j3 ywj) rfl (by rfl)) ?_
 refine z8 rfl (y5 rfl fun b5=> ?_)
 first|refine z8 rfl (j5 rfl rfl rfl ?_)|refine z8 rfl (zak rfl rfl rfl rfl (Nat.le_of_ble_eq_true rfl) ?_)
 refine u3 (zag ?_)
 refine w9 (y6 ?_)
 refine qq rfl rfl (j7 (out:=j3 yqa) rfl (by rfl)) ?_
 refine z8 rfl (y5 rfl fun b6=> ?_)
 refine rn ?_;refine u4 26 rfl ?_
 refine rn ?_;refine dv rfl rfl (q6 rfl rfl) ?_
 refine dv rfl rfl (by exact y0 rfl rfl (y1.pure (R:=fun r=>r=bv true) (y1.of_fun (ywk _)))) ?_
 refine rn ?_;refine dv rfl rfl (q6 rfl rfl) ?_
 refine dv rfl rfl (by exact y0 rfl rfl (y1.pure (R:=fun r=>r=bv true) (y1.of_fun (ywk _)))) ?_
 refine rn ?_;refine dv rfl rfl (by exact y0 rfl rfl (y1.pure (R:=fun r=>r= .agg (y9 weH)) (y1.of_fun zqx))) ?_
 refine rn ?_;refine dv rfl rfl (by exact y0 rfl rfl (y1.qt (y1.of_fun ywz) ((pt2 _ _ _ _).trans (.cons _ ((pt2 _ _ _ _).trans (.cons _ ((pt2 _ _ _ _).trans (.cons _ (pt2 _ _ _ _))))))))) ?_
 refine rn ?_;refine dv rfl rfl (by exact y0 rfl rfl (y1.pure (R:=fun r=>r= .agg (y9 weH)) (y1.of_fun zqx))) ?_
 refine dq rfl rfl (j7 (out:=j3 ytz) rfl (by rfl)) ?_
 refine rn ?_;refine qv rfl rfl (y0 rfl rfl (y1.qt (y1.of_fun ywy) ((pt2 _ _ _ _).trans (.cons _ ((pt2 _ _ _ _).trans (.cons _ ((pt2 _ _ _ _).trans (.cons _ (pt2 _ _ _ _))))))))) ?_
 refine rn ?_;refine rq 2 ?_
 exact ⟨rfl,rfl⟩
end Go.Proofs
