/- The abstract logic: slices.SortFunc over a row of one's own whose elements are k plain cells, as a contract (the kit's shelf has walked it). .. -/
import Derived.Test.YtfmcbdjnmlcacaaGreatDoorWEvI
import Derived.Shelf.SlSortCmp.NoneTotal
set_option maxHeartbeats 4000000
set_option linter.unusedSectionVars false
set_option linter.unusedSimpArgs false
set_option linter.unusedVariables false
namespace Go.Ab
open Go Go.Shelf Go.Sort Go.Proofs
theorem zuj {w w':World} (hk:Keep [] w [] w'):∃q os,w'=grow (w.drewN q) os:=by
 obtain ⟨⟨h1,h2⟩,h3,h4⟩:=hk.env
 have hh:w'.heap=w.heap++w'.heap.extract w.heap.size w'.heap.size:=by
  apply Array.ext_getElem?
  intro i
  by_cases hi:i < w.heap.size
  ·rw [Array.getElem?_append_left hi];exact (hk.same i hi (by simp)).1
  ·rw [Array.getElem?_append_right (by omega)]
   rw [Array.getElem?_extract]
   split
   ·congr 1;omega
   ·rw [Array.getElem?_eq_none (by omega)]
 refine ⟨w'.drawn - w.drawn,w'.heap.extract w.heap.size w'.heap.size,?_⟩
 have hd:w.drawn+(w'.drawn - w.drawn)=w'.drawn:=by omega
 cases w;cases w'
 simp only [grow,World.drewN] at *
 simp only [World.mk.injEq]
 exact ⟨hh,h3,by omega,h1,h2⟩
section
variable {P:Program} {α:Type} [Inhabited α] {enc:α→List Value} {k:Nat} {cf:α→α→Int}
def zdn (enc:α→List Value) (x:α):List AV:=(enc x).map .v
theorem zpd {w:World} {O:Nat→Prop} (x:α):Rel w O (.agg (zdn enc x)) (.agg (enc x).toArray):=
 .agg _ _ (by simp [zdn]) fun j h1 h2=>by simp only [zdn,List.getElem_map,List.getElem_toArray];exact .v _
theorem yb3 (w:World):HRel noX w []:=⟨List.nodup_nil,fun b hb=>by simp [j5] at hb,fun b hb=>hb.elim,fun r hr=>by simp at hr⟩
theorem yck {g:FuncId} (hp:∀x y,y8 P g [.agg (zdn enc x),.agg (zdn enc y)] [] (fun r h'=>h'= []∧r= .v (.int .i64 (cf x y)))) (blk off size:Nat) (w:World):CmpLays P g #[] enc k cf blk off size w:=fun m os dk hs x y=>by
 have h:=((hp x y) noX (sortWorldK enc k w blk off m dk os) [.agg (enc x).toArray,.agg (enc y).toArray] (yb3 _) ⟨zpd x,zpd y,trivial⟩).calls (fun k=>zwz none k)
 refine h.mono ?_;rintro e w' ⟨v,av,h',rfl,⟨rfl,rfl⟩,hr,_,hk⟩
 obtain rfl:=hr.v_eq
 exact ⟨rfl,zuj hk⟩
end
section
variable {P:Program} {ρ:Ren} {α:Type} [Inhabited α] {enc:α→List Value} {k:Nat} {X:Nat→Prop} {w:World} {a:Addr} {cap:Nat} {T:TypeId} {xs ys:List α}
theorem rowK_holds (hk:∀x,(enc x).length=k) (hh:HRel X w [.row (.slice (some a) xs.length cap) k T (xs.map (zdn enc))]):HoldsK enc k w a.block a.off xs.toArray∧a.block < w.heap.size∧a.spot=none:=by
 obtain ⟨h1,h2,h3,h4,c,h5,h6,h7⟩:=hh.holds _ (List.mem_singleton.2 rfl)
 refine ⟨fun t ht=> ?_,(hh.lt a.block (by simp [j5,Res.own])).1,h1⟩
 have ht':t < xs.length * k:=by simpa using ht
 have k0:0 < k:=by
  rcases Nat.eq_zero_or_pos k with q|q
  ·rw [q,Nat.mul_zero] at ht';omega
  ·exact q
 have hi:t / k < xs.length:=Nat.div_lt_of_lt_mul (by rw [Nat.mul_comm];exact ht')
 have hj:t % k < k:=Nat.mod_lt _ k0
 obtain ⟨v,e,r⟩:=h7 (t / k) (by simpa using hi) (t % k) (by simp [zdn,hk];exact hj)
 simp only [List.getElem_map,zdn] at r
 have hv:=r.v_eq
 have et:a.off+t / k * k+t % k=a.off+t:=by have:=Nat.div_add_mod t k;rw [Nat.mul_comm] at this;omega
 rw [et] at e
 have ef:(flatK enc k xs.toArray)[t]! =(enc xs[t / k])[t % k]'(by rw [hk];exact hj):=by
  rw [get_flatK _ _ _ _ (by simpa using ht'),getElem!_pos xs.toArray (t / k) (by simpa using hi),getElem!_pos _ _ (by rw [hk];exact hj)]
  simp
 refine ⟨?_,by simp [World.frozen?,h5]⟩
 show World.cell? w ⟨a.block,a.off+t,none⟩=some (id _)
 rw [ef]
 simp [World.cell?,h5,e,hv]
theorem zwx (hk:∀x,(enc x).length=k) (hh:HRel X w [.row (.slice (some a) xs.length cap) k T (xs.map (zdn enc))]) (hl:ys.length=xs.length) (n:Nat) (os:Array Obj):
 HRel X (sortWorldK enc k w a.block a.off n ys.toArray os) [.row (.slice (some a) xs.length cap) k T (ys.map (zdn enc))]∧Keep [a.block] w [a.block] (sortWorldK enc k w a.block a.off n ys.toArray os):=by
 obtain ⟨h1,h2,h3,h4,c,h5,h6,h7⟩:=hh.holds _ (List.mem_singleton.2 rfl)
 have hb:a.block < w.heap.size:=(hh.lt a.block (by simp [j5,Res.own])).1
 have hX:¬X a.block:=(hh.lt a.block (by simp [j5,Res.own])).2
 obtain ⟨w',hw'⟩:∃w',w'=sortWorldK enc k w a.block a.off n ys.toArray os:=⟨_,rfl⟩
 rw [←hw']
 have hheap:w'.heap=(w.heap.modify a.block (onCells (putCells id a.off (flatK enc k ys.toArray))))++os:=by rw [hw'];rfl
 have hos:zg7 w w':=by rw [hw'];exact ⟨⟨rfl,rfl⟩,rfl,Nat.le_add_right _ _⟩
 have hsize:w.heap.size≤w'.heap.size:=by rw [hheap];simp
 have hold:∀b,b < w.heap.size→b≠a.block→w'.heap[b]? =w.heap[b]? :=fun b hb hne=>by
  rw [hheap,Array.getElem?_append_left (by simpa using hb),Array.getElem?_modify,if_neg (Ne.symm hne)]
 have hnew:w'.heap[a.block]? =some (.cells (putCells id a.off (flatK enc k ys.toArray) c) T (0,0)):=by
  rw [hheap,Array.getElem?_append_left (by simpa using hb),Array.getElem?_modify,if_pos rfl,h5];rfl
 refine ⟨⟨by simp [j5,Res.own],fun b hb2=> ?_,fun b hb2=>Nat.lt_of_lt_of_le (hh.xlt b hb2) hsize,fun r hr=> ?_⟩,⟨hsize,fun b hb2 hne=> ?_,hos⟩⟩
 ·have:b=a.block:=by simpa [j5,Res.own] using hb2
  subst this;exact ⟨Nat.lt_of_lt_of_le hb hsize,hX⟩
 ·rw [List.mem_singleton] at hr
  subst hr
  refine ⟨h1,by simp [hl],h3,fun i hi=>by simp [zdn,hk],_,hnew,by simpa [putCells] using h6,fun i hi j hj=> ?_⟩
  have hi2:i < ys.length:=by simpa using hi
  have hj2:j < k:=by simpa [zdn,hk] using hj
  have hm1:(i+1) * k≤ys.length * k:=Nat.mul_le_mul_right k hi2
  have hm2:xs.length * k≤cap * k:=Nat.mul_le_mul_right k (by simpa using h3)
  rw [Nat.add_mul,Nat.one_mul] at hm1
  have hin:i * k+j < ys.length * k:=by omega
  have hc:a.off+i * k+j < c.size:=by rw [hl] at hin;omega
  have k0:0 < k:=by omega
  have ed:(i * k+j) / k=i:=by rw [Nat.mul_comm,Nat.mul_add_div k0,Nat.div_eq_of_lt hj2,Nat.add_zero]
  have em:(i * k+j) % k=j:=by rw [Nat.mul_comm,Nat.mul_add_mod,Nat.mod_eq_of_lt hj2]
  refine ⟨(enc ys[i])[j]'(by rw [hk];exact hj2),?_,?_⟩
  ·simp only [putCells,Array.getElem?_mapIdx]
   rw [Array.getElem?_eq_getElem hc]
   simp only [Option.map_some]
   rw [if_pos ⟨by omega,by simp;omega⟩]
   have e2:a.off+i * k+j - a.off=i * k+j:=by omega
   rw [e2]
   congr 1
   show (flatK enc k ys.toArray)[i * k+j]! =_
   rw [get_flatK _ _ _ _ (by simpa using hin),ed,em,getElem!_pos ys.toArray i (by simpa using hi2),getElem!_pos _ _ (by rw [hk];exact hj2)]
   simp
  ·simp only [List.getElem_map,zdn]
   exact .v _
 ·have hne2:b≠a.block:=by simpa using hne
  exact ⟨hold b hb2 hne2,hne⟩
theorem zmd (L:SlLaysF0.n6 P ρ) (aE:∀w,(isAgg (ρ.t 24)).run P w= .ok true w) (zE:∀w,(Go.sizeOf (ρ.t 24)).run P w= .ok k w) (hk:∀x,(enc x).length=k) (h1:∀x,∀v∈enc x,v.oneCell'=true) (cf:α→α→Int) (hO:SWO (ltOf cf)) (g:FuncId) [Enters P g]
 (hp:∀x y,y8 P g [.agg (zdn enc x),.agg (zdn enc y)] [] (fun r h'=>h'= []∧r= .v (.int .i64 (cf x y)))) (s:SV) (T:TypeId) (xs:List α) (hs:xs.length < 4611686018427387904):
 y8 P (ρ.f 6) [.v s.v,.fn (.func g) [] []] [.row s.v k T (xs.map (zdn enc))] (fun r h'=>∃ys:List α,ys.Perm xs∧(∀i j (hi:i < j) (hj:j < ys.length),¬cf ys[j] (ys[i]'(by omega)) < 0)∧h'= [.row s.v k T (ys.map (zdn enc))]∧r= .v (.tuple #[])):=by
 intro X w vs hh ha
 match vs,ha with
 | [v,u],⟨hv,hu,_⟩=>
   obtain rfl:=hv.v_eq
   have hu':u= .func (.func g) #[] #[]:=by
    cases hu with
    |fn _ _ _ fa ca e1 e2 _ _=>rw [Array.eq_empty_of_size_eq_zero (xs:=fa) e1.symm,Array.eq_empty_of_size_eq_zero (xs:=ca) e2.symm]
   subst hu'
   obtain ⟨a,n,cap⟩:=s
   cases a with
   |none=>
    obtain ⟨g1,rfl,rfl⟩:=hh.holds _ (List.mem_singleton.2 rfl)
    obtain rfl:xs= []:=by simpa using g1
    refine callsIn_wide.2 ((AnyF.slices_SortFunc_none L none 0 _ w).mono ?_)
    rintro e w' ⟨rfl,rfl⟩
    exact ⟨_,_,_,rfl,⟨[],.refl _,fun i j hi hj=>by simp at hj,rfl,rfl⟩,.v _,hh,.refl _ _⟩
   |some a=>
    have hn:n=xs.length:=by
     have:=(hh.holds _ (List.mem_singleton.2 rfl)).2.1
     simpa using this
    subst hn
    obtain ⟨g1,g2,g3⟩:=rowK_holds hk hh
    obtain ⟨b,off,sp⟩:=a
    simp only at g1 g2 g3
    subst g3
    refine callsIn_wide.2 ((AnyQ.slices_SortFunc L k aE zE enc hk h1 cf hO g #[] b off cap xs.toArray w (fun args w=>zfu args w) (yck hp b off _ w) g1 g2 (by simpa using hs)).mono ?_)
    rintro e w' ⟨rfl,d',n,os,⟨p1,_,p3⟩,p4,rfl⟩
    have hl:d'.toList.length=xs.length:=by simpa using p1
    have hperm:d'.toList.Perm xs:=by
     have q1:(d'.extract 0 xs.toArray.size)=d':=by rw [←p1];simp
     have q2:(xs.toArray.extract 0 xs.toArray.size)=xs.toArray:=by simp
     rw [q1,q2] at p3;simpa using p3
    obtain ⟨k1,k2⟩:=zwx (ys:=d'.toList) hk hh hl n os
    refine ⟨_,_,_,rfl,⟨d'.toList,hperm,fun i j hi hj=> ?_,rfl,rfl⟩,.v _,k1,k2⟩
    have hj':j < d'.size:=by simpa using hj
    have:=p4 i j (Nat.zero_le _) hi (by rw [←p1];exact hj')
    rw [getElem!_pos d' j hj',getElem!_pos d' i (by omega)] at this
    simpa [ltOf] using this
end
end Go.Ab
namespace Go.Proofs
open Go Go.Ab Go.Shelf
def yam:Go.Shelf.Ren:=⟨fun|6=>156|14=>213|15=>137|20=>248|21=>249|22=>250|23=>251|24=>252|25=>253|26=>254|27=>255|28=>184|29=>185|46=>273|47=>220|48=>221|49=>274|50=>275|57=>283|n=>n,fun|0=>0|3=>3|4=>4|5=>5|9=>9|22=>35|24=>41|25=>64|39=>180|45=>218|46=>219|50=>67|53=>225|55=>227|66=>265|70=>185|76=>288|77=>289|n=>n,fun n=>n⟩
theorem zwg:SlLaysF0.n6 Tryz.prog yam:={
 mixed:=by kernel_rfl
 f6:=⟨ "slices.SortFunc[[]yardarm/api.Conflict,yardarm/api.Conflict]",by decide,Tryz.func156.trans (congrArg some (by kernel_rfl))⟩
 f14:=⟨ "slices.pdqsortCmpFunc[yardarm/api.Conflict]",by decide,Tryz.func213.trans (congrArg some (by kernel_rfl))⟩
 f15:=Tryz.func137.trans (congrArg some (by kernel_rfl))
 f20:=⟨ "slices.insertionSortCmpFunc[yardarm/api.Conflict]",by decide,Tryz.func248.trans (congrArg some (by kernel_rfl))⟩
 f21:=⟨ "slices.heapSortCmpFunc[yardarm/api.Conflict]",by decide,Tryz.func249.trans (congrArg some (by kernel_rfl))⟩
 f22:=⟨ "slices.breakPatternsCmpFunc[yardarm/api.Conflict]",by decide,Tryz.func250.trans (congrArg some (by kernel_rfl))⟩
 f23:=⟨ "slices.choosePivotCmpFunc[yardarm/api.Conflict]",by decide,Tryz.func251.trans (congrArg some (by kernel_rfl))⟩
 f24:=⟨ "slices.reverseRangeCmpFunc[yardarm/api.Conflict]",by decide,Tryz.func252.trans (congrArg some (by kernel_rfl))⟩
 f25:=⟨ "slices.partialInsertionSortCmpFunc[yardarm/api.Conflict]",by decide,Tryz.func253.trans (congrArg some (by kernel_rfl))⟩
 f26:=⟨ "slices.partitionEqualCmpFunc[yardarm/api.Conflict]",by decide,Tryz.func254.trans (congrArg some (by kernel_rfl))⟩
 f27:=⟨ "slices.partitionCmpFunc[yardarm/api.Conflict]",by decide,Tryz.func255.trans (congrArg some (by kernel_rfl))⟩
 f28:=Tryz.func184.trans (congrArg some (by kernel_rfl))
 f29:=Tryz.func185.trans (congrArg some (by kernel_rfl))
 f46:=⟨ "slices.siftDownCmpFunc[yardarm/api.Conflict]",by decide,Tryz.func273.trans (congrArg some (by kernel_rfl))⟩
 f47:=Tryz.func220.trans (congrArg some (by kernel_rfl))
 f48:=Tryz.func221.trans (congrArg some (by kernel_rfl))
 f49:=⟨ "slices.medianAdjacentCmpFunc[yardarm/api.Conflict]",by decide,Tryz.func274.trans (congrArg some (by kernel_rfl))⟩
 f50:=⟨ "slices.medianCmpFunc[yardarm/api.Conflict]",by decide,Tryz.func275.trans (congrArg some (by kernel_rfl))⟩
 f57:=⟨ "slices.order2CmpFunc[yardarm/api.Conflict]",by decide,Tryz.func283.trans (congrArg some (by kernel_rfl))⟩
 t0:=Tryz.underlying0
 a0:=Tryz.isAgg0
 z0:=Tryz.sizeOf0
 v0:=Tryz.zeroValue0
 t3:=Tryz.underlying3
 a3:=Tryz.isAgg3
 z3:=Tryz.sizeOf3
 v3:=Tryz.zeroValue3
 t4:=Tryz.underlying4
 a4:=Tryz.isAgg4
 z4:=Tryz.sizeOf4
 v4:=Tryz.zeroValue4
 t5:=Tryz.underlying5
 a5:=Tryz.isAgg5
 z5:=Tryz.sizeOf5
 v5:=Tryz.zeroValue5
 t9:=Tryz.underlying9
 a9:=Tryz.isAgg9
 z9:=Tryz.sizeOf9
 v9:=Tryz.zeroValue9
 t22:=Tryz.underlying35
 a22:=Tryz.isAgg35
 z22:=Tryz.sizeOf35
 v22:=Tryz.zeroValue35
 t25:=Tryz.underlying64
 a25:=Tryz.isAgg64
 z25:=Tryz.sizeOf64
 v25:=Tryz.zeroValue64
 t39:=Tryz.underlying180
 a39:=Tryz.isAgg180
 z39:=Tryz.sizeOf180
 v39:=Tryz.zeroValue180
 t45:=Tryz.underlying218
 a45:=Tryz.isAgg218
 z45:=Tryz.sizeOf218
 v45:=Tryz.zeroValue218
 t46:=Tryz.underlying219
 a46:=Tryz.isAgg219
 z46:=Tryz.sizeOf219
 v46:=Tryz.zeroValue219
 t50:=Tryz.underlying67
 a50:=Tryz.isAgg67
 z50:=Tryz.sizeOf67
 v50:=Tryz.zeroValue67
 t53:=Tryz.underlying225
 a53:=Tryz.isAgg225
 z53:=Tryz.sizeOf225
 v53:=Tryz.zeroValue225
 t55:=Tryz.underlying227
 a55:=Tryz.isAgg227
 z55:=Tryz.sizeOf227
 v55:=Tryz.zeroValue227
 t66:=Tryz.underlying265
 a66:=Tryz.isAgg265
 z66:=Tryz.sizeOf265
 v66:=Tryz.zeroValue265
 t70:=Tryz.underlying185
 a70:=Tryz.isAgg185
 z70:=Tryz.sizeOf185
 v70:=Tryz.zeroValue185
 t76:=Tryz.underlying288
 a76:=Tryz.isAgg288
 z76:=Tryz.sizeOf288
 v76:=Tryz.zeroValue288
 t77:=Tryz.underlying289
 a77:=Tryz.isAgg289
 z77:=Tryz.sizeOf289
 v77:=Tryz.zeroValue289}
set_option maxRecDepth 10000
attribute [local irreducible] QR QV OE zb5 aw zce zcn za2 zbr thn zd9 zcl jch zd7
open Go.H
def orL:List Int→Int
 | []=>0
 |a::l=>if a≠0 then a else orL l
theorem yf3 (a b:Conf):orL [zoc a.f b.f,zoc a.t b.t,zoc a.a b.a,zoc a.b b.b,zoc a.o b.o,zoc a.p b.p]=zm9 a b:=by
 rw [zm9]
 simp only [zy1,orL,ite_not]
 rfl
theorem yji {l:List Int} {k:Nat} (hk:k < l.length) (h:l[k]≠0):orL (l.drop k)=l[k]:=by
 rw [List.drop_eq_getElem_cons hk,orL,if_pos h]
theorem ymt {l:List Int} {k:Nat} (hk:k < l.length) (h:l[k]=0):orL (l.drop k)=orL (l.drop (k+1)):=by
 rw [List.drop_eq_getElem_cons hk,orL,if_neg (by simpa using h)]
theorem yf2 {l:List Int} {k:Nat} (hk:k=l.length):orL (l.drop k)=0:=by rw [hk,List.drop_length];rfl
theorem zgd (a b:Conf):zm9 b a= - zm9 a b:=zlr _ _
theorem zi9 {a b c:Conf} (h:zm9 a b≤0) (k:zm9 b c≤0):zm9 a c≤0:=zgp _ _ _ h k
theorem ynp {f:Bool} (l:List Int) (hl:l.length≤4611686018427387904):y8 Tryz.prog 212 [.list f 1 (l.map za9)] [] (fun r h'=>h'= []∧r=iv (orL l)):=by
 refine z6 Tryz.func212 rfl rfl rfl ?_
 refine rn ?_;refine yd6 (l.length) (fun k:Nat=>orL l=orL (l.drop k)) (fun k=> [(8,iv k)]) [(3,_),(6,_),(7,_)] rfl ?_
 intro k lk zk
 refine rn ?_;refine y0 rfl (fun hc9=> ?_) (fun hc9=> ?_)
 ·have hk:=zde hc9
  have rk:=zbn (f:=za9) hk
  refine rn ?_;refine y0 rfl (fun hc14=> ?_) (fun hc14=> ?_)
  ·refine rn ?_;refine rq 0 ?_
   exact ⟨rfl,congrArg iv (by rw [zk,yji hk (by simpa using hc14)])⟩
  ·refine rn ?_;exact ⟨hk,by rw [zk,ymt hk (by simpa using hc14)],eA⟩
 ·have qk:=zdg hc9 lk
  refine rn ?_;refine rq 0 ?_
  exact ⟨rfl,congrArg iv (by rw [zk,yf2 qk])⟩
theorem zoq (a b:Conf):y8 Tryz.prog 155 [.agg (zaa a),.agg (zaa b)] [] (fun r h'=>h'= []∧r=iv (zm9 a b)):=by
 refine z6 Tryz.func155 rfl rfl rfl ?_
 refine rn ?_;refine z7 rfl (w7 rfl rfl rfl fun b2=> ?_)
 refine z7 rfl (w7 rfl rfl rfl fun b3=> ?_)
 refine rn ?_;refine j4 29 rfl ?_
 refine rn ?_;refine dv rfl rfl (by exact y4 rfl rfl (zax (zna _ _) (Sbs.refl _))) ?_
 refine rn ?_;refine dv rfl rfl (by exact y4 rfl rfl (zax (zna _ _) (Sbs.refl _))) ?_
 refine rn ?_;refine dv rfl rfl (by exact y4 rfl rfl (zax (zna _ _) (Sbs.refl _))) ?_
 refine rn ?_;refine dv rfl rfl (by exact y4 rfl rfl (zax (zna _ _) (Sbs.refl _))) ?_
 refine rn ?_;refine dv rfl rfl (by exact y4 rfl rfl (zax (zna _ _) (Sbs.refl _))) ?_
 refine rn ?_;refine qv rfl rfl (y4 rfl rfl (zax (zna _ _) (Sbs.refl _))) ?_
 refine qv rfl rfl (w9 rfl rfl) ?_
 refine qv rfl rfl (y4 rfl rfl (zax (ynp [zoc a.f b.f,zoc a.t b.t,zoc a.a b.a,zoc a.b b.b,zoc a.o b.o,zoc a.p b.p] (by simp only [List.length_cons,List.length_nil];omega)) (Sbs.refl _))) ?_
 refine rn ?_;refine rq 2 ?_
 exact ⟨rfl,congrArg iv (yf3 a b)⟩
theorem yok:Go.Sort.SWO (ltOf zm9):=⟨fun x=>decide_eq_false (by rw [zm9,zlq];decide),fun x y z h k=>decide_eq_true (by
 have h:=oT h;have k:=oT k
 rcases Int.lt_or_eq_of_le (zi9 (Int.le_of_lt h) (Int.le_of_lt k)) with q|q
 ·exact q
 ·have h2:=zi9 (a:=z) (b:=x) (c:=y) (by rw [zgd];omega) (Int.le_of_lt h)
  rw [zgd] at h2;omega),fun x y z h k=>decide_eq_false (by
 have h:=oF h;have k:=oF k
 rw [zgd] at h k
 have:=zi9 (a:=z) (b:=y) (c:=x) (by omega) (by omega)
 rw [zgd] at this;omega)⟩
def zr2 (c:Conf):List Value:= [.int .i64 c.f,.int .i64 c.t,.int .i64 c.k,.int .i64 c.a,.int .i64 c.b,.int .i64 c.o,.int .i64 c.p]
instance:Inhabited Conf:=⟨cfz⟩
theorem zr1 (c:Conf):∀v∈zr2 c,v.oneCell'=true:=by
 intro v hv;simp only [zr2,List.mem_cons,List.not_mem_nil,or_false] at hv
 rcases hv with rfl|rfl|rfl|rfl|rfl|rfl|rfl <;> rfl
theorem yk8 {l:List Conf} (hk:zvp l) {pre rest:List Conf} {d:Conf} (hL:l=pre++d::rest) {z:Conf} (hz:zap (d.f,d.t) (za3 pre)=some z):zm9 d z=zgq d z:=by
 have:=zt1 pre (d.f,d.t)
 rw [hz] at this
 exact zlp (hk d (by rw [hL];simp) z (by rw [hL];exact List.mem_append_left _ this.2.1))
theorem zoe {l:List Conf} (hk:zvp l) {pre rest:List Conf} {d:Conf} (hL:l=pre++d::rest) (h:(!(zap (d.f,d.t) (za3 pre)).isSome)=true∨decide (zm9 d ((zap (d.f,d.t) (za3 pre)).getD cfz) < 0)=true):zef (za3 pre) d=zcq (d.f,d.t) d (za3 pre):=by
 cases hz:zap (d.f,d.t) (za3 pre) with
 |none=>exact yd5 (.inl (by rw [hz];rfl))
 |some z=>
  rw [hz] at h
  refine yd5 (.inr (by rw [hz,Option.getD_some,←yk8 hk hL hz];exact h.resolve_left (by simp)))
theorem yhi {l:List Conf} (hk:zvp l) {pre rest:List Conf} {d:Conf} (hL:l=pre++d::rest) (h1:(!(zap (d.f,d.t) (za3 pre)).isSome)=false) (h2:decide (zm9 d ((zap (d.f,d.t) (za3 pre)).getD cfz) < 0)=false):zef (za3 pre) d=za3 pre:=by
 cases hz:zap (d.f,d.t) (za3 pre) with
 |none=>rw [hz] at h1;cases h1
 |some z=>exact yk7 h1 (by rw [hz,Option.getD_some,←yk8 hk hL hz];rw [hz] at h2;exact h2)
theorem zza (m:List ((Int×Int)×Conf)) (c:Conf):(zef m c).length≤m.length+1:=by
 have hp:(zcq (zgu c) c m).length≤m.length+1:=by rw [zra];split <;> omega
 unfold zef;split
 ·exact hp
 ·split
  ·exact hp
  ·omega
theorem zt2:∀(l:List Conf) (m:List ((Int×Int)×Conf)),(l.foldl zef m).length≤m.length+l.length
 | [],_=>Nat.le_refl _
 |c::l,m=>by
  have h1:=zt2 l (zef m c)
  have h2:=zza m c
  rw [List.foldl_cons,List.length_cons];omega
theorem zqf (l:List Conf):(za3 l).length≤l.length:=by
 have h1:=zt2 l []
 rw [List.length_nil,Nat.zero_add] at h1;exact h1
theorem zx0 {l:List Conf} (hk:zvp l) {sn:List Nat} (hn:sn.Nodup) (hl:∀i∈sn,i < (za3 l).length) (ha:∀i,i < (za3 l).length→i∈sn) {ys:List Conf} (hp:ys.Perm (zzx (za3 l) sn)) (hs:ys.Pairwise fun a b=>zm9 a b≤0):ys=zb1 l:=
 zu3 hk (hp.trans (zxi hn hl ha)) hs
theorem zkr {h:Hist} {F:Ev→Nat→List Conf} {c:Nat} (hF:∀j (hj:j < h.evs.length),(F h.evs[j] j).length≤c):∀n,n≤h.evs.length→(zae h F n).length≤n * c
 |0,_=>by simp [zae]
 |n+1,hn=>by
  have h1:=zkr hF n (by omega)
  have h2:=hF n (by omega)
  rw [zae,List.getElem?_eq_getElem (by omega),List.length_append,Nat.succ_mul]
  simp only
  split
  ·omega
  ·simp only [List.length_nil];omega
theorem zui (h:Hist) (e:Ev) (a:Nat):(zb6 h e a).length≤1:=by
 rw [zb6];split
 ·split
  ·simp
  ·split <;> simp
 ·simp
theorem zuf {h:Hist} (hc:q6 h=0) (e:Ev) (a:Nat):(zdk h e a).length≤3000 * 4000:=by
 rw [zdk];split
 ·refine Nat.le_trans (zi3 _ 4000 _ fun s hs=> ?_) (Nat.mul_le_mul_right _ (by rw [zk0];exact (zdh hc).os))
  rw [zaq];split
  ·exact Nat.zero_le _
  ·exact Nat.le_trans (List.length_filterMap_le _ _) (Nat.le_trans (List.takeWhile_sublist _).length_le (zt0 hc _ _))
 ·exact Nat.zero_le _
theorem zpn {h:Hist} (hc:q6 h=0):(zae h (zb6 h) h.evs.length).length≤36000000000:=by
 have h1:=zkr (fun j hj=>zui h h.evs[j] j) _ (Nat.le_refl _)
 have:=(zdh hc).evs
 omega
theorem zo2 {h:Hist} (hc:q6 h=0):(zae h (zdk h) h.evs.length).length≤36000000000:=by
 have h1:=zkr (fun j hj=>zuf hc h.evs[j] j) _ (Nat.le_refl _)
 have:=(zdh hc).evs
 omega
theorem zwh (s:SV) (xs:List Conf) (hs:xs.length < 4611686018427387904):y8 Tryz.prog 156 [.v s.v,.fn (.func 155) [] []] [.row s.v 7 41 (xs.map zaa)] (fun r h'=>∃ys:List Conf,ys.Perm xs∧ys.Pairwise (fun a b=>zm9 a b≤0)∧h'= [.row s.v 7 41 (ys.map zaa)]∧r= .v (.tuple #[])):=
 (zmd zwg (k:=7) (enc:=zr2) Tryz.isAgg41 Tryz.sizeOf41 (fun _=>rfl) zr1 zm9 yok 155 (fun x y=>zoq x y) s 41 xs hs).mono (by
  rintro _ _ ⟨ys,hp,hq,rfl,rfl⟩
  refine ⟨ys,hp,List.pairwise_iff_getElem.2 fun i j hi hj hij=> ?_,rfl,rfl⟩
  have:=hq i j hij hj
  rw [zgd] at this;omega)
theorem zsm (h:Hist) (la:Lim 4611686018427387904 h) (ee g:Nat) [Go.Ab.Enters Tryz.prog g] (F:Ev→Nat→List Conf) (bl rd rf rk rg:Nat) (hT:zzp h (.fn (.func ee) [pZ bl] []) g F bl rd rf rk rg) (bL bE:Nat) (hk:zvp (zae h F h.evs.length)) (hLn:(zae h F h.evs.length).length≤36000000000):y8 Tryz.prog 112 [.fn (.func 157) [] [pZ bL,pZ bE]] (.box bE 95 [(.fn (.func ee) [pZ bl] [])]:: .box bL 147 [pZ bl]:: .box bl 202 (wrP h rd rf rk rg)::rgR rg []::rkS h rk::zcw h rf::rcR h rd:: .glob 2 156 y2:: .glob 4 305 y3:: .glob 5 308 z8:: .glob 3 246 w6:: []) (fun r h'=>∃(s:SV) (M:List ((Int×Int)×List Int)),h'= .row s.v 7 41 ((zb1 (zae h F h.evs.length)).map zaa):: .box bE 95 [(.fn (.func ee) [pZ bl] [])]:: .box bL 147 [pZ bl]:: .box bl 202 (wrP h rd rf rk rg)::rgR rg M::rkS h rk::zcw h rf::rcR h rd:: .glob 2 156 y2:: .glob 4 305 y3:: .glob 5 308 z8:: .glob 3 246 w6:: []∧r= .v s.v):=by
 refine z6 Tryz.func112 rfl rfl rfl ?_
 refine rn ?_;refine z7 rfl (zac (enc:=zan) rfl fun bm=> ?_)
 refine z7 rfl (y7 rfl fun b3=> ?_)
 refine rn ?_;refine zfi (s':=⟨[(12,.fn (.func 157) [] [pZ bL,pZ bE]),(3,pZ b3)],.box b3 166 [mpv bm]:: .map bm (j9 zan (zau gC (za3 []))):: .box bE 95 [(.fn (.func ee) [pZ bl] [])]:: .box bL 147 [pZ bl]:: .box bl 202 (wrP h rd rf rk rg)::rgR rg []::rkS h rk::zcw h rf::rcR h rd:: .glob 2 156 y2:: .glob 4 305 y3:: .glob 5 308 z8:: .glob 3 246 w6:: [],[]⟩) es ?_
 refine zjz (fun pend h''=>pend=none∧∃M,h''= .box bE 95 [(.fn (.func ee) [pZ bl] [])]:: .box bL 147 [pZ bl]:: .box bl 202 (wrP h rd rf rk rg)::rgR rg M::rkS h rk::zcw h rf::rcR h rd:: .glob 2 156 y2:: .glob 4 305 y3:: .glob 5 308 z8:: .glob 3 246 w6:: .map bm (j9 zan (zau gC (za3 (zae h F h.evs.length)))):: .box b3 166 [mpv bm]:: []) rfl (fun fn l q lp hlp=> ?_) (fun q h'' hK=> ?_) (fun q h'' c hK=> ?_)
 ·suffices hy:∀pre d rest (x:Unit) M,(zae h F h.evs.length)=pre++d::rest→True→zei h M→y1 Tryz.prog (yv l) [.agg (zaa d)] (.box bE 95 [(.fn (.func ee) [pZ bl] [])]:: .box bL 147 [pZ bl]:: .box bl 202 (wrP h rd rf rk rg)::rgR rg M::rkS h rk::zcw h rf::rcR h rd:: .glob 2 156 y2:: .glob 4 305 y3:: .glob 5 308 z8:: .glob 3 246 w6::lp .ready none:: .defs q:: .map bm (j9 zan (zau gC (za3 pre))):: .box b3 166 [mpv bm]:: []) (fun r h'=>∃x':Unit,(r=bv true∧True∧h'= .box bE 95 [(.fn (.func ee) [pZ bl] [])]:: .box bL 147 [pZ bl]:: .box bl 202 (wrP h rd rf rk rg)::rgR rg M::rkS h rk::zcw h rf::rcR h rd:: .glob 2 156 y2:: .glob 4 305 y3:: .glob 5 308 z8:: .glob 3 246 w6::lp .ready none:: .defs q:: .map bm (j9 zan (zau gC (za3 (pre++ [d])))):: .box b3 166 [mpv bm]:: [])∨(r=bv false∧False∧h'= .box bE 95 [(.fn (.func ee) [pZ bl] [])]:: .box bL 147 [pZ bl]:: .box bl 202 (wrP h rd rf rk rg)::rgR rg M::rkS h rk::zcw h rf::rcR h rd:: .glob 2 156 y2:: .glob 4 305 y3:: .glob 5 308 z8:: .glob 3 246 w6:: [])) by
   refine y8.mono (y8.perm ((pt4 _ _ _ _ _ _).trans (.cons _ ((pt4 _ _ _ _ _ _).trans (.cons _ ((pt4 _ _ _ _ _ _).trans (.cons _ ((pt4 _ _ _ _ _ _).trans (.cons _ ((pt4 _ _ _ _ _ _).trans (.cons _ ((pt4 _ _ _ _ _ _).trans (.cons _ ((pt4 _ _ _ _ _ _).trans (.cons _ ((pt4 _ _ _ _ _ _).trans (.cons _ ((pt4 _ _ _ _ _ _).trans (.cons _ ((pt4 _ _ _ _ _ _).trans (.cons _ ((pt4 _ _ _ _ _ _).trans (.cons _ (.cons _ (.cons _ (pt1 _ _ _))))))))))))))))))))))))) (yc1 h la ee g F bl rd rf rk rg hT (yv l) rfl bL bE [] (zkl h) (fun _ (_:Unit)=>True) (fun _=>False) (fun pre _=>lp .ready none:: .defs q:: .map bm (j9 zan (zau gC (za3 pre))):: .box b3 166 [mpv bm]:: []) (fun _=> []) () trivial hy)) ?_
   rintro _ _ ⟨x,M,hM,⟨-,rfl⟩|⟨hF,_⟩⟩
   ·exact ⟨none,.ready,_,((zs7 _ _ _ _ _ _ _ _ _ _ _ _ _).trans (.cons _ (zs7 _ _ _ _ _ _ _ _ _ _ _ _ _))),by simp,rfl,M,rfl⟩
   ·exact hF.elim
  intro pre d rest x M hL _ hM
  refine y1.perm (zs7 _ _ _ _ _ _ _ _ _ _ _ _ _) (y1.ventE ?_)
  refine zcm hlp rfl rfl ?_
  refine rn ?_;refine z7 rfl (y7 rfl fun b4=> ?_)
  refine rn ?_;refine ⟨[(4,pZ b4),(3,pZ b3)],.box b4 41 (zaa d):: .box bE 95 [(.fn (.func ee) [pZ bl] [])]:: .box bL 147 [pZ bl]:: .box bl 202 (wrP h rd rf rk rg)::rgR rg M::rkS h rk::zcw h rf::rcR h rd:: .glob 2 156 y2:: .glob 4 305 y3:: .glob 5 308 z8:: .glob 3 246 w6:: .defs q:: .map bm (j9 zan (zau gC (za3 pre))):: .box b3 166 [mpv bm]:: [],v6 (zas (pt1 _ _ _)) es,?_⟩
  refine zc8 ?_;refine w8 (y6 ?_)
  refine q1 ?_;refine q1 ?_;refine q1 ?_;refine q1 ?_;refine qq rfl rfl (zbk (out:= [iv d.f,iv d.t]) rfl (by rfl)) ?_
  refine z7 rfl (y7 rfl fun b5=> ?_)
  first|refine z7 rfl (u5 rfl rfl rfl ?_)|refine z7 rfl (zaf rfl rfl rfl rfl (Nat.le_of_ble_eq_true rfl) ?_)
  refine v8 (zak ?_)
  refine w8 (y6 ?_)
  refine q1 ?_;refine q1 ?_;refine qq rfl rfl (zd6 (g:=gC) (enc:=zan) (k:=(d.f,d.t)) cfz rfl rfl rfl) ?_
  refine rn ?_;refine z7 rfl (y7 rfl fun b6=> ?_)
  refine rn ?_;refine u0 (fun hg6_2=> ?_) (fun hg6_2=> ?_)
  ·refine rn ?_;refine zsb rfl ?_;have hb:zef (za3 pre) d=zcq (d.f,d.t) d (za3 pre):=by first|exact zoe hk hL (.inl hg6_2)|exact zoe hk hL (.inr hc32)
   refine rn ?_;refine z7 rfl (j8 (g:=gC) (enc:=zan) (k:=(d.f,d.t)) (v:=d) rfl rfl rfl ?_)
   refine rn ?_;exact zcf (pt2 _ _ _ _) ⟨_,_,.trans (.perm ((pt1 _ _ _).trans (.cons _ ((pt1 _ _ _).trans (.cons _ ((pt1 _ _ _).trans (.cons _ ((pt1 _ _ _).trans (.cons _ ((pt1 _ _ _).trans (.cons _ ((pt1 _ _ _).trans (.cons _ ((pt1 _ _ _).trans (.cons _ ((pt1 _ _ _).trans (.cons _ ((pt1 _ _ _).trans (.cons _ ((pt1 _ _ _).trans (.cons _ ((pt1 _ _ _).trans (.cons _ ((pt1 _ _ _).trans (.cons _ ((pt1 _ _ _).trans (.cons _ (pt1 _ _ _))))))))))))))))))))))))))) _) (.drop [_,_,_] _ _),(),.inl ⟨rfl,trivial,by rw [zsa,hb]⟩⟩
  ·refine rn ?_;refine qv rfl rfl (y4 rfl rfl (zax (zoq _ _) (Sbs.refl _))) ?_
   refine rn ?_;refine y0 rfl (fun hc32=> ?_) (fun hc32=> ?_)
   ·have hb:zef (za3 pre) d=zcq (d.f,d.t) d (za3 pre):=by first|exact zoe hk hL (.inl hg6_2)|exact zoe hk hL (.inr hc32)
    refine rn ?_;refine z7 rfl (j8 (g:=gC) (enc:=zan) (k:=(d.f,d.t)) (v:=d) rfl rfl rfl ?_)
    refine rn ?_;exact zcf (pt2 _ _ _ _) ⟨_,_,.trans (.perm ((pt1 _ _ _).trans (.cons _ ((pt1 _ _ _).trans (.cons _ ((pt1 _ _ _).trans (.cons _ ((pt1 _ _ _).trans (.cons _ ((pt1 _ _ _).trans (.cons _ ((pt1 _ _ _).trans (.cons _ ((pt1 _ _ _).trans (.cons _ ((pt1 _ _ _).trans (.cons _ ((pt1 _ _ _).trans (.cons _ ((pt1 _ _ _).trans (.cons _ ((pt1 _ _ _).trans (.cons _ ((pt1 _ _ _).trans (.cons _ ((pt1 _ _ _).trans (.cons _ (pt1 _ _ _))))))))))))))))))))))))))) _) (.drop [_,_,_] _ _),(),.inl ⟨rfl,trivial,by rw [zsa,hb]⟩⟩
   ·have hb:zef (za3 pre) d=(za3 pre):=yhi hk hL hg6_2 hc32
    refine rn ?_;exact zcf (pt2 _ _ _ _) ⟨_,_,.trans (.perm ((pt1 _ _ _).trans (.cons _ ((pt1 _ _ _).trans (.cons _ ((pt1 _ _ _).trans (.cons _ ((pt1 _ _ _).trans (.cons _ ((pt1 _ _ _).trans (.cons _ ((pt1 _ _ _).trans (.cons _ ((pt1 _ _ _).trans (.cons _ ((pt1 _ _ _).trans (.cons _ ((pt1 _ _ _).trans (.cons _ ((pt1 _ _ _).trans (.cons _ ((pt1 _ _ _).trans (.cons _ ((pt1 _ _ _).trans (.cons _ ((pt1 _ _ _).trans (.cons _ (pt1 _ _ _))))))))))))))))))))))))))) _) (.drop [_,_,_] _ _),(),.inl ⟨rfl,trivial,by rw [zsa,hb]⟩⟩
 ·obtain ⟨_,M',rfl⟩:=hK
  have hbl:=Nat.le_trans (zqf (zae h F h.evs.length)) hLn
  refine zru ?_;refine zak ?_;refine w8 (y6 ?_)
  refine q1 ?_;refine v8 (zak ?_)
  refine w8 ?_;refine w8 (y6 ?_)
  refine q1 ?_;refine zgt (zas ((ymq _ _ _ _ _ _ _ _ _ _ _ _ _ _).trans (.cons _ ((ymq _ _ _ _ _ _ _ _ _ _ _ _ _ _).trans (.cons _ ((pt1 _ _ _).trans (.cons _ ((pt1 _ _ _).trans (.cons _ ((pt1 _ _ _).trans (.cons _ ((pt1 _ _ _).trans (.cons _ ((pt1 _ _ _).trans (.cons _ ((pt1 _ _ _).trans (.cons _ ((pt1 _ _ _).trans (.cons _ ((pt1 _ _ _).trans (.cons _ ((pt1 _ _ _).trans (.cons _ ((pt1 _ _ _).trans (.cons _ (pt1 _ _ _)))))))))))))))))))))))))) ?_
  refine z7 rfl (zpf rfl rfl fun b37=> ?_)
  refine rn ?_;refine zab (fun x:List Nat×SV=>x.1.Nodup∧∀i∈x.1,i < (za3 (zae h F h.evs.length)).length) (fun x=>⟨[(37,pZ b37),(8,.v x.2.v)],.mapr bm (j9 zan (zau gC (za3 (zae h F h.evs.length)))) b37 x.1:: .row x.2.v 7 41 ((zzx (za3 (zae h F h.evs.length)) x.1).map zaa):: .box b3 166 [mpv bm]:: .box bE 95 [(.fn (.func ee) [pZ bl] [])]:: .box bL 147 [pZ bl]:: .box bl 202 (wrP h rd rf rk rg)::rgR rg M'::rkS h rk::zcw h rf::rcR h rd:: .glob 2 156 y2:: .glob 4 305 y3:: .glob 5 308 z8:: .glob 3 246 w6:: .defs q:: [],[q]⟩) (fun x=>(za3 (zae h F h.evs.length)).length - x.1.length) ([],⟨none,0,0⟩) ⟨.nil,fun i hi=>(by cases hi)⟩ (v6 (za1 7 41) (v6 (zas (pt1 _ _ _)) es)) ?_
  rintro ⟨sn,s⟩ ⟨hsn,hsl⟩
  simp only at hsn hsl
  refine w8 (y6 ?_)
  refine z7 rfl (zrg rfl rfl (fun hall=> ?_) (fun i hi hni=> ?_))
  ·refine rn ?_;refine y0 rfl (fun hc39=> ?_) (fun hc39=> ?_)
   ·first|cases hc39|exact absurd hc39 (by decide)|(exfalso;simp_all;done)
   ·refine rn ?_;have hsb:=znn hsn hsl
    refine rn ?_;refine z7 rfl (q7 rfl rfl (y1.perm (pt1 _ _ _) ((y1.of_fun (zwh s (zzx (za3 (zae h F h.evs.length)) sn) (by rw [zta];omega))).frame _)) rfl ?_)
    rintro _ _ ⟨_,rfl,ys,hp,hys,rfl,rfl⟩
    refine rn ?_;exact zfy (yo0 _ _ _ _ _ _ _ _ _ _ _ _ _ _ _ _) (.cons _ _ _ _ (.tmp _ _ rfl) .nil) (.trans (.perm ((pt1 _ _ _).trans (.cons _ (pt1 _ _ _))) _) (.drop [_,_] _ _)) ⟨s,M',by rw [zx0 hk hsn hsl (fun i hi=>hall i (by simpa [j9,zau] using hi)) hp hys],rfl⟩
  ·refine rn ?_;refine y0 rfl (fun hc39=> ?_) (fun hc39=> ?_)
   ·refine zbs ?_;refine zak ?_;refine zc8 ?_;refine w8 (y6 ?_)
    have hi2:i < (za3 (zae h F h.evs.length)).length:=by simpa [j9,zau] using hi
    refine qq rfl rfl (zxa (k:=zan (za3 (zae h F h.evs.length))[i].1) (a:=gC (za3 (zae h F h.evs.length))[i].2) hi (by simp [j9,zau]) (by simp [j9,zau]) rfl) ?_
    refine rn ?_;refine z7 rfl (y7 rfl fun b10=> ?_)
    refine rn ?_;refine qv rfl rfl (w9 rfl rfl) ?_
    refine z7 rfl (j6 rfl rfl (by have:=znn hsn hsl;simp only [oM,zta,List.length_cons,List.length_nil];omega) rfl (fun s45=> ?_) (ybd [(za3 (zae h F h.evs.length))[i].2]))
    refine zam s45 fun sv hsv=> ?_
    subst hsv
    refine rn ?_;have hnd:(i::sn).Nodup:=List.nodup_cons.2 ⟨hni,hsn⟩
    have hal:∀j∈i::sn,j < (za3 (zae h F h.evs.length)).length:=fun j hj=>(List.mem_cons.1 hj).elim (fun q=>q ▸ hi2) (hsl j)
    have hlen:=znn hnd hal
    exact ⟨(i::sn,sv),⟨hnd,hal⟩,by simp only;rw [yjf hi2,List.map_append];exact eA,by simp only [List.length_cons] at hlen ⊢;omega⟩
   ·first|cases hc39|exact absurd hc39 (by decide)|(exfalso;simp_all;done)
 ·obtain ⟨hc',_⟩:=hK
  exact absurd hc' (by simp)
theorem ask_c {h:Hist} {x n:Int} (hc:q6 h≠0):zfj h x n=q6 h:=by rw [zfj,if_neg hc]
theorem zyq {f g:Bool} (l m:List Conf) (hl:l.length≤4611686018427387904) (hm:m.length≤4611686018427387904):y8 Tryz.prog 19 [.list f 7 (l.map zaa),.list g 7 (m.map zaa)] [] (fun r h'=>h'= []∧r=bv (eqF zic l m)):=by
 refine z6 Tryz.func19 rfl rfl rfl ?_
 refine rn ?_;refine y0 rfl (fun hc10=> ?_) (fun hc10=> ?_)
 ·refine rn ?_;have hne:(l.length==m.length)=false:=beq_eq_false_iff_ne.2 fun q=>by simp [q] at hc10
  exact zal rfl (.refl _ _) ⟨rfl,by rw [eqF,hne,Bool.false_and];rfl⟩
 ·have hlm:l.length=m.length:=by simp at hc10;omega
  refine rn ?_;refine zab (fun k:Nat=>k≤l.length∧zt8 zic l m=zt8 zic (l.drop k) (m.drop k)) (fun k=>⟨[(13,iv k),(0,.list f 7 (l.map zaa)),(1,.list g 7 (m.map zaa)),(12,iv (l.map zaa).length)],[],[]⟩) (fun k=>l.length - k) 0 ⟨Nat.zero_le _,by simp⟩
   (v1 (.cons _ _ _ rfl (.cons _ _ _ rfl (.cons _ _ _ rfl (.cons _ _ _ rfl (.nil)))))) ?_
  rintro k ⟨hk,hz⟩
  refine rn ?_;refine y0 rfl (fun hc14=> ?_) (fun hc14=> ?_)
  ·have hk2:k < l.length:=by simpa using hc14
   have hk3:k < m.length:=by omega
   have hrow1:(l.map zaa)[k]? =some (zaa l[k]):=by simp [hk2]
   have hrow2:(m.map zaa)[k]? =some (zaa m[k]):=by simp [hk3]
   have hd1:=List.drop_eq_getElem_cons hk2
   have hd2:=List.drop_eq_getElem_cons hk3
   refine rn ?_;refine j4 8 rfl ?_
   refine rn ?_;refine y0 rfl (fun hc24=> ?_) (fun hc24=> ?_)
   ·refine rn ?_;exact zal rfl (.refl _ _) ⟨rfl,by rw [eqF,hz,hd1,hd2,zt8,show zic l[k] m[k]=false from ybg hc24,Bool.false_and,Bool.and_false];rfl⟩
   ·refine rn ?_;exact ⟨k+1,⟨by omega,by rw [hz,hd1,hd2,zt8,show zic l[k] m[k]=true from ybh hc24,Bool.true_and]⟩,(v1 (.cons _ _ _ rfl (.cons _ _ _ rfl (.cons _ _ _ rfl (.cons _ _ _ rfl (.nil)))))),by omega⟩
  ·have hk3:k=l.length:=by
    have:l.length≤k:=by simpa using hc14
    omega
   refine rn ?_;exact zal rfl (.refl _ _) ⟨rfl,by rw [eqF,hz,hk3,List.drop_length,zse,hlm,beq_self_eq_true];rfl⟩
theorem yky {f g:Bool} (l:List Conf) (hl:l.length≤4611686018427387904):y8 Tryz.prog 19 [.list f 7 (l.map zaa),.list g 7 (l.map zaa)] [] (fun r h'=>h'= []∧r=bv true):=(zyq l l hl hl).mono fun _ _ q=>⟨q.1,by rw [q.2,zyr zll];simp⟩
def OvB (h:Hist) (n:Int):Prop:=∃a:Nat,n=(a:Int)∧∃ha:a < h.evs.length,zf6 h.evs h.evs[a].t 5=true∧(h.evs[a].kind=3∨h.evs[a].kind=4)
theorem ybb {h:Hist} {n:Int} (q:n < 0):¬OvB h n:=fun ⟨a,e,_⟩=>by omega
theorem yba {h:Hist} {n:Int} (q:(h.evs.length:Int)≤n):¬OvB h n:=fun ⟨a,e,ha,_⟩=>by omega
theorem ya9 {h:Hist} {a:Nat} (ha:a < h.evs.length) (q:zf6 h.evs h.evs[a].t 5=false):¬OvB h (a:Int):=fun ⟨b,e,hb,q1,_⟩=>by
 have:b=a:=by omega
 subst this;rw [q] at q1;cases q1
theorem ya8 {h:Hist} {a:Nat} (ha:a < h.evs.length) (q3:h.evs[a].kind≠3) (q4:h.evs[a].kind≠4):¬OvB h (a:Int):=fun ⟨b,e,hb,_,q1⟩=>by
 have:b=a:=by omega
 subst this;exact q1.elim q3 q4
def ovB (h:Hist) (n:Int):Bool:=decide (0≤n) && match h.evs[n.toNat]? with
 |some e=>zf6 h.evs e.t 5 && (e.kind==3||e.kind==4)
 |none=>false
theorem zxh {h:Hist} {n:Int}:ovB h n=true ↔ OvB h n:=by
 rw [ovB,Bool.and_eq_true,decide_eq_true_iff]
 constructor
 ·rintro ⟨h2,h3⟩
  split at h3
  ·rename_i e he
   obtain ⟨hl,rfl⟩:=List.getElem?_eq_some_iff.1 he
   rw [Bool.and_eq_true,Bool.or_eq_true,beq_iff_eq,beq_iff_eq] at h3
   exact ⟨n.toNat,by omega,hl,h3.1,h3.2⟩
  ·cases h3
 ·rintro ⟨a,e,ha,hm,hk⟩
  refine ⟨by omega,?_⟩
  rw [show n.toNat=a by omega,List.getElem?_eq_getElem ha]
  simp only
  rw [hm,Bool.true_and,Bool.or_eq_true,beq_iff_eq,beq_iff_eq];exact hk
def ovC (h:Hist) (n:Int):Int:=if q6 h=0 then (if ovB h n=true then 0 else 2) else q6 h
def ovO (h:Hist) (n:Int):List Int:=if ovC h n=0 then (match h.evs[n.toNat]? with|some e=>yje h e n.toNat|none=> []) else []
theorem yn3 {h:Hist} {n:Int} (hc:q6 h≠0):ovC h n=q6 h∧ovO h n= []:=by
 have e:ovC h n=q6 h:=by rw [ovC,if_neg hc]
 exact ⟨e,by rw [ovO,e,if_neg hc]⟩
theorem ydh {h:Hist} {n:Int} (hc:q6 h=0) (hn:¬OvB h n):ovC h n=2∧ovO h n= []:=by
 have e:ovC h n=2:=by rw [ovC,if_pos hc,if_neg fun q=>hn (zxh.1 q)]
 exact ⟨e,by rw [ovO,e];rfl⟩
theorem ylt {h:Hist} {a:Nat} (hc:q6 h=0) (ha:a < h.evs.length) (hn:OvB h (a:Int)):ovC h (a:Int)=0∧ovO h (a:Int)=yje h h.evs[a] a:=by
 have e:ovC h (a:Int)=0:=by rw [ovC,if_pos hc,if_pos (zxh.2 hn)]
 refine ⟨e,?_⟩
 rw [ovO,if_pos e,show ((a:Nat):Int).toNat=a from rfl,List.getElem?_eq_getElem ha]
theorem yno {d c:Conf} (q:zic d c=true):d=c:=by rw [zll] at q;exact oT q
theorem ynn {d c:Conf} (q:zic d c=false):¬d=c:=by rw [zll] at q;exact oF q
theorem yfe (h:Hist) (la:Lim 4611686018427387904 h) (rO:Nat) (oK:Obj) (hK:KO oK) (n:Int):y8 Tryz.prog 35 [.agg (y9 h),iv n] (.glob 2 156 y2:: .glob 4 305 y3:: .glob 5 308 z8:: .glob 3 246 w6:: .glob 1 175 zb2:: .glob 0 171 [mpv rO]:: .obj rO oK:: []) (fun r h'=>∃s:SV,h'= .row s.v 1 3 ((ovO h n).map za9):: .glob 2 156 y2:: .glob 4 305 y3:: .glob 5 308 z8:: .glob 3 246 w6:: .glob 1 175 zb2:: .glob 0 171 [mpv rO]:: .obj rO oK:: []∧r= .tup [.v s.v,iv (ovC h n)]):=by
 refine z6 Tryz.func35 rfl rfl rfl ?_
 refine rn ?_;refine z7 rfl (w7 rfl rfl rfl fun b2=> ?_)
 refine q1 ?_;refine q1 ?_;refine v8 (zak ?_)
 refine w8 (y6 ?_)
 refine q1 ?_;refine z7 rfl (q7 rfl rfl (y1.fr1 (y1.of_fun (yme h la rO oK))) rfl ?_)
 rintro _ _ ⟨_,rfl,⟨hc,rc,rl,rk,rg,rfl,rfl⟩|⟨hc,rfl,rfl⟩⟩
 ·refine rn ?_;refine z7 rfl (y7 rfl fun b6=> ?_)
  refine rn ?_;refine y0 rfl (fun hc16=> ?_) (fun hc16=> ?_)
  ·first|cases hc16|exact absurd hc16 (by decide)|(exfalso;simp_all;done)
  ·refine rn ?_;refine j4 33 rfl ?_
   refine rn ?_;refine zcu (fun hg4_2=> ?_) (fun hg4_2=> ?_)
   ·refine rn ?_;refine y0 rfl (fun hc56=> ?_) (fun hc56=> ?_)
    ·first
     |have hn:=ybb (h:=h) (oT hg4_2)
     |(have q:=oT hg4_9;rw [oM] at q;have hn:=yba (h:=h) q)
     |(have q:zf6 h.evs h.evs[a].t 5=false:=(by rw [←zel];simpa using hg4_21);have hn:=ya9 ha q)
     |(have q3:h.evs[a].kind≠3:=(by simpa using hg4_29);have q4:h.evs[a].kind≠4:=(by simpa using hc56);have hn:=ya8 ha q3 q4)
     refine rn ?_;exact zbj rfl rfl (.trans (.drop [_,_,_,_,_,_] _ _) (zag 1 3 _)) ⟨⟨none,0,0⟩,by rw [(ydh hc hn).2];rfl,by rw [(ydh hc hn).1];rfl⟩
    ·first|cases hc56|exact absurd hc56 (by decide)|(exfalso;simp_all;done)
   ·refine rn ?_;refine zcu (fun hg4_9=> ?_) (fun hg4_9=> ?_)
    ·refine rn ?_;refine y0 rfl (fun hc56=> ?_) (fun hc56=> ?_)
     ·first
      |have hn:=ybb (h:=h) (oT hg4_2)
      |(have q:=oT hg4_9;rw [oM] at q;have hn:=yba (h:=h) q)
      |(have q:zf6 h.evs h.evs[a].t 5=false:=(by rw [←zel];simpa using hg4_21);have hn:=ya9 ha q)
      |(have q3:h.evs[a].kind≠3:=(by simpa using hg4_29);have q4:h.evs[a].kind≠4:=(by simpa using hc56);have hn:=ya8 ha q3 q4)
      refine rn ?_;exact zbj rfl rfl (.trans (.drop [_,_,_,_,_,_] _ _) (zag 1 3 _)) ⟨⟨none,0,0⟩,by rw [(ydh hc hn).2];rfl,by rw [(ydh hc hn).1];rfl⟩
     ·first|cases hc56|exact absurd hc56 (by decide)|(exfalso;simp_all;done)
    ·have h0:0≤n:=by have q:=oF hg4_2;omega
     have h1:n < h.evs.length:=by have q:=oF hg4_9;rw [oM] at q;omega
     obtain ⟨a,rfl⟩:∃a:Nat,n=(a:Int):=⟨n.toNat,by omega⟩
     have ha:a < h.evs.length:=by omega
     have ra:=zbn (f:=evR) ha
     refine dq rfl rfl qrA ?_;refine dq rfl rfl qrA ?_;refine dq rfl rfl qrA ?_;refine dq rfl rfl qrA ?_;refine dq rfl rfl qrA ?_;refine dq rfl rfl qrA ?_;refine dq rfl rfl qrA ?_;refine dq rfl rfl qrA ?_;refine dq rfl rfl (za0 (enc:=intK) (k:=h.evs[a].t) false rfl rfl) ?_
     refine rn ?_;refine zcu (fun hg4_21=> ?_) (fun hg4_21=> ?_)
     ·refine rn ?_;refine y0 rfl (fun hc56=> ?_) (fun hc56=> ?_)
      ·first
       |have hn:=ybb (h:=h) (oT hg4_2)
       |(have q:=oT hg4_9;rw [oM] at q;have hn:=yba (h:=h) q)
       |(have q:zf6 h.evs h.evs[a].t 5=false:=(by rw [←zel];simpa using hg4_21);have hn:=ya9 ha q)
       |(have q3:h.evs[a].kind≠3:=(by simpa using hg4_29);have q4:h.evs[a].kind≠4:=(by simpa using hc56);have hn:=ya8 ha q3 q4)
       refine rn ?_;exact zbj rfl rfl (.trans (.drop [_,_,_,_,_,_] _ _) (zag 1 3 _)) ⟨⟨none,0,0⟩,by rw [(ydh hc hn).2];rfl,by rw [(ydh hc hn).1];rfl⟩
      ·first|cases hc56|exact absurd hc56 (by decide)|(exfalso;simp_all;done)
     ·refine rn ?_;refine zcu (fun hg4_29=> ?_) (fun hg4_29=> ?_)
      ·refine rn ?_;refine y0 rfl (fun hc56=> ?_) (fun hc56=> ?_)
       ·first
        |have hn:=ybb (h:=h) (oT hg4_2)
        |(have q:=oT hg4_9;rw [oM] at q;have hn:=yba (h:=h) q)
        |(have q:zf6 h.evs h.evs[a].t 5=false:=(by rw [←zel];simpa using hg4_21);have hn:=ya9 ha q)
        |(have q3:h.evs[a].kind≠3:=(by simpa using hg4_29);have q4:h.evs[a].kind≠4:=(by simpa using hc56);have hn:=ya8 ha q3 q4)
        refine rn ?_;exact zbj rfl rfl (.trans (.drop [_,_,_,_,_,_] _ _) (zag 1 3 _)) ⟨⟨none,0,0⟩,by rw [(ydh hc hn).2];rfl,by rw [(ydh hc hn).1];rfl⟩
       ·have hm:zf6 h.evs h.evs[a].t 5=true:=by rw [←zel];simpa using hg4_21
        have hkd:h.evs[a].kind=3∨h.evs[a].kind=4:=by
         first
         |(have q:h.evs[a].kind=3:=(by simpa using hg4_29);exact .inl q)
         |(have q:h.evs[a].kind=4:=(by simpa using hc56);exact .inr q)
        have hn:OvB h (a:Int):=⟨a,rfl,ha,hm,hkd⟩
        have hfl:=ztm hc ha
        refine rn ?_;refine z7 rfl (y7 rfl fun b8=> ?_)
        refine rn ?_;refine z7 rfl (q7 rfl rfl (y1.of_fun (ydf h a rc rl rk rg _)) rfl ?_)
        rintro _ _ ⟨ba,bp,rfl,rfl⟩
        refine rn ?_;refine zfi (s':=⟨[(59,.fn (.func 134) [] [pZ bp,pZ ba]),(8,pZ b8)],.box ba 3 [iv (a:Nat)]:: .box bp 119 (rwP h rc rl rk rg):: .box b8 29 [.v (⟨none,0,0⟩:SV).v]:: .row (⟨none,0,0⟩:SV).v 1 3 ((([]:List Conf).map Conf.t).map za9):: .box b6 119 (rwP h rc rl rk rg):: .box b2 28 (y9 h)::rgR rg []::rkS h rk::zbt h rl::rcR h rc:: .glob 2 156 y2:: .glob 4 305 y3:: .glob 5 308 z8:: .glob 3 246 w6:: .glob 1 175 zb2:: .glob 0 171 [mpv rO]:: .obj rO oK:: [],[]⟩) (v6 (za1 1 3) (v6 (zas ((pt1 _ _ _).trans (.cons _ ((pt1 _ _ _).trans (.cons _ (pt1 _ _ _)))))) es)) ?_
        refine zjz (fun pend h''=>pend=none∧∃(s:SV) (M:List ((Int×Int)×List Int)),h''= .box ba 3 [iv (a:Nat)]:: .box bp 119 (rwP h rc rl rk rg)::rgR rg M::rkS h rk::zbt h rl::rcR h rc:: .glob 2 156 y2:: .glob 4 305 y3:: .glob 5 308 z8:: .glob 3 246 w6:: .glob 1 175 zb2:: .glob 0 171 [mpv rO]:: .obj rO oK:: .box b8 29 [.v s.v]:: .row s.v 1 3 (((zf7 h h.evs[a] a).map Conf.t).map za9):: .box b6 119 (rwP h rc rl rk rg):: .box b2 28 (y9 h):: []) rfl (fun fn l q lp hlp=> ?_) (fun q h'' hK'=> ?_) (fun q h'' cc hK'=> ?_)
        ·suffices hy:∀pre d rest (s:SV) M,zf7 h h.evs[a] a=pre++d::rest→True→zei h M→y1 Tryz.prog (yv l) [.agg (zaa d)] (.box ba 3 [iv (a:Nat)]:: .box bp 119 (rwP h rc rl rk rg)::rgR rg M::rkS h rk::zbt h rl::rcR h rc:: .glob 2 156 y2:: .glob 4 305 y3:: .glob 5 308 z8:: .glob 3 246 w6:: .glob 1 175 zb2:: .glob 0 171 [mpv rO]:: .obj rO oK::lp .ready none:: .defs q:: .box b8 29 [.v s.v]:: .row s.v 1 3 ((pre.map Conf.t).map za9):: .box b6 119 (rwP h rc rl rk rg):: .box b2 28 (y9 h):: []) (fun r h'=>∃s':SV,(r=bv true∧True∧h'= .box ba 3 [iv (a:Nat)]:: .box bp 119 (rwP h rc rl rk rg)::rgR rg M::rkS h rk::zbt h rl::rcR h rc:: .glob 2 156 y2:: .glob 4 305 y3:: .glob 5 308 z8:: .glob 3 246 w6:: .glob 1 175 zb2:: .glob 0 171 [mpv rO]:: .obj rO oK::lp .ready none:: .defs q:: .box b8 29 [.v s'.v]:: .row s'.v 1 3 (((pre++ [d]).map Conf.t).map za9):: .box b6 119 (rwP h rc rl rk rg):: .box b2 28 (y9 h):: [])∨(r=bv false∧False∧h'= .box ba 3 [iv (a:Nat)]:: .box bp 119 (rwP h rc rl rk rg)::rgR rg M::rkS h rk::zbt h rl::rcR h rc:: .glob 2 156 y2:: .glob 4 305 y3:: .glob 5 308 z8:: .glob 3 246 w6:: .glob 1 175 zb2:: .glob 0 171 [mpv rO]:: .obj rO oK:: [])) by
          refine y8.mono (y8.perm ((pt2 _ _ _ _).trans (.cons _ ((pt2 _ _ _ _).trans (.cons _ ((pt6 _ _ _ _ _ _ _ _).trans (.cons _ ((pt6 _ _ _ _ _ _ _ _).trans (.cons _ ((pt6 _ _ _ _ _ _ _ _).trans (.cons _ ((pt6 _ _ _ _ _ _ _ _).trans (.cons _ ((pt6 _ _ _ _ _ _ _ _).trans (.cons _ ((pt6 _ _ _ _ _ _ _ _).trans (.cons _ ((pt6 _ _ _ _ _ _ _ _).trans (.cons _ ((pt6 _ _ _ _ _ _ _ _).trans (.cons _ ((pt6 _ _ _ _ _ _ _ _).trans (.cons _ ((pt6 _ _ _ _ _ _ _ _).trans (.cons _ (pt6 _ _ _ _ _ _ _ _))))))))))))))))))))))))) (yde h la hc a ha (yv l) bp ba rc rl rk rg [] (zkl h) rO oK hK (fun _ (_:SV)=>True) (fun _=>False) (fun pre (s:SV)=>lp .ready none:: .defs q:: .box b8 29 [.v s.v]:: .row s.v 1 3 ((pre.map Conf.t).map za9):: .box b6 119 (rwP h rc rl rk rg):: .box b2 28 (y9 h):: []) (fun _=> []) ⟨none,0,0⟩ trivial hy)) ?_
          rintro _ _ ⟨s,M,hM,⟨-,rfl⟩|⟨hF,_⟩⟩
          ·exact ⟨none,.ready,_,((yfx _ _ _ _ _ _ _ _ _ _ _ _ _ _ _).trans (.cons _ (yfx _ _ _ _ _ _ _ _ _ _ _ _ _ _ _))),by simp,rfl,s,M,rfl⟩
          ·exact hF.elim
         intro pre d rest s M hL _ hM
         have hlen:pre.length < (zf7 h h.evs[a] a).length:=by rw [hL,List.length_append,List.length_cons];omega
         refine y1.perm (yfx _ _ _ _ _ _ _ _ _ _ _ _ _ _ _) (y1.ventE ?_)
         refine zcm hlp rfl rfl ?_
         refine rn ?_;refine z7 rfl (y7 rfl fun b9=> ?_)
         refine rn ?_;refine ⟨[(9,pZ b9),(8,pZ b8)],.box b9 41 (zaa d):: .box ba 3 [iv (a:Nat)]:: .box bp 119 (rwP h rc rl rk rg)::rgR rg M::rkS h rk::zbt h rl::rcR h rc:: .glob 2 156 y2:: .glob 4 305 y3:: .glob 5 308 z8:: .glob 3 246 w6:: .glob 1 175 zb2:: .glob 0 171 [mpv rO]:: .obj rO oK:: .defs q:: .box b8 29 [.v s.v]:: .row s.v 1 3 ((pre.map Conf.t).map za9):: .box b6 119 (rwP h rc rl rk rg):: .box b2 28 (y9 h):: [],v6 (zas (pt1 _ _ _)) es,?_⟩
         refine rn ?_;refine qv rfl rfl (w9 rfl rfl) ?_
         refine z7 rfl (j6 rfl rfl (by simp only [oM,List.length_cons,List.length_nil];omega) rfl (fun s65=> ?_) (zit [d.t]))
         refine zam s65 fun sv hsv=> ?_
         subst hsv
         refine rn ?_;exact zcf (.refl _) ⟨_,_,.trans (.perm ((pt1 _ _ _).trans (.cons _ ((pt1 _ _ _).trans (.cons _ ((pt1 _ _ _).trans (.cons _ ((pt1 _ _ _).trans (.cons _ ((pt1 _ _ _).trans (.cons _ ((pt1 _ _ _).trans (.cons _ ((pt1 _ _ _).trans (.cons _ ((pt1 _ _ _).trans (.cons _ ((pt1 _ _ _).trans (.cons _ ((pt1 _ _ _).trans (.cons _ ((pt1 _ _ _).trans (.cons _ ((pt1 _ _ _).trans (.cons _ ((pt1 _ _ _).trans (.cons _ (pt1 _ _ _))))))))))))))))))))))))))) _) (.drop [_] _ _),sv,.inl ⟨rfl,trivial,by rw [List.map_append,List.map_append];rfl⟩⟩
        ·obtain ⟨_,s,M,rfl⟩:=hK'
         refine rn ?_;refine z7 rfl (q7 rfl rfl (zey (y1.of_fun (zwf s _ (by rw [oM];omega)))) rfl ?_)
         rintro _ _ ⟨rfl,rfl⟩
         refine rn ?_;refine z7 rfl (q7 rfl rfl (zf9 (y1.of_fun (zyy s _ (by rw [(zcc _).length_eq,oM];omega)))) rfl ?_)
         rintro _ _ ⟨s',rfl,rfl⟩
         refine rn ?_;exact zfy (.refl _) (.cons _ _ _ _ (.tmp _ _ rfl) (.cons _ _ _ _ (.tmp _ _ rfl) .nil)) (.trans (.perm (.cons _ (.cons _ (.cons _ (.cons _ (.cons _ (.cons _ ((pt7 _ _ _ _ _ _ _ _ _).trans (.cons _ ((pt8 _ _ _ _ _ _ _ _ _ _).trans (.cons _ ((pt8 _ _ _ _ _ _ _ _ _ _).trans (.cons _ (pt7 _ _ _ _ _ _ _ _ _))))))))))))) _) (.drop [_,_,_,_,_,_,_,_,_] _ _)) ⟨s',by rw [(ylt hc ha hn).2];rfl,by rw [(ylt hc ha hn).1];rfl⟩
        ·obtain ⟨hc',_⟩:=hK'
         exact absurd hc' (by simp)
      ·refine rn ?_;refine y0 rfl (fun hc56=> ?_) (fun hc56=> ?_)
       ·first|cases hc56|exact absurd hc56 (by decide)|(exfalso;simp_all;done)
       ·have hm:zf6 h.evs h.evs[a].t 5=true:=by rw [←zel];simpa using hg4_21
        have hkd:h.evs[a].kind=3∨h.evs[a].kind=4:=by
         first
         |(have q:h.evs[a].kind=3:=(by simpa using hg4_29);exact .inl q)
         |(have q:h.evs[a].kind=4:=(by simpa using hc56);exact .inr q)
        have hn:OvB h (a:Int):=⟨a,rfl,ha,hm,hkd⟩
        have hfl:=ztm hc ha
        refine rn ?_;refine z7 rfl (y7 rfl fun b8=> ?_)
        refine rn ?_;refine z7 rfl (q7 rfl rfl (y1.of_fun (ydf h a rc rl rk rg _)) rfl ?_)
        rintro _ _ ⟨ba,bp,rfl,rfl⟩
        refine rn ?_;refine zfi (s':=⟨[(59,.fn (.func 134) [] [pZ bp,pZ ba]),(8,pZ b8)],.box ba 3 [iv (a:Nat)]:: .box bp 119 (rwP h rc rl rk rg):: .box b8 29 [.v (⟨none,0,0⟩:SV).v]:: .row (⟨none,0,0⟩:SV).v 1 3 ((([]:List Conf).map Conf.t).map za9):: .box b6 119 (rwP h rc rl rk rg):: .box b2 28 (y9 h)::rgR rg []::rkS h rk::zbt h rl::rcR h rc:: .glob 2 156 y2:: .glob 4 305 y3:: .glob 5 308 z8:: .glob 3 246 w6:: .glob 1 175 zb2:: .glob 0 171 [mpv rO]:: .obj rO oK:: [],[]⟩) (v6 (za1 1 3) (v6 (zas ((pt1 _ _ _).trans (.cons _ ((pt1 _ _ _).trans (.cons _ (pt1 _ _ _)))))) es)) ?_
        refine zjz (fun pend h''=>pend=none∧∃(s:SV) (M:List ((Int×Int)×List Int)),h''= .box ba 3 [iv (a:Nat)]:: .box bp 119 (rwP h rc rl rk rg)::rgR rg M::rkS h rk::zbt h rl::rcR h rc:: .glob 2 156 y2:: .glob 4 305 y3:: .glob 5 308 z8:: .glob 3 246 w6:: .glob 1 175 zb2:: .glob 0 171 [mpv rO]:: .obj rO oK:: .box b8 29 [.v s.v]:: .row s.v 1 3 (((zf7 h h.evs[a] a).map Conf.t).map za9):: .box b6 119 (rwP h rc rl rk rg):: .box b2 28 (y9 h):: []) rfl (fun fn l q lp hlp=> ?_) (fun q h'' hK'=> ?_) (fun q h'' cc hK'=> ?_)
        ·suffices hy:∀pre d rest (s:SV) M,zf7 h h.evs[a] a=pre++d::rest→True→zei h M→y1 Tryz.prog (yv l) [.agg (zaa d)] (.box ba 3 [iv (a:Nat)]:: .box bp 119 (rwP h rc rl rk rg)::rgR rg M::rkS h rk::zbt h rl::rcR h rc:: .glob 2 156 y2:: .glob 4 305 y3:: .glob 5 308 z8:: .glob 3 246 w6:: .glob 1 175 zb2:: .glob 0 171 [mpv rO]:: .obj rO oK::lp .ready none:: .defs q:: .box b8 29 [.v s.v]:: .row s.v 1 3 ((pre.map Conf.t).map za9):: .box b6 119 (rwP h rc rl rk rg):: .box b2 28 (y9 h):: []) (fun r h'=>∃s':SV,(r=bv true∧True∧h'= .box ba 3 [iv (a:Nat)]:: .box bp 119 (rwP h rc rl rk rg)::rgR rg M::rkS h rk::zbt h rl::rcR h rc:: .glob 2 156 y2:: .glob 4 305 y3:: .glob 5 308 z8:: .glob 3 246 w6:: .glob 1 175 zb2:: .glob 0 171 [mpv rO]:: .obj rO oK::lp .ready none:: .defs q:: .box b8 29 [.v s'.v]:: .row s'.v 1 3 (((pre++ [d]).map Conf.t).map za9):: .box b6 119 (rwP h rc rl rk rg):: .box b2 28 (y9 h):: [])∨(r=bv false∧False∧h'= .box ba 3 [iv (a:Nat)]:: .box bp 119 (rwP h rc rl rk rg)::rgR rg M::rkS h rk::zbt h rl::rcR h rc:: .glob 2 156 y2:: .glob 4 305 y3:: .glob 5 308 z8:: .glob 3 246 w6:: .glob 1 175 zb2:: .glob 0 171 [mpv rO]:: .obj rO oK:: [])) by
          refine y8.mono (y8.perm ((pt2 _ _ _ _).trans (.cons _ ((pt2 _ _ _ _).trans (.cons _ ((pt6 _ _ _ _ _ _ _ _).trans (.cons _ ((pt6 _ _ _ _ _ _ _ _).trans (.cons _ ((pt6 _ _ _ _ _ _ _ _).trans (.cons _ ((pt6 _ _ _ _ _ _ _ _).trans (.cons _ ((pt6 _ _ _ _ _ _ _ _).trans (.cons _ ((pt6 _ _ _ _ _ _ _ _).trans (.cons _ ((pt6 _ _ _ _ _ _ _ _).trans (.cons _ ((pt6 _ _ _ _ _ _ _ _).trans (.cons _ ((pt6 _ _ _ _ _ _ _ _).trans (.cons _ ((pt6 _ _ _ _ _ _ _ _).trans (.cons _ (pt6 _ _ _ _ _ _ _ _))))))))))))))))))))))))) (yde h la hc a ha (yv l) bp ba rc rl rk rg [] (zkl h) rO oK hK (fun _ (_:SV)=>True) (fun _=>False) (fun pre (s:SV)=>lp .ready none:: .defs q:: .box b8 29 [.v s.v]:: .row s.v 1 3 ((pre.map Conf.t).map za9):: .box b6 119 (rwP h rc rl rk rg):: .box b2 28 (y9 h):: []) (fun _=> []) ⟨none,0,0⟩ trivial hy)) ?_
          rintro _ _ ⟨s,M,hM,⟨-,rfl⟩|⟨hF,_⟩⟩
          ·exact ⟨none,.ready,_,((yfx _ _ _ _ _ _ _ _ _ _ _ _ _ _ _).trans (.cons _ (yfx _ _ _ _ _ _ _ _ _ _ _ _ _ _ _))),by simp,rfl,s,M,rfl⟩
          ·exact hF.elim
         intro pre d rest s M hL _ hM
         have hlen:pre.length < (zf7 h h.evs[a] a).length:=by rw [hL,List.length_append,List.length_cons];omega
         refine y1.perm (yfx _ _ _ _ _ _ _ _ _ _ _ _ _ _ _) (y1.ventE ?_)
         refine zcm hlp rfl rfl ?_
         refine rn ?_;refine z7 rfl (y7 rfl fun b9=> ?_)
         refine rn ?_;refine ⟨[(9,pZ b9),(8,pZ b8)],.box b9 41 (zaa d):: .box ba 3 [iv (a:Nat)]:: .box bp 119 (rwP h rc rl rk rg)::rgR rg M::rkS h rk::zbt h rl::rcR h rc:: .glob 2 156 y2:: .glob 4 305 y3:: .glob 5 308 z8:: .glob 3 246 w6:: .glob 1 175 zb2:: .glob 0 171 [mpv rO]:: .obj rO oK:: .defs q:: .box b8 29 [.v s.v]:: .row s.v 1 3 ((pre.map Conf.t).map za9):: .box b6 119 (rwP h rc rl rk rg):: .box b2 28 (y9 h):: [],v6 (zas (pt1 _ _ _)) es,?_⟩
         refine rn ?_;refine qv rfl rfl (w9 rfl rfl) ?_
         refine z7 rfl (j6 rfl rfl (by simp only [oM,List.length_cons,List.length_nil];omega) rfl (fun s65=> ?_) (zit [d.t]))
         refine zam s65 fun sv hsv=> ?_
         subst hsv
         refine rn ?_;exact zcf (.refl _) ⟨_,_,.trans (.perm ((pt1 _ _ _).trans (.cons _ ((pt1 _ _ _).trans (.cons _ ((pt1 _ _ _).trans (.cons _ ((pt1 _ _ _).trans (.cons _ ((pt1 _ _ _).trans (.cons _ ((pt1 _ _ _).trans (.cons _ ((pt1 _ _ _).trans (.cons _ ((pt1 _ _ _).trans (.cons _ ((pt1 _ _ _).trans (.cons _ ((pt1 _ _ _).trans (.cons _ ((pt1 _ _ _).trans (.cons _ ((pt1 _ _ _).trans (.cons _ ((pt1 _ _ _).trans (.cons _ (pt1 _ _ _))))))))))))))))))))))))))) _) (.drop [_] _ _),sv,.inl ⟨rfl,trivial,by rw [List.map_append,List.map_append];rfl⟩⟩
        ·obtain ⟨_,s,M,rfl⟩:=hK'
         refine rn ?_;refine z7 rfl (q7 rfl rfl (zey (y1.of_fun (zwf s _ (by rw [oM];omega)))) rfl ?_)
         rintro _ _ ⟨rfl,rfl⟩
         refine rn ?_;refine z7 rfl (q7 rfl rfl (zf9 (y1.of_fun (zyy s _ (by rw [(zcc _).length_eq,oM];omega)))) rfl ?_)
         rintro _ _ ⟨s',rfl,rfl⟩
         refine rn ?_;exact zfy (.refl _) (.cons _ _ _ _ (.tmp _ _ rfl) (.cons _ _ _ _ (.tmp _ _ rfl) .nil)) (.trans (.perm (.cons _ (.cons _ (.cons _ (.cons _ (.cons _ (.cons _ ((pt7 _ _ _ _ _ _ _ _ _).trans (.cons _ ((pt8 _ _ _ _ _ _ _ _ _ _).trans (.cons _ ((pt8 _ _ _ _ _ _ _ _ _ _).trans (.cons _ (pt7 _ _ _ _ _ _ _ _ _))))))))))))) _) (.drop [_,_,_,_,_,_,_,_,_] _ _)) ⟨s',by rw [(ylt hc ha hn).2];rfl,by rw [(ylt hc ha hn).1];rfl⟩
        ·obtain ⟨hc',_⟩:=hK'
         exact absurd hc' (by simp)
 ·refine rn ?_;refine z7 rfl (y7 rfl fun b6=> ?_)
  refine rn ?_;refine y0 rfl (fun hc16=> ?_) (fun hc16=> ?_)
  ·refine rn ?_;exact zbj rfl rfl (.trans (.drop [_,_] _ _) (zag 1 3 _)) ⟨⟨none,0,0⟩,by rw [(yn3 hc).2];rfl,by rw [(yn3 hc).1];rfl⟩
  ·first|cases hc16|exact absurd hc16 (by decide)|(exfalso;simp_all;done)
theorem rwOver (h:Hist) (la:Lim 4611686018427387904 h) (rO:Nat) (oK:Obj) (hK:KO oK) (n:Int):y8 Tryz.prog 35 [.agg (y9 h),iv n] (.glob 2 156 y2:: .glob 4 305 y3:: .glob 5 308 z8:: .glob 3 246 w6:: .glob 1 175 zb2:: .glob 0 171 [mpv rO]:: .obj rO oK:: []) (fun r h'=>h'= .glob 2 156 y2:: .glob 4 305 y3:: .glob 5 308 z8:: .glob 3 246 w6:: .glob 1 175 zb2:: .glob 0 171 [mpv rO]:: .obj rO oK:: []∧r= .tup [za6 (ovO h n),iv (ovC h n)]):=(yfe h la rO oK hK n).ventR (by rintro _ _ ⟨s,rfl,rfl⟩;exact ⟨_,_,zay [] [_],rfl,rfl⟩)
def zgx (h:Hist):List Conf:=if q6 h=0 then zb1 (zdd h) else []
def zj2 (h:Hist):List Conf:=if q6 h=0 then zb1 (zdr h) else []
theorem zop {h:Hist} (hc:q6 h=0):zgx h=zb1 (zdd h):=by rw [zgx,if_pos hc]
theorem zvv {h:Hist} (hc:q6 h≠0):zgx h= []:=by rw [zgx,if_neg hc]
theorem zoo {h:Hist} (hc:q6 h=0):zj2 h=zb1 (zdr h):=by rw [zj2,if_pos hc]
theorem zvr {h:Hist} (hc:q6 h≠0):zj2 h= []:=by rw [zj2,if_neg hc]
def wrF (h:Hist) (k:Nat):Ev→Nat→List Conf:=if k=0 then zb6 h else zdk h
def wrJ (h:Hist) (c:Conf):Bool:=decide (q6 h=0) && (decide (c∈zdd h)||decide (c∈zdr h))
theorem yl4 {h:Hist} {c:Conf} (hc:q6 h≠0):wrJ h c=false:=by rw [wrJ,decide_eq_false hc];rfl
theorem yel {h:Hist} {c:Conf} {k:Nat} (hc:q6 h=0) (hk:k < 2) (hm:c∈zae h (wrF h k) h.evs.length):wrJ h c=true:=by
 rw [wrJ,decide_eq_true hc,Bool.true_and]
 rcases (show k=0∨k=1 by omega) with rfl|rfl
 ·have hm:c∈zdd h:=hm
  rw [decide_eq_true hm];rfl
 ·have hm:c∈zdr h:=hm
  rw [decide_eq_true hm,Bool.or_true]
theorem yl3 {h:Hist} {c:Conf} (hm:∀i,i < 2→¬c∈zae h (wrF h i) h.evs.length):wrJ h c=false:=by
 have h0:¬c∈zdd h:=hm 0 (by omega)
 have h1:¬c∈zdr h:=hm 1 (by omega)
 rw [wrJ,decide_eq_false h0,decide_eq_false h1,Bool.or_false,Bool.and_false]
theorem ygl {p:Nat→Prop} {k:Nat} (h:∀i,i < k→p i) (hk:p k):∀i,i < k+1→p i:=fun i hi=>by
 rcases (show i < k∨i=k by omega) with q|rfl
 ·exact h i q
 ·exact hk
theorem zvt (h:Hist) (la:Lim 4611686018427387904 h):y8 Tryz.prog 53 [.agg (y9 h)] (.glob 2 156 y2:: .glob 4 305 y3:: .glob 5 308 z8:: .glob 3 246 w6:: []) (fun r h'=>∃s:SV,h'= .row s.v 7 41 ((zgx h).map zaa):: .glob 2 156 y2:: .glob 4 305 y3:: .glob 5 308 z8:: .glob 3 246 w6:: []∧r= .tup [.v s.v,iv (q6 h)]):=by
 refine z6 Tryz.func53 rfl rfl rfl ?_
 refine rn ?_;refine z7 rfl (w7 rfl rfl rfl fun b1=> ?_)
 refine q1 ?_;refine q1 ?_;refine v8 (zak ?_)
 refine w8 (y6 ?_)
 refine q1 ?_;refine z7 rfl (q7 rfl rfl (y1.fr1 (y1.of_fun (yl2 h la))) rfl ?_)
 rintro _ _ ⟨_,rfl,⟨hc,bl,rd,rf,rk,rg,rfl,rfl⟩|⟨hc,rfl,rfl⟩⟩
 ·refine rn ?_;refine y0 rfl (fun hc12=> ?_) (fun hc12=> ?_)
  ·first|cases hc12|exact absurd hc12 (by decide)|(exfalso;simp_all;done)
  ·refine rn ?_;refine z7 rfl (q7 rfl rfl (y1.of_fun (zvy bl 114 _)) rfl ?_)
   rintro _ _ ⟨bE,bL,rfl,rfl⟩
   refine z7 rfl (q7 rfl rfl (y1.perm (pt2 _ _ _ _) (y1.fr1 (y1.of_fun (zsm h la 114 158 (zb6 h) bl rd rf rk rg (zmh h la hc bl rd rf rk rg) bL bE (zx8 (zat.1 hc)) (zpn hc))))) rfl ?_)
   rintro _ _ ⟨_,rfl,s,M,rfl,rfl⟩
   refine rn ?_;exact zbj rfl rfl (.trans (.perm (.cons _ ((pt1 _ _ _).trans (.cons _ ((pt1 _ _ _).trans (.cons _ ((pt1 _ _ _).trans (.cons _ ((pt1 _ _ _).trans (.cons _ ((pt1 _ _ _).trans (.cons _ ((pt1 _ _ _).trans (.cons _ (pt1 _ _ _)))))))))))))) _) (.drop [_,_,_,_,_,_,_,_] _ _)) ⟨s,by rw [zop hc];rfl,by rw [hc];rfl⟩
 ·refine rn ?_;refine y0 rfl (fun hc12=> ?_) (fun hc12=> ?_)
  ·refine rn ?_;exact zbj rfl rfl (.trans (.drop [_] _ _) (zag 7 41 _)) ⟨⟨none,0,0⟩,by rw [zvv hc];rfl,rfl⟩
  ·first|cases hc12|exact absurd hc12 (by decide)|(exfalso;simp_all;done)
theorem zvu (h:Hist) (la:Lim 4611686018427387904 h):y8 Tryz.prog 53 [.agg (y9 h)] (.glob 2 156 y2:: .glob 4 305 y3:: .glob 5 308 z8:: .glob 3 246 w6:: []) (fun r h'=>h'= .glob 2 156 y2:: .glob 4 305 y3:: .glob 5 308 z8:: .glob 3 246 w6:: []∧r= .tup [zjt (zgx h),iv (q6 h)]):=(zvt h la).ventR (by rintro _ _ ⟨s,rfl,rfl⟩;exact ⟨_,_,zay [] [_],rfl,rfl⟩)
theorem zue (h:Hist) (la:Lim 4611686018427387904 h):y8 Tryz.prog 54 [.agg (y9 h)] (.glob 2 156 y2:: .glob 4 305 y3:: .glob 5 308 z8:: .glob 3 246 w6:: []) (fun r h'=>∃s:SV,h'= .row s.v 7 41 ((zj2 h).map zaa):: .glob 2 156 y2:: .glob 4 305 y3:: .glob 5 308 z8:: .glob 3 246 w6:: []∧r= .tup [.v s.v,iv (q6 h)]):=by
 refine z6 Tryz.func54 rfl rfl rfl ?_
 refine rn ?_;refine z7 rfl (w7 rfl rfl rfl fun b1=> ?_)
 refine q1 ?_;refine q1 ?_;refine v8 (zak ?_)
 refine w8 (y6 ?_)
 refine q1 ?_;refine z7 rfl (q7 rfl rfl (y1.fr1 (y1.of_fun (yl2 h la))) rfl ?_)
 rintro _ _ ⟨_,rfl,⟨hc,bl,rd,rf,rk,rg,rfl,rfl⟩|⟨hc,rfl,rfl⟩⟩
 ·refine rn ?_;refine y0 rfl (fun hc12=> ?_) (fun hc12=> ?_)
  ·first|cases hc12|exact absurd hc12 (by decide)|(exfalso;simp_all;done)
  ·refine rn ?_;refine z7 rfl (q7 rfl rfl (y1.of_fun (zvy bl 115 _)) rfl ?_)
   rintro _ _ ⟨bE,bL,rfl,rfl⟩
   refine z7 rfl (q7 rfl rfl (y1.perm (pt2 _ _ _ _) (y1.fr1 (y1.of_fun (zsm h la 115 160 (zdk h) bl rd rf rk rg (zmg h la hc bl rd rf rk rg) bL bE (zwr (zat.1 hc)) (zo2 hc))))) rfl ?_)
   rintro _ _ ⟨_,rfl,s,M,rfl,rfl⟩
   refine rn ?_;exact zbj rfl rfl (.trans (.perm (.cons _ ((pt1 _ _ _).trans (.cons _ ((pt1 _ _ _).trans (.cons _ ((pt1 _ _ _).trans (.cons _ ((pt1 _ _ _).trans (.cons _ ((pt1 _ _ _).trans (.cons _ ((pt1 _ _ _).trans (.cons _ (pt1 _ _ _)))))))))))))) _) (.drop [_,_,_,_,_,_,_,_] _ _)) ⟨s,by rw [zoo hc];rfl,by rw [hc];rfl⟩
 ·refine rn ?_;refine y0 rfl (fun hc12=> ?_) (fun hc12=> ?_)
  ·refine rn ?_;exact zbj rfl rfl (.trans (.drop [_] _ _) (zag 7 41 _)) ⟨⟨none,0,0⟩,by rw [zvr hc];rfl,rfl⟩
  ·first|cases hc12|exact absurd hc12 (by decide)|(exfalso;simp_all;done)
theorem zsg (h:Hist) (la:Lim 4611686018427387904 h):y8 Tryz.prog 54 [.agg (y9 h)] (.glob 2 156 y2:: .glob 4 305 y3:: .glob 5 308 z8:: .glob 3 246 w6:: []) (fun r h'=>h'= .glob 2 156 y2:: .glob 4 305 y3:: .glob 5 308 z8:: .glob 3 246 w6:: []∧r= .tup [zjt (zj2 h),iv (q6 h)]):=(zue h la).ventR (by rintro _ _ ⟨s,rfl,rfl⟩;exact ⟨_,_,zay [] [_],rfl,rfl⟩)
def ynd (bl:Nat):List AV:= [.fn (.func 114) [pZ bl] [],.fn (.func 115) [pZ bl] []]
theorem yef (h:Hist) (la:Lim 4611686018427387904 h) (hc:q6 h=0) (bl rd rf rk rg:Nat) {k:Nat} (hk:k < 2):∃ee g,Go.Ab.Enters Tryz.prog g∧zzp h (.fn (.func ee) [pZ bl] []) g (wrF h k) bl rd rf rk rg∧(ynd bl)[k]? =some (.fn (.func ee) [pZ bl] []):=by
 rcases (show k=0∨k=1 by omega) with rfl|rfl
 ·exact ⟨_,_,inferInstance,zmh h la hc bl rd rf rk rg,rfl⟩
 ·exact ⟨_,_,inferInstance,zmg h la hc bl rd rf rk rg,rfl⟩
theorem zvs (h:Hist) (la:Lim 4611686018427387904 h) (c:Conf):y8 Tryz.prog 59 [.agg (y9 h),.agg (zaa c)] (.glob 2 156 y2:: .glob 4 305 y3:: .glob 5 308 z8:: .glob 3 246 w6:: []) (fun r h'=>h'= .glob 2 156 y2:: .glob 4 305 y3:: .glob 5 308 z8:: .glob 3 246 w6:: []∧r=bv (wrJ h c)):=by
 refine z6 Tryz.func59 rfl rfl rfl ?_
 refine rn ?_;refine z7 rfl (w7 rfl rfl rfl fun b2=> ?_)
 refine z7 rfl (w7 rfl rfl rfl fun b3=> ?_)
 refine z7 rfl (y7 rfl fun b4=> ?_)
 refine v8 (zak ?_)
 refine w8 (y6 ?_)
 refine q1 ?_;refine z7 rfl (q7 rfl rfl (y1.fr3 (y1.of_fun (yl2 h la))) rfl ?_)
 rintro _ _ ⟨_,rfl,⟨hc,bl,rd,rf,rk,rg,rfl,rfl⟩|⟨hc,rfl,rfl⟩⟩
 ·refine rn ?_;refine y0 rfl (fun hc16=> ?_) (fun hc16=> ?_)
  ·first|cases hc16|exact absurd hc16 (by decide)|(exfalso;simp_all;done)
  ·refine rn ?_;refine zfc 2 (fun k (z:List ((Int×Int)×List Int)×List Nat)=>(∀i,i < k→¬c∈zae h (wrF h i) h.evs.length)∧zei h z.1) (fun k z=>⟨[(22,iv k),(5,pZ bl),(21,.agg (ynd bl)),(2,pZ b2),(3,pZ b3),(4,pZ b4)],.box b4 4 [bv false]:: .box b3 41 (zaa c):: .box b2 28 (y9 h):: .box bl 202 (wrP h rd rf rk rg)::rgR rg z.1::rkS h rk::zcw h rf::rcR h rd:: .glob 2 156 y2:: .glob 4 305 y3:: .glob 5 308 z8:: .glob 3 246 w6::(z.2.map Res.defs),z.2⟩) ([],[]) ⟨fun i hi=>by omega,zkl h⟩ es ?_
   rintro k ⟨M,dfs⟩ lk ⟨zk,hM⟩
   have zk:∀i,i < k→¬c∈zae h (wrF h i) h.evs.length:=zk
   have hM:zei h M:=hM
   show aw _ _ _ _ _ ⟨[(22,iv k),(5,pZ bl),(21,.agg (ynd bl)),(2,pZ b2),(3,pZ b3),(4,pZ b4)],.box b4 4 [bv false]:: .box b3 41 (zaa c):: .box b2 28 (y9 h):: .box bl 202 (wrP h rd rf rk rg)::rgR rg M::rkS h rk::zcw h rf::rcR h rd:: .glob 2 156 y2:: .glob 4 305 y3:: .glob 5 308 z8:: .glob 3 246 w6::(dfs.map Res.defs),dfs⟩
   refine rn ?_;refine y0 rfl (fun hc23=> ?_) (fun hc23=> ?_)
   ·have hk:k < 2:=by have q:=oT hc23;omega
    obtain ⟨ee,g,hE,hT,hix⟩:=yef h la hc bl rd rf rk rg hk
    refine zbs ?_;refine zak ?_;refine w8 ?_;refine zc8 ?_;refine w8 (y6 ?_)
    refine qq rfl rfl (zbz rfl rfl hk (by rw [Nat.mul_one];exact hix)) ?_
    refine rn ?_;refine z7 rfl (q7 rfl rfl (y1.of_fun (zvy bl ee _)) rfl ?_)
    rintro _ _ ⟨bE,bL,rfl,rfl⟩
    refine rn ?_;refine zjz (fun pend h''=>(pend=none∧(¬c∈(zae h (wrF h k) h.evs.length))∧∃M,zei h M∧h''= .box bE 95 [(.fn (.func ee) [pZ bl] [])]:: .box bL 147 [pZ bl]:: .box bl 202 (wrP h rd rf rk rg)::rgR rg M::rkS h rk::zcw h rf::rcR h rd:: .glob 2 156 y2:: .glob 4 305 y3:: .glob 5 308 z8:: .glob 3 246 w6:: .box b4 4 [bv false]:: .box b3 41 (zaa c):: .box b2 28 (y9 h)::(dfs.map Res.defs))∨(pend=some .ret∧c∈(zae h (wrF h k) h.evs.length)∧∃M,zei h M∧h''= .box bE 95 [(.fn (.func ee) [pZ bl] [])]:: .box bL 147 [pZ bl]:: .box bl 202 (wrP h rd rf rk rg)::rgR rg M::rkS h rk::zcw h rf::rcR h rd:: .glob 2 156 y2:: .glob 4 305 y3:: .glob 5 308 z8:: .glob 3 246 w6:: .box b4 4 [bv true]:: .box b3 41 (zaa c):: .box b2 28 (y9 h)::(dfs.map Res.defs))) rfl (fun fn l q lp hlp=> ?_) (fun q h'' hK'=> ?_) (fun q h'' cc hK'=> ?_)
    ·suffices hy:∀pre d rest (x:Unit) M,(zae h (wrF h k) h.evs.length)=pre++d::rest→(¬c∈pre)→zei h M→y1 Tryz.prog (yv l) [.agg (zaa d)] (.box bE 95 [(.fn (.func ee) [pZ bl] [])]:: .box bL 147 [pZ bl]:: .box bl 202 (wrP h rd rf rk rg)::rgR rg M::rkS h rk::zcw h rf::rcR h rd:: .glob 2 156 y2:: .glob 4 305 y3:: .glob 5 308 z8:: .glob 3 246 w6::lp .ready none:: .defs q:: .box b4 4 [bv false]:: .box b3 41 (zaa c):: .box b2 28 (y9 h)::(dfs.map Res.defs)) (fun r h'=>∃x':Unit,(r=bv true∧(¬c∈pre++ [d])∧h'= .box bE 95 [(.fn (.func ee) [pZ bl] [])]:: .box bL 147 [pZ bl]:: .box bl 202 (wrP h rd rf rk rg)::rgR rg M::rkS h rk::zcw h rf::rcR h rd:: .glob 2 156 y2:: .glob 4 305 y3:: .glob 5 308 z8:: .glob 3 246 w6::lp .ready none:: .defs q:: .box b4 4 [bv false]:: .box b3 41 (zaa c):: .box b2 28 (y9 h)::(dfs.map Res.defs))∨(r=bv false∧c∈(zae h (wrF h k) h.evs.length)∧h'= .box bE 95 [(.fn (.func ee) [pZ bl] [])]:: .box bL 147 [pZ bl]:: .box bl 202 (wrP h rd rf rk rg)::rgR rg M::rkS h rk::zcw h rf::rcR h rd:: .glob 2 156 y2:: .glob 4 305 y3:: .glob 5 308 z8:: .glob 3 246 w6::lp .done (some .ret):: .defs q:: .box b4 4 [bv true]:: .box b3 41 (zaa c):: .box b2 28 (y9 h)::(dfs.map Res.defs))) by
      refine y8.mono (y8.perm ((pt2 _ _ _ _).trans (.cons _ ((pt2 _ _ _ _).trans (.cons _ ((pt5 _ _ _ _ _ _ _).trans (.cons _ ((pt5 _ _ _ _ _ _ _).trans (.cons _ ((pt5 _ _ _ _ _ _ _).trans (.cons _ ((pt5 _ _ _ _ _ _ _).trans (.cons _ ((pt5 _ _ _ _ _ _ _).trans (.cons _ ((pt5 _ _ _ _ _ _ _).trans (.cons _ ((pt5 _ _ _ _ _ _ _).trans (.cons _ ((pt5 _ _ _ _ _ _ _).trans (.cons _ (pt5 _ _ _ _ _ _ _))))))))))))))))))))) (yc1 h la ee g (wrF h k) bl rd rf rk rg hT (yv l) rfl bL bE M hM (fun pre (_:Unit)=>¬c∈pre) (fun _=>c∈(zae h (wrF h k) h.evs.length)) (fun _ _=>lp .ready none:: .defs q:: .box b4 4 [bv false]:: .box b3 41 (zaa c):: .box b2 28 (y9 h)::(dfs.map Res.defs)) (fun _=>lp .done (some .ret):: .defs q:: .box b4 4 [bv true]:: .box b3 41 (zaa c):: .box b2 28 (y9 h)::(dfs.map Res.defs)) () (by simp) hy)) ?_
      rintro _ _ ⟨x,M,hM,⟨hn,rfl⟩|⟨hn,rfl⟩⟩
      ·exact ⟨none,.ready,_,((zs7 _ _ _ _ _ _ _ _ _ _ _ _ _).trans (.cons _ (zs7 _ _ _ _ _ _ _ _ _ _ _ _ _))),by simp,.inl ⟨rfl,hn,M,hM,rfl⟩⟩
      ·exact ⟨some .ret,.done,_,((zs7 _ _ _ _ _ _ _ _ _ _ _ _ _).trans (.cons _ (zs7 _ _ _ _ _ _ _ _ _ _ _ _ _))),by simp,.inr ⟨rfl,hn,M,hM,rfl⟩⟩
     intro pre d rest x M hL hpre hM
     refine y1.perm (zs7 _ _ _ _ _ _ _ _ _ _ _ _ _) (y1.ventE ?_)
     refine zcm hlp rfl rfl ?_
     refine rn ?_;refine z7 rfl (y7 rfl fun b9=> ?_)
     refine rn ?_;refine ⟨[(9,pZ b9),(3,pZ b3),(4,pZ b4)],.box b9 41 (zaa d):: .box bE 95 [(.fn (.func ee) [pZ bl] [])]:: .box bL 147 [pZ bl]:: .box bl 202 (wrP h rd rf rk rg)::rgR rg M::rkS h rk::zcw h rf::rcR h rd:: .glob 2 156 y2:: .glob 4 305 y3:: .glob 5 308 z8:: .glob 3 246 w6:: .defs q:: .box b4 4 [bv false]:: .box b3 41 (zaa c):: .box b2 28 (y9 h)::(dfs.map Res.defs),v6 (zas (pt1 _ _ _)) es,?_⟩
     refine rn ?_;refine y0 rfl (fun hc31=> ?_) (fun hc31=> ?_)
     ·have hz:d=c:=yno hc31
      refine rn ?_;exact znr (.refl _) ⟨_,_,.trans (.perm ((pt1 _ _ _).trans (.cons _ ((pt1 _ _ _).trans (.cons _ ((pt1 _ _ _).trans (.cons _ ((pt1 _ _ _).trans (.cons _ ((pt1 _ _ _).trans (.cons _ ((pt1 _ _ _).trans (.cons _ ((pt1 _ _ _).trans (.cons _ ((pt1 _ _ _).trans (.cons _ ((pt1 _ _ _).trans (.cons _ ((pt1 _ _ _).trans (.cons _ ((pt1 _ _ _).trans (.cons _ (pt1 _ _ _))))))))))))))))))))))) _) (.drop [_] _ _),(),.inr ⟨rfl,by rw [hL,←hz];simp,rfl⟩⟩
     ·have hz:¬d=c:=ynn hc31
      refine rn ?_;exact zcf (.refl _) ⟨_,_,.trans (.perm ((pt1 _ _ _).trans (.cons _ ((pt1 _ _ _).trans (.cons _ ((pt1 _ _ _).trans (.cons _ ((pt1 _ _ _).trans (.cons _ ((pt1 _ _ _).trans (.cons _ ((pt1 _ _ _).trans (.cons _ ((pt1 _ _ _).trans (.cons _ ((pt1 _ _ _).trans (.cons _ ((pt1 _ _ _).trans (.cons _ ((pt1 _ _ _).trans (.cons _ ((pt1 _ _ _).trans (.cons _ (pt1 _ _ _))))))))))))))))))))))) _) (.drop [_] _ _),(),.inl ⟨rfl,by simp [hpre,Ne.symm hz],rfl⟩⟩
    ·obtain ⟨_,hn,M,hM,rfl⟩|⟨hc',_⟩:=hK'
     rotate_left
     ·cases hc'
     refine rn ?_;exact ⟨hk,(M,q::dfs),⟨ygl zk hn,hM⟩,v6 (zas ((pt1 _ _ _).trans (.cons _ ((pt1 _ _ _).trans (.cons _ ((ymr _ _ _ _ _ _ _ _ _ _ _ _).trans (.cons _ ((ymr _ _ _ _ _ _ _ _ _ _ _ _).trans (.cons _ ((ymr _ _ _ _ _ _ _ _ _ _ _ _).trans (.cons _ ((pt1 _ _ _).trans (.cons _ ((pt1 _ _ _).trans (.cons _ ((pt1 _ _ _).trans (.cons _ ((pt1 _ _ _).trans (.cons _ ((pt1 _ _ _).trans (.cons _ ((pt1 _ _ _).trans (.cons _ ((pt1 _ _ _).trans (.cons _ ((pt1 _ _ _).trans (.cons _ (pt1 _ _ _)))))))))))))))))))))))))))) (v6 (zb3 (h1:= [_,_])) es)⟩
    ·obtain ⟨hc',_⟩|⟨hc',hn,M,hM,rfl⟩:=hK'
     ·cases hc'
     obtain rfl:cc= .ret:=by simpa using hc'
     refine rn ?_;exact zfy (.cons _ (List.perm_append_comm (l₁:= [_,_,_,_,_,_,_,_,_,_,_,_,_,_]) (l₂:=(dfs.map Res.defs)))) (.cons _ _ _ _ (.one _ _ _ _ _ _ _ rfl inferInstance inferInstance rfl) .nil) (.trans (.perm (.cons _ (.cons _ (.cons _ (.cons _ (.cons _ (.cons _ (.cons _ ((pt4 _ _ _ _ _ _).trans (.cons _ ((pt4 _ _ _ _ _ _).trans (.cons _ (pt4 _ _ _ _ _ _)))))))))))) _) (.drop [_,_,_,_,_,_,_,_,_,_] _ _)) ⟨rfl,congrArg bv (yel hc hk hn).symm⟩
   ·have qk:k=2:=by have q:=oF hc23;omega
    refine rn ?_;exact zfy (List.perm_append_comm (l₁:= [_,_,_,_,_,_,_,_,_,_,_,_]) (l₂:=(dfs.map Res.defs))) (.cons _ _ _ _ (.one _ _ _ _ _ _ _ rfl inferInstance inferInstance rfl) .nil) (.trans (.perm (.refl _) _) (.drop [_,_,_,_,_,_,_,_] _ _)) ⟨rfl,congrArg bv (yl3 (qk ▸ zk)).symm⟩
 ·refine rn ?_;refine y0 rfl (fun hc16=> ?_) (fun hc16=> ?_)
  ·refine rn ?_;exact zdt (.cons _ _ _ _ (.one _ _ _ _ _ _ _ rfl inferInstance inferInstance rfl) .nil) (.drop [_,_,_] _ _) ⟨rfl,congrArg bv (yl4 hc).symm⟩
  ·first|cases hc16|exact absurd hc16 (by decide)|(exfalso;simp_all;done)
def chR (h:Hist) (f t:Int) (k:Nat):List Int:=(upR k).filter fun x=>decide (atI f 0 (zok h x) ≥ 0) && decide (atI t 0 (zok h x) > atI f 0 (zok h x))
theorem ycg {full:Bool} (l:List ByteArray) (most:Nat) (hm:most≤1000):y8 Tryz.prog 109 [.list full 1 (l.map zfk),iv most] [] (fun r h'=>h'= []∧r=zci (zl5 most l)):=by
 refine z6 Tryz.func109 rfl rfl rfl ?_
 refine w8 (y6 ?_)
 refine q1 ?_;refine v8 (zak ?_)
 refine w8 (y6 ?_)
 refine q1 ?_;refine q1 ?_;refine q1 ?_;refine q1 ?_;refine qq rfl rfl (ziq (l.map zfk).length most rfl rfl) ?_
 refine qq rfl rfl (zd5 (rows':=(l.take most).map zfk) rfl rfl (by omega) (by rw [oM];exact zhu zfk l most)) ?_
 refine z7 rfl (q7 rfl rfl (y1.rowS (y1.of_fun (zr8 _ (by simp;omega) (yf4 _)))) rfl ?_)
 rintro _ _ ⟨s,rfl,rfl⟩
 refine rn ?_;refine zab (fun k:Nat=>k≤(l.take most).length) (fun k=>⟨[(17,iv k),(16,iv ((l.take most).map zfk).length),(15,.v s.v),(5,.v s.v)],[.row s.v 1 9 ((((l.take most).take k).map cutS).map zfk++((l.take most).drop k).map zfk)],[]⟩) (fun k=>(l.take most).length - k) 0 (by omega)
  (by simp only [List.take_zero,List.map_nil,List.nil_append,List.drop_zero];exact (v1 (.cons _ _ _ rfl (.cons _ _ _ rfl (.cons _ _ _ rfl (.cons _ _ _ rfl (.nil))))))) ?_
 intro k hk
 refine rn ?_;refine y0 rfl (fun hc18=> ?_) (fun hc18=> ?_)
 ·have hk2:k < (l.take most).length:=by simpa using hc18
  obtain ⟨b,hb⟩:∃b,b=(l.take most)[k]:=⟨_,rfl⟩
  have hd:=List.drop_eq_getElem_cons hk2
  rw [←hb] at hd
  have hL:=List.length_take_le most l
  have hkl:(((l.take most).take k).map cutS).length=k:=by rw [oM,List.length_take];omega
  have hrow:=ygd (f:=zfk) (g:=zfk) (xs:=((l.take most).take k).map cutS) (k:=k) hkl hd
  have hk3:k < ((((l.take most).take k).map cutS).map zfk++((l.take most).drop k).map zfk).length:=by rw [ygc hkl hk];exact hk2
  refine zbs ?_;refine zak ?_;refine w8 ?_;refine zc8 ?_;refine w8 (y6 ?_)
  refine q1 ?_;refine q1 ?_;refine qq rfl rfl (zg0 rfl hrow rfl) ?_
  refine q1 ?_;refine q1 ?_;refine v8 (zak ?_)
  refine y6 ?_;refine q1 ?_;refine q1 ?_;refine q1 ?_;refine q1 ?_;refine q1 ?_;refine qq rfl rfl (ziq b.size 40 rfl rfl) ?_
  refine qq rfl rfl (zet rfl rfl (by omega)) ?_
  refine rn ?_;refine z7 rfl (zre rfl rfl rfl hrow rfl (Nat.le_of_ble_eq_true rfl) ?_)
  refine rn ?_;have hset:=ygb (f:=zfk) (g:=zfk) (l:=(l.take most)) (xs:=((l.take most).take k).map cutS) (a:=cutS b) (r:=(zfk b).take 0++ [sv (cutS b)]++(zfk b).drop (0+1)) hkl hd rfl
  have hx:((l.take most).take k).map cutS++ [cutS b]=((l.take most).take (k+1)).map cutS:=by rw [List.take_succ_eq_append_getElem hk2,hb];simp
  rw [hx] at hset
  exact ⟨k+1,by omega,(by rw [←hset];exact (v1 (.cons _ _ _ rfl (.cons _ _ _ rfl (.cons _ _ _ rfl (.cons _ _ _ rfl (.nil))))))),by omega⟩
 ·obtain rfl:k=(l.take most).length:=by
   have:¬k < (l.take most).length:=by simpa using hc18
   omega
  rw [List.take_length,List.drop_length,List.map_nil,List.append_nil]
  refine rn ?_;exact zal rfl zg9 ⟨rfl,rfl⟩
theorem ynh (h:Hist) (la:Lim 4611686018427387904 h):y8 Tryz.prog 52 [.agg (y9 h)] [] (fun r h'=>h'= []∧r= .agg (y9 (zep h))):=by
 refine z6 Tryz.func52 rfl rfl rfl ?_
 refine rn ?_;refine z7 rfl (w7 rfl rfl rfl fun b1=> ?_)
 refine z7 rfl (y7 rfl fun b2=> ?_)
 refine rn0 ?_;refine zzc (fun _:Nat=>True) (fun b3=>⟨[(1,pZ b1),(2,pZ b2),(3,pZ b3)],[.box b3 28 [zci (zl5 12 h.ts),zci (zl5 8 h.ss),zci (zl5 10 h.os),zci (zl5 6 h.ps),zoj,zoj,zoj,zoj],.box b2 28 zmc,.box b1 28 (y9 h)],[]⟩) ?_ ?_
 ·refine j4 14 rfl ?_
  refine rn ?_;refine dv rfl rfl (by exact y4 rfl rfl (zax (ycg h.ts 12 (by decide)) (Sbs.refl _))) ?_
  refine rn ?_;refine dv rfl rfl (by exact y4 rfl rfl (zax (ycg h.ss 8 (by decide)) (Sbs.refl _))) ?_
  refine rn ?_;refine dv rfl rfl (by exact y4 rfl rfl (zax (ycg h.os 10 (by decide)) (Sbs.refl _))) ?_
  refine rn ?_;refine dv rfl rfl (by exact y4 rfl rfl (zax (ycg h.ps 6 (by decide)) (Sbs.refl _))) ?_
  refine rn ?_;refine zkj rfl fun b3=> ?_
  refine rn ?_;exact ⟨b3,trivial,(v1 (.cons _ _ _ rfl (.cons _ _ _ rfl (.cons _ _ _ rfl (.nil)))))⟩
 ·intro b3 _
  refine rn ?_;refine zab (fun x:Nat×SV=>x.1≤h.evs.length) (fun x=>⟨[(26,iv x.1),(25,iv (h.evs.map evR).length),(24,zyn h.evs),(1,pZ b1),(2,pZ b2),(3,pZ b3)],[.row x.2.v 9 60 (((h.evs.take (min x.1 70)).map zp4).map evR),.box b3 28 [zci (zl5 12 h.ts),zci (zl5 8 h.ss),zci (zl5 10 h.os),zci (zl5 6 h.ps),.v x.2.v,zoj,zoj,zoj],.box b2 28 zmc,.box b1 28 (y9 h)],[]⟩) (fun x=>h.evs.length - x.1) (0,ymx) (by simp)
   (v6 (za1 9 60) (v1 (.cons _ _ _ rfl (.cons _ _ _ rfl (.cons _ _ _ rfl (.cons _ _ _ rfl (.cons _ _ _ rfl (.cons _ _ _ rfl (.nil))))))))) ?_
  rintro ⟨k,s⟩ hk
  simp only at hk
  refine rn ?_;refine y0 rfl (fun hc27=> ?_) (fun hc27=> ?_)
  ·have hk2:k < h.evs.length:=by simpa using hc27
   obtain ⟨e,he⟩:∃e,e=h.evs[k]:=⟨_,rfl⟩
   have hrow:(h.evs.map evR)[k]? =some (evR e):=by rw [he];simp [hk2]
   have hle:=la.evs
   refine rn ?_;refine z7 rfl (y7 rfl fun b5=> ?_)
   refine rn ?_;refine y0 rfl (fun hc32=> ?_) (fun hc32=> ?_)
   ·have hlt:k < 70:=by have:=hc32;simp at this;omega
    refine w8 (y6 ?_)
    refine q1 ?_;refine q1 ?_;refine q1 ?_;refine q1 ?_;refine q1 ?_;refine qq rfl rfl (ziq (e.scan.map zav).length 12 rfl rfl) ?_
    refine qq rfl rfl (zd5 (rows':=(e.scan.take 12).map zav) rfl rfl (by omega) (by rw [oM];exact zhu zav e.scan 12)) ?_
    refine qv rfl rfl (y4 rfl rfl (zax (zy3 ((e.scan.take 12).map zav) (by simp;omega)) (Sbs.refl _))) ?_
    refine rn ?_;refine qv rfl rfl (w9 rfl rfl) ?_
    refine z7 rfl (j6 rfl rfl (by have:=zv8 h.evs k 70;simp at this ⊢;omega) rfl (fun s46=> ?_) (fun r hr=>by simp at hr;subst hr;rfl))
    refine zam s46 fun sv hsv=> ?_
    subst hsv
    refine rn ?_;have hx:((h.evs.take (min (k+1) 70)).map zp4).map evR=((h.evs.take (min k 70)).map zp4).map evR++ [evR (zp4 e)]:=by rw [yez hk2 hlt he];simp
    exact ⟨(k+1,sv),by simp only;omega,(by rw [hx];exact (v6 (zb3 (h1:= [_])) (v1 (.cons _ _ _ rfl (.cons _ _ _ rfl (.cons _ _ _ rfl (.cons _ _ _ rfl (.cons _ _ _ rfl (.cons _ _ _ rfl (.nil)))))))))),by simp only;omega⟩
   ·have hlt:¬k < 70:=by have:=hc32;simp at this;omega
    refine rn ?_;exact ⟨(k+1,s),by simp only;omega,(by rw [yey hlt];exact (v6 (zb3 (h1:= [_])) (v1 (.cons _ _ _ rfl (.cons _ _ _ rfl (.cons _ _ _ rfl (.cons _ _ _ rfl (.cons _ _ _ rfl (.cons _ _ _ rfl (.nil)))))))))),by simp only;omega⟩
  ·obtain rfl:k=h.evs.length:=by
    have:¬k < h.evs.length:=by simpa using hc27
    omega
   obtain ⟨sE,hsE⟩:∃sE:SV,sE=s:=⟨_,rfl⟩
   simp only [zv9,←hsE]
   refine rn ?_;refine zab (fun x:Nat×SV=>x.1≤h.ords.length) (fun x=>⟨[(52,iv x.1),(51,iv (h.ords.map zeo).length),(50,yf0 h.ords),(1,pZ b1),(2,pZ b2),(3,pZ b3)],[.row x.2.v 2 87 (((h.ords.take (min x.1 14)).map zr7).map zeo),.row sE.v 9 60 (((h.evs.take 70).map zp4).map evR),.box b3 28 [zci (zl5 12 h.ts),zci (zl5 8 h.ss),zci (zl5 10 h.os),zci (zl5 6 h.ps),.v sE.v,.v x.2.v,zoj,zoj],.box b2 28 zmc,.box b1 28 (y9 h)],[]⟩) (fun x=>h.ords.length - x.1) (0,ymx) (by simp)
    (v6 (za1 2 87) (v1 (.cons _ _ _ rfl (.cons _ _ _ rfl (.cons _ _ _ rfl (.cons _ _ _ rfl (.cons _ _ _ rfl (.cons _ _ _ rfl (.nil))))))))) ?_
   rintro ⟨k,s⟩ hk
   simp only at hk
   refine rn ?_;refine y0 rfl (fun hc53=> ?_) (fun hc53=> ?_)
   ·have hk2:k < h.ords.length:=by simpa using hc53
    obtain ⟨e,he⟩:∃e,e=h.ords[k]:=⟨_,rfl⟩
    have hrow:(h.ords.map zeo)[k]? =some (zeo e):=by rw [he];simp [hk2]
    have hle:=la.ords
    refine rn ?_;refine z7 rfl (y7 rfl fun b7=> ?_)
    refine rn ?_;refine y0 rfl (fun hc58=> ?_) (fun hc58=> ?_)
    ·have hlt:k < 14:=by have:=hc58;simp at this;omega
     refine j4 14 rfl ?_
     refine dq rfl rfl qrA ?_;refine dq rfl rfl qrA ?_;refine dq rfl rfl qrA ?_;refine dq rfl rfl qrA ?_;refine dq rfl rfl qrA ?_;refine dq rfl rfl qrA ?_;refine dq rfl rfl qrA ?_;refine dq rfl rfl qrA ?_;refine dq rfl rfl qrA ?_;refine dq rfl rfl (ziq (e.ts.map za9).length 14 rfl rfl) ?_
     refine dq rfl rfl (zd5 (rows':=(e.ts.take 14).map za9) rfl rfl (by omega) (by rw [oM];exact zhu za9 e.ts 14)) ?_
     refine dv rfl rfl (by exact y4 rfl rfl (zax (ztw ((e.ts.take 14).map za9) (by simp;omega)) (Sbs.refl _))) ?_
     refine rn ?_;refine dv rfl rfl (w9 rfl rfl) ?_
     refine rn ?_;refine z7 rfl (j6 rfl rfl (by have:=zv8 h.ords k 14;simp at this ⊢;omega) rfl (fun s73=> ?_) (fun r hr=>by simp at hr;subst hr;rfl))
     refine zam s73 fun sv hsv=> ?_
     subst hsv
     refine rn ?_;have hx:((h.ords.take (min (k+1) 14)).map zr7).map zeo=((h.ords.take (min k 14)).map zr7).map zeo++ [zeo (zr7 e)]:=by rw [yez hk2 hlt he];simp
     exact ⟨(k+1,sv),by simp only;omega,(by rw [hx];exact (v6 (zb3 (h1:= [_])) (v1 (.cons _ _ _ rfl (.cons _ _ _ rfl (.cons _ _ _ rfl (.cons _ _ _ rfl (.cons _ _ _ rfl (.cons _ _ _ rfl (.nil)))))))))),by simp only;omega⟩
    ·have hlt:¬k < 14:=by have:=hc58;simp at this;omega
     refine rn ?_;exact ⟨(k+1,s),by simp only;omega,(by rw [yey hlt];exact (v6 (zb3 (h1:= [_])) (v1 (.cons _ _ _ rfl (.cons _ _ _ rfl (.cons _ _ _ rfl (.cons _ _ _ rfl (.cons _ _ _ rfl (.cons _ _ _ rfl (.nil)))))))))),by simp only;omega⟩
   ·obtain rfl:k=h.ords.length:=by
     have:¬k < h.ords.length:=by simpa using hc53
     omega
    obtain ⟨sO,hsO⟩:∃sO:SV,sO=s:=⟨_,rfl⟩
    simp only [zv9,←hsO]
    refine rn ?_;refine zab (fun x:Nat×SV=>x.1≤h.mats.length) (fun x=>⟨[(79,iv x.1),(78,iv (h.mats.map zee).length),(77,ybm h.mats),(1,pZ b1),(2,pZ b2),(3,pZ b3)],[.row x.2.v 4 109 (((h.mats.take (min x.1 20)).map zvf).map zee),.row sO.v 2 87 (((h.ords.take 14).map zr7).map zeo),.row sE.v 9 60 (((h.evs.take 70).map zp4).map evR),.box b3 28 [zci (zl5 12 h.ts),zci (zl5 8 h.ss),zci (zl5 10 h.os),zci (zl5 6 h.ps),.v sE.v,.v sO.v,.v x.2.v,zoj],.box b2 28 zmc,.box b1 28 (y9 h)],[]⟩) (fun x=>h.mats.length - x.1) (0,ymx) (by simp)
     (v6 (za1 4 109) (v1 (.cons _ _ _ rfl (.cons _ _ _ rfl (.cons _ _ _ rfl (.cons _ _ _ rfl (.cons _ _ _ rfl (.cons _ _ _ rfl (.nil))))))))) ?_
    rintro ⟨k,s⟩ hk
    simp only at hk
    refine rn ?_;refine y0 rfl (fun hc80=> ?_) (fun hc80=> ?_)
    ·have hk2:k < h.mats.length:=by simpa using hc80
     obtain ⟨e,he⟩:∃e,e=h.mats[k]:=⟨_,rfl⟩
     have hrow:(h.mats.map zee)[k]? =some (zee e):=by rw [he];simp [hk2]
     have hle:=la.mats
     refine rn ?_;refine z7 rfl (y7 rfl fun b9=> ?_)
     refine rn ?_;refine y0 rfl (fun hc85=> ?_) (fun hc85=> ?_)
     ·have hlt:k < 20:=by have:=hc85;simp at this;omega
      refine w8 (y6 ?_)
      refine q1 ?_;refine q1 ?_;refine q1 ?_;refine q1 ?_;refine q1 ?_;refine qq rfl rfl (ziq (e.ts.map za9).length 14 rfl rfl) ?_
      refine qq rfl rfl (zd5 (rows':=(e.ts.take 14).map za9) rfl rfl (by omega) (by rw [oM];exact zhu za9 e.ts 14)) ?_
      refine qv rfl rfl (y4 rfl rfl (zax (ztw ((e.ts.take 14).map za9) (by simp;omega)) (Sbs.refl _))) ?_
      refine rn ?_;refine qv rfl rfl (w9 rfl rfl) ?_
      refine z7 rfl (j6 rfl rfl (by have:=zv8 h.mats k 20;simp at this ⊢;omega) rfl (fun s99=> ?_) (fun r hr=>by simp at hr;subst hr;rfl))
      refine zam s99 fun sv hsv=> ?_
      subst hsv
      refine rn ?_;have hx:((h.mats.take (min (k+1) 20)).map zvf).map zee=((h.mats.take (min k 20)).map zvf).map zee++ [zee (zvf e)]:=by rw [yez hk2 hlt he];simp
      exact ⟨(k+1,sv),by simp only;omega,(by rw [hx];exact (v6 (zb3 (h1:= [_])) (v1 (.cons _ _ _ rfl (.cons _ _ _ rfl (.cons _ _ _ rfl (.cons _ _ _ rfl (.cons _ _ _ rfl (.cons _ _ _ rfl (.nil)))))))))),by simp only;omega⟩
     ·have hlt:¬k < 20:=by have:=hc85;simp at this;omega
      refine rn ?_;exact ⟨(k+1,s),by simp only;omega,(by rw [yey hlt];exact (v6 (zb3 (h1:= [_])) (v1 (.cons _ _ _ rfl (.cons _ _ _ rfl (.cons _ _ _ rfl (.cons _ _ _ rfl (.cons _ _ _ rfl (.cons _ _ _ rfl (.nil)))))))))),by simp only;omega⟩
    ·obtain rfl:k=h.mats.length:=by
      have:¬k < h.mats.length:=by simpa using hc80
      omega
     obtain ⟨sM,hsM⟩:∃sM:SV,sM=s:=⟨_,rfl⟩
     simp only [zv9,←hsM]
     refine zjb ?_;refine zim ?_;refine zim ?_;refine zd8 ?_;refine zak ?_;refine w8 (y6 ?_)
     refine q1 ?_;refine q1 ?_;refine q1 ?_;refine q1 ?_;refine q1 ?_;refine qq rfl rfl (ziq (h.wants.map zfo).length 12 rfl rfl) ?_
     refine qq rfl rfl (zd5 (rows':=(h.wants.take 12).map zfo) rfl rfl (by omega) (by rw [oM];exact zhu zfo h.wants 12)) ?_
     refine qv rfl rfl (y4 rfl rfl (zax (ycl ((h.wants.take 12).map zfo) (by simp;omega)) (Sbs.refl _))) ?_
     refine rn ?_;exact zdt (.cons _ _ _ _ (.agg _ _ _ _ _ _ _ rfl inferInstance inferInstance inferInstance rfl) .nil) (.trans (zds [_,_,_,_,_,_] _) (.trans (zds [_,_,_,_,_] _) (.trans (zds [_,_,_,_] _) (.drop [_,_,_] _ _)))) ⟨rfl,rfl⟩
theorem znm  :y8 Tryz.prog 108 [] [] (fun r h'=>h'= []∧r= .agg (y9 weH)):=by
 refine z6 Tryz.func108 rfl rfl rfl ?_
 refine rn ?_;refine z7 rfl (y7 rfl fun b0=> ?_)
 refine v8 (zak ?_)
 refine w8 (y6 ?_)
 refine qq rfl rfl (u9 (out:= [iv 0,iv 1]) rfl (by rfl)) ?_
 refine z7 rfl (y7 rfl fun b1=> ?_)
 refine rn ?_;refine qv rfl rfl (w9 rfl rfl) ?_
 refine qv rfl rfl (w9 rfl rfl) ?_
 refine qv rfl rfl (w9 rfl rfl) ?_
 refine qv rfl rfl (w9 rfl rfl) ?_
 refine qq rfl rfl (u9 (out:= [iv 1,iv 0,iv 0,iv 4,iv 0,iv 0,iv 0,iv 0,.v (.slice none 0 0)]) rfl (by rfl)) ?_
 refine q1 ?_;refine qq rfl rfl (u9 (out:= [iv 2,iv 0,iv 0,iv 0,iv 0,iv 0,iv 1,iv 0,.v (.slice none 0 0)]) rfl (by rfl)) ?_
 refine qq rfl rfl (u9 (out:= [iv 5,iv 0,iv 0,iv 0,iv 0,iv 0,iv 0,iv 0,.v (.slice none 0 0)]) rfl (by rfl)) ?_
 refine qq rfl rfl (u9 (out:= [iv 1,iv 1,iv 0,iv 4,iv 0,iv 0,iv 0,iv 0,.v (.slice none 0 0)]) rfl (by rfl)) ?_
 refine q1 ?_;refine qq rfl rfl (u9 (out:= [iv 3,iv 1,iv 0,iv 0,iv 0,iv 0,iv 1,iv 0,.v (.slice none 0 0)]) rfl (by rfl)) ?_
 refine q1 ?_;refine qq rfl rfl (u9 (out:= [iv 0,iv 0,iv 1]) rfl (by rfl)) ?_
 refine qv rfl rfl (w9 rfl rfl) ?_
 refine qq rfl rfl (u9 (out:= [iv 4,iv 1,iv 0,iv 0,iv 0,iv 0,iv 0,iv 0,.list true 3 [[iv 0,iv 0,iv 1]]]) rfl (by rfl)) ?_
 refine qq rfl rfl (u9 (out:= [iv 5,iv 1,iv 0,iv 0,iv 0,iv 0,iv 0,iv 0,.v (.slice none 0 0)]) rfl (by rfl)) ?_
 refine qv rfl rfl (w9 rfl rfl) ?_
 refine qv rfl rfl (w9 rfl rfl) ?_
 refine qq rfl rfl (u9 (out:= [iv 0,iv 0,bv false,.list true 1 [[iv 0]]]) rfl (by rfl)) ?_
 refine qv rfl rfl (w9 rfl rfl) ?_
 refine rn ?_;exact zdt (.cons _ _ _ _ (.agg _ _ _ _ _ _ _ rfl inferInstance inferInstance inferInstance rfl) .nil) (.trans (.drop [_,_] _ _) (.le (Sb.aggs (bs:=y9 weH) (by exact ⟨.unfull,.unfull,.unfull,.unfull,(.lists (by simp) ⟨⟨.refl _,.refl _,.refl _,.refl _,.refl _,.refl _,.refl _,.refl _,.nil _ _,trivial⟩,⟨.refl _,.refl _,.refl _,.refl _,.refl _,.refl _,.refl _,.refl _,.nil _ _,trivial⟩,⟨.refl _,.refl _,.refl _,.refl _,.refl _,.refl _,.refl _,.refl _,.nil _ _,trivial⟩,⟨.refl _,.refl _,.refl _,.refl _,.refl _,.refl _,.refl _,.refl _,.nil _ _,trivial⟩,⟨.refl _,.refl _,.refl _,.refl _,.refl _,.refl _,.refl _,.refl _,.nil _ _,trivial⟩,⟨.refl _,.refl _,.refl _,.refl _,.refl _,.refl _,.refl _,.refl _,.unfull,trivial⟩,⟨.refl _,.refl _,.refl _,.refl _,.refl _,.refl _,.refl _,.refl _,.nil _ _,trivial⟩,trivial⟩),.nil _ _,(.lists (by simp) ⟨⟨.refl _,.refl _,.refl _,.unfull,trivial⟩,trivial⟩),.nil _ _,trivial⟩)).le)) ⟨rfl,rfl⟩
theorem ylw:Lim 4611686018427387904 weH:=⟨by decide,by decide,by decide,by decide,by decide,by decide,by decide,by decide,by decide,by decide,by decide⟩
abbrev ynz:Conf:=⟨0,1,1,1,4,0,0⟩
abbrev yh7:Conf:=⟨0,1,2,1,5,0,0⟩
abbrev ylm:Conf:=⟨0,1,1,1,6,0,0⟩
theorem we_j1:wrJ weH yh7=true:=by rw [wrJ,decide_eq_true zhr,decide_eq_true yl6,Bool.or_true];rfl
theorem we_j2:wrJ weH ylm=false:=by rw [wrJ,decide_eq_false yc2.1,decide_eq_false yc2.2];simp
theorem yog:y8 Tryz.prog 53 [.agg (y9 weH)] (.glob 2 156 y2:: .glob 4 305 y3:: .glob 5 308 z8:: .glob 3 246 w6:: []) (fun r h'=>h'= .glob 2 156 y2:: .glob 4 305 y3:: .glob 5 308 z8:: .glob 3 246 w6:: []∧r= .tup [zjt [ynz],iv 0]):=(zvu weH ylw).mono fun _ _ q=>⟨q.1,by rw [q.2,zop zhr,yaa,zhr]⟩
theorem yof:y8 Tryz.prog 54 [.agg (y9 weH)] (.glob 2 156 y2:: .glob 4 305 y3:: .glob 5 308 z8:: .glob 3 246 w6:: []) (fun r h'=>h'= .glob 2 156 y2:: .glob 4 305 y3:: .glob 5 308 z8:: .glob 3 246 w6:: []∧r= .tup [zjt [yh7],iv 0]):=(zsg weH ylw).mono fun _ _ q=>⟨q.1,by rw [q.2,zoo zhr,zz9,zhr]⟩
theorem yoe:y8 Tryz.prog 59 [.agg (y9 weH),.agg (zaa yh7)] (.glob 2 156 y2:: .glob 4 305 y3:: .glob 5 308 z8:: .glob 3 246 w6:: []) (fun r h'=>h'= .glob 2 156 y2:: .glob 4 305 y3:: .glob 5 308 z8:: .glob 3 246 w6:: []∧r=bv true):=(zvs weH ylw yh7).mono fun _ _ q=>⟨q.1,by rw [q.2,we_j1]⟩
theorem yod:y8 Tryz.prog 59 [.agg (y9 weH),.agg (zaa ylm)] (.glob 2 156 y2:: .glob 4 305 y3:: .glob 5 308 z8:: .glob 3 246 w6:: []) (fun r h'=>h'= .glob 2 156 y2:: .glob 4 305 y3:: .glob 5 308 z8:: .glob 3 246 w6:: []∧r=bv false):=(zvs weH ylw ylm).mono fun _ _ q=>⟨q.1,by rw [q.2,we_j2]⟩
theorem yn0 {f g:Bool} (c:Conf):y8 Tryz.prog 19 [.list f 7 [zaa c],.list g 7 [zaa c]] [] (fun r h'=>h'= []∧r=bv true):=yky [c] (by show 1≤_;decide)
theorem yeq  :y8 Tryz.prog 51 [] (.glob 2 156 y2:: .glob 4 305 y3:: .glob 5 308 z8:: .glob 3 246 w6:: []) (fun r h'=>h'= .glob 2 156 y2:: .glob 4 305 y3:: .glob 5 308 z8:: .glob 3 246 w6:: []∧r=bv true):=by
 refine z6 Tryz.func51 rfl rfl rfl ?_
 refine rn ?_;refine qv rfl rfl (y4 rfl rfl (y1.pure (R:=fun r=>r= .agg (y9 weH)) (y1.of_fun znm))) ?_
 refine qv rfl rfl (y4 rfl rfl (y1.of_fun yog)) ?_
 refine rn ?_;refine qv rfl rfl (y4 rfl rfl (y1.pure (R:=fun r=>r= .agg (y9 weH)) (y1.of_fun znm))) ?_
 refine qv rfl rfl (y4 rfl rfl (y1.of_fun yof)) ?_
 refine q1 ?_;refine q1 ?_;refine q1 ?_;refine q1 ?_;refine q1 ?_;refine v8 (zak ?_)
 refine w8 (y6 ?_)
 refine qq rfl rfl (u9 (out:=zaa ynz) rfl (by rfl)) ?_
 refine z7 rfl (y7 rfl fun b5=> ?_)
 first|refine z7 rfl (u5 rfl rfl rfl ?_)|refine z7 rfl (zaf rfl rfl rfl rfl (Nat.le_of_ble_eq_true rfl) ?_)
 refine v8 (zak ?_)
 refine w8 (y6 ?_)
 refine qq rfl rfl (u9 (out:=zaa yh7) rfl (by rfl)) ?_
 refine z7 rfl (y7 rfl fun b6=> ?_)
 refine rn ?_;refine j4 26 rfl ?_
 refine rn ?_;refine dv rfl rfl (w9 rfl rfl) ?_
 refine dv rfl rfl (by exact y4 rfl rfl (y1.pure (R:=fun r=>r=bv true) (y1.of_fun (yn0 _)))) ?_
 refine rn ?_;refine dv rfl rfl (w9 rfl rfl) ?_
 refine dv rfl rfl (by exact y4 rfl rfl (y1.pure (R:=fun r=>r=bv true) (y1.of_fun (yn0 _)))) ?_
 refine rn ?_;refine dv rfl rfl (by exact y4 rfl rfl (y1.pure (R:=fun r=>r= .agg (y9 weH)) (y1.of_fun znm))) ?_
 refine rn ?_;refine dv rfl rfl (by exact y4 rfl rfl (y1.qt (y1.of_fun yoe) ((pt2 _ _ _ _).trans (.cons _ ((pt2 _ _ _ _).trans (.cons _ ((pt2 _ _ _ _).trans (.cons _ (pt2 _ _ _ _))))))))) ?_
 refine rn ?_;refine dv rfl rfl (by exact y4 rfl rfl (y1.pure (R:=fun r=>r= .agg (y9 weH)) (y1.of_fun znm))) ?_
 refine dq rfl rfl (u9 (out:=zaa ylm) rfl (by rfl)) ?_
 refine rn ?_;refine qv rfl rfl (y4 rfl rfl (y1.qt (y1.of_fun yod) ((pt2 _ _ _ _).trans (.cons _ ((pt2 _ _ _ _).trans (.cons _ ((pt2 _ _ _ _).trans (.cons _ (pt2 _ _ _ _))))))))) ?_
 refine rn ?_;refine rq 2 ?_
 exact ⟨rfl,rfl⟩
theorem zkq (l:List Conf):(zb1 l).length≤l.length:=by
 rw [zb1,(zgi zgq _).length_eq,oM];exact zqf l
theorem zsn (h:Hist):(zgx h).length≤36000000000:=by
 by_cases hc:q6 h=0
 ·rw [zop hc];exact Nat.le_trans (zkq _) (zpn hc)
 ·rw [zvv hc];exact Nat.zero_le _
theorem zsi (h:Hist):(zj2 h).length≤36000000000:=by
 by_cases hc:q6 h=0
 ·rw [zoo hc];exact Nat.le_trans (zkq _) (zo2 hc)
 ·rw [zvr hc];exact Nat.zero_le _
end Go.Proofs
namespace Go.Ab
open Go
section
variable {P:Program} {h:List Res} {f:Operand→Option AV} {dst:Option Tmp} {ty:TypeId} {pos:String} {after:Array Edge} {guard:Option (Nat×Bool)} {x y:Operand}
theorem zir {T T':TypeId} {n:Nat} {cs ds:List AV} {xs ys:List Int} (hx:f x=some (.agg cs)) (hy:f y=some (.agg ds)) (h1:zfh cs=some xs) (h2:zfh ds=some ys) (e:(xs==ys)=true) [he:EqInts P T n] (hn1:cs.length=n:=by rfl) (hn2:ds.length=n:=by rfl):
 QR P h f ⟨dst,.binOp .eql T x y T',ty,pos,after,guard⟩ (.v (.bool true)):=by
 have:=zs4 (P:=P) (h:=h) (f:=f) (dst:=dst) (ty:=ty) (pos:=pos) (after:=after) (guard:=guard) (T:=T) (T':=T') hx hy h1 h2 hn1 hn2
 rwa [e] at this
end
end Go.Ab
set_option maxRecDepth 10000
namespace Go.Proofs
open Go Go.Ab
attribute [local irreducible] QR QV OE zb5 aw zce zcn za2 zbr thn zd9 zcl jch zd7
open Go.H
def kdW (h:Hist) (i:Nat):Int:=if (i:Int) ≥ ((zgx h).map zaa).length then 2 else 1
theorem yj2 {h:Hist} {i:Nat} (q:decide ((i:Int) ≥ ((zgx h).map zaa).length)=true):kdW h i=2:=by rw [kdW,if_pos (oT q)]
theorem yj3 {h:Hist} {i:Nat} (q:decide ((i:Int) ≥ ((zgx h).map zaa).length)=false):kdW h i=1:=by rw [kdW,if_neg (oF q)]
def ycy (h:Hist) (f t k o p:Int) (a b:Nat):Prop:=f≠t∧∃ha:a < h.evs.length,∃hb:b < h.evs.length,zi5 h.evs f o=some (h.evs[a].v,a)∧h.evs[a].kind=2∧h.evs[a].t=f∧h.evs[a].o=o∧h.evs[b].t=t∧
 ((k=1∧h.evs[b].kind=3∧h.evs[b].v=h.evs[a].v∧h.evs[b].o=o)∨(k=2∧h.evs[b].kind=4∧h.evs[b].p=p))
theorem ztu {c:Conf} {k:Int} {a b:Nat} (e1:c.k=k) (e2:c.a=(a:Int)) (e3:c.b=(b:Int)):c=⟨c.f,c.t,k,a,b,c.o,c.p⟩:=by
 obtain ⟨f,t,k',a',b',o,p⟩:=c;simp only at e1 e2 e3;rw [e1,e2,e3]
theorem zya {h:Hist} (hc:q6 h=0) {c:Conf} (hm:c∈zgx h):∃(f t o p:Int) (a b:Nat),c=⟨f,t,1,a,b,o,p⟩∧ycy h f t 1 o p a b∧wrJ h c=true:=by
 rw [zop hc] at hm
 have hm:=((ze1 _ _).1 hm).1
 obtain ⟨e1,hne,_,i,j,hi,hj,ea,eb,hf,ki,ti,oi,_,_,tj,kj,vj,oj⟩:=zx9 (zat.1 hc) hm
 exact ⟨c.f,c.t,c.o,c.p,i,j,ztu e1 ea eb,⟨hne,hi,hj,hf,ki,ti,oi,tj,.inl ⟨rfl,kj,vj,oj⟩⟩,yel hc (k:=0) (by decide) hm⟩
theorem zwi {h:Hist} (hc:q6 h=0) {c:Conf} (hm:c∈zj2 h):∃(f t o p:Int) (a b:Nat),c=⟨f,t,2,a,b,o,p⟩∧ycy h f t 2 o p a b∧wrJ h c=true:=by
 rw [zoo hc] at hm
 have hm:=((ze1 _ _).1 hm).1
 obtain ⟨e1,hne,i,j,hi,hj,ea,eb,hf,ki,ti,oi,tj,kj,pj⟩:=zum (zat.1 hc) hm
 exact ⟨c.f,c.t,c.o,c.p,i,j,ztu e1 ea eb,⟨hne,hi,hj,hf,ki,ti,oi,tj,.inr ⟨rfl,kj,pj⟩⟩,yel hc (k:=1) (by decide) hm⟩
theorem ynk {h:Hist} (hc:q6 h=0) {i:Nat} (hi:i < (zgx h++zj2 h).length):∃(f t o p:Int) (a b:Nat),(zgx h++zj2 h)[i]=⟨f,t,kdW h i,a,b,o,p⟩∧ycy h f t (kdW h i) o p a b∧wrJ h (zgx h++zj2 h)[i]=true:=by
 by_cases q:i < (zgx h).length
 ·have e:kdW h i=1:=by rw [kdW,if_neg (by rw [oM];omega)]
  rw [e,List.getElem_append_left q]
  exact zya hc (List.getElem_mem _)
 ·have e:kdW h i=2:=by rw [kdW,if_pos (by rw [oM];omega)]
  rw [e,List.getElem_append_right (by omega)]
  exact zwi hc (List.getElem_mem _)
def zu6 (c:Conf):Int×Int×Int:=(c.f,c.t,c.k)
def mtM (l:List Conf):List ((Int×Int×Int)×Bool):=l.foldl (fun m c=>zcq (zu6 c) true m) []
theorem ymz {l:List Conf} {i:Nat} (hi:i < l.length):mtM (l.take (i+1))=zcq (zu6 l[i]) true (mtM (l.take i)):=by
 rw [mtM,List.take_succ_eq_append_getElem hi,List.foldl_append];rfl
theorem yjq {k:Int×Int×Int}:∀(l:List Conf) (m:List ((Int×Int×Int)×Bool)),(∀c∈l,zu6 c≠k)→zap k m=none→zap k (l.foldl (fun m c=>zcq (zu6 c) true m) m)=none
 | [],_,_,hm=>hm
 |c::l,m,h,hm=>yjq l _ (fun d hd=>h d (List.mem_cons_of_mem _ hd)) (by rw [zbl,if_neg (h c (by simp))];exact hm)
theorem yo4 {h:Hist} (hc:q6 h=0) {c:Conf} (hm:c∈zgx h):c.k=1:=by obtain ⟨_,_,_,_,_,_,e,_⟩:=zya hc hm;rw [e]
theorem yom {h:Hist} (hc:q6 h=0) {c:Conf} (hm:c∈zj2 h):c.k=2:=by obtain ⟨_,_,_,_,_,_,e,_⟩:=zwi hc hm;rw [e]
theorem yg7 {h:Hist} (hc:q6 h=0):(zgx h++zj2 h).Pairwise fun a b=>zu6 a≠zu6 b:=by
 have key:∀{a b:Conf},zgu a≠zgu b→zu6 a≠zu6 b:=fun hn e=>hn (by
  simp only [zu6,Prod.mk.injEq] at e
  rw [zgu,zgu,e.1,e.2.1])
 rw [List.pairwise_append]
 refine ⟨?_,?_,fun a ha b hb e=> ?_⟩
 ·rw [zop hc];exact (zjc _).imp fun q=>key q
 ·rw [zoo hc];exact (zjc _).imp fun q=>key q
 ·have:=yo4 hc ha
  have:=yom hc hb
  simp only [zu6,Prod.mk.injEq] at e
  omega
theorem yku {h:Hist} (hc:q6 h=0) {i:Nat} (hi:i < (zgx h++zj2 h).length):(zap (zu6 (zgx h++zj2 h)[i]) (mtM ((zgx h++zj2 h).take i))).getD false=false:=by
 rw [mtM,yjq _ [] (fun c hm=> ?_) rfl]
 ·rfl
 ·obtain ⟨j,hj,rfl⟩:=List.mem_iff_getElem.1 hm
  rw [List.length_take] at hj
  rw [List.getElem_take]
  exact List.pairwise_iff_getElem.1 (yg7 hc) j i (by omega) hi (by omega)
theorem ykv (h:Hist):(zgx h++zj2 h).length≤72000000000:=by
 have h1:=zsn h
 have h2:=zsi h
 rw [List.length_append];omega
theorem ykw (n:Nat) (w:World) (a b c d e f:Int):(Op.equalIn (n+2) 79 (.agg #[.int .i64 a,.int .i64 b,.int .i64 c]) (.agg #[.int .i64 d,.int .i64 e,.int .i64 f])).run Tryz.prog w= .ok (a==d && (b==e && c==f)) w:=by
 rw [Op.equalIn]
 simp only [Sem.run_bind,Go.run_underlying Tryz.underlying79,Result.andThen_ok,Ab.run_sizeOf (P:=Tryz.prog) (T:=3) (n:=1)]
 simp [part,run_equalIn_int _ n 3 .i64 .i64 _ _ Tryz.underlying3,Std.Legacy.Range.forIn_eq_forIn_range',List.range'_succ]
 by_cases h1:a=d <;> by_cases h2:b=e <;> by_cases h3:c=f <;> simp [h1,h2,h3]
instance:EqInts Tryz.prog 79 3:= .mk3 (by kernel_rfl) (ykw 9998)
instance:Chk3 Tryz.prog 79:=⟨fun e w a b c=>by kernel_rfl⟩
theorem zti (h:Hist) (la:Lim 4611686018427387904 h) (t x:Int) {v:Ver} {i:Nat} (hf:zi5 h.evs t x=some (v,i)) (hc:q6 h=0):y8 Tryz.prog 121 [.agg (y9 h),iv t,iv x] (.glob 2 156 y2:: .glob 4 305 y3:: .glob 5 308 z8:: .glob 3 246 w6:: []) (fun r h'=>h'= .glob 2 156 y2:: .glob 4 305 y3:: .glob 5 308 z8:: .glob 3 246 w6:: []∧r= .tup [.agg (yac v),iv (i:Int),bv true]):=(zth h la hc t x).mono fun _ _ q=>⟨q.1,by rw [q.2,zf8,zb9,hf];rfl⟩
theorem yex (h:Hist) (la:Lim 4611686018427387904 h) (hc:q6 h=0) (f t o p:Int) (a b:Nat) (hne:f≠t) (ha:a < h.evs.length) (hb:b < h.evs.length) (hf:zi5 h.evs f o=some (h.evs[a].v,a)) (ka:h.evs[a].kind=2) (ta:h.evs[a].t=f) (oa:h.evs[a].o=o) (tb:h.evs[b].t=t) (kb:h.evs[b].kind=3) (vb:h.evs[b].v=h.evs[a].v) (ob:h.evs[b].o=o):y8 Tryz.prog 58 [.agg (y9 h),.agg (zaa ⟨f,t,1,a,b,o,p⟩),iv 1] (.glob 2 156 y2:: .glob 4 305 y3:: .glob 5 308 z8:: .glob 3 246 w6:: []) (fun r h'=>h'= .glob 2 156 y2:: .glob 4 305 y3:: .glob 5 308 z8:: .glob 3 246 w6:: []∧r=bv true):=by
 refine z6 Tryz.func58 rfl rfl rfl ?_
 have rea:(h.evs.map evR)[a]? =some (evR h.evs[a]):=zbn ha
 have reb:(h.evs.map evR)[b]? =some (evR h.evs[b]):=zbn hb
 refine rn ?_;refine z7 rfl (w7 rfl rfl rfl fun b3=> ?_)
 refine z7 rfl (w7 rfl rfl rfl fun b4=> ?_)
 refine q1 ?_;refine v8 (zak ?_)
 refine w8 ?_;refine w8 (y6 ?_)
 refine q1 ?_;refine q1 ?_;refine q1 ?_;refine qq rfl rfl (j7 (c:=false) rfl rfl (congrArg some (rfl))) ?_
 refine q1 ?_;refine q1 ?_;refine q1 ?_;refine q1 ?_;refine q1 ?_;refine qq rfl rfl (j7 (c:=false) rfl rfl (congrArg some (beq_eq_false_iff_ne.2 hne))) ?_
 refine q1 ?_;refine q1 ?_;refine q1 ?_;refine q1 ?_;refine qq rfl rfl (j7 (c:=false) rfl rfl (congrArg some (decide_eq_false (by show ¬(a:Int) < 0;omega)))) ?_
 refine q1 ?_;refine q1 ?_;refine q1 ?_;refine q1 ?_;refine q1 ?_;refine q1 ?_;refine q1 ?_;refine qq rfl rfl (j7 (c:=false) rfl rfl (congrArg some (decide_eq_false (by rw [oM];show ¬(a:Int) ≥ (h.evs.length:Int);omega)))) ?_
 refine q1 ?_;refine q1 ?_;refine q1 ?_;refine q1 ?_;refine qq rfl rfl (j7 (c:=false) rfl rfl (congrArg some (decide_eq_false (by show ¬(b:Int) < 0;omega)))) ?_
 refine q1 ?_;refine q1 ?_;refine q1 ?_;refine q1 ?_;refine q1 ?_;refine q1 ?_;refine q1 ?_;refine qq rfl rfl (j7 (c:=false) rfl rfl (congrArg some (decide_eq_false (by rw [oM];show ¬(b:Int) ≥ (h.evs.length:Int);omega)))) ?_
 refine rn ?_;refine y0 rfl (fun hc48=> ?_) (fun hc48=> ?_)
 ·first|cases hc48|exact absurd hc48 (by decide)|(exfalso;simp_all;done)
 ·refine zbs ?_;refine rn0 ?_;refine w8 ?_;refine zqh 15 12 13 14 7 8 60 (evR h.evs[a]) rfl rfl rfl rfl rfl rfl rfl rfl rfl rfl rfl rfl rfl rfl rfl ?_
  refine jq rfl (fun he hC=>by rcases hC with rfl|⟨b,c,rfl⟩|⟨b,c,b',c',rfl⟩ <;> exact qrA) ?_
  refine jq rfl (fun he hC=>by rcases hC with rfl|⟨b,c,rfl⟩|⟨b,c,b',c',rfl⟩ <;> exact qrA) ?_
  refine jq rfl (fun he hC=>by rcases hC with rfl|⟨b,c,rfl⟩|⟨b,c,b',c',rfl⟩ <;> exact qrA) ?_
  refine jq rfl (fun he hC=>by rcases hC with rfl|⟨b,c,rfl⟩|⟨b,c,b',c',rfl⟩ <;> exact qrA) ?_
  refine jq rfl (fun he hC=>by rcases hC with rfl|⟨b,c,rfl⟩|⟨b,c,b',c',rfl⟩ <;> exact (by exact zaw rfl rfl rea)) ?_
  refine jq rfl (fun he hC=>by rcases hC with rfl|⟨b,c,rfl⟩|⟨b,c,b',c',rfl⟩ <;> exact qrA) ?_
  refine jq rfl (fun he hC=>by rcases hC with rfl|⟨b,c,rfl⟩|⟨b,c,b',c',rfl⟩ <;> exact qrA) ?_
  refine jq rfl (fun he hC=>by rcases hC with rfl|⟨b,c,rfl⟩|⟨b,c,b',c',rfl⟩ <;> exact qrA) ?_
  refine jq rfl (fun he hC=>by rcases hC with rfl|⟨b,c,rfl⟩|⟨b,c,b',c',rfl⟩ <;> exact qrA) ?_
  refine jq rfl (fun he hC=>by rcases hC with rfl|⟨b,c,rfl⟩|⟨b,c,b',c',rfl⟩ <;> exact qrA) ?_
  refine jq rfl (fun he hC=>by rcases hC with rfl|⟨b,c,rfl⟩|⟨b,c,b',c',rfl⟩ <;> exact (by exact zaw rfl rfl reb)) ?_
  refine jq rfl (fun he hC=>by rcases hC with rfl|⟨b,c,rfl⟩|⟨b,c,b',c',rfl⟩ <;> exact qrA) ?_
  refine je rfl ?_;refine je rfl ?_;refine je rfl ?_;refine yb0 ⟨?_,fun b7 b8=> ?_⟩
  ·rintro ee u (⟨b,rfl⟩|⟨b,c,rfl⟩|⟨b,c,rfl⟩) <;> exact ⟨rfl,rfl⟩
  refine rn ?_;refine qv rfl rfl (y4 rfl rfl (y1.qt (y1.of_fun (zti h la f o hf hc)) ((pt4 _ _ _ _ _ _).trans (.cons _ ((pt4 _ _ _ _ _ _).trans (.cons _ ((pt4 _ _ _ _ _ _).trans (.cons _ (pt4 _ _ _ _ _ _))))))))) ?_
  refine rn ?_;refine z7 rfl (y7 rfl fun b9=> ?_)
  first|refine z7 rfl (u5 rfl rfl rfl ?_)|refine z7 rfl (zaf rfl rfl rfl rfl (Nat.le_of_ble_eq_true rfl) ?_)
  refine q1 ?_;refine q1 ?_;refine v8 (zak ?_)
  refine w8 (y6 ?_)
  refine q1 ?_;refine q1 ?_;refine q1 ?_;refine q1 ?_;refine q1 ?_;refine qq rfl rfl (j7 (c:=true) rfl rfl (congrArg some (beq_self_eq_true _))) ?_
  refine q1 ?_;refine q1 ?_;refine q1 ?_;refine q1 ?_;refine qq rfl rfl (j7 (c:=true) rfl rfl (congrArg some (by rw [ka];rfl))) ?_
  refine q1 ?_;refine q1 ?_;refine q1 ?_;refine q1 ?_;refine q1 ?_;refine q1 ?_;refine qq rfl rfl (j7 (c:=true) rfl rfl (congrArg some (by rw [ta];exact beq_self_eq_true _))) ?_
  refine q1 ?_;refine q1 ?_;refine q1 ?_;refine q1 ?_;refine q1 ?_;refine q1 ?_;refine qq rfl rfl (j7 (c:=true) rfl rfl (congrArg some (by rw [oa];exact beq_self_eq_true _))) ?_
  refine q1 ?_;refine q1 ?_;refine q1 ?_;refine q1 ?_;refine q1 ?_;refine q1 ?_;refine qq rfl rfl (j7 (c:=true) rfl rfl (congrArg some (by rw [tb];exact beq_self_eq_true _))) ?_
  refine q1 ?_;refine q1 ?_;refine q1 ?_;refine q1 ?_;refine q1 ?_;refine qq rfl rfl (zir rfl rfl rfl rfl (beq_self_eq_true _)) ?_
  refine q1 ?_;refine q1 ?_;refine q1 ?_;refine qq rfl rfl (j7 (c:=true) rfl rfl (congrArg some (rfl))) ?_
  refine q1 ?_;refine q1 ?_;refine qq rfl rfl (j7 (c:=true) rfl rfl (congrArg some (by rw [kb];rfl))) ?_
  refine q1 ?_;refine q1 ?_;refine q1 ?_;refine q1 ?_;refine qq rfl rfl (zir rfl rfl rfl rfl (by rw [vb];exact beq_self_eq_true _)) ?_
  refine q1 ?_;refine q1 ?_;refine q1 ?_;refine q1 ?_;refine q1 ?_;refine q1 ?_;refine qq rfl rfl (j7 (c:=true) rfl rfl (congrArg some (by rw [ob];exact beq_self_eq_true _))) ?_
  refine q1 ?_;refine q1 ?_;refine q1 ?_;refine q1 ?_;refine q1 ?_;refine qq rfl rfl (j7 (c:=false) rfl rfl (congrArg some (rfl))) ?_
  refine q1 ?_;refine q1 ?_;refine qq rfl rfl (j7 (c:=false) rfl rfl (congrArg some (by rw [kb];rfl))) ?_
  refine rn ?_;first|(refine rq 5 ?_;exact ⟨rfl,rfl⟩)|(refine rq 4 ?_;exact ⟨rfl,rfl⟩)|(refine rq 6 ?_;exact ⟨rfl,rfl⟩)
theorem yew (h:Hist) (la:Lim 4611686018427387904 h) (hc:q6 h=0) (f t o p:Int) (a b:Nat) (hne:f≠t) (ha:a < h.evs.length) (hb:b < h.evs.length) (hf:zi5 h.evs f o=some (h.evs[a].v,a)) (ka:h.evs[a].kind=2) (ta:h.evs[a].t=f) (oa:h.evs[a].o=o) (tb:h.evs[b].t=t) (kb:h.evs[b].kind=4) (pb:h.evs[b].p=p):y8 Tryz.prog 58 [.agg (y9 h),.agg (zaa ⟨f,t,2,a,b,o,p⟩),iv 2] (.glob 2 156 y2:: .glob 4 305 y3:: .glob 5 308 z8:: .glob 3 246 w6:: []) (fun r h'=>h'= .glob 2 156 y2:: .glob 4 305 y3:: .glob 5 308 z8:: .glob 3 246 w6:: []∧r=bv true):=by
 refine z6 Tryz.func58 rfl rfl rfl ?_
 have rea:(h.evs.map evR)[a]? =some (evR h.evs[a]):=zbn ha
 have reb:(h.evs.map evR)[b]? =some (evR h.evs[b]):=zbn hb
 refine rn ?_;refine z7 rfl (w7 rfl rfl rfl fun b3=> ?_)
 refine z7 rfl (w7 rfl rfl rfl fun b4=> ?_)
 refine q1 ?_;refine v8 (zak ?_)
 refine w8 ?_;refine w8 (y6 ?_)
 refine q1 ?_;refine q1 ?_;refine q1 ?_;refine qq rfl rfl (j7 (c:=false) rfl rfl (congrArg some (rfl))) ?_
 refine q1 ?_;refine q1 ?_;refine q1 ?_;refine q1 ?_;refine q1 ?_;refine qq rfl rfl (j7 (c:=false) rfl rfl (congrArg some (beq_eq_false_iff_ne.2 hne))) ?_
 refine q1 ?_;refine q1 ?_;refine q1 ?_;refine q1 ?_;refine qq rfl rfl (j7 (c:=false) rfl rfl (congrArg some (decide_eq_false (by show ¬(a:Int) < 0;omega)))) ?_
 refine q1 ?_;refine q1 ?_;refine q1 ?_;refine q1 ?_;refine q1 ?_;refine q1 ?_;refine q1 ?_;refine qq rfl rfl (j7 (c:=false) rfl rfl (congrArg some (decide_eq_false (by rw [oM];show ¬(a:Int) ≥ (h.evs.length:Int);omega)))) ?_
 refine q1 ?_;refine q1 ?_;refine q1 ?_;refine q1 ?_;refine qq rfl rfl (j7 (c:=false) rfl rfl (congrArg some (decide_eq_false (by show ¬(b:Int) < 0;omega)))) ?_
 refine q1 ?_;refine q1 ?_;refine q1 ?_;refine q1 ?_;refine q1 ?_;refine q1 ?_;refine q1 ?_;refine qq rfl rfl (j7 (c:=false) rfl rfl (congrArg some (decide_eq_false (by rw [oM];show ¬(b:Int) ≥ (h.evs.length:Int);omega)))) ?_
 refine rn ?_;refine y0 rfl (fun hc48=> ?_) (fun hc48=> ?_)
 ·first|cases hc48|exact absurd hc48 (by decide)|(exfalso;simp_all;done)
 ·refine zbs ?_;refine rn0 ?_;refine w8 ?_;refine zqh 15 12 13 14 7 8 60 (evR h.evs[a]) rfl rfl rfl rfl rfl rfl rfl rfl rfl rfl rfl rfl rfl rfl rfl ?_
  refine jq rfl (fun he hC=>by rcases hC with rfl|⟨b,c,rfl⟩|⟨b,c,b',c',rfl⟩ <;> exact qrA) ?_
  refine jq rfl (fun he hC=>by rcases hC with rfl|⟨b,c,rfl⟩|⟨b,c,b',c',rfl⟩ <;> exact qrA) ?_
  refine jq rfl (fun he hC=>by rcases hC with rfl|⟨b,c,rfl⟩|⟨b,c,b',c',rfl⟩ <;> exact qrA) ?_
  refine jq rfl (fun he hC=>by rcases hC with rfl|⟨b,c,rfl⟩|⟨b,c,b',c',rfl⟩ <;> exact qrA) ?_
  refine jq rfl (fun he hC=>by rcases hC with rfl|⟨b,c,rfl⟩|⟨b,c,b',c',rfl⟩ <;> exact (by exact zaw rfl rfl rea)) ?_
  refine jq rfl (fun he hC=>by rcases hC with rfl|⟨b,c,rfl⟩|⟨b,c,b',c',rfl⟩ <;> exact qrA) ?_
  refine jq rfl (fun he hC=>by rcases hC with rfl|⟨b,c,rfl⟩|⟨b,c,b',c',rfl⟩ <;> exact qrA) ?_
  refine jq rfl (fun he hC=>by rcases hC with rfl|⟨b,c,rfl⟩|⟨b,c,b',c',rfl⟩ <;> exact qrA) ?_
  refine jq rfl (fun he hC=>by rcases hC with rfl|⟨b,c,rfl⟩|⟨b,c,b',c',rfl⟩ <;> exact qrA) ?_
  refine jq rfl (fun he hC=>by rcases hC with rfl|⟨b,c,rfl⟩|⟨b,c,b',c',rfl⟩ <;> exact qrA) ?_
  refine jq rfl (fun he hC=>by rcases hC with rfl|⟨b,c,rfl⟩|⟨b,c,b',c',rfl⟩ <;> exact (by exact zaw rfl rfl reb)) ?_
  refine jq rfl (fun he hC=>by rcases hC with rfl|⟨b,c,rfl⟩|⟨b,c,b',c',rfl⟩ <;> exact qrA) ?_
  refine je rfl ?_;refine je rfl ?_;refine je rfl ?_;refine yb0 ⟨?_,fun b7 b8=> ?_⟩
  ·rintro ee u (⟨b,rfl⟩|⟨b,c,rfl⟩|⟨b,c,rfl⟩) <;> exact ⟨rfl,rfl⟩
  refine rn ?_;refine qv rfl rfl (y4 rfl rfl (y1.qt (y1.of_fun (zti h la f o hf hc)) ((pt4 _ _ _ _ _ _).trans (.cons _ ((pt4 _ _ _ _ _ _).trans (.cons _ ((pt4 _ _ _ _ _ _).trans (.cons _ (pt4 _ _ _ _ _ _))))))))) ?_
  refine rn ?_;refine z7 rfl (y7 rfl fun b9=> ?_)
  first|refine z7 rfl (u5 rfl rfl rfl ?_)|refine z7 rfl (zaf rfl rfl rfl rfl (Nat.le_of_ble_eq_true rfl) ?_)
  refine q1 ?_;refine q1 ?_;refine v8 (zak ?_)
  refine w8 (y6 ?_)
  refine q1 ?_;refine q1 ?_;refine q1 ?_;refine q1 ?_;refine q1 ?_;refine qq rfl rfl (j7 (c:=true) rfl rfl (congrArg some (beq_self_eq_true _))) ?_
  refine q1 ?_;refine q1 ?_;refine q1 ?_;refine q1 ?_;refine qq rfl rfl (j7 (c:=true) rfl rfl (congrArg some (by rw [ka];rfl))) ?_
  refine q1 ?_;refine q1 ?_;refine q1 ?_;refine q1 ?_;refine q1 ?_;refine q1 ?_;refine qq rfl rfl (j7 (c:=true) rfl rfl (congrArg some (by rw [ta];exact beq_self_eq_true _))) ?_
  refine q1 ?_;refine q1 ?_;refine q1 ?_;refine q1 ?_;refine q1 ?_;refine q1 ?_;refine qq rfl rfl (j7 (c:=true) rfl rfl (congrArg some (by rw [oa];exact beq_self_eq_true _))) ?_
  refine q1 ?_;refine q1 ?_;refine q1 ?_;refine q1 ?_;refine q1 ?_;refine q1 ?_;refine qq rfl rfl (j7 (c:=true) rfl rfl (congrArg some (by rw [tb];exact beq_self_eq_true _))) ?_
  refine q1 ?_;refine q1 ?_;refine q1 ?_;refine q1 ?_;refine q1 ?_;refine qq rfl rfl (zir rfl rfl rfl rfl (beq_self_eq_true _)) ?_
  refine q1 ?_;refine q1 ?_;refine q1 ?_;refine qq rfl rfl (j7 (c:=false) rfl rfl (congrArg some (rfl))) ?_
  refine q1 ?_;refine q1 ?_;refine qq rfl rfl (j7 (c:=false) rfl rfl (congrArg some (by rw [kb];rfl))) ?_
  refine q1 ?_;refine qs rfl rfl ?_;refine qs rfl rfl ?_;refine qs rfl rfl ?_;refine qs rfl rfl ?_;refine q1 ?_;refine q1 ?_;refine qs rfl rfl ?_;refine qs rfl rfl ?_;refine qs rfl rfl ?_;refine qs rfl rfl ?_;refine qs rfl rfl ?_;refine q1 ?_;refine q1 ?_;refine q1 ?_;refine q1 ?_;refine q1 ?_;refine qq rfl rfl (j7 (c:=true) rfl rfl (congrArg some (rfl))) ?_
  refine q1 ?_;refine q1 ?_;refine qq rfl rfl (j7 (c:=true) rfl rfl (congrArg some (by rw [kb];rfl))) ?_
  refine q1 ?_;refine q1 ?_;refine q1 ?_;refine q1 ?_;refine q1 ?_;refine qq rfl rfl (j7 (c:=true) rfl rfl (congrArg some (by rw [pb];exact beq_self_eq_true _))) ?_
  refine rn ?_;first|(refine rq 5 ?_;exact ⟨rfl,rfl⟩)|(refine rq 4 ?_;exact ⟨rfl,rfl⟩)|(refine rq 6 ?_;exact ⟨rfl,rfl⟩)
theorem yev (h:Hist) (la:Lim 4611686018427387904 h) (hc:q6 h=0) {f t k o p:Int} {a b:Nat} (hT:ycy h f t k o p a b):y8 Tryz.prog 58 [.agg (y9 h),.agg (zaa ⟨f,t,k,a,b,o,p⟩),iv k] (.glob 2 156 y2:: .glob 4 305 y3:: .glob 5 308 z8:: .glob 3 246 w6:: []) (fun r h'=>h'= .glob 2 156 y2:: .glob 4 305 y3:: .glob 5 308 z8:: .glob 3 246 w6:: []∧r=bv true):=by
 obtain ⟨hne,ha,hb,hf,ka,ta,oa,tb,⟨rfl,kb,vb,ob⟩|⟨rfl,kb,pb⟩⟩:=hT
 ·exact yex h la hc f t o p a b hne ha hb hf ka ta oa tb kb vb ob
 ·exact yew h la hc f t o p a b hne ha hb hf ka ta oa tb kb pb
theorem yek (h:Hist) (la:Lim 4611686018427387904 h) {c:Conf} (hJ:wrJ h c=true):y8 Tryz.prog 59 [.agg (y9 h),.agg (zaa c)] (.glob 2 156 y2:: .glob 4 305 y3:: .glob 5 308 z8:: .glob 3 246 w6:: []) (fun r h'=>h'= .glob 2 156 y2:: .glob 4 305 y3:: .glob 5 308 z8:: .glob 3 246 w6:: []∧r=bv true):=(zvs h la c).mono fun _ _ q=>⟨q.1,by rw [q.2,hJ]⟩
theorem zz8 (x:Hist)  (lb:Lim 4611686018427387904 x)  :y8 Tryz.prog 11 [.agg (y9 x)] (.glob 2 156 y2:: .glob 4 305 y3:: .glob 5 308 z8:: .glob 3 246 w6:: []) (fun r h'=>h'= .glob 2 156 y2:: .glob 4 305 y3:: .glob 5 308 z8:: .glob 3 246 w6:: []∧r=bv true):=by
 refine z6 Tryz.func11 rfl rfl rfl ?_
 refine rn ?_;refine z7 rfl (w7 rfl rfl rfl fun b1=> ?_)
 refine rn ?_;refine qv rfl rfl (y4 rfl rfl (y1.qt (y1.of_fun yeq) ((pt1 _ _ _).trans (.cons _ ((pt1 _ _ _).trans (.cons _ ((pt1 _ _ _).trans (.cons _ (pt1 _ _ _))))))))) ?_
 refine rn ?_;refine y0 rfl (fun hc14=> ?_) (fun hc14=> ?_)
 ·exact absurd hc14 (by decide)
 ·refine rn ?_;refine qv rfl rfl (y4 rfl rfl (zax (ynh x lb) (Sbs.refl _))) ?_
  refine z7 rfl (y7 rfl fun b3=> ?_)
  refine rn ?_;refine qv rfl rfl (y4 rfl rfl (y1.qt (y1.of_fun (zvu (zep x) ((zh9 x).mono (by decide)))) ((pt2 _ _ _ _).trans (.cons _ ((pt2 _ _ _ _).trans (.cons _ ((pt2 _ _ _ _).trans (.cons _ (pt2 _ _ _ _))))))))) ?_
  refine rn ?_;refine qv rfl rfl (y4 rfl rfl (y1.qt (y1.of_fun (zsg (zep x) ((zh9 x).mono (by decide)))) ((pt2 _ _ _ _).trans (.cons _ ((pt2 _ _ _ _).trans (.cons _ ((pt2 _ _ _ _).trans (.cons _ (pt2 _ _ _ _))))))))) ?_
  refine q1 ?_;refine q1 ?_;refine q1 ?_;refine q1 ?_;refine q1 ?_;refine v8 (zak ?_)
  refine w8 ?_;refine w8 (y6 ?_)
  refine q1 ?_;refine q1 ?_;refine qq rfl rfl (j7 (c:=false) rfl rfl (congrArg some (bne_self_eq_false _))) ?_
  refine rn ?_;refine y0 rfl (fun hc33=> ?_) (fun hc33=> ?_)
  ·have hc:(q6 (zep x))≠0:=nzT hc33
   rw [zvv hc,zvr hc]
   refine w8 (y6 ?_)
   refine q1 ?_;refine q1 ?_;refine qq rfl rfl (j7 (c:=true) rfl rfl (congrArg some (beq_self_eq_true _))) ?_
   refine q1 ?_;refine q1 ?_;refine q1 ?_;refine q1 ?_;refine q1 ?_;refine qq rfl rfl (zfe rfl rfl rfl (by simp)) ?_
   refine qq rfl rfl (j7 (c:=true) rfl rfl (congrArg some (rfl))) ?_
   refine rn ?_;refine qv rfl rfl (y4 rfl rfl (y1.qt (y1.of_fun (zrr (zep x) ((zh9 x).mono (by decide)))) ((pt2 _ _ _ _).trans (.cons _ ((pt2 _ _ _ _).trans (.cons _ ((pt2 _ _ _ _).trans (.cons _ (pt2 _ _ _ _))))))))) ?_
   refine q1 ?_;refine qq rfl rfl (j7 (c:=true) rfl rfl (congrArg some (beq_self_eq_true _))) ?_
   refine rn ?_;first|(refine rq 2 ?_;exact ⟨rfl,rfl⟩)|(refine rq 3 ?_;exact ⟨rfl,rfl⟩)
  ·have hc:(q6 (zep x))=0:=nzF hc33
   have hLL:=ykv (zep x)
   have hI:=zsn (zep x)
   have hW:=zsi (zep x)
   refine rn ?_;refine z7 rfl (zac (enc:=zb4) rfl fun bm=> ?_)
   refine q1 ?_;refine v8 (zak ?_)
   refine w8 ?_;refine w8 (y6 ?_)
   refine q1 ?_;refine q1 ?_;refine q1 ?_;refine q1 ?_;refine q1 ?_;refine qq rfl rfl (zpc (zk5 (k:=((zgx (zep x)).map zaa).length) rfl rfl rfl (Nat.le_refl _)) (show AV.list true 7 _= .list true 7 ((zgx (zep x)).map zaa) by rw [List.take_length])) ?_
   refine rn ?_;refine qv rfl rfl (zhz rfl rfl (by rw [oM,oM];omega)) ?_
   rw [←List.map_append]
   refine rn ?_;refine zby ((zgx (zep x))++(zj2 (zep x))).length (fun _=>True) (fun i=>⟨[(61,iv i),(3,pZ b3),(4,zjt (zgx (zep x))),(8,mpv bm),(59,zjt ((zgx (zep x))++(zj2 (zep x)))),(60,iv (((zgx (zep x))++(zj2 (zep x))).map zaa).length)],.map bm (j9 zb4 (zau bv (mtM (((zgx (zep x))++(zj2 (zep x))).take i)))):: .box b3 28 (y9 (zep x)):: .box b1 28 (y9 x):: .glob 2 156 y2:: .glob 4 305 y3:: .glob 5 308 z8:: .glob 3 246 w6:: [],[]⟩) trivial es ?_
   intro i li _
   refine rn ?_;refine y0 rfl (fun hc62=> ?_) (fun hc62=> ?_)
   ·have hi:=zde hc62
    have ri:=zbn (f:=zaa) hi
    obtain ⟨f,t,o,p,a,b,hcv,hT,hJ⟩:=ynk hc hi
    have hnew:=yku hc hi
    rw [hcv] at ri hJ hnew
    refine rn ?_;refine z7 rfl (y7 rfl fun b10=> ?_)
    refine rn0 ?_;refine w8 (y6 ?_)
    refine rn0 ?_;refine zqi (⟨[(11,iv (kdW (zep x) i)),(10,pZ b10),(3,pZ b3),(4,zjt (zgx (zep x))),(8,mpv bm),(59,zjt ((zgx (zep x))++(zj2 (zep x)))),(60,iv (((zgx (zep x))++(zj2 (zep x))).map zaa).length),(61,iv i)],.box b10 41 (zaa ⟨f,t,kdW (zep x) i,a,b,o,p⟩):: .map bm (j9 zb4 (zau bv (mtM (((zgx (zep x))++(zj2 (zep x))).take i)))):: .box b3 28 (y9 (zep x)):: .box b1 28 (y9 x):: .glob 2 156 y2:: .glob 4 305 y3:: .glob 5 308 z8:: .glob 3 246 w6:: [],[]⟩) ?_ ?_
    ·refine rn ?_;refine y0 rfl (fun hc69=> ?_) (fun hc69=> ?_)
     ·refine rn ?_;first|(rw [yj2 hc69];exact eA)|(rw [yj3 hc69];exact eA)
     ·refine rn ?_;first|(rw [yj2 hc69];exact eA)|(rw [yj3 hc69];exact eA)
    ·refine w8 (y6 ?_)
     refine q1 ?_;refine q1 ?_;refine q1 ?_;refine q1 ?_;refine q1 ?_;refine q1 ?_;refine qq rfl rfl (zbk (out:= [iv f,iv t,iv (kdW (zep x) i)]) rfl (by rfl)) ?_
     refine z7 rfl (y7 rfl fun b12=> ?_)
     refine rn ?_;refine qv rfl rfl (y4 rfl rfl (y1.qt (y1.of_fun (yev (zep x) ((zh9 x).mono (by decide)) hc hT)) ((pt5 _ _ _ _ _ _ _).trans (.cons _ ((pt5 _ _ _ _ _ _ _).trans (.cons _ ((pt5 _ _ _ _ _ _ _).trans (.cons _ (pt5 _ _ _ _ _ _ _))))))))) ?_
     refine q1 ?_;refine q1 ?_;refine q1 ?_;refine q1 ?_;refine qq rfl rfl (zpc (za0 (enc:=zb4) (k:=(zu6 ⟨f,t,kdW (zep x) i,a,b,o,p⟩)) false rfl rfl) (congrArg bv hnew)) ?_
     refine rn ?_;refine qv rfl rfl (y4 rfl rfl (y1.qt (y1.of_fun (yek (zep x) ((zh9 x).mono (by decide)) hJ)) ((pt5 _ _ _ _ _ _ _).trans (.cons _ ((pt5 _ _ _ _ _ _ _).trans (.cons _ ((pt5 _ _ _ _ _ _ _).trans (.cons _ (pt5 _ _ _ _ _ _ _))))))))) ?_
     refine rn ?_;refine y0 rfl (fun hc92=> ?_) (fun hc92=> ?_)
     ·first|cases hc92|exact absurd hc92 (by decide)|(exfalso;simp_all;done)
     ·refine rn ?_;refine z7 rfl (j8 (g:=bv) (enc:=zb4) (k:=(zu6 ⟨f,t,kdW (zep x) i,a,b,o,p⟩)) (v:=true) rfl rfl rfl ?_)
      refine rn ?_;exact ⟨hi,trivial,by rw [ymz hi,hcv];exact eA⟩
   ·have qi:=zdg hc62 li
    refine rn ?_;first|(refine rq 2 ?_;exact ⟨rfl,rfl⟩)|(refine rq 3 ?_;exact ⟨rfl,rfl⟩)
end Go.Proofs
