/- The abstract logic: slices.SortFunc over a row of one's own whose elements are k plain cells, as a contract (the kit's shelf has walked it). .. -/
import Derived.Test.YtfmcbdjnmlcacaaGreatDoorWJsK
import Derived.Shelf.SlSortCmp.NoneTotal
set_option maxHeartbeats 4000000
set_option linter.unusedSectionVars false
set_option linter.unusedSimpArgs false
set_option linter.unusedVariables false
namespace Go.Ab
open Go Go.Shelf Go.Sort Go.Proofs
theorem zyj {w w':World} (hk:Keep [] w [] w'):∃q os,w'=grow (w.drewN q) os:=by
 obtain ⟨⟨h1,h2⟩,h3,h4⟩:=hk.env
 have hh:w'.heap=w.heap++w'.heap.extract w.heap.size w'.heap.size:=by
  apply Array.ext_getElem?
  intro i
  by_cases hi:i < w.heap.size
  ·rw [Array.getElem?_append_left hi];exact (hk.same i hi (by simp)).1
  ·rw [Array.getElem?_append_right (by omega)]
   rw [Array.getElem?_extract]
   split
   ·congr 1;omega
   ·rw [Array.getElem?_eq_none (by omega)]
 refine ⟨w'.drawn - w.drawn,w'.heap.extract w.heap.size w'.heap.size,?_⟩
 have hd:w.drawn+(w'.drawn - w.drawn)=w'.drawn:=by omega
 cases w;cases w'
 simp only [grow,World.drewN] at *
 simp only [World.mk.injEq]
 exact ⟨hh,h3,by omega,h1,h2⟩
section
variable {P:Program} {α:Type} [Inhabited α] {enc:α→List Value} {k:Nat} {cf:α→α→Int}
def zev (enc:α→List Value) (x:α):List AV:=(enc x).map .v
theorem zsr {w:World} {O:Nat→Prop} (x:α):Rel w O (.agg (zev enc x)) (.agg (enc x).toArray):=
 .agg _ _ (by simp [zev]) fun j h1 h2=>by simp only [zev,List.getElem_map,List.getElem_toArray];exact .v _
theorem yic (w:World):HRel noX w []:=⟨List.nodup_nil,fun b hb=>by simp [k8] at hb,fun b hb=>hb.elim,fun r hr=>by simp at hr⟩
theorem yi0 {g:FuncId} (hp:∀x y,y7 P g [.agg (zev enc x),.agg (zev enc y)] [] (fun r h'=>h'= []∧r= .v (.int .i64 (cf x y)))) (blk off size:Nat) (w:World):CmpLays P g #[] enc k cf blk off size w:=fun m os dk hs x y=>by
 have h:=((hp x y) noX (sortWorldK enc k w blk off m dk os) [.agg (enc x).toArray,.agg (enc y).toArray] (yic _) ⟨zsr x,zsr y,trivial⟩).calls (fun k=>ybk none k)
 refine h.mono ?_;rintro e w' ⟨v,av,h',rfl,⟨rfl,rfl⟩,hr,_,hk⟩
 obtain rfl:=hr.v_eq
 exact ⟨rfl,zyj hk⟩
end
section
variable {P:Program} {ρ:Ren} {α:Type} [Inhabited α] {enc:α→List Value} {k:Nat} {X:Nat→Prop} {w:World} {a:Addr} {cap:Nat} {T:TypeId} {xs ys:List α}
theorem rowK_holds (hk:∀x,(enc x).length=k) (hh:HRel X w [.row (.slice (some a) xs.length cap) k T (xs.map (zev enc))]):HoldsK enc k w a.block a.off xs.toArray∧a.block < w.heap.size∧a.spot=none:=by
 obtain ⟨h1,h2,h3,h4,c,h5,h6,h7⟩:=hh.holds _ (List.mem_singleton.2 rfl)
 refine ⟨fun t ht=> ?_,(hh.lt a.block (by simp [k8,Res.own])).1,h1⟩
 have ht':t < xs.length * k:=by simpa using ht
 have k0:0 < k:=by
  rcases Nat.eq_zero_or_pos k with q|q
  ·rw [q,Nat.mul_zero] at ht';omega
  ·exact q
 have hi:t / k < xs.length:=Nat.div_lt_of_lt_mul (by rw [Nat.mul_comm];exact ht')
 have hj:t % k < k:=Nat.mod_lt _ k0
 obtain ⟨v,e,r⟩:=h7 (t / k) (by simpa using hi) (t % k) (by simp [zev,hk];exact hj)
 simp only [List.getElem_map,zev] at r
 have hv:=r.v_eq
 have et:a.off+t / k * k+t % k=a.off+t:=by have:=Nat.div_add_mod t k;rw [Nat.mul_comm] at this;omega
 rw [et] at e
 have ef:(flatK enc k xs.toArray)[t]! =(enc xs[t / k])[t % k]'(by rw [hk];exact hj):=by
  rw [get_flatK _ _ _ _ (by simpa using ht'),getElem!_pos xs.toArray (t / k) (by simpa using hi),getElem!_pos _ _ (by rw [hk];exact hj)]
  simp
 refine ⟨?_,by simp [World.frozen?,h5]⟩
 show World.cell? w ⟨a.block,a.off+t,none⟩=some (id _)
 rw [ef]
 simp [World.cell?,h5,e,hv]
theorem ybi (hk:∀x,(enc x).length=k) (hh:HRel X w [.row (.slice (some a) xs.length cap) k T (xs.map (zev enc))]) (hl:ys.length=xs.length) (n:Nat) (os:Array Obj):
 HRel X (sortWorldK enc k w a.block a.off n ys.toArray os) [.row (.slice (some a) xs.length cap) k T (ys.map (zev enc))]∧Keep [a.block] w [a.block] (sortWorldK enc k w a.block a.off n ys.toArray os):=by
 obtain ⟨h1,h2,h3,h4,c,h5,h6,h7⟩:=hh.holds _ (List.mem_singleton.2 rfl)
 have hb:a.block < w.heap.size:=(hh.lt a.block (by simp [k8,Res.own])).1
 have hX:¬X a.block:=(hh.lt a.block (by simp [k8,Res.own])).2
 obtain ⟨w',hw'⟩:∃w',w'=sortWorldK enc k w a.block a.off n ys.toArray os:=⟨_,rfl⟩
 rw [←hw']
 have hheap:w'.heap=(w.heap.modify a.block (onCells (putCells id a.off (flatK enc k ys.toArray))))++os:=by rw [hw'];rfl
 have hos:zi5 w w':=by rw [hw'];exact ⟨⟨rfl,rfl⟩,rfl,Nat.le_add_right _ _⟩
 have hsize:w.heap.size≤w'.heap.size:=by rw [hheap];simp
 have hold:∀b,b < w.heap.size→b≠a.block→w'.heap[b]? =w.heap[b]? :=fun b hb hne=>by
  rw [hheap,Array.getElem?_append_left (by simpa using hb),Array.getElem?_modify,if_neg (Ne.symm hne)]
 have hnew:w'.heap[a.block]? =some (.cells (putCells id a.off (flatK enc k ys.toArray) c) T (0,0)):=by
  rw [hheap,Array.getElem?_append_left (by simpa using hb),Array.getElem?_modify,if_pos rfl,h5];rfl
 refine ⟨⟨by simp [k8,Res.own],fun b hb2=> ?_,fun b hb2=>Nat.lt_of_lt_of_le (hh.xlt b hb2) hsize,fun r hr=> ?_⟩,⟨hsize,fun b hb2 hne=> ?_,hos⟩⟩
 ·have:b=a.block:=by simpa [k8,Res.own] using hb2
  subst this;exact ⟨Nat.lt_of_lt_of_le hb hsize,hX⟩
 ·rw [List.mem_singleton] at hr
  subst hr
  refine ⟨h1,by simp [hl],h3,fun i hi=>by simp [zev,hk],_,hnew,by simpa [putCells] using h6,fun i hi j hj=> ?_⟩
  have hi2:i < ys.length:=by simpa using hi
  have hj2:j < k:=by simpa [zev,hk] using hj
  have hm1:(i+1) * k≤ys.length * k:=Nat.mul_le_mul_right k hi2
  have hm2:xs.length * k≤cap * k:=Nat.mul_le_mul_right k (by simpa using h3)
  rw [Nat.add_mul,Nat.one_mul] at hm1
  have hin:i * k+j < ys.length * k:=by omega
  have hc:a.off+i * k+j < c.size:=by rw [hl] at hin;omega
  have k0:0 < k:=by omega
  have ed:(i * k+j) / k=i:=by rw [Nat.mul_comm,Nat.mul_add_div k0,Nat.div_eq_of_lt hj2,Nat.add_zero]
  have em:(i * k+j) % k=j:=by rw [Nat.mul_comm,Nat.mul_add_mod,Nat.mod_eq_of_lt hj2]
  refine ⟨(enc ys[i])[j]'(by rw [hk];exact hj2),?_,?_⟩
  ·simp only [putCells,Array.getElem?_mapIdx]
   rw [Array.getElem?_eq_getElem hc]
   simp only [Option.map_some]
   rw [if_pos ⟨by omega,by simp;omega⟩]
   have e2:a.off+i * k+j - a.off=i * k+j:=by omega
   rw [e2]
   congr 1
   show (flatK enc k ys.toArray)[i * k+j]! =_
   rw [get_flatK _ _ _ _ (by simpa using hin),ed,em,getElem!_pos ys.toArray i (by simpa using hi2),getElem!_pos _ _ (by rw [hk];exact hj2)]
   simp
  ·simp only [List.getElem_map,zev]
   exact .v _
 ·have hne2:b≠a.block:=by simpa using hne
  exact ⟨hold b hb2 hne2,hne⟩
theorem zoy (L:SlLaysF0.n6 P ρ) (aE:∀w,(isAgg (ρ.t 24)).run P w= .ok true w) (zE:∀w,(Go.sizeOf (ρ.t 24)).run P w= .ok k w) (hk:∀x,(enc x).length=k) (h1:∀x,∀v∈enc x,v.oneCell'=true) (cf:α→α→Int) (hO:SWO (ltOf cf)) (g:FuncId) [Enters P g]
 (hp:∀x y,y7 P g [.agg (zev enc x),.agg (zev enc y)] [] (fun r h'=>h'= []∧r= .v (.int .i64 (cf x y)))) (s:SV) (T:TypeId) (xs:List α) (hs:xs.length < 4611686018427387904):
 y7 P (ρ.f 6) [.v s.v,.fn (.func g) [] []] [.row s.v k T (xs.map (zev enc))] (fun r h'=>∃ys:List α,ys.Perm xs∧(∀i j (hi:i < j) (hj:j < ys.length),¬cf ys[j] (ys[i]'(by omega)) < 0)∧h'= [.row s.v k T (ys.map (zev enc))]∧r= .v (.tuple #[])):=by
 intro X w vs hh ha
 match vs,ha with
 | [v,u],⟨hv,hu,_⟩=>
   obtain rfl:=hv.v_eq
   have hu':u= .func (.func g) #[] #[]:=by
    cases hu with
    |fn _ _ _ fa ca e1 e2 _ _=>rw [Array.eq_empty_of_size_eq_zero (xs:=fa) e1.symm,Array.eq_empty_of_size_eq_zero (xs:=ca) e2.symm]
   subst hu'
   obtain ⟨a,n,cap⟩:=s
   cases a with
   |none=>
    obtain ⟨g1,rfl,rfl⟩:=hh.holds _ (List.mem_singleton.2 rfl)
    obtain rfl:xs= []:=by simpa using g1
    refine callsIn_wide.2 ((AnyF.slices_SortFunc_none L none 0 _ w).mono ?_)
    rintro e w' ⟨rfl,rfl⟩
    exact ⟨_,_,_,rfl,⟨[],.refl _,fun i j hi hj=>by simp at hj,rfl,rfl⟩,.v _,hh,.refl _ _⟩
   |some a=>
    have hn:n=xs.length:=by
     have:=(hh.holds _ (List.mem_singleton.2 rfl)).2.1
     simpa using this
    subst hn
    obtain ⟨g1,g2,g3⟩:=rowK_holds hk hh
    obtain ⟨b,off,sp⟩:=a
    simp only at g1 g2 g3
    subst g3
    refine callsIn_wide.2 ((AnyQ.slices_SortFunc L k aE zE enc hk h1 cf hO g #[] b off cap xs.toArray w (fun args w=>zhp args w) (yi0 hp b off _ w) g1 g2 (by simpa using hs)).mono ?_)
    rintro e w' ⟨rfl,d',n,os,⟨p1,_,p3⟩,p4,rfl⟩
    have hl:d'.toList.length=xs.length:=by simpa using p1
    have hperm:d'.toList.Perm xs:=by
     have q1:(d'.extract 0 xs.toArray.size)=d':=by rw [←p1];simp
     have q2:(xs.toArray.extract 0 xs.toArray.size)=xs.toArray:=by simp
     rw [q1,q2] at p3;simpa using p3
    obtain ⟨k1,k2⟩:=ybi (ys:=d'.toList) hk hh hl n os
    refine ⟨_,_,_,rfl,⟨d'.toList,hperm,fun i j hi hj=> ?_,rfl,rfl⟩,.v _,k1,k2⟩
    have hj':j < d'.size:=by simpa using hj
    have:=p4 i j (Nat.zero_le _) hi (by rw [←p1];exact hj')
    rw [getElem!_pos d' j hj',getElem!_pos d' i (by omega)] at this
    simpa [ltOf] using this
end
end Go.Ab
namespace Go.Proofs
open Go Go.Ab Go.Shelf
def ygh:Go.Shelf.Ren:=⟨fun|6=>156|14=>213|15=>137|20=>248|21=>249|22=>250|23=>251|24=>252|25=>253|26=>254|27=>255|28=>184|29=>185|46=>273|47=>220|48=>221|49=>274|50=>275|57=>283|n=>n,fun|0=>0|3=>3|4=>4|5=>5|9=>9|22=>35|24=>41|25=>64|39=>180|45=>218|46=>219|50=>67|53=>225|55=>227|66=>265|70=>185|76=>288|77=>289|n=>n,fun n=>n⟩
theorem yaz:SlLaysF0.n6 Tryz.prog ygh:={
 mixed:=by kernel_rfl
 f6:=⟨ "slices.SortFunc[[]yardarm/api.Conflict,yardarm/api.Conflict]",by decide,Tryz.func156.trans (congrArg some (by kernel_rfl))⟩
 f14:=⟨ "slices.pdqsortCmpFunc[yardarm/api.Conflict]",by decide,Tryz.func213.trans (congrArg some (by kernel_rfl))⟩
 f15:=Tryz.func137.trans (congrArg some (by kernel_rfl))
 f20:=⟨ "slices.insertionSortCmpFunc[yardarm/api.Conflict]",by decide,Tryz.func248.trans (congrArg some (by kernel_rfl))⟩
 f21:=⟨ "slices.heapSortCmpFunc[yardarm/api.Conflict]",by decide,Tryz.func249.trans (congrArg some (by kernel_rfl))⟩
 f22:=⟨ "slices.breakPatternsCmpFunc[yardarm/api.Conflict]",by decide,Tryz.func250.trans (congrArg some (by kernel_rfl))⟩
 f23:=⟨ "slices.choosePivotCmpFunc[yardarm/api.Conflict]",by decide,Tryz.func251.trans (congrArg some (by kernel_rfl))⟩
 f24:=⟨ "slices.reverseRangeCmpFunc[yardarm/api.Conflict]",by decide,Tryz.func252.trans (congrArg some (by kernel_rfl))⟩
 f25:=⟨ "slices.partialInsertionSortCmpFunc[yardarm/api.Conflict]",by decide,Tryz.func253.trans (congrArg some (by kernel_rfl))⟩
 f26:=⟨ "slices.partitionEqualCmpFunc[yardarm/api.Conflict]",by decide,Tryz.func254.trans (congrArg some (by kernel_rfl))⟩
 f27:=⟨ "slices.partitionCmpFunc[yardarm/api.Conflict]",by decide,Tryz.func255.trans (congrArg some (by kernel_rfl))⟩
 f28:=Tryz.func184.trans (congrArg some (by kernel_rfl))
 f29:=Tryz.func185.trans (congrArg some (by kernel_rfl))
 f46:=⟨ "slices.siftDownCmpFunc[yardarm/api.Conflict]",by decide,Tryz.func273.trans (congrArg some (by kernel_rfl))⟩
 f47:=Tryz.func220.trans (congrArg some (by kernel_rfl))
 f48:=Tryz.func221.trans (congrArg some (by kernel_rfl))
 f49:=⟨ "slices.medianAdjacentCmpFunc[yardarm/api.Conflict]",by decide,Tryz.func274.trans (congrArg some (by kernel_rfl))⟩
 f50:=⟨ "slices.medianCmpFunc[yardarm/api.Conflict]",by decide,Tryz.func275.trans (congrArg some (by kernel_rfl))⟩
 f57:=⟨ "slices.order2CmpFunc[yardarm/api.Conflict]",by decide,Tryz.func283.trans (congrArg some (by kernel_rfl))⟩
 t0:=Tryz.underlying0
 a0:=Tryz.isAgg0
 z0:=Tryz.sizeOf0
 v0:=Tryz.zeroValue0
 t3:=Tryz.underlying3
 a3:=Tryz.isAgg3
 z3:=Tryz.sizeOf3
 v3:=Tryz.zeroValue3
 t4:=Tryz.underlying4
 a4:=Tryz.isAgg4
 z4:=Tryz.sizeOf4
 v4:=Tryz.zeroValue4
 t5:=Tryz.underlying5
 a5:=Tryz.isAgg5
 z5:=Tryz.sizeOf5
 v5:=Tryz.zeroValue5
 t9:=Tryz.underlying9
 a9:=Tryz.isAgg9
 z9:=Tryz.sizeOf9
 v9:=Tryz.zeroValue9
 t22:=Tryz.underlying35
 a22:=Tryz.isAgg35
 z22:=Tryz.sizeOf35
 v22:=Tryz.zeroValue35
 t25:=Tryz.underlying64
 a25:=Tryz.isAgg64
 z25:=Tryz.sizeOf64
 v25:=Tryz.zeroValue64
 t39:=Tryz.underlying180
 a39:=Tryz.isAgg180
 z39:=Tryz.sizeOf180
 v39:=Tryz.zeroValue180
 t45:=Tryz.underlying218
 a45:=Tryz.isAgg218
 z45:=Tryz.sizeOf218
 v45:=Tryz.zeroValue218
 t46:=Tryz.underlying219
 a46:=Tryz.isAgg219
 z46:=Tryz.sizeOf219
 v46:=Tryz.zeroValue219
 t50:=Tryz.underlying67
 a50:=Tryz.isAgg67
 z50:=Tryz.sizeOf67
 v50:=Tryz.zeroValue67
 t53:=Tryz.underlying225
 a53:=Tryz.isAgg225
 z53:=Tryz.sizeOf225
 v53:=Tryz.zeroValue225
 t55:=Tryz.underlying227
 a55:=Tryz.isAgg227
 z55:=Tryz.sizeOf227
 v55:=Tryz.zeroValue227
 t66:=Tryz.underlying265
 a66:=Tryz.isAgg265
 z66:=Tryz.sizeOf265
 v66:=Tryz.zeroValue265
 t70:=Tryz.underlying185
 a70:=Tryz.isAgg185
 z70:=Tryz.sizeOf185
 v70:=Tryz.zeroValue185
 t76:=Tryz.underlying288
 a76:=Tryz.isAgg288
 z76:=Tryz.sizeOf288
 v76:=Tryz.zeroValue288
 t77:=Tryz.underlying289
 a77:=Tryz.isAgg289
 z77:=Tryz.sizeOf289
 v77:=Tryz.zeroValue289}
set_option maxRecDepth 10000
attribute [local irreducible] QR QV OE zcr aw zdc zdn zbj zcg thn zff zeb jch zfn
open Go.H
def orL:List Int→Int
 | []=>0
 |a::l=>if a≠0 then a else orL l
theorem ym2 (a b:Conf):orL [zrk a.f b.f,zrk a.t b.t,zrk a.a b.a,zrk a.b b.b,zrk a.o b.o,zrk a.p b.p]=zp3 a b:=by
 rw [zp3]
 simp only [yej,orL,ite_not]
 rfl
theorem yqv {l:List Int} {k:Nat} (hk:k < l.length) (h:l[k]≠0):orL (l.drop k)=l[k]:=by
 rw [List.drop_eq_getElem_cons hk,orL,if_pos h]
theorem yum {l:List Int} {k:Nat} (hk:k < l.length) (h:l[k]=0):orL (l.drop k)=orL (l.drop (k+1)):=by
 rw [List.drop_eq_getElem_cons hk,orL,if_neg (by simpa using h)]
theorem ym1 {l:List Int} {k:Nat} (hk:k=l.length):orL (l.drop k)=0:=by rw [hk,List.drop_length];rfl
theorem zh8 (a b:Conf):zp3 b a= - zp3 a b:=zn6 _ _
theorem zlg {a b c:Conf} (h:zp3 a b≤0) (k:zp3 b c≤0):zp3 a c≤0:=zim _ _ _ h k
theorem yvh {f:Bool} (l:List Int) (hl:l.length≤4611686018427387904):y7 Tryz.prog 212 [.list f 1 (l.map zai)] [] (fun r h'=>h'= []∧r=iv (orL l)):=by
 refine z6 Tryz.func212 rfl rfl rfl ?_
 refine rn ?_;refine zcj (l.length) (fun k:Nat=>orL l=orL (l.drop k)) (fun k=> [(8,iv k)]) [(3,_),(6,_),(7,_)] rfl ?_
 intro k lk zk
 refine rn ?_;refine z7 rfl (fun hc9=> ?_) (fun hc9=> ?_)
 ·have hk:=zay hc9
  have rk:=zag (f:=zai) hk
  refine rn ?_;refine z7 rfl (fun hc14=> ?_) (fun hc14=> ?_)
  ·refine rn ?_;refine rq 0 ?_
   exact ⟨rfl,congrArg iv (by rw [zk,yqv hk (by simpa using hc14)])⟩
  ·refine rn ?_;exact ⟨hk,by rw [zk,yum hk (by simpa using hc14)],eA⟩
 ·have qk:=zaz hc9 lk
  refine rn ?_;refine rq 0 ?_
  exact ⟨rfl,congrArg iv (by rw [zk,ym1 qk])⟩
theorem zrw (a b:Conf):y7 Tryz.prog 155 [.agg (zaf a),.agg (zaf b)] [] (fun r h'=>h'= []∧r=iv (zp3 a b)):=by
 refine z6 Tryz.func155 rfl rfl rfl ?_
 refine rn ?_;refine z8 rfl (w8 rfl rfl rfl fun b2=> ?_)
 refine z8 rfl (w8 rfl rfl rfl fun b3=> ?_)
 refine rn ?_;refine j4 29 rfl ?_
 refine rn ?_;refine dv rfl rfl (by exact y2 rfl rfl (u3 (zp4 _ _) (Sbs.refl _))) ?_
 refine rn ?_;refine dv rfl rfl (by exact y2 rfl rfl (u3 (zp4 _ _) (Sbs.refl _))) ?_
 refine rn ?_;refine dv rfl rfl (by exact y2 rfl rfl (u3 (zp4 _ _) (Sbs.refl _))) ?_
 refine rn ?_;refine dv rfl rfl (by exact y2 rfl rfl (u3 (zp4 _ _) (Sbs.refl _))) ?_
 refine rn ?_;refine dv rfl rfl (by exact y2 rfl rfl (u3 (zp4 _ _) (Sbs.refl _))) ?_
 refine rn ?_;refine qv rfl rfl (y2 rfl rfl (u3 (zp4 _ _) (Sbs.refl _))) ?_
 refine qv rfl rfl (q6 rfl rfl) ?_
 refine qv rfl rfl (y2 rfl rfl (u3 (yvh [zrk a.f b.f,zrk a.t b.t,zrk a.a b.a,zrk a.b b.b,zrk a.o b.o,zrk a.p b.p] (by simp only [List.length_cons,List.length_nil];omega)) (Sbs.refl _))) ?_
 refine rn ?_;refine rq 2 ?_
 exact ⟨rfl,congrArg iv (ym2 a b)⟩
theorem ywd:Go.Sort.SWO (ltOf zp3):=⟨fun x=>decide_eq_false (by rw [zp3,zn5];decide),fun x y z h k=>decide_eq_true (by
 have h:=oT h;have k:=oT k
 rcases Int.lt_or_eq_of_le (zlg (Int.le_of_lt h) (Int.le_of_lt k)) with q|q
 ·exact q
 ·have h2:=zlg (a:=z) (b:=x) (c:=y) (by rw [zh8];omega) (Int.le_of_lt h)
  rw [zh8] at h2;omega),fun x y z h k=>decide_eq_false (by
 have h:=oF h;have k:=oF k
 rw [zh8] at h k
 have:=zlg (a:=z) (b:=y) (c:=x) (by omega) (by omega)
 rw [zh8] at this;omega)⟩
def zvq (c:Conf):List Value:= [.int .i64 c.f,.int .i64 c.t,.int .i64 c.k,.int .i64 c.a,.int .i64 c.b,.int .i64 c.o,.int .i64 c.p]
instance:Inhabited Conf:=⟨cfz⟩
theorem zvp (c:Conf):∀v∈zvq c,v.oneCell'=true:=by
 intro v hv;simp only [zvq,List.mem_cons,List.not_mem_nil,or_false] at hv
 rcases hv with rfl|rfl|rfl|rfl|rfl|rfl|rfl <;> rfl
theorem ysr {l:List Conf} (hk:zz5 l) {pre rest:List Conf} {d:Conf} (hL:l=pre++d::rest) {z:Conf} (hz:za9 (d.f,d.t) (zbk pre)=some z):zp3 d z=zi3 d z:=by
 have:=zx2 pre (d.f,d.t)
 rw [hz] at this
 exact zn4 (hk d (by rw [hL];simp) z (by rw [hL];exact List.mem_append_left _ this.2.1))
theorem zrm {l:List Conf} (hk:zz5 l) {pre rest:List Conf} {d:Conf} (hL:l=pre++d::rest) (h:(!(za9 (d.f,d.t) (zbk pre)).isSome)=true∨decide (zp3 d ((za9 (d.f,d.t) (zbk pre)).getD cfz) < 0)=true):zfo (zbk pre) d=zdw (d.f,d.t) d (zbk pre):=by
 cases hz:za9 (d.f,d.t) (zbk pre) with
 |none=>exact yky (.inl (by rw [hz];rfl))
 |some z=>
  rw [hz] at h
  refine yky (.inr (by rw [hz,Option.getD_some,←ysr hk hL hz];exact h.resolve_left (by simp)))
theorem yol {l:List Conf} (hk:zz5 l) {pre rest:List Conf} {d:Conf} (hL:l=pre++d::rest) (h1:(!(za9 (d.f,d.t) (zbk pre)).isSome)=false) (h2:decide (zp3 d ((za9 (d.f,d.t) (zbk pre)).getD cfz) < 0)=false):zfo (zbk pre) d=zbk pre:=by
 cases hz:za9 (d.f,d.t) (zbk pre) with
 |none=>rw [hz] at h1;cases h1
 |some z=>exact ysq h1 (by rw [hz,Option.getD_some,←ysr hk hL hz];rw [hz] at h2;exact h2)
theorem yew (m:List ((Int×Int)×Conf)) (c:Conf):(zfo m c).length≤m.length+1:=by
 have hp:(zdw (zl7 c) c m).length≤m.length+1:=by rw [zux];split <;> omega
 unfold zfo;split
 ·exact hp
 ·split
  ·exact hp
  ·omega
theorem zx3:∀(l:List Conf) (m:List ((Int×Int)×Conf)),(l.foldl zfo m).length≤m.length+l.length
 | [],_=>Nat.le_refl _
 |c::l,m=>by
  have h1:=zx3 l (zfo m c)
  have h2:=yew m c
  rw [List.foldl_cons,List.length_cons];omega
theorem yex (l:List Conf):(zbk l).length≤l.length:=by
 have h1:=zx3 l []
 rw [List.length_nil,Nat.zero_add] at h1;exact h1
theorem yc5 {l:List Conf} (hk:zz5 l) {sn:List Nat} (hn:sn.Nodup) (hl:∀i∈sn,i < (zbk l).length) (ha:∀i,i < (zbk l).length→i∈sn) {ys:List Conf} (hp:ys.Perm (yfm (zbk l) sn)) (hs:ys.Pairwise fun a b=>zp3 a b≤0):ys=zdq l:=
 zzh hk (hp.trans (ych hn hl ha)) hs
theorem zhl {h:Hist} {F:Ev→Nat→List Conf} {c:Nat} (hF:∀j (hj:j < h.evs.length),(F h.evs[j] j).length≤c):∀n,n≤h.evs.length→(zad h F n).length≤n * c
 |0,_=>by simp [zad]
 |n+1,hn=>by
  have h1:=zhl hF n (by omega)
  have h2:=hF n (by omega)
  rw [zad,List.getElem?_eq_getElem (by omega),List.length_append,Nat.succ_mul]
  simp only
  split
  ·omega
  ·simp only [List.length_nil];omega
theorem zyi (h:Hist) (e:Ev) (a:Nat):(zc4 h e a).length≤1:=by
 rw [zc4];split
 ·split
  ·simp
  ·split <;> simp
 ·simp
theorem zyh {h:Hist} (hc:v6 h=0) (e:Ev) (a:Nat):(zer h e a).length≤3000 * 4000:=by
 rw [zer];split
 ·refine Nat.le_trans (zgf _ 4000 _ fun s hs=> ?_) (Nat.mul_le_mul_right _ (by rw [zi9];exact (zb8 hc).os))
  rw [za8];split
  ·exact Nat.zero_le _
  ·exact Nat.le_trans (List.length_filterMap_le _ _) (Nat.le_trans (List.takeWhile_sublist _).length_le (zx1 hc _ _))
 ·exact Nat.zero_le _
theorem ydg {h:Hist} (hc:v6 h=0):(zad h (zc4 h) h.evs.length).length≤36000000000:=by
 have h1:=zhl (fun j hj=>zyi h h.evs[j] j) _ (Nat.le_refl _)
 have:=(zb8 hc).evs
 omega
theorem yba {h:Hist} (hc:v6 h=0):(zad h (zer h) h.evs.length).length≤36000000000:=by
 have h1:=zhl (fun j hj=>zyh hc h.evs[j] j) _ (Nat.le_refl _)
 have:=(zb8 hc).evs
 omega
theorem ya0 (s:SV) (xs:List Conf) (hs:xs.length < 4611686018427387904):y7 Tryz.prog 156 [.v s.v,.fn (.func 155) [] []] [.row s.v 7 41 (xs.map zaf)] (fun r h'=>∃ys:List Conf,ys.Perm xs∧ys.Pairwise (fun a b=>zp3 a b≤0)∧h'= [.row s.v 7 41 (ys.map zaf)]∧r= .v (.tuple #[])):=
 (zoy yaz (k:=7) (enc:=zvq) Tryz.isAgg41 Tryz.sizeOf41 (fun _=>rfl) zvp zp3 ywd 155 (fun x y=>zrw x y) s 41 xs hs).mono (by
  rintro _ _ ⟨ys,hp,hq,rfl,rfl⟩
  refine ⟨ys,hp,List.pairwise_iff_getElem.2 fun i j hi hj hij=> ?_,rfl,rfl⟩
  have:=hq i j hij hj
  rw [zh8] at this;omega)
theorem zwb (h:Hist) (la:Lim 4611686018427387904 h) (ee g:Nat) [Go.Ab.Enters Tryz.prog g] (F:Ev→Nat→List Conf) (bl rd rf rk rg:Nat) (hT:yfe h (.fn (.func ee) [pZ bl] []) g F bl rd rf rk rg) (bL bE:Nat) (hk:zz5 (zad h F h.evs.length)) (hLn:(zad h F h.evs.length).length≤36000000000):y7 Tryz.prog 112 [.fn (.func 157) [] [pZ bL,pZ bE]] (.box bE 95 [(.fn (.func ee) [pZ bl] [])]:: .box bL 147 [pZ bl]:: .box bl 202 (wrP h rd rf rk rg)::rgR rg []::rkS h rk::zdy h rf::rcR h rd:: .glob 2 156 y3:: .glob 4 305 y4:: .glob 5 308 y1:: .glob 3 246 q7:: []) (fun r h'=>∃(s:SV) (M:List ((Int×Int)×List Int)),h'= .row s.v 7 41 ((zdq (zad h F h.evs.length)).map zaf):: .box bE 95 [(.fn (.func ee) [pZ bl] [])]:: .box bL 147 [pZ bl]:: .box bl 202 (wrP h rd rf rk rg)::rgR rg M::rkS h rk::zdy h rf::rcR h rd:: .glob 2 156 y3:: .glob 4 305 y4:: .glob 5 308 y1:: .glob 3 246 q7:: []∧r= .v s.v):=by
 refine z6 Tryz.func112 rfl rfl rfl ?_
 refine rn ?_;refine z8 rfl (zax (enc:=za2) rfl fun bm=> ?_)
 refine z8 rfl (y5 rfl fun b3=> ?_)
 refine rn ?_;refine zfv (s':=⟨[(12,.fn (.func 157) [] [pZ bL,pZ bE]),(3,pZ b3)],.box b3 166 [mpv bm]:: .map bm (zal za2 (zbe gC (zbk []))):: .box bE 95 [(.fn (.func ee) [pZ bl] [])]:: .box bL 147 [pZ bl]:: .box bl 202 (wrP h rd rf rk rg)::rgR rg []::rkS h rk::zdy h rf::rcR h rd:: .glob 2 156 y3:: .glob 4 305 y4:: .glob 5 308 y1:: .glob 3 246 q7:: [],[]⟩) es ?_
 refine zl9 (fun pend h''=>pend=none∧∃M,h''= .box bE 95 [(.fn (.func ee) [pZ bl] [])]:: .box bL 147 [pZ bl]:: .box bl 202 (wrP h rd rf rk rg)::rgR rg M::rkS h rk::zdy h rf::rcR h rd:: .glob 2 156 y3:: .glob 4 305 y4:: .glob 5 308 y1:: .glob 3 246 q7:: .map bm (zal za2 (zbe gC (zbk (zad h F h.evs.length)))):: .box b3 166 [mpv bm]:: []) rfl (fun fn l q lp hlp=> ?_) (fun q h'' hK=> ?_) (fun q h'' c hK=> ?_)
 ·suffices hy:∀pre d rest (x:Unit) M,(zad h F h.evs.length)=pre++d::rest→True→zfy h M→y0 Tryz.prog (yv l) [.agg (zaf d)] (.box bE 95 [(.fn (.func ee) [pZ bl] [])]:: .box bL 147 [pZ bl]:: .box bl 202 (wrP h rd rf rk rg)::rgR rg M::rkS h rk::zdy h rf::rcR h rd:: .glob 2 156 y3:: .glob 4 305 y4:: .glob 5 308 y1:: .glob 3 246 q7::lp .ready none:: .defs q:: .map bm (zal za2 (zbe gC (zbk pre))):: .box b3 166 [mpv bm]:: []) (fun r h'=>∃x':Unit,(r=bv true∧True∧h'= .box bE 95 [(.fn (.func ee) [pZ bl] [])]:: .box bL 147 [pZ bl]:: .box bl 202 (wrP h rd rf rk rg)::rgR rg M::rkS h rk::zdy h rf::rcR h rd:: .glob 2 156 y3:: .glob 4 305 y4:: .glob 5 308 y1:: .glob 3 246 q7::lp .ready none:: .defs q:: .map bm (zal za2 (zbe gC (zbk (pre++ [d])))):: .box b3 166 [mpv bm]:: [])∨(r=bv false∧False∧h'= .box bE 95 [(.fn (.func ee) [pZ bl] [])]:: .box bL 147 [pZ bl]:: .box bl 202 (wrP h rd rf rk rg)::rgR rg M::rkS h rk::zdy h rf::rcR h rd:: .glob 2 156 y3:: .glob 4 305 y4:: .glob 5 308 y1:: .glob 3 246 q7:: [])) by
   refine y7.mono (y7.perm ((pt4 _ _ _ _ _ _).trans (.cons _ ((pt4 _ _ _ _ _ _).trans (.cons _ ((pt4 _ _ _ _ _ _).trans (.cons _ ((pt4 _ _ _ _ _ _).trans (.cons _ ((pt4 _ _ _ _ _ _).trans (.cons _ ((pt4 _ _ _ _ _ _).trans (.cons _ ((pt4 _ _ _ _ _ _).trans (.cons _ ((pt4 _ _ _ _ _ _).trans (.cons _ ((pt4 _ _ _ _ _ _).trans (.cons _ ((pt4 _ _ _ _ _ _).trans (.cons _ ((pt4 _ _ _ _ _ _).trans (.cons _ (.cons _ (.cons _ (pt1 _ _ _))))))))))))))))))))))))) (yjj h la ee g F bl rd rf rk rg hT (yv l) rfl bL bE [] (zmv h) (fun _ (_:Unit)=>True) (fun _=>False) (fun pre _=>lp .ready none:: .defs q:: .map bm (zal za2 (zbe gC (zbk pre))):: .box b3 166 [mpv bm]:: []) (fun _=> []) () trivial hy)) ?_
   rintro _ _ ⟨x,M,hM,⟨-,rfl⟩|⟨hF,_⟩⟩
   ·exact ⟨none,.ready,_,((zw3 _ _ _ _ _ _ _ _ _ _ _ _ _).trans (.cons _ (zw3 _ _ _ _ _ _ _ _ _ _ _ _ _))),by simp,rfl,M,rfl⟩
   ·exact hF.elim
  intro pre d rest x M hL _ hM
  refine y0.perm (zw3 _ _ _ _ _ _ _ _ _ _ _ _ _) (y0.ventE ?_)
  refine zdm hlp rfl rfl ?_
  refine rn ?_;refine z8 rfl (y5 rfl fun b4=> ?_)
  refine rn ?_;refine ⟨[(4,pZ b4),(3,pZ b3)],.box b4 41 (zaf d):: .box bE 95 [(.fn (.func ee) [pZ bl] [])]:: .box bL 147 [pZ bl]:: .box bl 202 (wrP h rd rf rk rg)::rgR rg M::rkS h rk::zdy h rf::rcR h rd:: .glob 2 156 y3:: .glob 4 305 y4:: .glob 5 308 y1:: .glob 3 246 q7:: .defs q:: .map bm (zal za2 (zbe gC (zbk pre))):: .box b3 166 [mpv bm]:: [],v8 (zbd (pt1 _ _ _)) es,?_⟩
  refine zb9 ?_;refine w9 (y6 ?_)
  refine q1 ?_;refine q1 ?_;refine q1 ?_;refine q1 ?_;refine qq rfl rfl (zcm (out:= [iv d.f,iv d.t]) rfl (by rfl)) ?_
  refine z8 rfl (y5 rfl fun b5=> ?_)
  first|refine z8 rfl (j5 rfl rfl rfl ?_)|refine z8 rfl (zak rfl rfl rfl rfl (Nat.le_of_ble_eq_true rfl) ?_)
  refine u4 (zac ?_)
  refine w9 (y6 ?_)
  refine q1 ?_;refine q1 ?_;refine qq rfl rfl (zfe (g:=gC) (enc:=za2) (k:=(d.f,d.t)) cfz rfl rfl rfl) ?_
  refine rn ?_;refine z8 rfl (y5 rfl fun b6=> ?_)
  refine rn ?_;refine w7 (fun hg6_2=> ?_) (fun hg6_2=> ?_)
  ·refine rn ?_;refine zfp rfl ?_;have hb:zfo (zbk pre) d=zdw (d.f,d.t) d (zbk pre):=by first|exact zrm hk hL (.inl hg6_2)|exact zrm hk hL (.inr hc32)
   refine rn ?_;refine z8 rfl (zan (g:=gC) (enc:=za2) (k:=(d.f,d.t)) (v:=d) rfl rfl rfl ?_)
   refine rn ?_;exact zdg (pt2 _ _ _ _) ⟨_,_,.trans (.perm ((pt1 _ _ _).trans (.cons _ ((pt1 _ _ _).trans (.cons _ ((pt1 _ _ _).trans (.cons _ ((pt1 _ _ _).trans (.cons _ ((pt1 _ _ _).trans (.cons _ ((pt1 _ _ _).trans (.cons _ ((pt1 _ _ _).trans (.cons _ ((pt1 _ _ _).trans (.cons _ ((pt1 _ _ _).trans (.cons _ ((pt1 _ _ _).trans (.cons _ ((pt1 _ _ _).trans (.cons _ ((pt1 _ _ _).trans (.cons _ ((pt1 _ _ _).trans (.cons _ (pt1 _ _ _))))))))))))))))))))))))))) _) (.drop [_,_,_] _ _),(),.inl ⟨rfl,trivial,by rw [zv1,hb]⟩⟩
  ·refine rn ?_;refine qv rfl rfl (y2 rfl rfl (u3 (zrw _ _) (Sbs.refl _))) ?_
   refine rn ?_;refine z7 rfl (fun hc32=> ?_) (fun hc32=> ?_)
   ·have hb:zfo (zbk pre) d=zdw (d.f,d.t) d (zbk pre):=by first|exact zrm hk hL (.inl hg6_2)|exact zrm hk hL (.inr hc32)
    refine rn ?_;refine z8 rfl (zan (g:=gC) (enc:=za2) (k:=(d.f,d.t)) (v:=d) rfl rfl rfl ?_)
    refine rn ?_;exact zdg (pt2 _ _ _ _) ⟨_,_,.trans (.perm ((pt1 _ _ _).trans (.cons _ ((pt1 _ _ _).trans (.cons _ ((pt1 _ _ _).trans (.cons _ ((pt1 _ _ _).trans (.cons _ ((pt1 _ _ _).trans (.cons _ ((pt1 _ _ _).trans (.cons _ ((pt1 _ _ _).trans (.cons _ ((pt1 _ _ _).trans (.cons _ ((pt1 _ _ _).trans (.cons _ ((pt1 _ _ _).trans (.cons _ ((pt1 _ _ _).trans (.cons _ ((pt1 _ _ _).trans (.cons _ ((pt1 _ _ _).trans (.cons _ (pt1 _ _ _))))))))))))))))))))))))))) _) (.drop [_,_,_] _ _),(),.inl ⟨rfl,trivial,by rw [zv1,hb]⟩⟩
   ·have hb:zfo (zbk pre) d=(zbk pre):=yol hk hL hg6_2 hc32
    refine rn ?_;exact zdg (pt2 _ _ _ _) ⟨_,_,.trans (.perm ((pt1 _ _ _).trans (.cons _ ((pt1 _ _ _).trans (.cons _ ((pt1 _ _ _).trans (.cons _ ((pt1 _ _ _).trans (.cons _ ((pt1 _ _ _).trans (.cons _ ((pt1 _ _ _).trans (.cons _ ((pt1 _ _ _).trans (.cons _ ((pt1 _ _ _).trans (.cons _ ((pt1 _ _ _).trans (.cons _ ((pt1 _ _ _).trans (.cons _ ((pt1 _ _ _).trans (.cons _ ((pt1 _ _ _).trans (.cons _ ((pt1 _ _ _).trans (.cons _ (pt1 _ _ _))))))))))))))))))))))))))) _) (.drop [_,_,_] _ _),(),.inl ⟨rfl,trivial,by rw [zv1,hb]⟩⟩
 ·obtain ⟨_,M',rfl⟩:=hK
  have hbl:=Nat.le_trans (yex (zad h F h.evs.length)) hLn
  refine zh2 ?_;refine zac ?_;refine w9 (y6 ?_)
  refine q1 ?_;refine u4 (zac ?_)
  refine w9 ?_;refine w9 (y6 ?_)
  refine q1 ?_;refine zfw (zbd ((yuj _ _ _ _ _ _ _ _ _ _ _ _ _ _).trans (.cons _ ((yuj _ _ _ _ _ _ _ _ _ _ _ _ _ _).trans (.cons _ ((pt1 _ _ _).trans (.cons _ ((pt1 _ _ _).trans (.cons _ ((pt1 _ _ _).trans (.cons _ ((pt1 _ _ _).trans (.cons _ ((pt1 _ _ _).trans (.cons _ ((pt1 _ _ _).trans (.cons _ ((pt1 _ _ _).trans (.cons _ ((pt1 _ _ _).trans (.cons _ ((pt1 _ _ _).trans (.cons _ ((pt1 _ _ _).trans (.cons _ (pt1 _ _ _)))))))))))))))))))))))))) ?_
  refine z8 rfl (zss rfl rfl fun b37=> ?_)
  refine rn ?_;refine zab (fun x:List Nat×SV=>x.1.Nodup∧∀i∈x.1,i < (zbk (zad h F h.evs.length)).length) (fun x=>⟨[(37,pZ b37),(8,.v x.2.v)],.mapr bm (zal za2 (zbe gC (zbk (zad h F h.evs.length)))) b37 x.1:: .row x.2.v 7 41 ((yfm (zbk (zad h F h.evs.length)) x.1).map zaf):: .box b3 166 [mpv bm]:: .box bE 95 [(.fn (.func ee) [pZ bl] [])]:: .box bL 147 [pZ bl]:: .box bl 202 (wrP h rd rf rk rg)::rgR rg M'::rkS h rk::zdy h rf::rcR h rd:: .glob 2 156 y3:: .glob 4 305 y4:: .glob 5 308 y1:: .glob 3 246 q7:: .defs q:: [],[q]⟩) (fun x=>(zbk (zad h F h.evs.length)).length - x.1.length) ([],⟨none,0,0⟩) ⟨.nil,fun i hi=>(by cases hi)⟩ (v8 (k9 7 41) (v8 (zbd (pt1 _ _ _)) es)) ?_
  rintro ⟨sn,s⟩ ⟨hsn,hsl⟩
  simp only at hsn hsl
  refine w9 (y6 ?_)
  refine z8 rfl (zu2 rfl rfl (fun hall=> ?_) (fun i hi hni=> ?_))
  ·refine rn ?_;refine z7 rfl (fun hc39=> ?_) (fun hc39=> ?_)
   ·first|cases hc39|exact absurd hc39 (by decide)|(exfalso;simp_all;done)
   ·refine rn ?_;have hsb:=zqr hsn hsl
    refine rn ?_;refine z8 rfl (v2 rfl rfl (y0.perm (pt1 _ _ _) ((y0.of_fun (ya0 s (yfm (zbk (zad h F h.evs.length)) sn) (by rw [zw6];omega))).frame _)) rfl ?_)
    rintro _ _ ⟨_,rfl,ys,hp,hys,rfl,rfl⟩
    refine rn ?_;exact zhu (ywt _ _ _ _ _ _ _ _ _ _ _ _ _ _ _ _) (.cons _ _ _ _ (.tmp _ _ rfl) .nil) (.trans (.perm ((pt1 _ _ _).trans (.cons _ (pt1 _ _ _))) _) (.drop [_,_] _ _)) ⟨s,M',by rw [yc5 hk hsn hsl (fun i hi=>hall i (by simpa [zal,zbe] using hi)) hp hys],rfl⟩
  ·refine rn ?_;refine z7 rfl (fun hc39=> ?_) (fun hc39=> ?_)
   ·refine za7 ?_;refine zac ?_;refine zb9 ?_;refine w9 (y6 ?_)
    have hi2:i < (zbk (zad h F h.evs.length)).length:=by simpa [zal,zbe] using hi
    refine qq rfl rfl (yb6 (k:=za2 (zbk (zad h F h.evs.length))[i].1) (a:=gC (zbk (zad h F h.evs.length))[i].2) hi (by simp [zal,zbe]) (by simp [zal,zbe]) rfl) ?_
    refine rn ?_;refine z8 rfl (y5 rfl fun b10=> ?_)
    refine rn ?_;refine qv rfl rfl (q6 rfl rfl) ?_
    refine z8 rfl (u7 rfl rfl (by have:=zqr hsn hsl;simp only [oM,zw6,List.length_cons,List.length_nil];omega) rfl (fun s45=> ?_) (zmg [(zbk (zad h F h.evs.length))[i].2]))
    refine k7 s45 fun sv hsv=> ?_
    subst hsv
    refine rn ?_;have hnd:(i::sn).Nodup:=List.nodup_cons.2 ⟨hni,hsn⟩
    have hal:∀j∈i::sn,j < (zbk (zad h F h.evs.length)).length:=fun j hj=>(List.mem_cons.1 hj).elim (fun q=>q ▸ hi2) (hsl j)
    have hlen:=zqr hnd hal
    exact ⟨(i::sn,sv),⟨hnd,hal⟩,by simp only;rw [yqs hi2,List.map_append];exact eA,by simp only [List.length_cons] at hlen ⊢;omega⟩
   ·first|cases hc39|exact absurd hc39 (by decide)|(exfalso;simp_all;done)
 ·obtain ⟨hc',_⟩:=hK
  exact absurd hc' (by simp)
theorem ask_c {h:Hist} {x n:Int} (hc:v6 h≠0):zhe h x n=v6 h:=by rw [zhe,if_neg hc]
theorem yd3 {f g:Bool} (l m:List Conf) (hl:l.length≤4611686018427387904) (hm:m.length≤4611686018427387904):y7 Tryz.prog 19 [.list f 7 (l.map zaf),.list g 7 (m.map zaf)] [] (fun r h'=>h'= []∧r=bv (eqF zfj l m)):=by
 refine z6 Tryz.func19 rfl rfl rfl ?_
 refine rn ?_;refine z7 rfl (fun hc10=> ?_) (fun hc10=> ?_)
 ·refine rn ?_;have hne:(l.length==m.length)=false:=beq_eq_false_iff_ne.2 fun q=>by simp [q] at hc10
  exact j9 rfl (.refl _ _) ⟨rfl,by rw [eqF,hne,Bool.false_and];rfl⟩
 ·have hlm:l.length=m.length:=by simp at hc10;omega
  refine rn ?_;refine zab (fun k:Nat=>k≤l.length∧zrt zfj l m=zrt zfj (l.drop k) (m.drop k)) (fun k=>⟨[(13,iv k),(0,.list f 7 (l.map zaf)),(1,.list g 7 (m.map zaf)),(12,iv (l.map zaf).length)],[],[]⟩) (fun k=>l.length - k) 0 ⟨Nat.zero_le _,by simp⟩
   (v7 (.cons _ _ _ rfl (.cons _ _ _ rfl (.cons _ _ _ rfl (.cons _ _ _ rfl (.nil)))))) ?_
  rintro k ⟨hk,hz⟩
  refine rn ?_;refine z7 rfl (fun hc14=> ?_) (fun hc14=> ?_)
  ·have hk2:k < l.length:=by simpa using hc14
   have hk3:k < m.length:=by omega
   have hrow1:(l.map zaf)[k]? =some (zaf l[k]):=by simp [hk2]
   have hrow2:(m.map zaf)[k]? =some (zaf m[k]):=by simp [hk3]
   have hd1:=List.drop_eq_getElem_cons hk2
   have hd2:=List.drop_eq_getElem_cons hk3
   refine rn ?_;refine j4 8 rfl ?_
   refine rn ?_;refine z7 rfl (fun hc24=> ?_) (fun hc24=> ?_)
   ·refine rn ?_;exact j9 rfl (.refl _ _) ⟨rfl,by rw [eqF,hz,hd1,hd2,zrt,show zfj l[k] m[k]=false from ycm hc24,Bool.false_and,Bool.and_false];rfl⟩
   ·refine rn ?_;exact ⟨k+1,⟨by omega,by rw [hz,hd1,hd2,zrt,show zfj l[k] m[k]=true from ycn hc24,Bool.true_and]⟩,(v7 (.cons _ _ _ rfl (.cons _ _ _ rfl (.cons _ _ _ rfl (.cons _ _ _ rfl (.nil)))))),by omega⟩
  ·have hk3:k=l.length:=by
    have:l.length≤k:=by simpa using hc14
    omega
   refine rn ?_;exact j9 rfl (.refl _ _) ⟨rfl,by rw [eqF,hz,hk3,List.drop_length,zqd,hlm,beq_self_eq_true];rfl⟩
theorem ysf {f g:Bool} (l:List Conf) (hl:l.length≤4611686018427387904):y7 Tryz.prog 19 [.list f 7 (l.map zaf),.list g 7 (l.map zaf)] [] (fun r h'=>h'= []∧r=bv true):=(yd3 l l hl hl).mono fun _ _ q=>⟨q.1,by rw [q.2,yd4 zh7];simp⟩
def OvB (h:Hist) (n:Int):Prop:=∃a:Nat,n=(a:Int)∧∃ha:a < h.evs.length,ze6 h.evs h.evs[a].t 5=true∧(h.evs[a].kind=3∨h.evs[a].kind=4)
theorem yhi {h:Hist} {n:Int} (q:n < 0):¬OvB h n:=fun ⟨a,e,_⟩=>by omega
theorem yhh {h:Hist} {n:Int} (q:(h.evs.length:Int)≤n):¬OvB h n:=fun ⟨a,e,ha,_⟩=>by omega
theorem yhg {h:Hist} {a:Nat} (ha:a < h.evs.length) (q:ze6 h.evs h.evs[a].t 5=false):¬OvB h (a:Int):=fun ⟨b,e,hb,q1,_⟩=>by
 have:b=a:=by omega
 subst this;rw [q] at q1;cases q1
theorem yhf {h:Hist} {a:Nat} (ha:a < h.evs.length) (q3:h.evs[a].kind≠3) (q4:h.evs[a].kind≠4):¬OvB h (a:Int):=fun ⟨b,e,hb,_,q1⟩=>by
 have:b=a:=by omega
 subst this;exact q1.elim q3 q4
def ovB (h:Hist) (n:Int):Bool:=decide (0≤n) && match h.evs[n.toNat]? with
 |some e=>ze6 h.evs e.t 5 && (e.kind==3||e.kind==4)
 |none=>false
theorem ycg {h:Hist} {n:Int}:ovB h n=true ↔ OvB h n:=by
 rw [ovB,Bool.and_eq_true,decide_eq_true_iff]
 constructor
 ·rintro ⟨h2,h3⟩
  split at h3
  ·rename_i e he
   obtain ⟨hl,rfl⟩:=List.getElem?_eq_some_iff.1 he
   rw [Bool.and_eq_true,Bool.or_eq_true,beq_iff_eq,beq_iff_eq] at h3
   exact ⟨n.toNat,by omega,hl,h3.1,h3.2⟩
  ·cases h3
 ·rintro ⟨a,e,ha,hm,hk⟩
  refine ⟨by omega,?_⟩
  rw [show n.toNat=a by omega,List.getElem?_eq_getElem ha]
  simp only
  rw [hm,Bool.true_and,Bool.or_eq_true,beq_iff_eq,beq_iff_eq];exact hk
def ovC (h:Hist) (n:Int):Int:=if v6 h=0 then (if ovB h n=true then 0 else 2) else v6 h
def ovO (h:Hist) (n:Int):List Int:=if ovC h n=0 then (match h.evs[n.toNat]? with|some e=>yqr h e n.toNat|none=> []) else []
theorem yvv {h:Hist} {n:Int} (hc:v6 h≠0):ovC h n=v6 h∧ovO h n= []:=by
 have e:ovC h n=v6 h:=by rw [ovC,if_neg hc]
 exact ⟨e,by rw [ovO,e,if_neg hc]⟩
theorem yj6 {h:Hist} {n:Int} (hc:v6 h=0) (hn:¬OvB h n):ovC h n=2∧ovO h n= []:=by
 have e:ovC h n=2:=by rw [ovC,if_pos hc,if_neg fun q=>hn (ycg.1 q)]
 exact ⟨e,by rw [ovO,e];rfl⟩
theorem ytd {h:Hist} {a:Nat} (hc:v6 h=0) (ha:a < h.evs.length) (hn:OvB h (a:Int)):ovC h (a:Int)=0∧ovO h (a:Int)=yqr h h.evs[a] a:=by
 have e:ovC h (a:Int)=0:=by rw [ovC,if_pos hc,if_pos (ycg.2 hn)]
 refine ⟨e,?_⟩
 rw [ovO,if_pos e,show ((a:Nat):Int).toNat=a from rfl,List.getElem?_eq_getElem ha]
theorem yvg {d c:Conf} (q:zfj d c=true):d=c:=by rw [zh7] at q;exact oT q
theorem yvf {d c:Conf} (q:zfj d c=false):¬d=c:=by rw [zh7] at q;exact oF q
theorem yma (h:Hist) (la:Lim 4611686018427387904 h) (rO:Nat) (oK:Obj) (hK:KO oK) (n:Int):y7 Tryz.prog 35 [.agg (y9 h),iv n] (.glob 2 156 y3:: .glob 4 305 y4:: .glob 5 308 y1:: .glob 3 246 q7:: .glob 1 175 zcw:: .glob 0 171 [mpv rO]:: .obj rO oK:: []) (fun r h'=>∃s:SV,h'= .row s.v 1 3 ((ovO h n).map zai):: .glob 2 156 y3:: .glob 4 305 y4:: .glob 5 308 y1:: .glob 3 246 q7:: .glob 1 175 zcw:: .glob 0 171 [mpv rO]:: .obj rO oK:: []∧r= .tup [.v s.v,iv (ovC h n)]):=by
 refine z6 Tryz.func35 rfl rfl rfl ?_
 refine rn ?_;refine z8 rfl (w8 rfl rfl rfl fun b2=> ?_)
 refine q1 ?_;refine q1 ?_;refine u4 (zac ?_)
 refine w9 (y6 ?_)
 refine q1 ?_;refine z8 rfl (v2 rfl rfl (y0.fr1 (y0.of_fun (yt3 h la rO oK))) rfl ?_)
 rintro _ _ ⟨_,rfl,⟨hc,rc,rl,rk,rg,rfl,rfl⟩|⟨hc,rfl,rfl⟩⟩
 ·refine rn ?_;refine z8 rfl (y5 rfl fun b6=> ?_)
  refine rn ?_;refine z7 rfl (fun hc16=> ?_) (fun hc16=> ?_)
  ·first|cases hc16|exact absurd hc16 (by decide)|(exfalso;simp_all;done)
  ·refine rn ?_;refine j4 33 rfl ?_
   refine rn ?_;refine zc0 (fun hg4_2=> ?_) (fun hg4_2=> ?_)
   ·refine rn ?_;refine z7 rfl (fun hc56=> ?_) (fun hc56=> ?_)
    ·first
     |have hn:=yhi (h:=h) (oT hg4_2)
     |(have q:=oT hg4_9;rw [oM] at q;have hn:=yhh (h:=h) q)
     |(have q:ze6 h.evs h.evs[a].t 5=false:=(by rw [←zf1];simpa using hg4_21);have hn:=yhg ha q)
     |(have q3:h.evs[a].kind≠3:=(by simpa using hg4_29);have q4:h.evs[a].kind≠4:=(by simpa using hc56);have hn:=yhf ha q3 q4)
     refine rn ?_;exact zbz rfl rfl (.trans (.drop [_,_,_,_,_,_] _ _) (zat 1 3 _)) ⟨⟨none,0,0⟩,by rw [(yj6 hc hn).2];rfl,by rw [(yj6 hc hn).1];rfl⟩
    ·first|cases hc56|exact absurd hc56 (by decide)|(exfalso;simp_all;done)
   ·refine rn ?_;refine zc0 (fun hg4_9=> ?_) (fun hg4_9=> ?_)
    ·refine rn ?_;refine z7 rfl (fun hc56=> ?_) (fun hc56=> ?_)
     ·first
      |have hn:=yhi (h:=h) (oT hg4_2)
      |(have q:=oT hg4_9;rw [oM] at q;have hn:=yhh (h:=h) q)
      |(have q:ze6 h.evs h.evs[a].t 5=false:=(by rw [←zf1];simpa using hg4_21);have hn:=yhg ha q)
      |(have q3:h.evs[a].kind≠3:=(by simpa using hg4_29);have q4:h.evs[a].kind≠4:=(by simpa using hc56);have hn:=yhf ha q3 q4)
      refine rn ?_;exact zbz rfl rfl (.trans (.drop [_,_,_,_,_,_] _ _) (zat 1 3 _)) ⟨⟨none,0,0⟩,by rw [(yj6 hc hn).2];rfl,by rw [(yj6 hc hn).1];rfl⟩
     ·first|cases hc56|exact absurd hc56 (by decide)|(exfalso;simp_all;done)
    ·have h0:0≤n:=by have q:=oF hg4_2;omega
     have h1:n < h.evs.length:=by have q:=oF hg4_9;rw [oM] at q;omega
     obtain ⟨a,rfl⟩:∃a:Nat,n=(a:Int):=⟨n.toNat,by omega⟩
     have ha:a < h.evs.length:=by omega
     have ra:=zag (f:=evR) ha
     refine dq rfl rfl qrA ?_;refine dq rfl rfl qrA ?_;refine dq rfl rfl qrA ?_;refine dq rfl rfl qrA ?_;refine dq rfl rfl qrA ?_;refine dq rfl rfl qrA ?_;refine dq rfl rfl qrA ?_;refine dq rfl rfl qrA ?_;refine dq rfl rfl (zbm (enc:=intK) (k:=h.evs[a].t) false rfl rfl) ?_
     refine rn ?_;refine zc0 (fun hg4_21=> ?_) (fun hg4_21=> ?_)
     ·refine rn ?_;refine z7 rfl (fun hc56=> ?_) (fun hc56=> ?_)
      ·first
       |have hn:=yhi (h:=h) (oT hg4_2)
       |(have q:=oT hg4_9;rw [oM] at q;have hn:=yhh (h:=h) q)
       |(have q:ze6 h.evs h.evs[a].t 5=false:=(by rw [←zf1];simpa using hg4_21);have hn:=yhg ha q)
       |(have q3:h.evs[a].kind≠3:=(by simpa using hg4_29);have q4:h.evs[a].kind≠4:=(by simpa using hc56);have hn:=yhf ha q3 q4)
       refine rn ?_;exact zbz rfl rfl (.trans (.drop [_,_,_,_,_,_] _ _) (zat 1 3 _)) ⟨⟨none,0,0⟩,by rw [(yj6 hc hn).2];rfl,by rw [(yj6 hc hn).1];rfl⟩
      ·first|cases hc56|exact absurd hc56 (by decide)|(exfalso;simp_all;done)
     ·refine rn ?_;refine zc0 (fun hg4_29=> ?_) (fun hg4_29=> ?_)
      ·refine rn ?_;refine z7 rfl (fun hc56=> ?_) (fun hc56=> ?_)
       ·first
        |have hn:=yhi (h:=h) (oT hg4_2)
        |(have q:=oT hg4_9;rw [oM] at q;have hn:=yhh (h:=h) q)
        |(have q:ze6 h.evs h.evs[a].t 5=false:=(by rw [←zf1];simpa using hg4_21);have hn:=yhg ha q)
        |(have q3:h.evs[a].kind≠3:=(by simpa using hg4_29);have q4:h.evs[a].kind≠4:=(by simpa using hc56);have hn:=yhf ha q3 q4)
        refine rn ?_;exact zbz rfl rfl (.trans (.drop [_,_,_,_,_,_] _ _) (zat 1 3 _)) ⟨⟨none,0,0⟩,by rw [(yj6 hc hn).2];rfl,by rw [(yj6 hc hn).1];rfl⟩
       ·have hm:ze6 h.evs h.evs[a].t 5=true:=by rw [←zf1];simpa using hg4_21
        have hkd:h.evs[a].kind=3∨h.evs[a].kind=4:=by
         first
         |(have q:h.evs[a].kind=3:=(by simpa using hg4_29);exact .inl q)
         |(have q:h.evs[a].kind=4:=(by simpa using hc56);exact .inr q)
        have hn:OvB h (a:Int):=⟨a,rfl,ha,hm,hkd⟩
        have hfl:=zxk hc ha
        refine rn ?_;refine z8 rfl (y5 rfl fun b8=> ?_)
        refine rn ?_;refine z8 rfl (v2 rfl rfl (y0.of_fun (yjy h a rc rl rk rg _)) rfl ?_)
        rintro _ _ ⟨ba,bp,rfl,rfl⟩
        refine rn ?_;refine zfv (s':=⟨[(59,.fn (.func 134) [] [pZ bp,pZ ba]),(8,pZ b8)],.box ba 3 [iv (a:Nat)]:: .box bp 119 (rwP h rc rl rk rg):: .box b8 29 [.v (⟨none,0,0⟩:SV).v]:: .row (⟨none,0,0⟩:SV).v 1 3 ((([]:List Conf).map Conf.t).map zai):: .box b6 119 (rwP h rc rl rk rg):: .box b2 28 (y9 h)::rgR rg []::rkS h rk::zch h rl::rcR h rc:: .glob 2 156 y3:: .glob 4 305 y4:: .glob 5 308 y1:: .glob 3 246 q7:: .glob 1 175 zcw:: .glob 0 171 [mpv rO]:: .obj rO oK:: [],[]⟩) (v8 (k9 1 3) (v8 (zbd ((pt1 _ _ _).trans (.cons _ ((pt1 _ _ _).trans (.cons _ (pt1 _ _ _)))))) es)) ?_
        refine zl9 (fun pend h''=>pend=none∧∃(s:SV) (M:List ((Int×Int)×List Int)),h''= .box ba 3 [iv (a:Nat)]:: .box bp 119 (rwP h rc rl rk rg)::rgR rg M::rkS h rk::zch h rl::rcR h rc:: .glob 2 156 y3:: .glob 4 305 y4:: .glob 5 308 y1:: .glob 3 246 q7:: .glob 1 175 zcw:: .glob 0 171 [mpv rO]:: .obj rO oK:: .box b8 29 [.v s.v]:: .row s.v 1 3 (((zh3 h h.evs[a] a).map Conf.t).map zai):: .box b6 119 (rwP h rc rl rk rg):: .box b2 28 (y9 h):: []) rfl (fun fn l q lp hlp=> ?_) (fun q h'' hK'=> ?_) (fun q h'' cc hK'=> ?_)
        ·suffices hy:∀pre d rest (s:SV) M,zh3 h h.evs[a] a=pre++d::rest→True→zfy h M→y0 Tryz.prog (yv l) [.agg (zaf d)] (.box ba 3 [iv (a:Nat)]:: .box bp 119 (rwP h rc rl rk rg)::rgR rg M::rkS h rk::zch h rl::rcR h rc:: .glob 2 156 y3:: .glob 4 305 y4:: .glob 5 308 y1:: .glob 3 246 q7:: .glob 1 175 zcw:: .glob 0 171 [mpv rO]:: .obj rO oK::lp .ready none:: .defs q:: .box b8 29 [.v s.v]:: .row s.v 1 3 ((pre.map Conf.t).map zai):: .box b6 119 (rwP h rc rl rk rg):: .box b2 28 (y9 h):: []) (fun r h'=>∃s':SV,(r=bv true∧True∧h'= .box ba 3 [iv (a:Nat)]:: .box bp 119 (rwP h rc rl rk rg)::rgR rg M::rkS h rk::zch h rl::rcR h rc:: .glob 2 156 y3:: .glob 4 305 y4:: .glob 5 308 y1:: .glob 3 246 q7:: .glob 1 175 zcw:: .glob 0 171 [mpv rO]:: .obj rO oK::lp .ready none:: .defs q:: .box b8 29 [.v s'.v]:: .row s'.v 1 3 (((pre++ [d]).map Conf.t).map zai):: .box b6 119 (rwP h rc rl rk rg):: .box b2 28 (y9 h):: [])∨(r=bv false∧False∧h'= .box ba 3 [iv (a:Nat)]:: .box bp 119 (rwP h rc rl rk rg)::rgR rg M::rkS h rk::zch h rl::rcR h rc:: .glob 2 156 y3:: .glob 4 305 y4:: .glob 5 308 y1:: .glob 3 246 q7:: .glob 1 175 zcw:: .glob 0 171 [mpv rO]:: .obj rO oK:: [])) by
          refine y7.mono (y7.perm ((pt2 _ _ _ _).trans (.cons _ ((pt2 _ _ _ _).trans (.cons _ ((pt6 _ _ _ _ _ _ _ _).trans (.cons _ ((pt6 _ _ _ _ _ _ _ _).trans (.cons _ ((pt6 _ _ _ _ _ _ _ _).trans (.cons _ ((pt6 _ _ _ _ _ _ _ _).trans (.cons _ ((pt6 _ _ _ _ _ _ _ _).trans (.cons _ ((pt6 _ _ _ _ _ _ _ _).trans (.cons _ ((pt6 _ _ _ _ _ _ _ _).trans (.cons _ ((pt6 _ _ _ _ _ _ _ _).trans (.cons _ ((pt6 _ _ _ _ _ _ _ _).trans (.cons _ ((pt6 _ _ _ _ _ _ _ _).trans (.cons _ (pt6 _ _ _ _ _ _ _ _))))))))))))))))))))))))) (yjx h la hc a ha (yv l) bp ba rc rl rk rg [] (zmv h) rO oK hK (fun _ (_:SV)=>True) (fun _=>False) (fun pre (s:SV)=>lp .ready none:: .defs q:: .box b8 29 [.v s.v]:: .row s.v 1 3 ((pre.map Conf.t).map zai):: .box b6 119 (rwP h rc rl rk rg):: .box b2 28 (y9 h):: []) (fun _=> []) ⟨none,0,0⟩ trivial hy)) ?_
          rintro _ _ ⟨s,M,hM,⟨-,rfl⟩|⟨hF,_⟩⟩
          ·exact ⟨none,.ready,_,((ymy _ _ _ _ _ _ _ _ _ _ _ _ _ _ _).trans (.cons _ (ymy _ _ _ _ _ _ _ _ _ _ _ _ _ _ _))),by simp,rfl,s,M,rfl⟩
          ·exact hF.elim
         intro pre d rest s M hL _ hM
         have hlen:pre.length < (zh3 h h.evs[a] a).length:=by rw [hL,List.length_append,List.length_cons];omega
         refine y0.perm (ymy _ _ _ _ _ _ _ _ _ _ _ _ _ _ _) (y0.ventE ?_)
         refine zdm hlp rfl rfl ?_
         refine rn ?_;refine z8 rfl (y5 rfl fun b9=> ?_)
         refine rn ?_;refine ⟨[(9,pZ b9),(8,pZ b8)],.box b9 41 (zaf d):: .box ba 3 [iv (a:Nat)]:: .box bp 119 (rwP h rc rl rk rg)::rgR rg M::rkS h rk::zch h rl::rcR h rc:: .glob 2 156 y3:: .glob 4 305 y4:: .glob 5 308 y1:: .glob 3 246 q7:: .glob 1 175 zcw:: .glob 0 171 [mpv rO]:: .obj rO oK:: .defs q:: .box b8 29 [.v s.v]:: .row s.v 1 3 ((pre.map Conf.t).map zai):: .box b6 119 (rwP h rc rl rk rg):: .box b2 28 (y9 h):: [],v8 (zbd (pt1 _ _ _)) es,?_⟩
         refine rn ?_;refine qv rfl rfl (q6 rfl rfl) ?_
         refine z8 rfl (u7 rfl rfl (by simp only [oM,List.length_cons,List.length_nil];omega) rfl (fun s65=> ?_) (zgw [d.t]))
         refine k7 s65 fun sv hsv=> ?_
         subst hsv
         refine rn ?_;exact zdg (.refl _) ⟨_,_,.trans (.perm ((pt1 _ _ _).trans (.cons _ ((pt1 _ _ _).trans (.cons _ ((pt1 _ _ _).trans (.cons _ ((pt1 _ _ _).trans (.cons _ ((pt1 _ _ _).trans (.cons _ ((pt1 _ _ _).trans (.cons _ ((pt1 _ _ _).trans (.cons _ ((pt1 _ _ _).trans (.cons _ ((pt1 _ _ _).trans (.cons _ ((pt1 _ _ _).trans (.cons _ ((pt1 _ _ _).trans (.cons _ ((pt1 _ _ _).trans (.cons _ ((pt1 _ _ _).trans (.cons _ (pt1 _ _ _))))))))))))))))))))))))))) _) (.drop [_] _ _),sv,.inl ⟨rfl,trivial,by rw [List.map_append,List.map_append];rfl⟩⟩
        ·obtain ⟨_,s,M,rfl⟩:=hK'
         refine rn ?_;refine z8 rfl (v2 rfl rfl (zgg (y0.of_fun (yay s _ (by rw [oM];omega)))) rfl ?_)
         rintro _ _ ⟨rfl,rfl⟩
         refine rn ?_;refine z8 rfl (v2 rfl rfl (za3 (y0.of_fun (yeg s _ (by rw [(zcx _).length_eq,oM];omega)))) rfl ?_)
         rintro _ _ ⟨s',rfl,rfl⟩
         refine rn ?_;exact zhu (.refl _) (.cons _ _ _ _ (.tmp _ _ rfl) (.cons _ _ _ _ (.tmp _ _ rfl) .nil)) (.trans (.perm (.cons _ (.cons _ (.cons _ (.cons _ (.cons _ (.cons _ ((pt7 _ _ _ _ _ _ _ _ _).trans (.cons _ ((pt8 _ _ _ _ _ _ _ _ _ _).trans (.cons _ ((pt8 _ _ _ _ _ _ _ _ _ _).trans (.cons _ (pt7 _ _ _ _ _ _ _ _ _))))))))))))) _) (.drop [_,_,_,_,_,_,_,_,_] _ _)) ⟨s',by rw [(ytd hc ha hn).2];rfl,by rw [(ytd hc ha hn).1];rfl⟩
        ·obtain ⟨hc',_⟩:=hK'
         exact absurd hc' (by simp)
      ·refine rn ?_;refine z7 rfl (fun hc56=> ?_) (fun hc56=> ?_)
       ·first|cases hc56|exact absurd hc56 (by decide)|(exfalso;simp_all;done)
       ·have hm:ze6 h.evs h.evs[a].t 5=true:=by rw [←zf1];simpa using hg4_21
        have hkd:h.evs[a].kind=3∨h.evs[a].kind=4:=by
         first
         |(have q:h.evs[a].kind=3:=(by simpa using hg4_29);exact .inl q)
         |(have q:h.evs[a].kind=4:=(by simpa using hc56);exact .inr q)
        have hn:OvB h (a:Int):=⟨a,rfl,ha,hm,hkd⟩
        have hfl:=zxk hc ha
        refine rn ?_;refine z8 rfl (y5 rfl fun b8=> ?_)
        refine rn ?_;refine z8 rfl (v2 rfl rfl (y0.of_fun (yjy h a rc rl rk rg _)) rfl ?_)
        rintro _ _ ⟨ba,bp,rfl,rfl⟩
        refine rn ?_;refine zfv (s':=⟨[(59,.fn (.func 134) [] [pZ bp,pZ ba]),(8,pZ b8)],.box ba 3 [iv (a:Nat)]:: .box bp 119 (rwP h rc rl rk rg):: .box b8 29 [.v (⟨none,0,0⟩:SV).v]:: .row (⟨none,0,0⟩:SV).v 1 3 ((([]:List Conf).map Conf.t).map zai):: .box b6 119 (rwP h rc rl rk rg):: .box b2 28 (y9 h)::rgR rg []::rkS h rk::zch h rl::rcR h rc:: .glob 2 156 y3:: .glob 4 305 y4:: .glob 5 308 y1:: .glob 3 246 q7:: .glob 1 175 zcw:: .glob 0 171 [mpv rO]:: .obj rO oK:: [],[]⟩) (v8 (k9 1 3) (v8 (zbd ((pt1 _ _ _).trans (.cons _ ((pt1 _ _ _).trans (.cons _ (pt1 _ _ _)))))) es)) ?_
        refine zl9 (fun pend h''=>pend=none∧∃(s:SV) (M:List ((Int×Int)×List Int)),h''= .box ba 3 [iv (a:Nat)]:: .box bp 119 (rwP h rc rl rk rg)::rgR rg M::rkS h rk::zch h rl::rcR h rc:: .glob 2 156 y3:: .glob 4 305 y4:: .glob 5 308 y1:: .glob 3 246 q7:: .glob 1 175 zcw:: .glob 0 171 [mpv rO]:: .obj rO oK:: .box b8 29 [.v s.v]:: .row s.v 1 3 (((zh3 h h.evs[a] a).map Conf.t).map zai):: .box b6 119 (rwP h rc rl rk rg):: .box b2 28 (y9 h):: []) rfl (fun fn l q lp hlp=> ?_) (fun q h'' hK'=> ?_) (fun q h'' cc hK'=> ?_)
        ·suffices hy:∀pre d rest (s:SV) M,zh3 h h.evs[a] a=pre++d::rest→True→zfy h M→y0 Tryz.prog (yv l) [.agg (zaf d)] (.box ba 3 [iv (a:Nat)]:: .box bp 119 (rwP h rc rl rk rg)::rgR rg M::rkS h rk::zch h rl::rcR h rc:: .glob 2 156 y3:: .glob 4 305 y4:: .glob 5 308 y1:: .glob 3 246 q7:: .glob 1 175 zcw:: .glob 0 171 [mpv rO]:: .obj rO oK::lp .ready none:: .defs q:: .box b8 29 [.v s.v]:: .row s.v 1 3 ((pre.map Conf.t).map zai):: .box b6 119 (rwP h rc rl rk rg):: .box b2 28 (y9 h):: []) (fun r h'=>∃s':SV,(r=bv true∧True∧h'= .box ba 3 [iv (a:Nat)]:: .box bp 119 (rwP h rc rl rk rg)::rgR rg M::rkS h rk::zch h rl::rcR h rc:: .glob 2 156 y3:: .glob 4 305 y4:: .glob 5 308 y1:: .glob 3 246 q7:: .glob 1 175 zcw:: .glob 0 171 [mpv rO]:: .obj rO oK::lp .ready none:: .defs q:: .box b8 29 [.v s'.v]:: .row s'.v 1 3 (((pre++ [d]).map Conf.t).map zai):: .box b6 119 (rwP h rc rl rk rg):: .box b2 28 (y9 h):: [])∨(r=bv false∧False∧h'= .box ba 3 [iv (a:Nat)]:: .box bp 119 (rwP h rc rl rk rg)::rgR rg M::rkS h rk::zch h rl::rcR h rc:: .glob 2 156 y3:: .glob 4 305 y4:: .glob 5 308 y1:: .glob 3 246 q7:: .glob 1 175 zcw:: .glob 0 171 [mpv rO]:: .obj rO oK:: [])) by
          refine y7.mono (y7.perm ((pt2 _ _ _ _).trans (.cons _ ((pt2 _ _ _ _).trans (.cons _ ((pt6 _ _ _ _ _ _ _ _).trans (.cons _ ((pt6 _ _ _ _ _ _ _ _).trans (.cons _ ((pt6 _ _ _ _ _ _ _ _).trans (.cons _ ((pt6 _ _ _ _ _ _ _ _).trans (.cons _ ((pt6 _ _ _ _ _ _ _ _).trans (.cons _ ((pt6 _ _ _ _ _ _ _ _).trans (.cons _ ((pt6 _ _ _ _ _ _ _ _).trans (.cons _ ((pt6 _ _ _ _ _ _ _ _).trans (.cons _ ((pt6 _ _ _ _ _ _ _ _).trans (.cons _ ((pt6 _ _ _ _ _ _ _ _).trans (.cons _ (pt6 _ _ _ _ _ _ _ _))))))))))))))))))))))))) (yjx h la hc a ha (yv l) bp ba rc rl rk rg [] (zmv h) rO oK hK (fun _ (_:SV)=>True) (fun _=>False) (fun pre (s:SV)=>lp .ready none:: .defs q:: .box b8 29 [.v s.v]:: .row s.v 1 3 ((pre.map Conf.t).map zai):: .box b6 119 (rwP h rc rl rk rg):: .box b2 28 (y9 h):: []) (fun _=> []) ⟨none,0,0⟩ trivial hy)) ?_
          rintro _ _ ⟨s,M,hM,⟨-,rfl⟩|⟨hF,_⟩⟩
          ·exact ⟨none,.ready,_,((ymy _ _ _ _ _ _ _ _ _ _ _ _ _ _ _).trans (.cons _ (ymy _ _ _ _ _ _ _ _ _ _ _ _ _ _ _))),by simp,rfl,s,M,rfl⟩
          ·exact hF.elim
         intro pre d rest s M hL _ hM
         have hlen:pre.length < (zh3 h h.evs[a] a).length:=by rw [hL,List.length_append,List.length_cons];omega
         refine y0.perm (ymy _ _ _ _ _ _ _ _ _ _ _ _ _ _ _) (y0.ventE ?_)
         refine zdm hlp rfl rfl ?_
         refine rn ?_;refine z8 rfl (y5 rfl fun b9=> ?_)
         refine rn ?_;refine ⟨[(9,pZ b9),(8,pZ b8)],.box b9 41 (zaf d):: .box ba 3 [iv (a:Nat)]:: .box bp 119 (rwP h rc rl rk rg)::rgR rg M::rkS h rk::zch h rl::rcR h rc:: .glob 2 156 y3:: .glob 4 305 y4:: .glob 5 308 y1:: .glob 3 246 q7:: .glob 1 175 zcw:: .glob 0 171 [mpv rO]:: .obj rO oK:: .defs q:: .box b8 29 [.v s.v]:: .row s.v 1 3 ((pre.map Conf.t).map zai):: .box b6 119 (rwP h rc rl rk rg):: .box b2 28 (y9 h):: [],v8 (zbd (pt1 _ _ _)) es,?_⟩
         refine rn ?_;refine qv rfl rfl (q6 rfl rfl) ?_
         refine z8 rfl (u7 rfl rfl (by simp only [oM,List.length_cons,List.length_nil];omega) rfl (fun s65=> ?_) (zgw [d.t]))
         refine k7 s65 fun sv hsv=> ?_
         subst hsv
         refine rn ?_;exact zdg (.refl _) ⟨_,_,.trans (.perm ((pt1 _ _ _).trans (.cons _ ((pt1 _ _ _).trans (.cons _ ((pt1 _ _ _).trans (.cons _ ((pt1 _ _ _).trans (.cons _ ((pt1 _ _ _).trans (.cons _ ((pt1 _ _ _).trans (.cons _ ((pt1 _ _ _).trans (.cons _ ((pt1 _ _ _).trans (.cons _ ((pt1 _ _ _).trans (.cons _ ((pt1 _ _ _).trans (.cons _ ((pt1 _ _ _).trans (.cons _ ((pt1 _ _ _).trans (.cons _ ((pt1 _ _ _).trans (.cons _ (pt1 _ _ _))))))))))))))))))))))))))) _) (.drop [_] _ _),sv,.inl ⟨rfl,trivial,by rw [List.map_append,List.map_append];rfl⟩⟩
        ·obtain ⟨_,s,M,rfl⟩:=hK'
         refine rn ?_;refine z8 rfl (v2 rfl rfl (zgg (y0.of_fun (yay s _ (by rw [oM];omega)))) rfl ?_)
         rintro _ _ ⟨rfl,rfl⟩
         refine rn ?_;refine z8 rfl (v2 rfl rfl (za3 (y0.of_fun (yeg s _ (by rw [(zcx _).length_eq,oM];omega)))) rfl ?_)
         rintro _ _ ⟨s',rfl,rfl⟩
         refine rn ?_;exact zhu (.refl _) (.cons _ _ _ _ (.tmp _ _ rfl) (.cons _ _ _ _ (.tmp _ _ rfl) .nil)) (.trans (.perm (.cons _ (.cons _ (.cons _ (.cons _ (.cons _ (.cons _ ((pt7 _ _ _ _ _ _ _ _ _).trans (.cons _ ((pt8 _ _ _ _ _ _ _ _ _ _).trans (.cons _ ((pt8 _ _ _ _ _ _ _ _ _ _).trans (.cons _ (pt7 _ _ _ _ _ _ _ _ _))))))))))))) _) (.drop [_,_,_,_,_,_,_,_,_] _ _)) ⟨s',by rw [(ytd hc ha hn).2];rfl,by rw [(ytd hc ha hn).1];rfl⟩
        ·obtain ⟨hc',_⟩:=hK'
         exact absurd hc' (by simp)
 ·refine rn ?_;refine z8 rfl (y5 rfl fun b6=> ?_)
  refine rn ?_;refine z7 rfl (fun hc16=> ?_) (fun hc16=> ?_)
  ·refine rn ?_;exact zbz rfl rfl (.trans (.drop [_,_] _ _) (zat 1 3 _)) ⟨⟨none,0,0⟩,by rw [(yvv hc).2];rfl,by rw [(yvv hc).1];rfl⟩
  ·first|cases hc16|exact absurd hc16 (by decide)|(exfalso;simp_all;done)
theorem rwOver (h:Hist) (la:Lim 4611686018427387904 h) (rO:Nat) (oK:Obj) (hK:KO oK) (n:Int):y7 Tryz.prog 35 [.agg (y9 h),iv n] (.glob 2 156 y3:: .glob 4 305 y4:: .glob 5 308 y1:: .glob 3 246 q7:: .glob 1 175 zcw:: .glob 0 171 [mpv rO]:: .obj rO oK:: []) (fun r h'=>h'= .glob 2 156 y3:: .glob 4 305 y4:: .glob 5 308 y1:: .glob 3 246 q7:: .glob 1 175 zcw:: .glob 0 171 [mpv rO]:: .obj rO oK:: []∧r= .tup [zaq (ovO h n),iv (ovC h n)]):=(yma h la rO oK hK n).ventR (by rintro _ _ ⟨s,rfl,rfl⟩;exact ⟨_,_,zbf [] [_],rfl,rfl⟩)
def yo0 (h:Hist):List Conf:=if v6 h=0 then zdq (ze9 h) else []
def yoz (h:Hist):List Conf:=if v6 h=0 then zdq (ze8 h) else []
theorem yjh {h:Hist} (hc:v6 h=0):yo0 h=zdq (ze9 h):=by rw [yo0,if_pos hc]
theorem ype {h:Hist} (hc:v6 h≠0):yo0 h= []:=by rw [yo0,if_neg hc]
theorem yjg {h:Hist} (hc:v6 h=0):yoz h=zdq (ze8 h):=by rw [yoz,if_pos hc]
theorem ypa {h:Hist} (hc:v6 h≠0):yoz h= []:=by rw [yoz,if_neg hc]
def wrF (h:Hist) (k:Nat):Ev→Nat→List Conf:=if k=0 then zc4 h else zer h
def wrJ (h:Hist) (c:Conf):Bool:=decide (v6 h=0) && (decide (c∈ze9 h)||decide (c∈ze8 h))
theorem ypd {h:Hist} {c:Conf} (hc:v6 h≠0):wrJ h c=false:=by rw [wrJ,decide_eq_false hc];rfl
theorem yto {h:Hist} {c:Conf} {k:Nat} (hc:v6 h=0) (hk:k < 2) (hm:c∈zad h (wrF h k) h.evs.length):wrJ h c=true:=by
 rw [wrJ,decide_eq_true hc,Bool.true_and]
 rcases (show k=0∨k=1 by omega) with rfl|rfl
 ·have hm:c∈ze9 h:=hm
  rw [decide_eq_true hm];rfl
 ·have hm:c∈ze8 h:=hm
  rw [decide_eq_true hm,Bool.or_true]
theorem ytp {h:Hist} {c:Conf} (hm:∀i,i < 2→¬c∈zad h (wrF h i) h.evs.length):wrJ h c=false:=by
 have h0:¬c∈ze9 h:=hm 0 (by omega)
 have h1:¬c∈ze8 h:=hm 1 (by omega)
 rw [wrJ,decide_eq_false h0,decide_eq_false h1,Bool.or_false,Bool.and_false]
theorem ynm {p:Nat→Prop} {k:Nat} (h:∀i,i < k→p i) (hk:p k):∀i,i < k+1→p i:=fun i hi=>by
 rcases (show i < k∨i=k by omega) with q|rfl
 ·exact h i q
 ·exact hk
theorem yab (h:Hist) (la:Lim 4611686018427387904 h):y7 Tryz.prog 53 [.agg (y9 h)] (.glob 2 156 y3:: .glob 4 305 y4:: .glob 5 308 y1:: .glob 3 246 q7:: []) (fun r h'=>∃s:SV,h'= .row s.v 7 41 ((yo0 h).map zaf):: .glob 2 156 y3:: .glob 4 305 y4:: .glob 5 308 y1:: .glob 3 246 q7:: []∧r= .tup [.v s.v,iv (v6 h)]):=by
 refine z6 Tryz.func53 rfl rfl rfl ?_
 refine rn ?_;refine z8 rfl (w8 rfl rfl rfl fun b1=> ?_)
 refine q1 ?_;refine q1 ?_;refine u4 (zac ?_)
 refine w9 (y6 ?_)
 refine q1 ?_;refine z8 rfl (v2 rfl rfl (y0.fr1 (y0.of_fun (ytn h la))) rfl ?_)
 rintro _ _ ⟨_,rfl,⟨hc,bl,rd,rf,rk,rg,rfl,rfl⟩|⟨hc,rfl,rfl⟩⟩
 ·refine rn ?_;refine z7 rfl (fun hc12=> ?_) (fun hc12=> ?_)
  ·first|cases hc12|exact absurd hc12 (by decide)|(exfalso;simp_all;done)
  ·refine rn ?_;refine z8 rfl (v2 rfl rfl (y0.of_fun (yad bl 114 _)) rfl ?_)
   rintro _ _ ⟨bE,bL,rfl,rfl⟩
   refine z8 rfl (v2 rfl rfl (y0.perm (pt2 _ _ _ _) (y0.fr1 (y0.of_fun (zwb h la 114 158 (zc4 h) bl rd rf rk rg (zo4 h la hc bl rd rf rk rg) bL bE (ydf (za6.1 hc)) (ydg hc))))) rfl ?_)
   rintro _ _ ⟨_,rfl,s,M,rfl,rfl⟩
   refine rn ?_;exact zbz rfl rfl (.trans (.perm (.cons _ ((pt1 _ _ _).trans (.cons _ ((pt1 _ _ _).trans (.cons _ ((pt1 _ _ _).trans (.cons _ ((pt1 _ _ _).trans (.cons _ ((pt1 _ _ _).trans (.cons _ ((pt1 _ _ _).trans (.cons _ (pt1 _ _ _)))))))))))))) _) (.drop [_,_,_,_,_,_,_,_] _ _)) ⟨s,by rw [yjh hc];rfl,by rw [hc];rfl⟩
 ·refine rn ?_;refine z7 rfl (fun hc12=> ?_) (fun hc12=> ?_)
  ·refine rn ?_;exact zbz rfl rfl (.trans (.drop [_] _ _) (zat 7 41 _)) ⟨⟨none,0,0⟩,by rw [ype hc];rfl,rfl⟩
  ·first|cases hc12|exact absurd hc12 (by decide)|(exfalso;simp_all;done)
theorem ylg (h:Hist) (la:Lim 4611686018427387904 h):y7 Tryz.prog 53 [.agg (y9 h)] (.glob 2 156 y3:: .glob 4 305 y4:: .glob 5 308 y1:: .glob 3 246 q7:: []) (fun r h'=>h'= .glob 2 156 y3:: .glob 4 305 y4:: .glob 5 308 y1:: .glob 3 246 q7:: []∧r= .tup [zgh (yo0 h),iv (v6 h)]):=(yab h la).ventR (by rintro _ _ ⟨s,rfl,rfl⟩;exact ⟨_,_,zbf [] [_],rfl,rfl⟩)
theorem zyg (h:Hist) (la:Lim 4611686018427387904 h):y7 Tryz.prog 54 [.agg (y9 h)] (.glob 2 156 y3:: .glob 4 305 y4:: .glob 5 308 y1:: .glob 3 246 q7:: []) (fun r h'=>∃s:SV,h'= .row s.v 7 41 ((yoz h).map zaf):: .glob 2 156 y3:: .glob 4 305 y4:: .glob 5 308 y1:: .glob 3 246 q7:: []∧r= .tup [.v s.v,iv (v6 h)]):=by
 refine z6 Tryz.func54 rfl rfl rfl ?_
 refine rn ?_;refine z8 rfl (w8 rfl rfl rfl fun b1=> ?_)
 refine q1 ?_;refine q1 ?_;refine u4 (zac ?_)
 refine w9 (y6 ?_)
 refine q1 ?_;refine z8 rfl (v2 rfl rfl (y0.fr1 (y0.of_fun (ytn h la))) rfl ?_)
 rintro _ _ ⟨_,rfl,⟨hc,bl,rd,rf,rk,rg,rfl,rfl⟩|⟨hc,rfl,rfl⟩⟩
 ·refine rn ?_;refine z7 rfl (fun hc12=> ?_) (fun hc12=> ?_)
  ·first|cases hc12|exact absurd hc12 (by decide)|(exfalso;simp_all;done)
  ·refine rn ?_;refine z8 rfl (v2 rfl rfl (y0.of_fun (yad bl 115 _)) rfl ?_)
   rintro _ _ ⟨bE,bL,rfl,rfl⟩
   refine z8 rfl (v2 rfl rfl (y0.perm (pt2 _ _ _ _) (y0.fr1 (y0.of_fun (zwb h la 115 160 (zer h) bl rd rf rk rg (zo3 h la hc bl rd rf rk rg) bL bE (ya9 (za6.1 hc)) (yba hc))))) rfl ?_)
   rintro _ _ ⟨_,rfl,s,M,rfl,rfl⟩
   refine rn ?_;exact zbz rfl rfl (.trans (.perm (.cons _ ((pt1 _ _ _).trans (.cons _ ((pt1 _ _ _).trans (.cons _ ((pt1 _ _ _).trans (.cons _ ((pt1 _ _ _).trans (.cons _ ((pt1 _ _ _).trans (.cons _ ((pt1 _ _ _).trans (.cons _ (pt1 _ _ _)))))))))))))) _) (.drop [_,_,_,_,_,_,_,_] _ _)) ⟨s,by rw [yjg hc];rfl,by rw [hc];rfl⟩
 ·refine rn ?_;refine z7 rfl (fun hc12=> ?_) (fun hc12=> ?_)
  ·refine rn ?_;exact zbz rfl rfl (.trans (.drop [_] _ _) (zat 7 41 _)) ⟨⟨none,0,0⟩,by rw [ypa hc];rfl,rfl⟩
  ·first|cases hc12|exact absurd hc12 (by decide)|(exfalso;simp_all;done)
theorem yfz (h:Hist) (la:Lim 4611686018427387904 h):y7 Tryz.prog 54 [.agg (y9 h)] (.glob 2 156 y3:: .glob 4 305 y4:: .glob 5 308 y1:: .glob 3 246 q7:: []) (fun r h'=>h'= .glob 2 156 y3:: .glob 4 305 y4:: .glob 5 308 y1:: .glob 3 246 q7:: []∧r= .tup [zgh (yoz h),iv (v6 h)]):=(zyg h la).ventR (by rintro _ _ ⟨s,rfl,rfl⟩;exact ⟨_,_,zbf [] [_],rfl,rfl⟩)
def yu7 (bl:Nat):List AV:= [.fn (.func 114) [pZ bl] [],.fn (.func 115) [pZ bl] []]
theorem yla (h:Hist) (la:Lim 4611686018427387904 h) (hc:v6 h=0) (bl rd rf rk rg:Nat) {k:Nat} (hk:k < 2):∃ee g,Go.Ab.Enters Tryz.prog g∧yfe h (.fn (.func ee) [pZ bl] []) g (wrF h k) bl rd rf rk rg∧(yu7 bl)[k]? =some (.fn (.func ee) [pZ bl] []):=by
 rcases (show k=0∨k=1 by omega) with rfl|rfl
 ·exact ⟨_,_,inferInstance,zo4 h la hc bl rd rf rk rg,rfl⟩
 ·exact ⟨_,_,inferInstance,zo3 h la hc bl rd rf rk rg,rfl⟩
theorem yaa (h:Hist) (la:Lim 4611686018427387904 h) (c:Conf):y7 Tryz.prog 59 [.agg (y9 h),.agg (zaf c)] (.glob 2 156 y3:: .glob 4 305 y4:: .glob 5 308 y1:: .glob 3 246 q7:: []) (fun r h'=>h'= .glob 2 156 y3:: .glob 4 305 y4:: .glob 5 308 y1:: .glob 3 246 q7:: []∧r=bv (wrJ h c)):=by
 refine z6 Tryz.func59 rfl rfl rfl ?_
 refine rn ?_;refine z8 rfl (w8 rfl rfl rfl fun b2=> ?_)
 refine z8 rfl (w8 rfl rfl rfl fun b3=> ?_)
 refine z8 rfl (y5 rfl fun b4=> ?_)
 refine u4 (zac ?_)
 refine w9 (y6 ?_)
 refine q1 ?_;refine z8 rfl (v2 rfl rfl (y0.fr3 (y0.of_fun (ytn h la))) rfl ?_)
 rintro _ _ ⟨_,rfl,⟨hc,bl,rd,rf,rk,rg,rfl,rfl⟩|⟨hc,rfl,rfl⟩⟩
 ·refine rn ?_;refine z7 rfl (fun hc16=> ?_) (fun hc16=> ?_)
  ·first|cases hc16|exact absurd hc16 (by decide)|(exfalso;simp_all;done)
  ·refine rn ?_;refine zha 2 (fun k (z:List ((Int×Int)×List Int)×List Nat)=>(∀i,i < k→¬c∈zad h (wrF h i) h.evs.length)∧zfy h z.1) (fun k z=>⟨[(22,iv k),(5,pZ bl),(21,.agg (yu7 bl)),(2,pZ b2),(3,pZ b3),(4,pZ b4)],.box b4 4 [bv false]:: .box b3 41 (zaf c):: .box b2 28 (y9 h):: .box bl 202 (wrP h rd rf rk rg)::rgR rg z.1::rkS h rk::zdy h rf::rcR h rd:: .glob 2 156 y3:: .glob 4 305 y4:: .glob 5 308 y1:: .glob 3 246 q7::(z.2.map Res.defs),z.2⟩) ([],[]) ⟨fun i hi=>by omega,zmv h⟩ es ?_
   rintro k ⟨M,dfs⟩ lk ⟨zk,hM⟩
   have zk:∀i,i < k→¬c∈zad h (wrF h i) h.evs.length:=zk
   have hM:zfy h M:=hM
   show aw _ _ _ _ _ ⟨[(22,iv k),(5,pZ bl),(21,.agg (yu7 bl)),(2,pZ b2),(3,pZ b3),(4,pZ b4)],.box b4 4 [bv false]:: .box b3 41 (zaf c):: .box b2 28 (y9 h):: .box bl 202 (wrP h rd rf rk rg)::rgR rg M::rkS h rk::zdy h rf::rcR h rd:: .glob 2 156 y3:: .glob 4 305 y4:: .glob 5 308 y1:: .glob 3 246 q7::(dfs.map Res.defs),dfs⟩
   refine rn ?_;refine z7 rfl (fun hc23=> ?_) (fun hc23=> ?_)
   ·have hk:k < 2:=by have q:=oT hc23;omega
    obtain ⟨ee,g,hE,hT,hix⟩:=yla h la hc bl rd rf rk rg hk
    refine za7 ?_;refine zac ?_;refine w9 ?_;refine zb9 ?_;refine w9 (y6 ?_)
    refine qq rfl rfl (zct rfl rfl hk (by rw [Nat.mul_one];exact hix)) ?_
    refine rn ?_;refine z8 rfl (v2 rfl rfl (y0.of_fun (yad bl ee _)) rfl ?_)
    rintro _ _ ⟨bE,bL,rfl,rfl⟩
    refine rn ?_;refine zl9 (fun pend h''=>(pend=none∧(¬c∈(zad h (wrF h k) h.evs.length))∧∃M,zfy h M∧h''= .box bE 95 [(.fn (.func ee) [pZ bl] [])]:: .box bL 147 [pZ bl]:: .box bl 202 (wrP h rd rf rk rg)::rgR rg M::rkS h rk::zdy h rf::rcR h rd:: .glob 2 156 y3:: .glob 4 305 y4:: .glob 5 308 y1:: .glob 3 246 q7:: .box b4 4 [bv false]:: .box b3 41 (zaf c):: .box b2 28 (y9 h)::(dfs.map Res.defs))∨(pend=some .ret∧c∈(zad h (wrF h k) h.evs.length)∧∃M,zfy h M∧h''= .box bE 95 [(.fn (.func ee) [pZ bl] [])]:: .box bL 147 [pZ bl]:: .box bl 202 (wrP h rd rf rk rg)::rgR rg M::rkS h rk::zdy h rf::rcR h rd:: .glob 2 156 y3:: .glob 4 305 y4:: .glob 5 308 y1:: .glob 3 246 q7:: .box b4 4 [bv true]:: .box b3 41 (zaf c):: .box b2 28 (y9 h)::(dfs.map Res.defs))) rfl (fun fn l q lp hlp=> ?_) (fun q h'' hK'=> ?_) (fun q h'' cc hK'=> ?_)
    ·suffices hy:∀pre d rest (x:Unit) M,(zad h (wrF h k) h.evs.length)=pre++d::rest→(¬c∈pre)→zfy h M→y0 Tryz.prog (yv l) [.agg (zaf d)] (.box bE 95 [(.fn (.func ee) [pZ bl] [])]:: .box bL 147 [pZ bl]:: .box bl 202 (wrP h rd rf rk rg)::rgR rg M::rkS h rk::zdy h rf::rcR h rd:: .glob 2 156 y3:: .glob 4 305 y4:: .glob 5 308 y1:: .glob 3 246 q7::lp .ready none:: .defs q:: .box b4 4 [bv false]:: .box b3 41 (zaf c):: .box b2 28 (y9 h)::(dfs.map Res.defs)) (fun r h'=>∃x':Unit,(r=bv true∧(¬c∈pre++ [d])∧h'= .box bE 95 [(.fn (.func ee) [pZ bl] [])]:: .box bL 147 [pZ bl]:: .box bl 202 (wrP h rd rf rk rg)::rgR rg M::rkS h rk::zdy h rf::rcR h rd:: .glob 2 156 y3:: .glob 4 305 y4:: .glob 5 308 y1:: .glob 3 246 q7::lp .ready none:: .defs q:: .box b4 4 [bv false]:: .box b3 41 (zaf c):: .box b2 28 (y9 h)::(dfs.map Res.defs))∨(r=bv false∧c∈(zad h (wrF h k) h.evs.length)∧h'= .box bE 95 [(.fn (.func ee) [pZ bl] [])]:: .box bL 147 [pZ bl]:: .box bl 202 (wrP h rd rf rk rg)::rgR rg M::rkS h rk::zdy h rf::rcR h rd:: .glob 2 156 y3:: .glob 4 305 y4:: .glob 5 308 y1:: .glob 3 246 q7::lp .done (some .ret):: .defs q:: .box b4 4 [bv true]:: .box b3 41 (zaf c):: .box b2 28 (y9 h)::(dfs.map Res.defs))) by
      refine y7.mono (y7.perm ((pt2 _ _ _ _).trans (.cons _ ((pt2 _ _ _ _).trans (.cons _ ((pt5 _ _ _ _ _ _ _).trans (.cons _ ((pt5 _ _ _ _ _ _ _).trans (.cons _ ((pt5 _ _ _ _ _ _ _).trans (.cons _ ((pt5 _ _ _ _ _ _ _).trans (.cons _ ((pt5 _ _ _ _ _ _ _).trans (.cons _ ((pt5 _ _ _ _ _ _ _).trans (.cons _ ((pt5 _ _ _ _ _ _ _).trans (.cons _ ((pt5 _ _ _ _ _ _ _).trans (.cons _ (pt5 _ _ _ _ _ _ _))))))))))))))))))))) (yjj h la ee g (wrF h k) bl rd rf rk rg hT (yv l) rfl bL bE M hM (fun pre (_:Unit)=>¬c∈pre) (fun _=>c∈(zad h (wrF h k) h.evs.length)) (fun _ _=>lp .ready none:: .defs q:: .box b4 4 [bv false]:: .box b3 41 (zaf c):: .box b2 28 (y9 h)::(dfs.map Res.defs)) (fun _=>lp .done (some .ret):: .defs q:: .box b4 4 [bv true]:: .box b3 41 (zaf c):: .box b2 28 (y9 h)::(dfs.map Res.defs)) () (by simp) hy)) ?_
      rintro _ _ ⟨x,M,hM,⟨hn,rfl⟩|⟨hn,rfl⟩⟩
      ·exact ⟨none,.ready,_,((zw3 _ _ _ _ _ _ _ _ _ _ _ _ _).trans (.cons _ (zw3 _ _ _ _ _ _ _ _ _ _ _ _ _))),by simp,.inl ⟨rfl,hn,M,hM,rfl⟩⟩
      ·exact ⟨some .ret,.done,_,((zw3 _ _ _ _ _ _ _ _ _ _ _ _ _).trans (.cons _ (zw3 _ _ _ _ _ _ _ _ _ _ _ _ _))),by simp,.inr ⟨rfl,hn,M,hM,rfl⟩⟩
     intro pre d rest x M hL hpre hM
     refine y0.perm (zw3 _ _ _ _ _ _ _ _ _ _ _ _ _) (y0.ventE ?_)
     refine zdm hlp rfl rfl ?_
     refine rn ?_;refine z8 rfl (y5 rfl fun b9=> ?_)
     refine rn ?_;refine ⟨[(9,pZ b9),(3,pZ b3),(4,pZ b4)],.box b9 41 (zaf d):: .box bE 95 [(.fn (.func ee) [pZ bl] [])]:: .box bL 147 [pZ bl]:: .box bl 202 (wrP h rd rf rk rg)::rgR rg M::rkS h rk::zdy h rf::rcR h rd:: .glob 2 156 y3:: .glob 4 305 y4:: .glob 5 308 y1:: .glob 3 246 q7:: .defs q:: .box b4 4 [bv false]:: .box b3 41 (zaf c):: .box b2 28 (y9 h)::(dfs.map Res.defs),v8 (zbd (pt1 _ _ _)) es,?_⟩
     refine rn ?_;refine z7 rfl (fun hc31=> ?_) (fun hc31=> ?_)
     ·have hz:d=c:=yvg hc31
      refine rn ?_;exact zqu (.refl _) ⟨_,_,.trans (.perm ((pt1 _ _ _).trans (.cons _ ((pt1 _ _ _).trans (.cons _ ((pt1 _ _ _).trans (.cons _ ((pt1 _ _ _).trans (.cons _ ((pt1 _ _ _).trans (.cons _ ((pt1 _ _ _).trans (.cons _ ((pt1 _ _ _).trans (.cons _ ((pt1 _ _ _).trans (.cons _ ((pt1 _ _ _).trans (.cons _ ((pt1 _ _ _).trans (.cons _ ((pt1 _ _ _).trans (.cons _ (pt1 _ _ _))))))))))))))))))))))) _) (.drop [_] _ _),(),.inr ⟨rfl,by rw [hL,←hz];simp,rfl⟩⟩
     ·have hz:¬d=c:=yvf hc31
      refine rn ?_;exact zdg (.refl _) ⟨_,_,.trans (.perm ((pt1 _ _ _).trans (.cons _ ((pt1 _ _ _).trans (.cons _ ((pt1 _ _ _).trans (.cons _ ((pt1 _ _ _).trans (.cons _ ((pt1 _ _ _).trans (.cons _ ((pt1 _ _ _).trans (.cons _ ((pt1 _ _ _).trans (.cons _ ((pt1 _ _ _).trans (.cons _ ((pt1 _ _ _).trans (.cons _ ((pt1 _ _ _).trans (.cons _ ((pt1 _ _ _).trans (.cons _ (pt1 _ _ _))))))))))))))))))))))) _) (.drop [_] _ _),(),.inl ⟨rfl,by simp [hpre,Ne.symm hz],rfl⟩⟩
    ·obtain ⟨_,hn,M,hM,rfl⟩|⟨hc',_⟩:=hK'
     rotate_left
     ·cases hc'
     refine rn ?_;exact ⟨hk,(M,q::dfs),⟨ynm zk hn,hM⟩,v8 (zbd ((pt1 _ _ _).trans (.cons _ ((pt1 _ _ _).trans (.cons _ ((yuk _ _ _ _ _ _ _ _ _ _ _ _).trans (.cons _ ((yuk _ _ _ _ _ _ _ _ _ _ _ _).trans (.cons _ ((yuk _ _ _ _ _ _ _ _ _ _ _ _).trans (.cons _ ((pt1 _ _ _).trans (.cons _ ((pt1 _ _ _).trans (.cons _ ((pt1 _ _ _).trans (.cons _ ((pt1 _ _ _).trans (.cons _ ((pt1 _ _ _).trans (.cons _ ((pt1 _ _ _).trans (.cons _ ((pt1 _ _ _).trans (.cons _ ((pt1 _ _ _).trans (.cons _ (pt1 _ _ _)))))))))))))))))))))))))))) (v8 (zcp (h1:= [_,_])) es)⟩
    ·obtain ⟨hc',_⟩|⟨hc',hn,M,hM,rfl⟩:=hK'
     ·cases hc'
     obtain rfl:cc= .ret:=by simpa using hc'
     refine rn ?_;exact zhu (.cons _ (List.perm_append_comm (l₁:= [_,_,_,_,_,_,_,_,_,_,_,_,_,_]) (l₂:=(dfs.map Res.defs)))) (.cons _ _ _ _ (.one _ _ _ _ _ _ _ rfl inferInstance inferInstance rfl) .nil) (.trans (.perm (.cons _ (.cons _ (.cons _ (.cons _ (.cons _ (.cons _ (.cons _ ((pt4 _ _ _ _ _ _).trans (.cons _ ((pt4 _ _ _ _ _ _).trans (.cons _ (pt4 _ _ _ _ _ _)))))))))))) _) (.drop [_,_,_,_,_,_,_,_,_,_] _ _)) ⟨rfl,congrArg bv (yto hc hk hn).symm⟩
   ·have qk:k=2:=by have q:=oF hc23;omega
    refine rn ?_;exact zhu (List.perm_append_comm (l₁:= [_,_,_,_,_,_,_,_,_,_,_,_]) (l₂:=(dfs.map Res.defs))) (.cons _ _ _ _ (.one _ _ _ _ _ _ _ rfl inferInstance inferInstance rfl) .nil) (.trans (.perm (.refl _) _) (.drop [_,_,_,_,_,_,_,_] _ _)) ⟨rfl,congrArg bv (ytp (qk ▸ zk)).symm⟩
 ·refine rn ?_;refine z7 rfl (fun hc16=> ?_) (fun hc16=> ?_)
  ·refine rn ?_;exact zef (.cons _ _ _ _ (.one _ _ _ _ _ _ _ rfl inferInstance inferInstance rfl) .nil) (.drop [_,_,_] _ _) ⟨rfl,congrArg bv (ypd hc).symm⟩
  ·first|cases hc16|exact absurd hc16 (by decide)|(exfalso;simp_all;done)
theorem yst (n:Int) (l:List Int):decide (atI n 0 l ≥ 0)=l.contains n:=by
 have:=zx8 n l
 cases hc:l.contains n with
 |true=>rw [hc] at this;have:=oF this;exact decide_eq_true (by omega)
 |false=>rw [hc] at this;have:=oT this;exact decide_eq_false (by omega)
theorem yq6 {p x:Int} {m:Mat} (h:(m.p !=p)=true):zq5 p x m=false:=by
 have:(m.p==p)=false:=by simpa using h
 rw [zq5,this];rfl
theorem yq5 {p x:Int} {m:Mat} (h:(m.o !=x)=true):zq5 p x m=false:=by
 have:(m.o==x)=false:=by simpa using h
 rw [zq5,this,Bool.and_false]
theorem ywx {p x:Int} {m:Mat} (h1:(m.p !=p)=false) (h2:(m.o !=x)=false):zq5 p x m=true:=by
 rw [zq5,Bool.and_eq_true];exact ⟨by simpa using h1,by simpa using h2⟩
theorem yq7 {h:Hist} {p x:Int} {k:Nat} (hk:k < h.mats.length) (hq:zq5 p x h.mats[k]=true) (hz:((h.mats.take k).all fun m=> !zq5 p x m)=true):ykc h p x=some h.mats[k]:=by
 rw [ykc,List.find?_eq_some_iff_getElem]
 exact ⟨hq,k,hk,rfl,fun j hj=>by have:=List.all_eq_true.1 hz h.mats[j] (zgy (by omega) hj);exact this⟩
theorem yus {h:Hist} {p x:Int} (hz:(h.mats.all fun m=> !zq5 p x m)=true):ykc h p x=none:=by
 rw [ykc,List.find?_eq_none];intro s hs q
 have:=List.all_eq_true.1 hz s hs
 rw [q] at this;cases this
theorem ysn {f:Nat→Bool} {k:Nat} (h:(f (k+1) !=f k)=true):chR f (k+1)=chR f k++ [((k+1:Nat):Int)]:=by rw [chR,if_pos (by simpa using h)]
theorem yso {f:Nat→Bool} {k:Nat} (h:(f (k+1) !=f k)=false):chR f (k+1)=chR f k:=by rw [chR,if_neg (by simpa using h)];simp
def ycf (l:List Ev) (t:Int) (n:Nat) (scan:List Seen) (j:Nat) (x:Int):Ver:=match zuj (scan.take j) x with
 |some v=>v
 |none=>zqk (zc8 l t x n)
theorem yj4 {l:List Ev} {t x:Int} {n j:Nat} {scan:List Seen} (hj:j < scan.length) (h:(scan[j].o==x)=true):ycf l t n scan (j+1) x=scan[j].v:=by rw [ycf,ybb hj,if_pos h]
theorem yj5 {l:List Ev} {t x:Int} {n j:Nat} {scan:List Seen} (hj:j < scan.length) (h:(scan[j].o==x)=false):ycf l t n scan (j+1) x=ycf l t n scan j x:=by rw [ycf,ybb hj,if_neg (by rw [h];decide),ycf]
theorem yqq (l:List Ev) (t x:Int) (n:Nat) (scan:List Seen):ycf l t n scan 0 x=zqk (zc8 l t x n):=rfl
theorem yqp (l:List Ev) (t x:Int) (n:Nat) (scan:List Seen):ycf l t n scan scan.length x=yfk l t n scan x:=by rw [ycf,List.take_length];rfl
theorem ypr {s:Seen} {x:Int} (h:(s.o==x)=true):zah s= [iv x,iv s.v.t,iv s.v.k]:=by rw [zah,eq_of_beq h]
theorem zll (h:Hist) (la:Lim 1000000 h) (p x n:Int) (h0:0≤n) (h1:n≤(zby h x).length):y7 Tryz.prog 162 [.agg (y9 h),iv p,iv x,iv n] [] (fun r h'=>h'= []∧r=bv (ztz h p x n)):=by
 refine z6 Tryz.func162 rfl rfl rfl ?_
 have lm:=la.mats
 have lI:=znu la x
 refine rn ?_;refine z8 rfl (w8 rfl rfl rfl fun b4=> ?_)
 refine rn ?_;refine zcj (h.mats.length) (fun k:Nat=>((h.mats.take k).all fun m=> !zq5 p x m)=true) (fun k=> [(14,iv k)]) [(1,_),(2,_),(3,_),(4,_),(12,_),(13,_)] rfl ?_
 intro k lk zk
 refine rn ?_;refine z7 rfl (fun hc15=> ?_) (fun hc15=> ?_)
 ·have hk:=zay hc15
  have rk:=zag (f:=zeq) hk
  have lT:=la.matts h.mats[k] (List.getElem_mem hk)
  refine rn ?_;refine z8 rfl (y5 rfl fun b10=> ?_)
  refine rn ?_;refine w7 (fun hg4_4=> ?_) (fun hg4_4=> ?_)
  ·refine rn ?_;refine zfp rfl ?_;have hq:zq5 p x h.mats[k]=false:=by first|exact yq6 hg4_4|exact yq5 hc27
   refine rn ?_;exact ⟨hk,by rw [zmz hk,zk,hq];rfl,eA⟩
  ·refine rn ?_;refine z7 rfl (fun hc27=> ?_) (fun hc27=> ?_)
   ·have hq:zq5 p x h.mats[k]=false:=by first|exact yq6 hg4_4|exact yq5 hc27
    refine rn ?_;exact ⟨hk,by rw [zmz hk,zk,hq];rfl,eA⟩
   ·have hq:zq5 p x h.mats[k]=true:=ywx hg4_4 hc27
    have hf:=yq7 hk hq zk
    refine rn ?_;refine z7 rfl (fun hc29=> ?_) (fun hc29=> ?_)
    ·have hn:n=0:=eq_of_beq hc29
     refine rn ?_;refine rq 2 ?_
     exact ⟨rfl,congrArg bv (by rw [ztz,hf,mtM,if_pos hn])⟩
    ·have hn:n≠0:=beq_eq_false_iff_ne.1 hc29
     obtain ⟨a,ha,ea⟩:∃a:Nat,a < (zby h x).length∧n=(a:Int)+1:=⟨(n - 1).toNat,by omega,by omega⟩
     subst ea
     have ra:=zag (f:=zai) ha
     refine rn ?_;refine j4 9 rfl ?_
     refine rn ?_;refine dv rfl rfl (by exact y2 rfl rfl (u3 (zhv h la x) (Sbs.refl _))) ?_
     refine dq rfl rfl qrA ?_;refine dq rfl rfl (zor (zci rfl rfl rfl (by omega)) (show iv ((a:Int)+1 - 1)=iv (a:Int) by rw [Int.add_sub_cancel])) ?_
     refine rn ?_;refine qv rfl rfl (y2 rfl rfl (u3 (zyz h.mats[k].ts (zby h x)[a] (Nat.le_trans lT (by decide))) (Sbs.refl _))) ?_
     refine rn ?_;refine rq 2 ?_
     exact ⟨rfl,congrArg bv (by rw [yst,ztz,hf,mtM,if_neg (by omega),Int.add_sub_cancel,Int.toNat_natCast,List.getElem?_eq_getElem ha];rfl)⟩
 ·have qk:=zaz hc15 lk
  rw [qk,List.take_length] at zk
  refine rn ?_;refine rq 1 ?_
  exact ⟨rfl,congrArg bv (by rw [ztz,yus zk];rfl)⟩
theorem zsi (h:Hist) (la:Lim 1000000 h) (p x:Int):y7 Tryz.prog 120 [.agg (y9 h),iv p,iv x] [] (fun r h'=>h'= []∧r=zaq (chR (fun k:Nat=>ztz h p x (k:Int)) (zby h x).length)):=by
 refine z6 Tryz.func120 rfl rfl rfl ?_
 have lI:=znu la x
 refine rn ?_;refine z8 rfl (w8 rfl rfl rfl fun b3=> ?_)
 refine rn ?_;refine zda (zby h x).length (fun k s=>⟨[(8,iv ((k:Int)+1)),(7,.v s.v),(1,iv p),(2,iv x),(3,pZ b3)],.row s.v 1 3 ((chR (fun k:Nat=>ztz h p x (k:Int)) k).map zai):: .box b3 28 (y9 h):: [],[]⟩) ⟨none,0,0⟩ (v8 (k9 1 3) es) ?_
 intro k s lk
 refine rn ?_;refine qv rfl rfl (y2 rfl rfl (u3 (zhv h la x) (Sbs.refl _))) ?_
 refine rn ?_;refine z7 rfl (fun hc14=> ?_) (fun hc14=> ?_)
 ·have hk:k < (zby h x).length:=by have q:=oT hc14;rw [oM] at q;omega
  have hcs:((k+1:Nat):Int)=(k:Int)+1:=by omega
  refine rn ?_;refine j4 10 rfl ?_
  refine rn ?_;refine dv rfl rfl (by exact y2 rfl rfl (u3 (zll h la p x ((k:Int)+1) (by omega) (by omega)) (Sbs.refl _))) ?_
  refine dq rfl rfl qrA ?_;refine dq rfl rfl qrA ?_;refine dq rfl rfl qrA ?_;refine dq rfl rfl qrA ?_;refine dq rfl rfl (zor (zci rfl rfl rfl (by omega)) (show iv ((k:Int)+1 - 1)=iv (k:Int) by rw [Int.add_sub_cancel])) ?_
  refine rn ?_;refine qv rfl rfl (y2 rfl rfl (u3 (zll h la p x (k:Int) (by omega) (by omega)) (Sbs.refl _))) ?_
  refine qq rfl rfl (zj4 rfl rfl) ?_
  refine rn ?_;refine z7 rfl (fun hc28=> ?_) (fun hc28=> ?_)
  ·refine rn ?_;refine qv rfl rfl (q6 rfl rfl) ?_
   refine z8 rfl (u7 rfl rfl (by simp only [oM,List.length_cons,List.length_nil];have:=chR_len (fun k:Nat=>ztz h p x (k:Int)) k;omega) rfl (fun s32=> ?_) (zgw [(k:Int)+1]))
   refine k7 s32 fun sv hsv=> ?_
   subst hsv
   refine q1 ?_;refine u4 ?_;refine zh2 ?_;refine zac ?_;refine y6 ?_;refine q1 ?_;refine qq rfl rfl (zci rfl rfl rfl (by omega)) ?_
   refine rn ?_;first|exact ⟨hk,sv,by rw [ysn (f:=fun k:Nat=>ztz h p x (k:Int)) (by rw [hcs];exact hc28),List.map_append,hcs];exact eA⟩|exact ⟨hk,s,by rw [yso (f:=fun k:Nat=>ztz h p x (k:Int)) (by rw [hcs];exact hc28),hcs];exact eA⟩
  ·refine za7 ?_;refine zh2 ?_;refine zac ?_;refine y6 ?_;refine q1 ?_;refine qq rfl rfl (zci rfl rfl rfl (by omega)) ?_
   refine rn ?_;first|exact ⟨hk,sv,by rw [ysn (f:=fun k:Nat=>ztz h p x (k:Int)) (by rw [hcs];exact hc28),List.map_append,hcs];exact eA⟩|exact ⟨hk,s,by rw [yso (f:=fun k:Nat=>ztz h p x (k:Int)) (by rw [hcs];exact hc28),hcs];exact eA⟩
 ·have qk:k=(zby h x).length:=by have q:=oF hc14;rw [oM] at q;omega
  refine rn ?_;exact j9 rfl (.trans zbr (.drop [_] _ _)) ⟨rfl,by rw [qk];rfl⟩
theorem ygt (h:Hist) (la:Lim 1000000 h) (a:Nat) (ha:a < h.evs.length):y7 Tryz.prog 118 [.agg (y9 h),iv (a:Int)] [] (fun r h'=>h'= []∧r=zee (j8 h h.evs[a] a)):=by
 refine z6 Tryz.func118 rfl rfl rfl ?_
 have be:=la.evs
 have bo:=la.os
 have bs:=la.scans h.evs[a] (List.getElem_mem ha)
 refine rn ?_;refine z8 rfl (w8 rfl rfl rfl fun b2=> ?_)
 refine q1 ?_;refine u4 (zac ?_)
 refine w9 (y6 ?_)
 refine q1 ?_;refine u4 (zac ?_)
 refine w9 (y6 ?_)
 refine q1 ?_;refine q1 ?_;refine q1 ?_;refine qq rfl rfl (zau rfl rfl (Int.natCast_nonneg a) (by rw [Int.toNat_natCast];exact zag (f:=evR) ha)) ?_
 refine rn ?_;refine z8 rfl (y5 rfl fun b6=> ?_)
 refine rn ?_;refine zda h.os.length (fun k s=>⟨[(21,iv k),(5,.v s.v),(1,iv (a:Int)),(2,pZ b2),(6,pZ b6),(20,iv (h.os.map zeh).length)],.row s.v 3 70 (((upR k).map fun x:Int=>(⟨x,yfk h.evs h.evs[a].t a h.evs[a].scan x⟩:Seen)).map zah):: .box b6 60 (evR h.evs[a]):: .box b2 28 (y9 h):: [],[]⟩) ⟨none,0,0⟩ (v8 (k9 3 70) es) ?_
 intro k s lk
 refine rn ?_;refine z7 rfl (fun hc22=> ?_) (fun hc22=> ?_)
 ·have hk:k < h.os.length:=by have q:=oT hc22;rw [oM] at q;omega
  refine za7 ?_;refine zac ?_;refine w9 ?_;refine zb9 ?_;refine w9 (y6 ?_)
  refine q1 ?_;refine q1 ?_;refine u4 (zac ?_)
  refine w9 (y6 ?_)
  refine q1 ?_;refine qq rfl rfl (j6 (out:= [iv (k:Int),iv 0,iv 0]) rfl (by rfl)) ?_
  refine z8 rfl (y5 rfl fun b8=> ?_)
  first|refine z8 rfl (j5 rfl rfl rfl ?_)|refine z8 rfl (zak rfl rfl rfl rfl (Nat.le_of_ble_eq_true rfl) ?_)
  refine u4 (zac ?_)
  refine w9 ?_;refine w9 (y6 ?_)
  refine q1 ?_;refine q1 ?_;refine q1 ?_;refine qq rfl rfl (zek (k:=a) (rows':=(h.evs.take a).map evR) rfl rfl (by rw [oM];omega) List.map_take.symm) ?_
  refine rn ?_;refine zb7 (h.evs.take a).length (fun _=>True) (fun j=>⟨[(31,iv j),(1,iv (a:Int)),(2,pZ b2),(5,.v s.v),(6,pZ b6),(7,iv (k:Int)),(8,pZ b8),(20,iv (h.os.map zeh).length),(21,iv k),(29,znz (h.evs.take a)),(30,iv ((h.evs.take a).map evR).length)],.box b8 70 [iv (k:Int),iv (zqk (zc8 (h.evs.take a) h.evs[a].t (k:Int) j)).t,iv (zqk (zc8 (h.evs.take a) h.evs[a].t (k:Int) j)).k]:: .row s.v 3 70 (((upR k).map fun x:Int=>(⟨x,yfk h.evs h.evs[a].t a h.evs[a].scan x⟩:Seen)).map zah):: .box b6 60 (evR h.evs[a]):: .box b2 28 (y9 h):: [],[]⟩) trivial eA ?_
  intro j lj _
  refine rn ?_;refine z7 rfl (fun hc32=> ?_) (fun hc32=> ?_)
  ·have hj:=zay hc32
   have rj:=zag (f:=evR) hj
   have bj:=hj
   rw [List.length_take] at bj
   refine rn ?_;refine z8 rfl (y5 rfl fun b10=> ?_)
   refine rn ?_;refine w7 (fun hg10_5=> ?_) (fun hg10_5=> ?_)
   ·refine rn ?_;refine w7 (fun hg10_10=> ?_) (fun hg10_10=> ?_)
    ·refine rn ?_;refine z7 rfl (fun hc50=> ?_) (fun hc50=> ?_)
     ·have hw:zam h.evs[a].t (k:Int) (h.evs.take a)[j]=true:=by rw [zam,Bool.and_comm ((h.evs.take a)[j].kind==2)];first|(rw [hg10_5,hg10_10,hc50];rfl)|(rw [hg10_5,hg10_10];rfl)|(rw [hg10_5];rfl)|(rw [hg10_5,hc50];rfl)
      refine rn ?_;first|exact ⟨hj,trivial,by rw [zpj hj hw];exact eA⟩|exact ⟨hj,trivial,by rw [zg1 hj hw];exact eA⟩
     ·have hw:zam h.evs[a].t (k:Int) (h.evs.take a)[j]=false:=by rw [zam,Bool.and_comm ((h.evs.take a)[j].kind==2)];first|(rw [hg10_5,hg10_10,hc50];rfl)|(rw [hg10_5,hg10_10];rfl)|(rw [hg10_5];rfl)|(rw [hg10_5,hc50];rfl)
      refine rn ?_;first|exact ⟨hj,trivial,by rw [zpj hj hw];exact eA⟩|exact ⟨hj,trivial,by rw [zg1 hj hw];exact eA⟩
    ·refine rn ?_;refine zd9 rfl ?_;have hw:zam h.evs[a].t (k:Int) (h.evs.take a)[j]=false:=by rw [zam,Bool.and_comm ((h.evs.take a)[j].kind==2)];first|(rw [hg10_5,hg10_10,hc50];rfl)|(rw [hg10_5,hg10_10];rfl)|(rw [hg10_5];rfl)|(rw [hg10_5,hc50];rfl)
     refine rn ?_;first|exact ⟨hj,trivial,by rw [zpj hj hw];exact eA⟩|exact ⟨hj,trivial,by rw [zg1 hj hw];exact eA⟩
   ·refine rn ?_;refine zd9 rfl ?_;have hw:zam h.evs[a].t (k:Int) (h.evs.take a)[j]=false:=by rw [zam,Bool.and_comm ((h.evs.take a)[j].kind==2)];first|(rw [hg10_5,hg10_10,hc50];rfl)|(rw [hg10_5,hg10_10];rfl)|(rw [hg10_5];rfl)|(rw [hg10_5,hc50];rfl)
    refine rn ?_;first|exact ⟨hj,trivial,by rw [zpj hj hw];exact eA⟩|exact ⟨hj,trivial,by rw [zg1 hj hw];exact eA⟩
  ·have qj:=zaz hc32 lj
   rw [qj,←zi0,←ygl ha,←yqq h.evs h.evs[a].t (k:Int) a h.evs[a].scan]
   refine rn ?_;refine zb7 h.evs[a].scan.length (fun _=>True) (fun u=>⟨[(58,iv u),(1,iv (a:Int)),(2,pZ b2),(5,.v s.v),(6,pZ b6),(7,iv (k:Int)),(8,pZ b8),(20,iv (h.os.map zeh).length),(21,iv k),(56,zee h.evs[a].scan),(57,iv (h.evs[a].scan.map zah).length)],.box b8 70 [iv (k:Int),iv (ycf h.evs h.evs[a].t a h.evs[a].scan u (k:Int)).t,iv (ycf h.evs h.evs[a].t a h.evs[a].scan u (k:Int)).k]:: .row s.v 3 70 (((upR k).map fun x:Int=>(⟨x,yfk h.evs h.evs[a].t a h.evs[a].scan x⟩:Seen)).map zah):: .box b6 60 (evR h.evs[a]):: .box b2 28 (y9 h):: [],[]⟩) trivial eA ?_
   intro u lu _
   refine rn ?_;refine z7 rfl (fun hc59=> ?_) (fun hc59=> ?_)
   ·have hu:=zay hc59
    have ru:=zag (f:=zah) hu
    refine rn ?_;refine z8 rfl (y5 rfl fun b12=> ?_)
    refine rn ?_;refine z7 rfl (fun hc65=> ?_) (fun hc65=> ?_)
    ·have ho:=ypr hc65
     refine rn ?_;first|exact ⟨hu,trivial,by rw [ho,yj4 hu hc65];exact eA⟩|exact ⟨hu,trivial,by rw [yj5 hu hc65];exact eA⟩
    ·refine rn ?_;first|exact ⟨hu,trivial,by rw [ho,yj4 hu hc65];exact eA⟩|exact ⟨hu,trivial,by rw [yj5 hu hc65];exact eA⟩
   ·have qu:=zaz hc59 lu
    rw [qu,yqp]
    refine rn ?_;refine qv rfl rfl (q6 rfl rfl) ?_
    refine z8 rfl (u7 rfl rfl (by simp only [oM,upR,List.length_range,List.length_cons,List.length_nil];omega) rfl (fun s71=> ?_) (by exact zj7 [(⟨(k:Int),yfk h.evs h.evs[a].t a h.evs[a].scan (k:Int)⟩:Seen)]))
    refine k7 s71 fun sv hsv=> ?_
    subst hsv
    refine rn ?_;exact ⟨hk,sv,by rw [zoj,List.map_append,List.map_append,List.map_singleton,List.map_singleton];exact eA⟩
 ·have qk:k=h.os.length:=by have q:=oF hc22;rw [oM] at q;omega
  subst qk
  refine rn ?_;exact j9 rfl (.trans zbr (.drop [_,_] _ _)) ⟨rfl,rfl⟩
theorem yib {h:Hist} (hc:v6 h=0) {x:Int} (h0:0≤x) (h1:x < h.os.length):(zby h x).length≤3000:=by
 rw [←znt (za6.1 hc) h0 h1];exact zlt hc h0 h1
def chR (h:Hist) (f t:Int) (k:Nat):List Int:=(upR k).filter fun x=>decide (atI f 0 (zby h x) ≥ 0) && decide (atI t 0 (zby h x) > atI f 0 (zby h x))
theorem chR_len (h:Hist) (f t:Int) (k:Nat):(chR h f t k).length≤k:=by
 refine Nat.le_trans (List.length_filter_le _ _) ?_
 rw [upR,oM,List.length_range];exact Nat.le_refl _
theorem yrj {l:List Conf} {c:Conf} {k:Nat} (hk:k < l.length) (h:zfj l[k] c=true):decide (c∈l)=true:=by rw [zh7,decide_eq_true_iff] at h;exact decide_eq_true (h ▸ List.getElem_mem hk)
theorem yrk {l:List Conf} {c:Conf} (h:l.all (fun z=> !zfj z c)=true):decide (c∈l)=false:=by
 refine decide_eq_false fun hm=> ?_
 have:=List.all_eq_true.1 h c hm
 rw [zh7] at this;simp at this
theorem zuq (h:Hist) (x:Int) (v:Ver):zhg h x v=((rkR h x v).getD 0,(rkR h x v).isSome):=by
 rw [zhg,rkR]
 by_cases hv:v=⟨0,0⟩
 ·rw [if_pos hv,if_pos hv];rfl
 ·rw [if_neg hv,if_neg hv]
  by_cases hf:zbq (fun t=>zhi h x t==v) 0 (zby h x) ≥ 0
  ·rw [if_pos hf,if_pos (show zbq (rkQ h x v) 0 (zby h x) ≥ 0 from hf)];rfl
  ·rw [if_neg hf,if_neg (show ¬zbq (rkQ h x v) 0 (zby h x) ≥ 0 from hf)];rfl
def scT (h:Hist) (s:Seen) (k:Int):Int:=((zby h s.o)[(k - 1).toNat]?).getD 0
theorem yem {h:Hist} (hc:v6 h=0) {x:Int} (h0:0≤x) (h1:x < h.os.length) (p:Int):(zjn h p x).length≤3000:=by
 rw [zjn]
 exact Nat.le_trans (H.chR_len _ _) (yib hc h0 h1)
theorem zxz {f:Nat→Bool} {k:Int}:∀{n:Nat},k∈H.chR f n→1≤k∧k≤n
 |0,hk=>by simp [H.chR] at hk
 |n+1,hk=>by
  rw [H.chR,List.mem_append] at hk
  rcases hk with hk|hk
  ·have:=zxz hk;omega
  ·split at hk
   ·rw [List.mem_singleton] at hk;omega
   ·cases hk
theorem zg6 {h:Hist} (hs:zar h=true) (t:Int):decide (atI t 0 (zgi h) ≥ 0)=ze6 h.evs t 5:=by
 rw [decide_eq_decide.2 (show atI t 0 (zgi h) ≥ 0 ↔ ¬atI t 0 (zgi h) < 0 by omega),decide_not,zx8,Bool.not_not,Bool.eq_iff_iff,List.contains_iff_mem,←yeh hs,zkk]
theorem ztn {h:Hist} (hs:zar h=true) (t:Int):decide (atI t 0 (zgi h) < 0)= !ze6 h.evs t 5:=by
 rw [←zg6 hs,←decide_not];exact decide_eq_decide.2 (by omega)
theorem zn0 {h:Hist} (hs:zar h=true):(zgi h).length≤h.evs.length:=by
 rw [←yeh hs];exact zvy _
theorem zku {a b:Ver}:a=b ↔ a.t=b.t∧a.k=b.k:=by cases a;cases b;simp
def itF (h:Hist) (x f:Int):List Conf:=zd7 (zfa h x f) h.evs h.evs.length
def itO (h:Hist) (k:Nat):List Conf:=(upR k).flatMap fun x=>(zby h x).flatMap (itF h x)
theorem yro (h:Hist) (k:Nat):itO h (k+1)=itO h k++(zby h k).flatMap (itF h k):=by
 rw [itO,zoj,List.flatMap_append];simp [itO]
theorem ydi (h:Hist):itO h h.os.length=zcv h:=rfl
theorem yr2 {α β:Type} {f:α→List β} {l:List α} {i:Nat} (hi:i < l.length):(l.take (i+1)).flatMap f=(l.take i).flatMap f++f l[i]:=by
 rw [List.take_succ_eq_append_getElem hi,List.flatMap_append];simp
theorem ydj {h:Hist} (hc:v6 h=0) (x:Int) (l:List Int):(l.flatMap (itF h x)).length≤l.length * 3000:=
 zgf _ 3000 _ fun f _=>Nat.le_trans (zfu _ _ _) (zb8 hc).evs
theorem zvf {h:Hist} (hc:v6 h=0):∀k:Nat,k≤h.os.length→(itO h k).length≤k * 9000000
 |0,_=>Nat.le_refl _
 |k+1,hk=>by
  have h1:=zvf hc k (by omega)
  have h2:=ydj hc k (zby h k)
  have h3:=yib hc (x:=k) (by omega) (by omega)
  rw [yro,List.length_append,Nat.succ_mul]
  omega
theorem yde {h:Hist} {x f:Int} {j:Nat} {e:Ev} (q:(e.kind==3 && (e.o==x && (e.v==zhi h x f && (!(e.t==f) && ze6 h.evs e.t 5))))=false):zfa h x f j e=none:=by rw [zfa,if_neg (by rw [q];decide)]
theorem yuy {h:Hist} {x f:Int} {j:Nat} {e:Ev} (q:(e.kind==3 && (e.o==x && (e.v==zhi h x f && (!(e.t==f) && ze6 h.evs e.t 5))))=true):zfa h x f j e=some (wrC h e j 1 f x 0):=by rw [zfa,if_pos q]
theorem zzn {h:Hist} {f:Nat→Ev→Option Conf} {j:Nat} (hj:j < h.evs.length) (q:f j h.evs[j]=none):zd7 f h.evs (j+1)=zd7 f h.evs j:=by rw [znw hj,q];simp
theorem zzm {h:Hist} {f:Nat→Ev→Option Conf} {j:Nat} {d:Conf} (hj:j < h.evs.length) (q:f j h.evs[j]=some d):zd7 f h.evs (j+1)=zd7 f h.evs j++ [d]:=by rw [znw hj,q];rfl
theorem zyv (h:Hist) (la:Lim 1000000 h) (hc:v6 h=0):y7 Tryz.prog 56 [.agg (y9 h)] [] (fun r h'=>∃s:SV,h'= [.row s.v 7 41 ((zcv h).map zaf)]∧r= .v s.v):=by
 refine z6 Tryz.func56 rfl rfl rfl ?_
 have hs:=za6.1 hc
 have lA:=zb8 hc
 have lE:=lA.evs
 have lO:=lA.os
 have bC:(zgi h).length≤4611686018427387904:=Nat.le_trans (zn0 hs) (Nat.le_trans lE (by decide))
 refine rn ?_;refine z8 rfl (w8 rfl rfl rfl fun b1=> ?_)
 refine rn ?_;refine qv rfl rfl (y2 rfl rfl (u3 (zsh h la) (Sbs.refl _))) ?_
 refine rn ?_;refine zda h.os.length (fun k s=>⟨[(18,iv k),(3,.v s.v),(1,pZ b1),(4,zaq (zgi h)),(17,iv (h.os.map zeh).length)],.row s.v 7 41 ((itO h k).map zaf):: .box b1 28 (y9 h):: [],[]⟩) ⟨none,0,0⟩ (v8 (k9 7 41) es) ?_
 intro k s lk
 refine rn ?_;refine z7 rfl (fun hc19=> ?_) (fun hc19=> ?_)
 ·have hk:k < h.os.length:=by have q:=oT hc19;rw [oM] at q;omega
  have k0:(0:Int)≤(k:Int):=by omega
  have k1:(k:Int) < h.os.length:=by omega
  have hil:=yib hc k0 k1
  have hol:=zvf hc k (by omega)
  refine rn ?_;refine qv rfl rfl (y2 rfl rfl (u3 (zhv h la k) (Sbs.refl _))) ?_
  refine rn ?_;refine zda (zby h k).length (fun i s=>⟨[(25,iv i),(3,.v s.v),(1,pZ b1),(4,zaq (zgi h)),(5,iv k),(17,iv (h.os.map zeh).length),(18,iv k),(23,zaq (zby h k)),(24,iv ((zby h k).map zai).length)],.row s.v 7 41 ((itO h k++((zby h k).take i).flatMap (itF h k)).map zaf):: .box b1 28 (y9 h):: [],[]⟩) s (by rw [List.take_zero,List.flatMap_nil,List.append_nil];exact es) ?_
  intro i s li
  refine rn ?_;refine z7 rfl (fun hc26=> ?_) (fun hc26=> ?_)
  ·have hi:=zay hc26
   have ri:=zag (f:=zai) hi
   have hml:=ydj hc k ((zby h k).take i)
   have htl:=List.length_take_le i (zby h k)
   refine rn ?_;refine qv rfl rfl (y2 rfl rfl (u3 (zkz h la.evs (zby h k)[i] k) (Sbs.refl _))) ?_
   refine rn ?_;refine z8 rfl (y5 rfl fun b8=> ?_)
   refine rn ?_;refine zda h.evs.length (fun j s=>⟨[(40,iv j),(3,.v s.v),(1,pZ b1),(4,zaq (zgi h)),(5,iv k),(7,iv (zby h k)[i]),(8,pZ b8),(9,iv (zc9 h (zby h k)[i] k)),(17,iv (h.os.map zeh).length),(18,iv k),(23,zaq (zby h k)),(24,iv ((zby h k).map zai).length),(25,iv i),(38,znz h.evs),(39,iv (h.evs.map evR).length)],.box b8 57 (zyk (zhi h k (zby h k)[i])):: .row s.v 7 41 (((itO h k++((zby h k).take i).flatMap (itF h k))++zd7 (zfa h k (zby h k)[i]) h.evs j).map zaf):: .box b1 28 (y9 h):: [],[]⟩) s (by rw [zd7,List.append_nil];exact es) ?_
   intro j s lj
   refine rn ?_;refine z7 rfl (fun hc41=> ?_) (fun hc41=> ?_)
   ·have hj:=zay hc41
    have rj:=zag (f:=evR) hj
    have hgl:=zfu (zfa h k (zby h k)[i]) h.evs j
    refine rn ?_;refine z8 rfl (y5 rfl fun b12=> ?_)
    refine rn ?_;refine w7 (fun hg13_3=> ?_) (fun hg13_3=> ?_)
    ·refine rn ?_;refine w7 (fun hg13_9=> ?_) (fun hg13_9=> ?_)
     ·refine rn ?_;refine w7 (fun hg13_15=> ?_) (fun hg13_15=> ?_)
      ·refine rn ?_;refine w7 (fun hg13_21=> ?_) (fun hg13_21=> ?_)
       ·refine rn ?_;refine qv rfl rfl (y2 rfl rfl (u3 (zyz (zgi h) h.evs[j].t bC) (Sbs.refl _))) ?_
        refine rn ?_;refine z7 rfl (fun hc72=> ?_) (fun hc72=> ?_)
        ·have hw:zfa h k (zby h k)[i] j h.evs[j]=some (wrC h h.evs[j] j 1 (zby h k)[i] k 0):=yuy (by
          have q:=hc72
          rw [zg6 hs] at q
          simp_all [zku])
         refine y6 ?_;refine q1 ?_;refine q1 ?_;refine q1 ?_;refine q1 ?_;refine q1 ?_;refine q1 ?_;refine q1 ?_;refine qq rfl rfl (j6 (out:=zaf (wrC h h.evs[j] j 1 (zby h k)[i] k 0)) rfl (by rfl)) ?_
         refine qv rfl rfl (q6 rfl rfl) ?_
         refine z8 rfl (u7 rfl rfl (by simp only [oM,List.length_append,List.length_cons,List.length_nil];omega) rfl (fun s82=> ?_) (zmg [(wrC h h.evs[j] j 1 (zby h k)[i] k 0)]))
         refine k7 s82 fun sv hsv=> ?_
         subst hsv
         refine rn ?_;first|exact ⟨hj,sv,by rw [zzm hj hw,←List.append_assoc,List.map_append (l₁:=((itO h k++((zby h k).take i).flatMap (itF h k))++zd7 (zfa h k (zby h k)[i]) h.evs j))];exact eA⟩|exact ⟨hj,s,by rw [zzn hj hw];exact eA⟩
        ·have hw:zfa h k (zby h k)[i] j h.evs[j]=none:=yde (by
          try (have q:=hc72;rw [zg6 hs] at q)
          simp_all [zku])
         refine rn ?_;first|exact ⟨hj,sv,by rw [zzm hj hw,←List.append_assoc,List.map_append (l₁:=((itO h k++((zby h k).take i).flatMap (itF h k))++zd7 (zfa h k (zby h k)[i]) h.evs j))];exact eA⟩|exact ⟨hj,s,by rw [zzn hj hw];exact eA⟩
       ·refine rn ?_;refine zd9 rfl ?_;have hw:zfa h k (zby h k)[i] j h.evs[j]=none:=yde (by
         try (have q:=hc72;rw [zg6 hs] at q)
         simp_all [zku])
        refine rn ?_;first|exact ⟨hj,sv,by rw [zzm hj hw,←List.append_assoc,List.map_append (l₁:=((itO h k++((zby h k).take i).flatMap (itF h k))++zd7 (zfa h k (zby h k)[i]) h.evs j))];exact eA⟩|exact ⟨hj,s,by rw [zzn hj hw];exact eA⟩
      ·refine rn ?_;refine zd9 rfl ?_;have hw:zfa h k (zby h k)[i] j h.evs[j]=none:=yde (by
        try (have q:=hc72;rw [zg6 hs] at q)
        simp_all [zku])
       refine rn ?_;first|exact ⟨hj,sv,by rw [zzm hj hw,←List.append_assoc,List.map_append (l₁:=((itO h k++((zby h k).take i).flatMap (itF h k))++zd7 (zfa h k (zby h k)[i]) h.evs j))];exact eA⟩|exact ⟨hj,s,by rw [zzn hj hw];exact eA⟩
     ·refine rn ?_;refine zd9 rfl ?_;have hw:zfa h k (zby h k)[i] j h.evs[j]=none:=yde (by
       try (have q:=hc72;rw [zg6 hs] at q)
       simp_all [zku])
      refine rn ?_;first|exact ⟨hj,sv,by rw [zzm hj hw,←List.append_assoc,List.map_append (l₁:=((itO h k++((zby h k).take i).flatMap (itF h k))++zd7 (zfa h k (zby h k)[i]) h.evs j))];exact eA⟩|exact ⟨hj,s,by rw [zzn hj hw];exact eA⟩
    ·refine rn ?_;refine zd9 rfl ?_;have hw:zfa h k (zby h k)[i] j h.evs[j]=none:=yde (by
      try (have q:=hc72;rw [zg6 hs] at q)
      simp_all [zku])
     refine rn ?_;first|exact ⟨hj,sv,by rw [zzm hj hw,←List.append_assoc,List.map_append (l₁:=((itO h k++((zby h k).take i).flatMap (itF h k))++zd7 (zfa h k (zby h k)[i]) h.evs j))];exact eA⟩|exact ⟨hj,s,by rw [zzn hj hw];exact eA⟩
   ·have qj:=zaz hc41 lj
    refine rn ?_;exact ⟨hi,s,by rw [yr2 hi,←List.append_assoc];rw [qj];exact eA⟩
  ·have qi:=zaz hc26 li
   refine rn ?_;exact ⟨hk,s,by rw [yro];rw [qi,List.take_length];exact eA⟩
 ·have qk:k=h.os.length:=by have q:=oF hc19;rw [oM] at q;omega
  refine rn ?_;exact j9 rfl (.trans (.perm (zdl [_] [_]) _) (.drop [_] _ _)) ⟨s,by rw [qk,ydi],rfl⟩
theorem ybt (h:Hist) (la:Lim 1000000 h) (hc:v6 h=0):y7 Tryz.prog 56 [.agg (y9 h)] [] (fun r h'=>h'= []∧r=zgh (zcv h)):=(zyv h la hc).ventR (by rintro _ _ ⟨s,rfl,rfl⟩;exact ⟨_,_,zbr,rfl,rfl⟩)
theorem ytu {h:Hist} {e:Ev} {a:Nat} {s:Seen} {k:Int} (h1:(zhg h s.o s.v).2=false):zet h e a s k=none:=by
 rw [zuq] at h1
 rw [zet]
 cases hr:rkR h s.o s.v with
 |none=>rfl
 |some r=>rw [hr] at h1;simp at h1
theorem w_o {h:Hist} {x:Int} {v:Ver} (h1:(zhg h x v).2=true):∃r,rkR h x v=some r∧(zhg h x v).1=r:=by
 rw [zuq] at h1
 cases hr:rkR h x v with
 |none=>rw [hr] at h1;simp at h1
 |some r=>exact ⟨r,rfl,by rw [zuq,hr];rfl⟩
theorem ytt {h:Hist} {e:Ev} {a:Nat} {s:Seen} {k:Int} (h1:(zhg h s.o s.v).2=true) (h2:decide (k≤(zhg h s.o s.v).1)=false):zet h e a s k=none:=by
 obtain ⟨r,hr,e1⟩:=w_o h1
 rw [e1] at h2
 rw [zet,hr];simp only;rw [if_neg (oF h2)]
theorem yts {h:Hist} {e:Ev} {a:Nat} {s:Seen} {k:Int} (h3:(scT h s k !=e.t)=false):zet h e a s k=none:=by
 rw [zet]
 have h3:(((zby h s.o)[(k - 1).toNat]?).getD 0==e.t)=true:=by
  have:(scT h s k==e.t)=true:=by simpa using h3
  exact this
 cases hr:rkR h s.o s.v with
 |none=>rfl
 |some r=>simp only;rw [if_pos h3];split <;> rfl
theorem w_y {h:Hist} {e:Ev} {a:Nat} {s:Seen} {k:Int} (h1:(zhg h s.o s.v).2=true) (h2:decide (k≤(zhg h s.o s.v).1)=true) (h3:(scT h s k !=e.t)=true):zet h e a s k=some (wrC h e a 2 (scT h s k) s.o e.p):=by
 obtain ⟨r,hr,e1⟩:=w_o h1
 rw [e1] at h2
 have h3:¬(((zby h s.o)[(k - 1).toNat]?).getD 0==e.t)=true:=by
  have:¬(scT h s k==e.t)=true:=by simpa using h3
  exact this
 rw [zet,hr];simp only;rw [if_pos (oT h2),if_neg h3];rfl
def wsP (h:Hist) (e:Ev) (a i:Nat):List Conf:=((j8 h e a).take i).flatMap fun s=>(zjn h e.p s.o).filterMap (zet h e a s)
theorem ytl {h:Hist} {e:Ev} {a i:Nat} (hi:i < (j8 h e a).length):wsP h e a (i+1)=wsP h e a i++(zjn h e.p (j8 h e a)[i].o).filterMap (zet h e a (j8 h e a)[i]):=yr2 hi
theorem zz7 {h:Hist} {e:Ev} {a:Nat} (h4:e.kind=4):wsP h e a (j8 h e a).length=zes h e a:=by rw [wsP,List.take_length,zes,if_pos (by simpa using h4)]
theorem zz6 {h:Hist} (hc:v6 h=0) (e:Ev) (a i:Nat):(wsP h e a i).length≤9000000:=by
 have lO:=(zb8 hc).os
 have h1:=zgf (fun s=>(zjn h e.p s.o).filterMap (zet h e a s)) 3000 ((j8 h e a).take i) fun s hs=>by
  obtain ⟨⟨o0,o1⟩,_⟩:=zqq (List.mem_of_mem_take hs)
  exact Nat.le_trans (List.length_filterMap_le _ _) (yem hc o0 o1 _)
 have h2:((j8 h e a).take i).length≤3000:=Nat.le_trans (List.length_take_le' _ _) (by rw [zi9];omega)
 rw [wsP];omega
theorem zrv {h:Hist} (hc:v6 h=0) (e:Ev) (a:Nat):(zes h e a).length≤9000000:=by
 by_cases h4:e.kind=4
 ·rw [←zz7 h4];exact zz6 hc e a _
 ·rw [zes,if_neg (by simpa using h4)];exact Nat.zero_le _
theorem zmb {h:Hist} (hs:zar h=true) {k:Nat} (hk:k < h.evs.length) (q:(h.evs[k].kind !=4)=true∨decide (atI h.evs[k].t 0 (zgi h) < 0)=true):zad h (zes h) (k+1)=zad h (zes h) k:=by
 rcases q with q|q
 ·cases hb:ze6 h.evs h.evs[k].t 5 with
  |false=>exact zt9 hk hb
  |true=>rw [zqi hk hb,zes,if_neg (by simpa using q),List.append_nil]
 ·rw [ztn hs] at q
  exact zt9 hk (by simpa using q)
theorem yo9 {h:Hist} (hs:zar h=true) {k:Nat} (hk:k < h.evs.length) (q4:(h.evs[k].kind !=4)=false) (q:decide (atI h.evs[k].t 0 (zgi h) < 0)=false):h.evs[k].kind=4∧zad h (zes h) (k+1)=zad h (zes h) k++zes h h.evs[k] k:=by
 rw [ztn hs] at q
 exact ⟨by simpa using q4,zqi hk (by simpa using q)⟩
theorem zuo (h:Hist) (la:Lim 1000000 h) (hc:v6 h=0):y7 Tryz.prog 57 [.agg (y9 h)] [] (fun r h'=>∃s:SV,h'= [.row s.v 7 41 ((zc3 h).map zaf)]∧r= .v s.v):=by
 refine z6 Tryz.func57 rfl rfl rfl ?_
 have hs:=za6.1 hc
 have lA:=zb8 hc
 have lE:=lA.evs
 have lO:=lA.os
 have bC:(zgi h).length≤4611686018427387904:=Nat.le_trans (zn0 hs) (Nat.le_trans lE (by decide))
 refine rn ?_;refine z8 rfl (w8 rfl rfl rfl fun b1=> ?_)
 refine rn ?_;refine qv rfl rfl (y2 rfl rfl (u3 (zsh h la) (Sbs.refl _))) ?_
 refine rn ?_;refine zda h.evs.length (fun k s=>⟨[(22,iv k),(3,.v s.v),(1,pZ b1),(4,zaq (zgi h)),(20,znz h.evs),(21,iv (h.evs.map evR).length)],.row s.v 7 41 ((zad h (zes h) k).map zaf):: .box b1 28 (y9 h):: [],[]⟩) ⟨none,0,0⟩ (v8 (k9 7 41) es) ?_
 intro k s lk
 refine rn ?_;refine z7 rfl (fun hc23=> ?_) (fun hc23=> ?_)
 ·have hk:=zay hc23
  have rk:=zag (f:=evR) hk
  have hal:=zhl (fun j hj=>zrv hc h.evs[j] j) k lk
  have hsl:(j8 h h.evs[k] k).length≤3000:=by rw [zi9];exact lO
  refine rn ?_;refine z8 rfl (y5 rfl fun b6=> ?_)
  refine rn ?_;refine w7 (fun hg6_3=> ?_) (fun hg6_3=> ?_)
  ·refine rn ?_;refine zfp rfl ?_;have hw:zad h (zes h) (k+1)=(zad h (zes h) k):=by
    first
    |exact zmb hs hk (.inl hg6_3)
    |exact zmb hs hk (.inr hc36)
   refine rn ?_;exact ⟨hk,s,by rw [hw];exact eA⟩
  ·refine rn ?_;refine qv rfl rfl (y2 rfl rfl (u3 (zyz (zgi h) h.evs[k].t bC) (Sbs.refl _))) ?_
   refine rn ?_;refine z7 rfl (fun hc36=> ?_) (fun hc36=> ?_)
   ·have hw:zad h (zes h) (k+1)=(zad h (zes h) k):=by
     first
     |exact zmb hs hk (.inl hg6_3)
     |exact zmb hs hk (.inr hc36)
    refine rn ?_;exact ⟨hk,s,by rw [hw];exact eA⟩
   ·obtain ⟨h4,hw⟩:=yo9 hs hk hg6_3 hc36
    refine rn ?_;refine qv rfl rfl (y2 rfl rfl (u3 (ygt h la k hk) (Sbs.refl _))) ?_
    refine rn ?_;refine zda (j8 h h.evs[k] k).length (fun i s=>⟨[(41,iv i),(3,.v s.v),(1,pZ b1),(4,zaq (zgi h)),(5,iv k),(6,pZ b6),(20,znz h.evs),(21,iv (h.evs.map evR).length),(22,iv k),(39,zee (j8 h h.evs[k] k)),(40,iv ((j8 h h.evs[k] k).map zah).length)],.box b6 60 (evR h.evs[k]):: .row s.v 7 41 (((zad h (zes h) k)++wsP h h.evs[k] k i).map zaf):: .box b1 28 (y9 h):: [],[]⟩) s (by rw [wsP,List.take_zero,List.flatMap_nil,List.append_nil];exact eA) ?_
    intro i s li
    refine rn ?_;refine z7 rfl (fun hc42=> ?_) (fun hc42=> ?_)
    ·have hi:=zay hc42
     have ri:=zag (f:=zah) hi
     obtain ⟨⟨o0,o1⟩,_⟩:=zqq (List.getElem_mem hi)
     have hgl:=yem hc o0 o1 h.evs[k].p
     have hil:=yib hc o0 o1
     have hpl:=zz6 hc h.evs[k] k i
     refine rn ?_;refine z8 rfl (y5 rfl fun b8=> ?_)
     refine rn ?_;refine qv rfl rfl (y2 rfl rfl (u3 (ybs h la (j8 h h.evs[k] k)[i].o (j8 h h.evs[k] k)[i].v) (Sbs.refl _))) ?_
     refine rn ?_;refine qv rfl rfl (y2 rfl rfl (y0.pure (R:=fun r=>r=zaq (zjn h h.evs[k].p (j8 h h.evs[k] k)[i].o)) (y0.of_fun (zsi h la h.evs[k].p (j8 h h.evs[k] k)[i].o)))) ?_
     refine rn ?_;refine zda (zjn h h.evs[k].p (j8 h h.evs[k] k)[i].o).length (fun j s=>⟨[(61,iv j),(3,.v s.v),(1,pZ b1),(4,zaq (zgi h)),(5,iv k),(6,pZ b6),(8,pZ b8),(9,iv (zhg h (j8 h h.evs[k] k)[i].o (j8 h h.evs[k] k)[i].v).1),(10,bv (zhg h (j8 h h.evs[k] k)[i].o (j8 h h.evs[k] k)[i].v).2),(20,znz h.evs),(21,iv (h.evs.map evR).length),(22,iv k),(39,zee (j8 h h.evs[k] k)),(40,iv ((j8 h h.evs[k] k).map zah).length),(41,iv i),(59,zaq (zjn h h.evs[k].p (j8 h h.evs[k] k)[i].o)),(60,iv ((zjn h h.evs[k].p (j8 h h.evs[k] k)[i].o).map zai).length)],.box b8 70 (zah (j8 h h.evs[k] k)[i]):: .box b6 60 (evR h.evs[k]):: .row s.v 7 41 ((((zad h (zes h) k)++wsP h h.evs[k] k i)++((zjn h h.evs[k].p (j8 h h.evs[k] k)[i].o).take j).filterMap (zet h h.evs[k] k (j8 h h.evs[k] k)[i])).map zaf):: .box b1 28 (y9 h):: [],[]⟩) s (by rw [List.take_zero,List.filterMap_nil,List.append_nil];exact es) ?_
     intro j s lj
     refine rn ?_;refine z7 rfl (fun hc62=> ?_) (fun hc62=> ?_)
     ·have hj:=zay hc62
      have rj:=zag (f:=zai) hj
      obtain ⟨k0,k1⟩:=zxz (List.getElem_mem hj:(zjn h h.evs[k].p (j8 h h.evs[k] k)[i].o)[j]∈H.chR _ _)
      have hkl:((zjn h h.evs[k].p (j8 h h.evs[k] k)[i].o)[j] - 1).toNat < ((zby h (j8 h h.evs[k] k)[i].o).map zai).length:=by rw [oM];omega
      have rkk:((zby h (j8 h h.evs[k] k)[i].o).map zai)[((zjn h h.evs[k].p (j8 h h.evs[k] k)[i].o)[j] - 1).toNat]? =some (zai (scT h (j8 h h.evs[k] k)[i] (zjn h h.evs[k].p (j8 h h.evs[k] k)[i].o)[j])):=by rw [List.getElem?_map,scT,List.getElem?_eq_getElem (by rw [oM] at hkl;exact hkl)];rfl
      have hfl:=Nat.le_trans (List.length_filterMap_le (zet h h.evs[k] k (j8 h h.evs[k] k)[i]) ((zjn h h.evs[k].p (j8 h h.evs[k] k)[i].o).take j)) (List.length_take_le _ _)
      refine rn ?_;refine qv rfl rfl (y2 rfl rfl (u3 (zhv h la (j8 h h.evs[k] k)[i].o) (Sbs.refl _))) ?_
      refine q1 ?_;refine qq rfl rfl (zci rfl rfl rfl (by omega)) ?_
      refine qq rfl rfl (zau rfl rfl (by omega) rkk) ?_
      refine rn ?_;refine w7 (fun hg15_1=> ?_) (fun hg15_1=> ?_)
      ·refine rn ?_;refine w7 (fun hg15_6=> ?_) (fun hg15_6=> ?_)
       ·refine rn ?_;refine z7 rfl (fun hc84=> ?_) (fun hc84=> ?_)
        ·have hq:zet h h.evs[k] k (j8 h h.evs[k] k)[i] (zjn h h.evs[k].p (j8 h h.evs[k] k)[i].o)[j]=some (wrC h h.evs[k] k 2 (scT h (j8 h h.evs[k] k)[i] (zjn h h.evs[k].p (j8 h h.evs[k] k)[i].o)[j]) (j8 h h.evs[k] k)[i].o h.evs[k].p):=w_y hg15_1 hg15_6 hc84
         refine rn ?_;refine qv rfl rfl (y2 rfl rfl (u3 (zkz h la.evs (scT h (j8 h h.evs[k] k)[i] (zjn h h.evs[k].p (j8 h h.evs[k] k)[i].o)[j]) (j8 h h.evs[k] k)[i].o) (Sbs.refl _))) ?_
         refine rn ?_;refine z8 rfl (y5 rfl fun b14=> ?_)
         first|refine z8 rfl (j5 rfl rfl rfl ?_)|refine z8 rfl (zak rfl rfl rfl rfl (Nat.le_of_ble_eq_true rfl) ?_)
         refine q1 ?_;refine q1 ?_;refine u4 (zac ?_)
         refine y6 ?_;refine q1 ?_;refine q1 ?_;refine q1 ?_;refine q1 ?_;refine q1 ?_;refine q1 ?_;refine q1 ?_;refine q1 ?_;refine q1 ?_;refine q1 ?_;refine qq rfl rfl (j6 (out:=zaf (wrC h h.evs[k] k 2 (scT h (j8 h h.evs[k] k)[i] (zjn h h.evs[k].p (j8 h h.evs[k] k)[i].o)[j]) (j8 h h.evs[k] k)[i].o h.evs[k].p)) rfl (by rfl)) ?_
         refine qv rfl rfl (q6 rfl rfl) ?_
         refine z8 rfl (u7 rfl rfl (by simp only [oM,List.length_append,List.length_cons,List.length_nil];omega) rfl (fun s106=> ?_) (zmg [(wrC h h.evs[k] k 2 (scT h (j8 h h.evs[k] k)[i] (zjn h h.evs[k].p (j8 h h.evs[k] k)[i].o)[j]) (j8 h h.evs[k] k)[i].o h.evs[k].p)]))
         refine k7 s106 fun sv hsv=> ?_
         subst hsv
         refine rn ?_;first|exact ⟨hj,sv,by rw [yfr hj hq,←List.append_assoc,List.map_append (l₁:=(((zad h (zes h) k)++wsP h h.evs[k] k i)++((zjn h h.evs[k].p (j8 h h.evs[k] k)[i].o).take j).filterMap (zet h h.evs[k] k (j8 h h.evs[k] k)[i])))];exact eA⟩|exact ⟨hj,s,by rw [yfs hj hq];exact eA⟩
        ·have hq:zet h h.evs[k] k (j8 h h.evs[k] k)[i] (zjn h h.evs[k].p (j8 h h.evs[k] k)[i].o)[j]=none:=by
          first
          |exact ytu hg15_1
          |exact ytt hg15_1 hg15_6
          |exact yts hc84
         refine rn ?_;first|exact ⟨hj,sv,by rw [yfr hj hq,←List.append_assoc,List.map_append (l₁:=(((zad h (zes h) k)++wsP h h.evs[k] k i)++((zjn h h.evs[k].p (j8 h h.evs[k] k)[i].o).take j).filterMap (zet h h.evs[k] k (j8 h h.evs[k] k)[i])))];exact eA⟩|exact ⟨hj,s,by rw [yfs hj hq];exact eA⟩
       ·refine rn ?_;refine zd9 rfl ?_;have hq:zet h h.evs[k] k (j8 h h.evs[k] k)[i] (zjn h h.evs[k].p (j8 h h.evs[k] k)[i].o)[j]=none:=by
         first
         |exact ytu hg15_1
         |exact ytt hg15_1 hg15_6
         |exact yts hc84
        refine rn ?_;first|exact ⟨hj,sv,by rw [yfr hj hq,←List.append_assoc,List.map_append (l₁:=(((zad h (zes h) k)++wsP h h.evs[k] k i)++((zjn h h.evs[k].p (j8 h h.evs[k] k)[i].o).take j).filterMap (zet h h.evs[k] k (j8 h h.evs[k] k)[i])))];exact eA⟩|exact ⟨hj,s,by rw [yfs hj hq];exact eA⟩
      ·refine rn ?_;refine zd9 rfl ?_;have hq:zet h h.evs[k] k (j8 h h.evs[k] k)[i] (zjn h h.evs[k].p (j8 h h.evs[k] k)[i].o)[j]=none:=by
        first
        |exact ytu hg15_1
        |exact ytt hg15_1 hg15_6
        |exact yts hc84
       refine rn ?_;first|exact ⟨hj,sv,by rw [yfr hj hq,←List.append_assoc,List.map_append (l₁:=(((zad h (zes h) k)++wsP h h.evs[k] k i)++((zjn h h.evs[k].p (j8 h h.evs[k] k)[i].o).take j).filterMap (zet h h.evs[k] k (j8 h h.evs[k] k)[i])))];exact eA⟩|exact ⟨hj,s,by rw [yfs hj hq];exact eA⟩
     ·have qj:=zaz hc62 lj
      refine rn ?_;exact ⟨hi,s,by rw [ytl hi,←List.append_assoc];rw [qj,List.take_length];exact eA⟩
    ·have qi:=zaz hc42 li
     refine rn ?_;exact ⟨hk,s,by rw [hw,←zz7 h4];rw [qi];exact eA⟩
 ·have qk:=zaz hc23 lk
  refine rn ?_;exact j9 rfl (.trans (.perm (zdl [_] [_]) _) (.drop [_] _ _)) ⟨s,by rw [qk];rfl,rfl⟩
theorem zys (h:Hist) (la:Lim 1000000 h) (hc:v6 h=0):y7 Tryz.prog 57 [.agg (y9 h)] [] (fun r h'=>h'= []∧r=zgh (zc3 h)):=(zuo h la hc).ventR (by rintro _ _ ⟨s,rfl,rfl⟩;exact ⟨_,_,zbr,rfl,rfl⟩)
theorem ygy {f:Bool} (l:List Conf) (hl:l.length≤4611686018427387904) (c:Conf):y7 Tryz.prog 60 [.list f 7 (l.map zaf),.agg (zaf c)] [] (fun r h'=>h'= []∧r=bv (decide (c∈l))):=by
 refine z6 Tryz.func60 rfl rfl rfl ?_
 refine rn ?_;refine z8 rfl (w8 rfl rfl rfl fun b3=> ?_)
 refine rn ?_;refine zcj (l.length) (fun k:Nat=>l.all (fun z=> !zfj z c)=(l.drop k).all (fun z=> !zfj z c)) (fun k=> [(9,iv k)]) [(3,_),(7,_),(8,_)] rfl ?_
 intro k lk zk
 refine rn ?_;refine z7 rfl (fun hc10=> ?_) (fun hc10=> ?_)
 ·have hk:=zay hc10
  have rk:=zag (f:=zaf) hk
  refine rn ?_;refine z8 rfl (y5 rfl fun b6=> ?_)
  refine rn ?_;refine z7 rfl (fun hc15=> ?_) (fun hc15=> ?_)
  ·refine rn ?_;exact j9 rfl (.drop [_,_] _ _) ⟨rfl,congrArg bv (yrj hk hc15).symm⟩
  ·refine rn ?_;exact ⟨hk,zt3 hk zk (by show (!zfj l[k] c)=true;rw [show zfj l[k] c=false from hc15];rfl),eA⟩
 ·have qk:=zaz hc10 lk
  have ak:=zzz qk zk
  refine rn ?_;exact j9 rfl (.drop [_] _ _) ⟨rfl,congrArg bv (yrk ak).symm⟩
theorem yiv {full:Bool} (l:List ByteArray) (most:Nat) (hm:most≤1000):y7 Tryz.prog 109 [.list full 1 (l.map zeh),iv most] [] (fun r h'=>h'= []∧r=zdf (zoi most l)):=by
 refine z6 Tryz.func109 rfl rfl rfl ?_
 refine w9 (y6 ?_)
 refine q1 ?_;refine u4 (zac ?_)
 refine w9 (y6 ?_)
 refine q1 ?_;refine q1 ?_;refine q1 ?_;refine q1 ?_;refine qq rfl rfl (zk0 (l.map zeh).length most rfl rfl) ?_
 refine qq rfl rfl (zek (rows':=(l.take most).map zeh) rfl rfl (by omega) (by rw [oM];exact zjw zeh l most)) ?_
 refine z8 rfl (v2 rfl rfl (y0.rowS (y0.of_fun (zvz _ (by simp;omega) (ym3 _)))) rfl ?_)
 rintro _ _ ⟨s,rfl,rfl⟩
 refine rn ?_;refine zab (fun k:Nat=>k≤(l.take most).length) (fun k=>⟨[(17,iv k),(16,iv ((l.take most).map zeh).length),(15,.v s.v),(5,.v s.v)],[.row s.v 1 9 ((((l.take most).take k).map cutS).map zeh++((l.take most).drop k).map zeh)],[]⟩) (fun k=>(l.take most).length - k) 0 (by omega)
  (by simp only [List.take_zero,List.map_nil,List.nil_append,List.drop_zero];exact (v7 (.cons _ _ _ rfl (.cons _ _ _ rfl (.cons _ _ _ rfl (.cons _ _ _ rfl (.nil))))))) ?_
 intro k hk
 refine rn ?_;refine z7 rfl (fun hc18=> ?_) (fun hc18=> ?_)
 ·have hk2:k < (l.take most).length:=by simpa using hc18
  obtain ⟨b,hb⟩:∃b,b=(l.take most)[k]:=⟨_,rfl⟩
  have hd:=List.drop_eq_getElem_cons hk2
  rw [←hb] at hd
  have hL:=List.length_take_le most l
  have hkl:(((l.take most).take k).map cutS).length=k:=by rw [oM,List.length_take];omega
  have hrow:=ynd (f:=zeh) (g:=zeh) (xs:=((l.take most).take k).map cutS) (k:=k) hkl hd
  have hk3:k < ((((l.take most).take k).map cutS).map zeh++((l.take most).drop k).map zeh).length:=by rw [ync hkl hk];exact hk2
  refine za7 ?_;refine zac ?_;refine w9 ?_;refine zb9 ?_;refine w9 (y6 ?_)
  refine q1 ?_;refine q1 ?_;refine qq rfl rfl (ziw rfl hrow rfl) ?_
  refine q1 ?_;refine q1 ?_;refine u4 (zac ?_)
  refine y6 ?_;refine q1 ?_;refine q1 ?_;refine q1 ?_;refine q1 ?_;refine q1 ?_;refine qq rfl rfl (zk0 b.size 40 rfl rfl) ?_
  refine qq rfl rfl (zej rfl rfl (by omega)) ?_
  refine rn ?_;refine z8 rfl (zu1 rfl rfl rfl hrow rfl (Nat.le_of_ble_eq_true rfl) ?_)
  refine rn ?_;have hset:=ynb (f:=zeh) (g:=zeh) (l:=(l.take most)) (xs:=((l.take most).take k).map cutS) (a:=cutS b) (r:=(zeh b).take 0++ [sv (cutS b)]++(zeh b).drop (0+1)) hkl hd rfl
  have hx:((l.take most).take k).map cutS++ [cutS b]=((l.take most).take (k+1)).map cutS:=by rw [List.take_succ_eq_append_getElem hk2,hb];simp
  rw [hx] at hset
  exact ⟨k+1,by omega,(by rw [←hset];exact (v7 (.cons _ _ _ rfl (.cons _ _ _ rfl (.cons _ _ _ rfl (.cons _ _ _ rfl (.nil))))))),by omega⟩
 ·obtain rfl:k=(l.take most).length:=by
   have:¬k < (l.take most).length:=by simpa using hc18
   omega
  rw [List.take_length,List.drop_length,List.map_nil,List.append_nil]
  refine rn ?_;exact j9 rfl zbr ⟨rfl,rfl⟩
theorem yvb (h:Hist) (la:Lim 4611686018427387904 h):y7 Tryz.prog 52 [.agg (y9 h)] [] (fun r h'=>h'= []∧r= .agg (y9 (zil h))):=by
 refine z6 Tryz.func52 rfl rfl rfl ?_
 refine rn ?_;refine z8 rfl (w8 rfl rfl rfl fun b1=> ?_)
 refine z8 rfl (y5 rfl fun b2=> ?_)
 refine rn0 ?_;refine zv4 (fun _:Nat=>True) (fun b3=>⟨[(1,pZ b1),(2,pZ b2),(3,pZ b3)],[.box b3 28 [zdf (zoi 12 h.ts),zdf (zoi 8 h.ss),zdf (zoi 10 h.os),zdf (zoi 6 h.ps),zrs,zrs,zrs,zrs],.box b2 28 zox,.box b1 28 (y9 h)],[]⟩) ?_ ?_
 ·refine j4 14 rfl ?_
  refine rn ?_;refine dv rfl rfl (by exact y2 rfl rfl (u3 (yiv h.ts 12 (by decide)) (Sbs.refl _))) ?_
  refine rn ?_;refine dv rfl rfl (by exact y2 rfl rfl (u3 (yiv h.ss 8 (by decide)) (Sbs.refl _))) ?_
  refine rn ?_;refine dv rfl rfl (by exact y2 rfl rfl (u3 (yiv h.os 10 (by decide)) (Sbs.refl _))) ?_
  refine rn ?_;refine dv rfl rfl (by exact y2 rfl rfl (u3 (yiv h.ps 6 (by decide)) (Sbs.refl _))) ?_
  refine rn ?_;refine zms rfl fun b3=> ?_
  refine rn ?_;exact ⟨b3,trivial,(v7 (.cons _ _ _ rfl (.cons _ _ _ rfl (.cons _ _ _ rfl (.nil)))))⟩
 ·intro b3 _
  refine rn ?_;refine zab (fun x:Nat×SV=>x.1≤h.evs.length) (fun x=>⟨[(26,iv x.1),(25,iv (h.evs.map evR).length),(24,znz h.evs),(1,pZ b1),(2,pZ b2),(3,pZ b3)],[.row x.2.v 9 60 (((h.evs.take (min x.1 70)).map ztj).map evR),.box b3 28 [zdf (zoi 12 h.ts),zdf (zoi 8 h.ss),zdf (zoi 10 h.os),zdf (zoi 6 h.ps),.v x.2.v,zrs,zrs,zrs],.box b2 28 zox,.box b1 28 (y9 h)],[]⟩) (fun x=>h.evs.length - x.1) (0,yuq) (by simp)
   (v8 (k9 9 60) (v7 (.cons _ _ _ rfl (.cons _ _ _ rfl (.cons _ _ _ rfl (.cons _ _ _ rfl (.cons _ _ _ rfl (.cons _ _ _ rfl (.nil))))))))) ?_
  rintro ⟨k,s⟩ hk
  simp only at hk
  refine rn ?_;refine z7 rfl (fun hc27=> ?_) (fun hc27=> ?_)
  ·have hk2:k < h.evs.length:=by simpa using hc27
   obtain ⟨e,he⟩:∃e,e=h.evs[k]:=⟨_,rfl⟩
   have hrow:(h.evs.map evR)[k]? =some (evR e):=by rw [he];simp [hk2]
   have hle:=la.evs
   refine rn ?_;refine z8 rfl (y5 rfl fun b5=> ?_)
   refine rn ?_;refine z7 rfl (fun hc32=> ?_) (fun hc32=> ?_)
   ·have hlt:k < 70:=by have:=hc32;simp at this;omega
    refine w9 (y6 ?_)
    refine q1 ?_;refine q1 ?_;refine q1 ?_;refine q1 ?_;refine q1 ?_;refine qq rfl rfl (zk0 (e.scan.map zah).length 12 rfl rfl) ?_
    refine qq rfl rfl (zek (rows':=(e.scan.take 12).map zah) rfl rfl (by omega) (by rw [oM];exact zjw zah e.scan 12)) ?_
    refine qv rfl rfl (y2 rfl rfl (u3 (yel ((e.scan.take 12).map zah) (by simp;omega)) (Sbs.refl _))) ?_
    refine rn ?_;refine qv rfl rfl (q6 rfl rfl) ?_
    refine z8 rfl (u7 rfl rfl (by have:=yar h.evs k 70;simp at this ⊢;omega) rfl (fun s46=> ?_) (fun r hr=>by simp at hr;subst hr;rfl))
    refine k7 s46 fun sv hsv=> ?_
    subst hsv
    refine rn ?_;have hx:((h.evs.take (min (k+1) 70)).map ztj).map evR=((h.evs.take (min k 70)).map ztj).map evR++ [evR (ztj e)]:=by rw [ylt hk2 hlt he];simp
    exact ⟨(k+1,sv),by simp only;omega,(by rw [hx];exact (v8 (zcp (h1:= [_])) (v7 (.cons _ _ _ rfl (.cons _ _ _ rfl (.cons _ _ _ rfl (.cons _ _ _ rfl (.cons _ _ _ rfl (.cons _ _ _ rfl (.nil)))))))))),by simp only;omega⟩
   ·have hlt:¬k < 70:=by have:=hc32;simp at this;omega
    refine rn ?_;exact ⟨(k+1,s),by simp only;omega,(by rw [yls hlt];exact (v8 (zcp (h1:= [_])) (v7 (.cons _ _ _ rfl (.cons _ _ _ rfl (.cons _ _ _ rfl (.cons _ _ _ rfl (.cons _ _ _ rfl (.cons _ _ _ rfl (.nil)))))))))),by simp only;omega⟩
  ·obtain rfl:k=h.evs.length:=by
    have:¬k < h.evs.length:=by simpa using hc27
    omega
   obtain ⟨sE,hsE⟩:∃sE:SV,sE=s:=⟨_,rfl⟩
   simp only [yas,←hsE]
   refine rn ?_;refine zab (fun x:Nat×SV=>x.1≤h.ords.length) (fun x=>⟨[(52,iv x.1),(51,iv (h.ords.map zez).length),(50,yci h.ords),(1,pZ b1),(2,pZ b2),(3,pZ b3)],[.row x.2.v 2 87 (((h.ords.take (min x.1 14)).map zvv).map zez),.row sE.v 9 60 (((h.evs.take 70).map ztj).map evR),.box b3 28 [zdf (zoi 12 h.ts),zdf (zoi 8 h.ss),zdf (zoi 10 h.os),zdf (zoi 6 h.ps),.v sE.v,.v x.2.v,zrs,zrs],.box b2 28 zox,.box b1 28 (y9 h)],[]⟩) (fun x=>h.ords.length - x.1) (0,yuq) (by simp)
    (v8 (k9 2 87) (v7 (.cons _ _ _ rfl (.cons _ _ _ rfl (.cons _ _ _ rfl (.cons _ _ _ rfl (.cons _ _ _ rfl (.cons _ _ _ rfl (.nil))))))))) ?_
   rintro ⟨k,s⟩ hk
   simp only at hk
   refine rn ?_;refine z7 rfl (fun hc53=> ?_) (fun hc53=> ?_)
   ·have hk2:k < h.ords.length:=by simpa using hc53
    obtain ⟨e,he⟩:∃e,e=h.ords[k]:=⟨_,rfl⟩
    have hrow:(h.ords.map zez)[k]? =some (zez e):=by rw [he];simp [hk2]
    have hle:=la.ords
    refine rn ?_;refine z8 rfl (y5 rfl fun b7=> ?_)
    refine rn ?_;refine z7 rfl (fun hc58=> ?_) (fun hc58=> ?_)
    ·have hlt:k < 14:=by have:=hc58;simp at this;omega
     refine j4 14 rfl ?_
     refine dq rfl rfl qrA ?_;refine dq rfl rfl qrA ?_;refine dq rfl rfl qrA ?_;refine dq rfl rfl qrA ?_;refine dq rfl rfl qrA ?_;refine dq rfl rfl qrA ?_;refine dq rfl rfl qrA ?_;refine dq rfl rfl qrA ?_;refine dq rfl rfl qrA ?_;refine dq rfl rfl (zk0 (e.ts.map zai).length 14 rfl rfl) ?_
     refine dq rfl rfl (zek (rows':=(e.ts.take 14).map zai) rfl rfl (by omega) (by rw [oM];exact zjw zai e.ts 14)) ?_
     refine dv rfl rfl (by exact y2 rfl rfl (u3 (zxw ((e.ts.take 14).map zai) (by simp;omega)) (Sbs.refl _))) ?_
     refine rn ?_;refine dv rfl rfl (q6 rfl rfl) ?_
     refine rn ?_;refine z8 rfl (u7 rfl rfl (by have:=yar h.ords k 14;simp at this ⊢;omega) rfl (fun s73=> ?_) (fun r hr=>by simp at hr;subst hr;rfl))
     refine k7 s73 fun sv hsv=> ?_
     subst hsv
     refine rn ?_;have hx:((h.ords.take (min (k+1) 14)).map zvv).map zez=((h.ords.take (min k 14)).map zvv).map zez++ [zez (zvv e)]:=by rw [ylt hk2 hlt he];simp
     exact ⟨(k+1,sv),by simp only;omega,(by rw [hx];exact (v8 (zcp (h1:= [_])) (v7 (.cons _ _ _ rfl (.cons _ _ _ rfl (.cons _ _ _ rfl (.cons _ _ _ rfl (.cons _ _ _ rfl (.cons _ _ _ rfl (.nil)))))))))),by simp only;omega⟩
    ·have hlt:¬k < 14:=by have:=hc58;simp at this;omega
     refine rn ?_;exact ⟨(k+1,s),by simp only;omega,(by rw [yls hlt];exact (v8 (zcp (h1:= [_])) (v7 (.cons _ _ _ rfl (.cons _ _ _ rfl (.cons _ _ _ rfl (.cons _ _ _ rfl (.cons _ _ _ rfl (.cons _ _ _ rfl (.nil)))))))))),by simp only;omega⟩
   ·obtain rfl:k=h.ords.length:=by
     have:¬k < h.ords.length:=by simpa using hc53
     omega
    obtain ⟨sO,hsO⟩:∃sO:SV,sO=s:=⟨_,rfl⟩
    simp only [yas,←hsO]
    refine rn ?_;refine zab (fun x:Nat×SV=>x.1≤h.mats.length) (fun x=>⟨[(79,iv x.1),(78,iv (h.mats.map zeq).length),(77,zze h.mats),(1,pZ b1),(2,pZ b2),(3,pZ b3)],[.row x.2.v 4 109 (((h.mats.take (min x.1 20)).map zzs).map zeq),.row sO.v 2 87 (((h.ords.take 14).map zvv).map zez),.row sE.v 9 60 (((h.evs.take 70).map ztj).map evR),.box b3 28 [zdf (zoi 12 h.ts),zdf (zoi 8 h.ss),zdf (zoi 10 h.os),zdf (zoi 6 h.ps),.v sE.v,.v sO.v,.v x.2.v,zrs],.box b2 28 zox,.box b1 28 (y9 h)],[]⟩) (fun x=>h.mats.length - x.1) (0,yuq) (by simp)
     (v8 (k9 4 109) (v7 (.cons _ _ _ rfl (.cons _ _ _ rfl (.cons _ _ _ rfl (.cons _ _ _ rfl (.cons _ _ _ rfl (.cons _ _ _ rfl (.nil))))))))) ?_
    rintro ⟨k,s⟩ hk
    simp only at hk
    refine rn ?_;refine z7 rfl (fun hc80=> ?_) (fun hc80=> ?_)
    ·have hk2:k < h.mats.length:=by simpa using hc80
     obtain ⟨e,he⟩:∃e,e=h.mats[k]:=⟨_,rfl⟩
     have hrow:(h.mats.map zeq)[k]? =some (zeq e):=by rw [he];simp [hk2]
     have hle:=la.mats
     refine rn ?_;refine z8 rfl (y5 rfl fun b9=> ?_)
     refine rn ?_;refine z7 rfl (fun hc85=> ?_) (fun hc85=> ?_)
     ·have hlt:k < 20:=by have:=hc85;simp at this;omega
      refine w9 (y6 ?_)
      refine q1 ?_;refine q1 ?_;refine q1 ?_;refine q1 ?_;refine q1 ?_;refine qq rfl rfl (zk0 (e.ts.map zai).length 14 rfl rfl) ?_
      refine qq rfl rfl (zek (rows':=(e.ts.take 14).map zai) rfl rfl (by omega) (by rw [oM];exact zjw zai e.ts 14)) ?_
      refine qv rfl rfl (y2 rfl rfl (u3 (zxw ((e.ts.take 14).map zai) (by simp;omega)) (Sbs.refl _))) ?_
      refine rn ?_;refine qv rfl rfl (q6 rfl rfl) ?_
      refine z8 rfl (u7 rfl rfl (by have:=yar h.mats k 20;simp at this ⊢;omega) rfl (fun s99=> ?_) (fun r hr=>by simp at hr;subst hr;rfl))
      refine k7 s99 fun sv hsv=> ?_
      subst hsv
      refine rn ?_;have hx:((h.mats.take (min (k+1) 20)).map zzs).map zeq=((h.mats.take (min k 20)).map zzs).map zeq++ [zeq (zzs e)]:=by rw [ylt hk2 hlt he];simp
      exact ⟨(k+1,sv),by simp only;omega,(by rw [hx];exact (v8 (zcp (h1:= [_])) (v7 (.cons _ _ _ rfl (.cons _ _ _ rfl (.cons _ _ _ rfl (.cons _ _ _ rfl (.cons _ _ _ rfl (.cons _ _ _ rfl (.nil)))))))))),by simp only;omega⟩
     ·have hlt:¬k < 20:=by have:=hc85;simp at this;omega
      refine rn ?_;exact ⟨(k+1,s),by simp only;omega,(by rw [yls hlt];exact (v8 (zcp (h1:= [_])) (v7 (.cons _ _ _ rfl (.cons _ _ _ rfl (.cons _ _ _ rfl (.cons _ _ _ rfl (.cons _ _ _ rfl (.cons _ _ _ rfl (.nil)))))))))),by simp only;omega⟩
    ·obtain rfl:k=h.mats.length:=by
      have:¬k < h.mats.length:=by simpa using hc80
      omega
     obtain ⟨sM,hsM⟩:∃sM:SV,sM=s:=⟨_,rfl⟩
     simp only [yas,←hsM]
     refine zjl ?_;refine zi8 ?_;refine zi8 ?_;refine zex ?_;refine zac ?_;refine w9 (y6 ?_)
     refine q1 ?_;refine q1 ?_;refine q1 ?_;refine q1 ?_;refine q1 ?_;refine qq rfl rfl (zk0 (h.wants.map zf4).length 12 rfl rfl) ?_
     refine qq rfl rfl (zek (rows':=(h.wants.take 12).map zf4) rfl rfl (by omega) (by rw [oM];exact zjw zf4 h.wants 12)) ?_
     refine qv rfl rfl (y2 rfl rfl (u3 (yi1 ((h.wants.take 12).map zf4) (by simp;omega)) (Sbs.refl _))) ?_
     refine rn ?_;exact zef (.cons _ _ _ _ (.agg _ _ _ _ _ _ _ rfl inferInstance inferInstance inferInstance rfl) .nil) (.trans (zbi [_,_,_,_,_,_] _) (.trans (zbi [_,_,_,_,_] _) (.trans (zbi [_,_,_,_] _) (.drop [_,_,_] _ _)))) ⟨rfl,rfl⟩
theorem zqp  :y7 Tryz.prog 108 [] [] (fun r h'=>h'= []∧r= .agg (y9 weH)):=by
 refine z6 Tryz.func108 rfl rfl rfl ?_
 refine rn ?_;refine z8 rfl (y5 rfl fun b0=> ?_)
 refine u4 (zac ?_)
 refine w9 (y6 ?_)
 refine qq rfl rfl (j6 (out:= [iv 0,iv 1]) rfl (by rfl)) ?_
 refine z8 rfl (y5 rfl fun b1=> ?_)
 refine rn ?_;refine qv rfl rfl (q6 rfl rfl) ?_
 refine qv rfl rfl (q6 rfl rfl) ?_
 refine qv rfl rfl (q6 rfl rfl) ?_
 refine qv rfl rfl (q6 rfl rfl) ?_
 refine qq rfl rfl (j6 (out:= [iv 1,iv 0,iv 0,iv 4,iv 0,iv 0,iv 0,iv 0,.v (.slice none 0 0)]) rfl (by rfl)) ?_
 refine q1 ?_;refine qq rfl rfl (j6 (out:= [iv 2,iv 0,iv 0,iv 0,iv 0,iv 0,iv 1,iv 0,.v (.slice none 0 0)]) rfl (by rfl)) ?_
 refine qq rfl rfl (j6 (out:= [iv 5,iv 0,iv 0,iv 0,iv 0,iv 0,iv 0,iv 0,.v (.slice none 0 0)]) rfl (by rfl)) ?_
 refine qq rfl rfl (j6 (out:= [iv 1,iv 1,iv 0,iv 4,iv 0,iv 0,iv 0,iv 0,.v (.slice none 0 0)]) rfl (by rfl)) ?_
 refine q1 ?_;refine qq rfl rfl (j6 (out:= [iv 3,iv 1,iv 0,iv 0,iv 0,iv 0,iv 1,iv 0,.v (.slice none 0 0)]) rfl (by rfl)) ?_
 refine q1 ?_;refine qq rfl rfl (j6 (out:= [iv 0,iv 0,iv 1]) rfl (by rfl)) ?_
 refine qv rfl rfl (q6 rfl rfl) ?_
 refine qq rfl rfl (j6 (out:= [iv 4,iv 1,iv 0,iv 0,iv 0,iv 0,iv 0,iv 0,.list true 3 [[iv 0,iv 0,iv 1]]]) rfl (by rfl)) ?_
 refine qq rfl rfl (j6 (out:= [iv 5,iv 1,iv 0,iv 0,iv 0,iv 0,iv 0,iv 0,.v (.slice none 0 0)]) rfl (by rfl)) ?_
 refine qv rfl rfl (q6 rfl rfl) ?_
 refine qv rfl rfl (q6 rfl rfl) ?_
 refine qq rfl rfl (j6 (out:= [iv 0,iv 0,bv false,.list true 1 [[iv 0]]]) rfl (by rfl)) ?_
 refine qv rfl rfl (q6 rfl rfl) ?_
 refine rn ?_;exact zef (.cons _ _ _ _ (.agg _ _ _ _ _ _ _ rfl inferInstance inferInstance inferInstance rfl) .nil) (.trans (.drop [_,_] _ _) (.le (Sb.aggs (bs:=y9 weH) (by exact ⟨.unfull,.unfull,.unfull,.unfull,(.lists (by simp) ⟨⟨.refl _,.refl _,.refl _,.refl _,.refl _,.refl _,.refl _,.refl _,.nil _ _,trivial⟩,⟨.refl _,.refl _,.refl _,.refl _,.refl _,.refl _,.refl _,.refl _,.nil _ _,trivial⟩,⟨.refl _,.refl _,.refl _,.refl _,.refl _,.refl _,.refl _,.refl _,.nil _ _,trivial⟩,⟨.refl _,.refl _,.refl _,.refl _,.refl _,.refl _,.refl _,.refl _,.nil _ _,trivial⟩,⟨.refl _,.refl _,.refl _,.refl _,.refl _,.refl _,.refl _,.refl _,.nil _ _,trivial⟩,⟨.refl _,.refl _,.refl _,.refl _,.refl _,.refl _,.refl _,.refl _,.unfull,trivial⟩,⟨.refl _,.refl _,.refl _,.refl _,.refl _,.refl _,.refl _,.refl _,.nil _ _,trivial⟩,trivial⟩),.nil _ _,(.lists (by simp) ⟨⟨.refl _,.refl _,.refl _,.unfull,trivial⟩,trivial⟩),.nil _ _,trivial⟩)).le)) ⟨rfl,rfl⟩
theorem ytf:Lim 4611686018427387904 weH:=⟨by decide,by decide,by decide,by decide,by decide,by decide,by decide,by decide,by decide,by decide,by decide⟩
abbrev yvr:Conf:=⟨0,1,1,1,4,0,0⟩
abbrev yph:Conf:=⟨0,1,2,1,5,0,0⟩
abbrev ys7:Conf:=⟨0,1,1,1,6,0,0⟩
theorem we_j1:wrJ weH yph=true:=by rw [wrJ,decide_eq_true zju,decide_eq_true ytr,Bool.or_true];rfl
theorem we_j2:wrJ weH ys7=false:=by rw [wrJ,decide_eq_false yjk.1,decide_eq_false yjk.2];simp
theorem yv9:y7 Tryz.prog 53 [.agg (y9 weH)] (.glob 2 156 y3:: .glob 4 305 y4:: .glob 5 308 y1:: .glob 3 246 q7:: []) (fun r h'=>h'= .glob 2 156 y3:: .glob 4 305 y4:: .glob 5 308 y1:: .glob 3 246 q7:: []∧r= .tup [zgh [yvr],iv 0]):=(ylg weH ytf).mono fun _ _ q=>⟨q.1,by rw [q.2,yjh zju,yf5,zju]⟩
theorem yv8:y7 Tryz.prog 54 [.agg (y9 weH)] (.glob 2 156 y3:: .glob 4 305 y4:: .glob 5 308 y1:: .glob 3 246 q7:: []) (fun r h'=>h'= .glob 2 156 y3:: .glob 4 305 y4:: .glob 5 308 y1:: .glob 3 246 q7:: []∧r= .tup [zgh [yph],iv 0]):=(yfz weH ytf).mono fun _ _ q=>⟨q.1,by rw [q.2,yjg zju,yf4,zju]⟩
theorem yv7:y7 Tryz.prog 59 [.agg (y9 weH),.agg (zaf yph)] (.glob 2 156 y3:: .glob 4 305 y4:: .glob 5 308 y1:: .glob 3 246 q7:: []) (fun r h'=>h'= .glob 2 156 y3:: .glob 4 305 y4:: .glob 5 308 y1:: .glob 3 246 q7:: []∧r=bv true):=(yaa weH ytf yph).mono fun _ _ q=>⟨q.1,by rw [q.2,we_j1]⟩
theorem yv6:y7 Tryz.prog 59 [.agg (y9 weH),.agg (zaf ys7)] (.glob 2 156 y3:: .glob 4 305 y4:: .glob 5 308 y1:: .glob 3 246 q7:: []) (fun r h'=>h'= .glob 2 156 y3:: .glob 4 305 y4:: .glob 5 308 y1:: .glob 3 246 q7:: []∧r=bv false):=(yaa weH ytf ys7).mono fun _ _ q=>⟨q.1,by rw [q.2,we_j2]⟩
theorem yvs {f g:Bool} (c:Conf):y7 Tryz.prog 19 [.list f 7 [zaf c],.list g 7 [zaf c]] [] (fun r h'=>h'= []∧r=bv true):=ysf [c] (by show 1≤_;decide)
theorem ylm  :y7 Tryz.prog 51 [] (.glob 2 156 y3:: .glob 4 305 y4:: .glob 5 308 y1:: .glob 3 246 q7:: []) (fun r h'=>h'= .glob 2 156 y3:: .glob 4 305 y4:: .glob 5 308 y1:: .glob 3 246 q7:: []∧r=bv true):=by
 refine z6 Tryz.func51 rfl rfl rfl ?_
 refine rn ?_;refine qv rfl rfl (y2 rfl rfl (y0.pure (R:=fun r=>r= .agg (y9 weH)) (y0.of_fun zqp))) ?_
 refine qv rfl rfl (y2 rfl rfl (y0.of_fun yv9)) ?_
 refine rn ?_;refine qv rfl rfl (y2 rfl rfl (y0.pure (R:=fun r=>r= .agg (y9 weH)) (y0.of_fun zqp))) ?_
 refine qv rfl rfl (y2 rfl rfl (y0.of_fun yv8)) ?_
 refine q1 ?_;refine q1 ?_;refine q1 ?_;refine q1 ?_;refine q1 ?_;refine u4 (zac ?_)
 refine w9 (y6 ?_)
 refine qq rfl rfl (j6 (out:=zaf yvr) rfl (by rfl)) ?_
 refine z8 rfl (y5 rfl fun b5=> ?_)
 first|refine z8 rfl (j5 rfl rfl rfl ?_)|refine z8 rfl (zak rfl rfl rfl rfl (Nat.le_of_ble_eq_true rfl) ?_)
 refine u4 (zac ?_)
 refine w9 (y6 ?_)
 refine qq rfl rfl (j6 (out:=zaf yph) rfl (by rfl)) ?_
 refine z8 rfl (y5 rfl fun b6=> ?_)
 refine rn ?_;refine j4 26 rfl ?_
 refine rn ?_;refine dv rfl rfl (q6 rfl rfl) ?_
 refine dv rfl rfl (by exact y2 rfl rfl (y0.pure (R:=fun r=>r=bv true) (y0.of_fun (yvs _)))) ?_
 refine rn ?_;refine dv rfl rfl (q6 rfl rfl) ?_
 refine dv rfl rfl (by exact y2 rfl rfl (y0.pure (R:=fun r=>r=bv true) (y0.of_fun (yvs _)))) ?_
 refine rn ?_;refine dv rfl rfl (by exact y2 rfl rfl (y0.pure (R:=fun r=>r= .agg (y9 weH)) (y0.of_fun zqp))) ?_
 refine rn ?_;refine dv rfl rfl (by exact y2 rfl rfl (y0.qt (y0.of_fun yv7) ((pt2 _ _ _ _).trans (.cons _ ((pt2 _ _ _ _).trans (.cons _ ((pt2 _ _ _ _).trans (.cons _ (pt2 _ _ _ _))))))))) ?_
 refine rn ?_;refine dv rfl rfl (by exact y2 rfl rfl (y0.pure (R:=fun r=>r= .agg (y9 weH)) (y0.of_fun zqp))) ?_
 refine dq rfl rfl (j6 (out:=zaf ys7) rfl (by rfl)) ?_
 refine rn ?_;refine qv rfl rfl (y2 rfl rfl (y0.qt (y0.of_fun yv6) ((pt2 _ _ _ _).trans (.cons _ ((pt2 _ _ _ _).trans (.cons _ ((pt2 _ _ _ _).trans (.cons _ (pt2 _ _ _ _))))))))) ?_
 refine rn ?_;refine rq 2 ?_
 exact ⟨rfl,rfl⟩
theorem ydh {h:Hist} (hc:v6 h=0):(zcv h).length≤36000000000:=by
 have h1:=zvf hc h.os.length (Nat.le_refl _)
 have:=(zb8 hc).os
 rw [ydi] at h1;omega
theorem zsc {h:Hist} (hc:v6 h=0):(zc3 h).length≤36000000000:=by
 have h1:=zhl (fun j hj=>zrv hc h.evs[j] j) _ (Nat.le_refl _)
 have:=(zb8 hc).evs
 rw [zc3];omega
def jL (h:Hist):List Conf:=if v6 h=0 then zcv h++zc3 h else []
theorem ytg {h:Hist} (hc:v6 h=0):jL h=zcv h++zc3 h:=by rw [jL,if_pos hc]
theorem yth {h:Hist} (hc:v6 h≠0):jL h= []:=by rw [jL,if_neg hc]
theorem ykg (h:Hist):(jL h).length≤72000000000:=by
 by_cases hc:v6 h=0
 ·have h1:=ydh hc
  have h2:=zsc hc
  rw [ytg hc,List.length_append];omega
 ·rw [yth hc];exact Nat.zero_le _
theorem ypc (h:Hist) (c:Conf):wrJ h c=decide (c∈jL h):=by
 by_cases hc:v6 h=0
 ·rw [wrJ,decide_eq_true hc,Bool.true_and,ytg hc,Bool.eq_iff_iff,Bool.or_eq_true,decide_eq_true_iff,decide_eq_true_iff,decide_eq_true_iff,List.mem_append,zjp (za6.1 hc),zjo (za6.1 hc)]
 ·rw [ypd hc,yth hc];simp
theorem ydo (n:Nat) (hn:n≤3000000000000):y7 Tryz.prog 106 [.v (.slice none 0 0),iv n] [] (fun r h'=>∃s:SV,h'= [.row s.v 7 41 []]∧r= .v s.v):=by
 refine z6 Tryz.func106 rfl rfl rfl ?_
 refine rn ?_;refine z7 rfl (fun hc6=> ?_) (fun hc6=> ?_)
 ·exact absurd hc6 (by simp)
 ·refine za7 ?_;refine zac ?_;refine w9 ?_;refine w9 (y6 ?_)
  refine zfw (k9 7 41) ?_
  refine q1 ?_;refine q1 ?_;refine qq rfl rfl (zph rfl) ?_
  refine q1 ?_;refine q1 ?_;refine qq rfl rfl (zci rfl rfl rfl (by have e:([]:List (List AV)).length=0:=rfl;omega)) ?_
  refine qq rfl rfl (zor (zci rfl rfl rfl (by have e:([]:List (List AV)).length=0:=rfl;omega)) (show AV.v (.int .i64 ((n:Int) - (0 - (([]:List (List AV)).length:Int))))=iv n by simp)) ?_
  refine rn ?_;refine z7 rfl (fun hc16=> ?_) (fun hc16=> ?_)
  ·refine y6 ?_;refine zfw (k9 7 41) ?_
   refine q1 ?_;refine q1 ?_;refine qq rfl rfl (zph rfl) ?_
   refine qq rfl rfl (zsk rfl rfl) ?_
   refine rn ?_;refine z8 rfl (zl6 (n:=n) rfl rfl (by simp at hc16;omega) (by omega) (by omega) rfl (hk:=fun s22=> ?_))
   refine k7 s22 fun sv hsv=> ?_
   subst hsv
   refine q1 ?_;refine q1 ?_;refine qq rfl rfl (yb2 (k:=0) rfl rfl (Nat.zero_le _)) ?_
   refine zzx sv.v 0 (Nat.zero_le _) ?_
   refine k7 (zos sv.v 0 0 7) fun s1 hs1=> ?_
   rw [hs1]
   refine rn ?_;first|exact j9 rfl (.trans (.perm (pt1 _ _ _) _) (.drop [_] _ _)) ⟨s1,rfl,rfl⟩|exact j9 rfl (.refl _ _) ⟨⟨none,0,0⟩,rfl,rfl⟩
  ·refine rn ?_;first|exact j9 rfl (.trans (.perm (pt1 _ _ _) _) (.drop [_] _ _)) ⟨s1,rfl,rfl⟩|exact j9 rfl (.refl _ _) ⟨⟨none,0,0⟩,rfl,rfl⟩
theorem zvw {f:Bool} (ll:List (List Conf)) (hl:ll.flatten.length≤3000000000000) (hn:ll.length≤3000000000000):y7 Tryz.prog 45 [.list f 1 (zkj ll)] [] (fun r h'=>∃s:SV,h'= [.row s.v 7 41 (ll.flatten.map zaf)]∧r= .v s.v):=by
 refine z6 Tryz.func45 rfl rfl rfl ?_
 refine rn ?_;refine zb7 ll.length (fun k=>True) (fun k=>⟨[(11,iv k),(3,iv ((ll.take (k)).flatten.length:Nat)),(0,.list f 1 (zkj ll)),(9,.list f 1 (zkj ll)),(10,iv (zkj ll).length)],[],[]⟩) trivial es ?_
 intro k lk _
 refine rn ?_;refine z7 rfl (fun hc12=> ?_) (fun hc12=> ?_)
 ·have hk:k < ll.length:=by have q:=oT hc12;simp at q;omega
  have rk:(zkj ll)[k]? =some [.list false 7 (ll[k].map zaf)]:=by rw [List.getElem?_map,List.getElem?_eq_getElem hk];rfl
  have hb:=zrc ll k
  have hb1:=zrc ll (k+1)
  have hs:=yr3 hk
  refine za7 ?_;refine zac ?_;refine w9 ?_;refine zb9 ?_;refine w9 (y6 ?_)
  refine qq rfl rfl (zb3 rfl rfl rk) ?_
  refine q1 ?_;refine q1 ?_;refine u4 (zac ?_)
  refine w9 (y6 ?_)
  refine q1 ?_;refine q1 ?_;refine q1 ?_;refine qq rfl rfl (zor (zci rfl rfl rfl (by simp only [oM];omega)) (show AV.v (.int .i64 (((ll.take k).flatten.length:Nat)+((ll[k].map zaf).length:Nat)))=iv ((ll.take (k+1)).flatten.length:Nat) by rw [oM,←hs];rfl)) ?_
  refine rn ?_;refine z7 rfl (fun hc20=> ?_) (fun hc20=> ?_)
  ·exfalso
   have q:=oT hc20
   omega
  ·refine rn ?_;exact ⟨hk,trivial,eA⟩
 ·have qk:k=ll.length:=by have q:=oF hc12;simp at q;omega
  refine rn ?_;refine z8 rfl (v2 rfl rfl (y0.of_fun (ydo _ (by rw [qk,List.take_length];exact hl))) rfl ?_)
  rintro _ _ ⟨s,rfl,rfl⟩
  refine rn ?_;refine zda ll.length (fun k s=>⟨[(27,iv k),(6,.v s.v),(25,.list f 1 (zkj ll)),(26,iv (zkj ll).length)],.row s.v 7 41 ((ll.take k).flatten.map zaf):: [],[]⟩) s es ?_
  intro k s lk
  refine rn ?_;refine z7 rfl (fun hc28=> ?_) (fun hc28=> ?_)
  ·have hk:k < ll.length:=by have q:=oT hc28;simp at q;omega
   have rk:(zkj ll)[k]? =some [.list false 7 (ll[k].map zaf)]:=by rw [List.getElem?_map,List.getElem?_eq_getElem hk];rfl
   have hb:=zrc ll k
   have hb1:=zrc ll (k+1)
   have hs:=yr3 hk
   refine za7 ?_;refine zac ?_;refine w9 ?_;refine zb9 ?_;refine w9 (y6 ?_)
   refine qq rfl rfl (zb3 rfl rfl rk) ?_
   refine rn ?_;refine z8 rfl (zou rfl rfl (by simp only [oM];omega) rfl (fun s33=> ?_) (zmg _) (by simp only [oM];omega))
   refine k7 s33 fun sv hsv=> ?_
   subst hsv
   refine rn ?_;exact ⟨hk,sv,by rw [yvz hk,List.map_append];exact eA⟩
  ·have qk:k=ll.length:=by have q:=oF hc28;simp at q;omega
   refine rn ?_;exact j9 rfl (.refl _ _) ⟨s,by rw [qk,List.take_length],rfl⟩
theorem yee {f:Bool} (ll:List (List Conf)) (hl:ll.flatten.length≤3000000000000) (hn:ll.length≤3000000000000):y7 Tryz.prog 45 [.list f 1 (zkj ll)] [] (fun r h'=>h'= []∧r=zgh ll.flatten):=(zvw ll hl hn).ventR (by rintro _ _ ⟨s,rfl,rfl⟩;exact ⟨_,_,zbr,rfl,rfl⟩)
theorem zz9 (h:Hist) (la:Lim 4611686018427387904 h) (c:Conf):y7 Tryz.prog 59 [.agg (y9 h),.agg (zaf c)] (.glob 2 156 y3:: .glob 4 305 y4:: .glob 5 308 y1:: .glob 3 246 q7:: []) (fun r h'=>h'= .glob 2 156 y3:: .glob 4 305 y4:: .glob 5 308 y1:: .glob 3 246 q7:: []∧r=bv (decide (c∈jL h))):=(yaa h la c).mono fun _ _ q=>⟨q.1,by rw [q.2,ypc]⟩
theorem ylf (h:Hist) (la:Lim 4611686018427387904 h) (c:Conf) (hm:c∈jL h):y7 Tryz.prog 59 [.agg (y9 h),.agg (zaf c)] (.glob 2 156 y3:: .glob 4 305 y4:: .glob 5 308 y1:: .glob 3 246 q7:: []) (fun r h'=>h'= .glob 2 156 y3:: .glob 4 305 y4:: .glob 5 308 y1:: .glob 3 246 q7:: []∧r=bv true):=(zz9 h la c).mono fun _ _ q=>⟨q.1,by rw [q.2,decide_eq_true hm]⟩
theorem zt8 (x:Hist) (zs:List Conf) (lb:Lim 4611686018427387904 x) (hz:zs.length≤4611686018427387904):y7 Tryz.prog 13 [.agg (y9 x),zgh zs] (.glob 2 156 y3:: .glob 4 305 y4:: .glob 5 308 y1:: .glob 3 246 q7:: []) (fun r h'=>h'= .glob 2 156 y3:: .glob 4 305 y4:: .glob 5 308 y1:: .glob 3 246 q7:: []∧r=bv true):=by
 refine z6 Tryz.func13 rfl rfl rfl ?_
 refine rn ?_;refine z8 rfl (w8 rfl rfl rfl fun b2=> ?_)
 refine rn ?_;refine qv rfl rfl (y2 rfl rfl (y0.qt (y0.of_fun ylm) ((pt1 _ _ _).trans (.cons _ ((pt1 _ _ _).trans (.cons _ ((pt1 _ _ _).trans (.cons _ (pt1 _ _ _))))))))) ?_
 refine rn ?_;refine z7 rfl (fun hc12=> ?_) (fun hc12=> ?_)
 ·exact absurd hc12 (by decide)
 ·refine rn ?_;refine qv rfl rfl (y2 rfl rfl (u3 (yvb x lb) (Sbs.refl _))) ?_
  refine z8 rfl (y5 rfl fun b5=> ?_)
  first|refine z8 rfl (j5 rfl rfl rfl ?_)|refine z8 rfl (zak rfl rfl rfl rfl (Nat.le_of_ble_eq_true rfl) ?_)
  refine u4 (zac ?_)
  refine w9 (y6 ?_)
  refine qq rfl rfl (zhx (fun w O v hr=>Sb.rel (Sb.nil false 7) hr) (zsq rfl)) ?_
  refine rn0 ?_;refine zp9 (⟨[(6,zgh (jL (zil x))),(1,zgh zs),(5,pZ b5)],.box b5 28 (y9 (zil x)):: .box b2 28 (y9 x):: .glob 2 156 y3:: .glob 4 305 y4:: .glob 5 308 y1:: .glob 3 246 q7:: [],[]⟩) ?_ ?_
  ·refine rn ?_;refine qv rfl rfl (y2 rfl rfl (u3 (zyy (zil x) ((zrg x).mono (by decide))) (Sbs.refl _))) ?_
   refine rn ?_;refine z7 rfl (fun hc17=> ?_) (fun hc17=> ?_)
   ·have hc:v6 (zil x)=0:=eq_of_beq hc17
    have hE1:=ydh hc
    have hE2:=zsc hc
    refine j4 3 rfl ?_
    refine rn ?_;refine dv rfl rfl (by exact y2 rfl rfl (u3 (ybt (zil x) ((zb8 hc).mono (by decide):Lim 1000000 (zil x)) hc) (Sbs.refl _))) ?_
    refine rn ?_;refine qv rfl rfl (y2 rfl rfl (u3 (zys (zil x) ((zb8 hc).mono (by decide):Lim 1000000 (zil x)) hc) (Sbs.refl _))) ?_
    refine qv rfl rfl (q6 rfl rfl) ?_
    refine qv rfl rfl (y2 rfl rfl (y0.pure (R:=fun r=>r=zgh [zcv (zil x),zc3 (zil x)].flatten) (y0.of_fun (yee [zcv (zil x),zc3 (zil x)] (by simp only [List.flatten_cons,List.flatten_nil,List.length_append,List.length_nil];omega) (by show 2≤_;decide))))) ?_
    refine rn ?_;first|(rw [yth hc];exact eA)|(rw [ytg hc,←show [zcv (zil x),zc3 (zil x)].flatten=zcv (zil x)++zc3 (zil x) by simp];exact eA)
   ·have hc:v6 (zil x)≠0:=by simpa using hc17
    refine rn ?_;first|(rw [yth hc];exact eA)|(rw [ytg hc,←show [zcv (zil x),zc3 (zil x)].flatten=zcv (zil x)++zc3 (zil x) by simp];exact eA)
  ·refine rn ?_;refine zcj (zs.length) (fun j:Nat=>True) (fun j=> [(26,iv j)]) [(5,_),(6,_),(24,_),(25,_)] trivial ?_
   intro j lj _
   refine rn ?_;refine z7 rfl (fun hc27=> ?_) (fun hc27=> ?_)
   ·have hj:=zay hc27
    have rj:=zag (f:=zaf) hj
    refine rn ?_;refine z8 rfl (y5 rfl fun b8=> ?_)
    refine rn ?_;refine j4 8 rfl ?_
    refine rn ?_;refine zc0 (fun hg10_2=> ?_) (fun hg10_2=> ?_)
    ·refine rn ?_;refine dv rfl rfl (by exact y2 rfl rfl (y0.qt (y0.of_fun (zz9 (zil x) ((zrg x).mono (by decide)) zs[j])) ((pt3 _ _ _ _ _).trans (.cons _ ((pt3 _ _ _ _ _).trans (.cons _ ((pt3 _ _ _ _ _).trans (.cons _ (pt3 _ _ _ _ _))))))))) ?_
     refine rn ?_;refine qv rfl rfl (y2 rfl rfl (u3 (ygy (jL (zil x)) (Nat.le_trans (ykg _) (by decide)) zs[j]) (Sbs.refl _))) ?_
     refine qq rfl rfl (yj0 (c:=false) (zj4 rfl rfl) (by simp)) ?_
     refine rn ?_;refine z7 rfl (fun hc41=> ?_) (fun hc41=> ?_)
     ·first|cases hc41|exact absurd hc41 (by decide)|(exfalso;simp_all;done)
     ·refine rn ?_;exact ⟨hj,trivial,eA⟩
    ·refine rn ?_;refine z7 rfl (fun hc41=> ?_) (fun hc41=> ?_)
     ·first|cases hc41|exact absurd hc41 (by decide)|(exfalso;simp_all;done)
     ·refine rn ?_;exact ⟨hj,trivial,eA⟩
   ·have qj:=zaz hc27 lj
    refine rn ?_;have hJl:=ykg (zil x)
    refine zcj ((jL (zil x)).length) (fun k:Nat=>True) (fun k=> [(45,iv k)]) [(5,_),(43,_),(44,_)] trivial ?_
    intro k lk _
    refine rn ?_;refine z7 rfl (fun hc46=> ?_) (fun hc46=> ?_)
    ·have hk:=zay hc46
     have rk:=zag (f:=zaf) hk
     refine rn ?_;refine z8 rfl (y5 rfl fun b10=> ?_)
     refine rn ?_;refine w7 (fun hg16_2=> ?_) (fun hg16_2=> ?_)
     ·refine rn ?_;refine qv rfl rfl (y2 rfl rfl (y0.qt (y0.of_fun (ylf (zil x) ((zrg x).mono (by decide)) (jL (zil x))[k] (List.getElem_mem hk))) ((pt3 _ _ _ _ _).trans (.cons _ ((pt3 _ _ _ _ _).trans (.cons _ ((pt3 _ _ _ _ _).trans (.cons _ (pt3 _ _ _ _ _))))))))) ?_
      refine rn ?_;refine z7 rfl (fun hc57=> ?_) (fun hc57=> ?_)
      ·first|cases hc57|exact absurd hc57 (by decide)|(exfalso;simp_all;done)
      ·refine rn ?_;exact ⟨hk,trivial,eA⟩
     ·refine rn ?_;refine z7 rfl (fun hc57=> ?_) (fun hc57=> ?_)
      ·first|cases hc57|exact absurd hc57 (by decide)|(exfalso;simp_all;done)
      ·refine rn ?_;exact ⟨hk,trivial,eA⟩
    ·have qk:=zaz hc46 lk
     refine rn ?_;first|(refine rq 2 ?_;exact ⟨rfl,rfl⟩)|(refine rq 3 ?_;exact ⟨rfl,rfl⟩)
end Go.Proofs
