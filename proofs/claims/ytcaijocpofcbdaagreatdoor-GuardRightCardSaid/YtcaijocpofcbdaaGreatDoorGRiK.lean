/- strings.Join over a row of one's own (the kit's shelf has walked it). Conditions: none. To be built over the variant of the library that mkab2.py prints. -/
import Derived.Test.YtcaijocpofcbdaaGreatDoorGRiJ
import Derived.Shelf.Strings.OnBuilder
set_option linter.unusedSectionVars false
set_option linter.unusedSimpArgs false
set_option linter.unusedVariables false
namespace Go.Ab
open Go Go.Shelf Go.Proofs Go.H
theorem zzs {X:Nat→Prop} {w:World} {a:Addr} {cap:Nat} {T:TypeId} {xs:List ByteArray} (hh:HRel X w [.row (.slice (some a) xs.length cap) 1 T (xs.map zbg)]):(∀(j:Nat) x,xs[j]? =some x→w.cell? ⟨a.block,a.off+j,none⟩=some (.string x))∧a.block < w.heap.size∧xs.length≤cap∧a.spot=none:=by
 obtain ⟨h1,h2,h3,h4,c,h5,h6,h7⟩:=hh.holds _ (List.mem_singleton.2 rfl)
 refine ⟨fun j x hx=> ?_,(hh.lt a.block (by simp [u4,Res.own])).1,h3,h1⟩
 obtain ⟨hj2,rfl⟩:=List.getElem?_eq_some_iff.1 hx
 obtain ⟨v,e,r⟩:=h7 j (by simpa using hj2) 0 (by simp [zbg])
 simp only [List.getElem_map] at r
 have hv:v= .string xs[j]:=r.v_eq
 subst hv
 have e0:a.off+j * 1+0=a.off+j:=by omega
 rw [e0] at e
 simp [World.cell?,h5,e]
theorem zzt {X:Nat→Prop} {w:World} {n cap:Nat} {T:TypeId} {xs:List ByteArray} (hh:HRel X w [.row (.slice none n cap) 1 T (xs.map zbg)]):xs= []∧n=0∧cap=0:=by
 obtain ⟨h1,h2,h3⟩:=hh.holds _ (List.mem_singleton.2 rfl)
 exact ⟨by simpa using h1,h2,h3⟩
section
variable {P:Program} {ρ:Ren}
theorem zux (L:Lays.n156 P ρ) (E:Builder.Extra P ρ) (s:SV) (T:TypeId) (xs:List ByteArray) (sep:ByteArray) (hx:xs.length≤140737488355328) (hl:(Lib.join (xs.map (·.data.toList)) sep.data.toList).length≤140737488355328):
 x3 P (ρ.f 156) [.v s.v,.v (.string sep)] [.row s.v 1 T (xs.map zbg)] (fun r h'=>h'= [.row s.v 1 T (xs.map zbg)]∧∃t:ByteArray,r= .v (.string t)):=by
 intro X w vs hh ha
 match vs,ha with
 | [v,v2],⟨hv,hv2,_⟩=>
   obtain rfl:=hv.v_eq
   obtain rfl:=hv2.v_eq
   obtain ⟨a,n,cap⟩:=s
   cases a with
   |none=>
    obtain ⟨rfl,rfl,rfl⟩:=zzt hh
    refine callsIn_wide.2 ((Any.strings_Join_none L E none 0 sep w).mono ?_)
    rintro e w' ⟨rfl,rfl⟩
    exact ⟨_,_,_,rfl,⟨rfl,_,rfl⟩,.v _,hh,.refl _ _⟩
   |some a=>
    have hn:n=xs.length:=by
     have:=(hh.holds _ (List.mem_singleton.2 rfl)).2.1
     simpa using this
    subst hn
    obtain ⟨g1,g2,g3,g4⟩:=zzs hh
    obtain ⟨b,off,sp⟩:=a
    simp only at g1 g2 g4
    subst g4
    refine callsIn_wide.2 ((Any.strings_Join L E b off cap xs sep w g1 g2 hx g3 hl).mono ?_)
    rintro e w' ⟨rfl,hb⟩
    exact ⟨_,_,_,rfl,⟨rfl,_,rfl⟩,.v _,hh.grow hb.size hb.block,.grow hb.size hb.block ⟨⟨hb.os,hb.output⟩,hb.tape,trivial⟩⟩
end
end Go.Ab
set_option maxRecDepth 100000
namespace Go.Proofs
open Go Go.Ab Go.Shelf
def zw2:Go.Shelf.Ren:=⟨fun|156=>126|165=>165|166=>166|169=>167|240=>198|241=>199|276=>217|277=>218|n=>n,fun|0=>0|3=>3|4=>4|5=>5|9=>9|20=>20|31=>22|37=>234|70=>233|72=>236|75=>239|76=>240|80=>242|127=>256|164=>269|n=>n,fun n=>n⟩
theorem yay:Lays.n156 Tryz.prog zw2:={
 mixed:=by kernel_rfl
 f156:=Tryz.func126.trans (congrArg some (by kernel_rfl))
 f165:=Tryz.func165.trans (congrArg some (by kernel_rfl))
 f166:=Tryz.func166.trans (congrArg some (by kernel_rfl))
 f169:=Tryz.func167.trans (congrArg some (by kernel_rfl))
 f240:=Tryz.func198.trans (congrArg some (by kernel_rfl))
 f241:=Tryz.func199.trans (congrArg some (by kernel_rfl))
 f276:=Tryz.func217.trans (congrArg some (by kernel_rfl))
 f277:=Tryz.func218.trans (congrArg some (by kernel_rfl))
 t0:=Tryz.underlying0
 a0:=Tryz.isAgg0
 z0:=Tryz.sizeOf0
 v0:=Tryz.zeroValue0
 t3:=Tryz.underlying3
 a3:=Tryz.isAgg3
 z3:=Tryz.sizeOf3
 v3:=Tryz.zeroValue3
 t4:=Tryz.underlying4
 a4:=Tryz.isAgg4
 z4:=Tryz.sizeOf4
 v4:=Tryz.zeroValue4
 t9:=Tryz.underlying9
 a9:=Tryz.isAgg9
 z9:=Tryz.sizeOf9
 v9:=Tryz.zeroValue9
 t20:=Tryz.underlying20
 a20:=Tryz.isAgg20
 z20:=Tryz.sizeOf20
 v20:=Tryz.zeroValue20
 t31:=Tryz.underlying22
 a31:=Tryz.isAgg22
 z31:=Tryz.sizeOf22
 v31:=Tryz.zeroValue22
 t37:=Tryz.underlying234
 a37:=Tryz.isAgg234
 z37:=Tryz.sizeOf234
 v37:=Tryz.zeroValue234
 t70:=Tryz.underlying233
 a70:=Tryz.isAgg233
 z70:=Tryz.sizeOf233
 v70:=Tryz.zeroValue233
 t72:=Tryz.underlying236
 a72:=Tryz.isAgg236
 z72:=Tryz.sizeOf236
 v72:=Tryz.zeroValue236
 t75:=Tryz.underlying239
 a75:=Tryz.isAgg239
 z75:=Tryz.sizeOf239
 v75:=Tryz.zeroValue239
 t76:=Tryz.underlying240
 a76:=Tryz.isAgg240
 z76:=Tryz.sizeOf240
 v76:=Tryz.zeroValue240
 t127:=Tryz.underlying256
 a127:=Tryz.isAgg256
 z127:=Tryz.sizeOf256
 v127:=Tryz.zeroValue256
 t164:=Tryz.underlying269
 a164:=Tryz.isAgg269
 z164:=Tryz.sizeOf269
 v164:=Tryz.zeroValue269}
theorem zw3:Builder.Extra Tryz.prog zw2:={
 sizeBuilder:=by kernel_rfl
 liesBuilder:=by kernel_rfl
 t5:=Tryz.underlying5
 a5:=Tryz.isAgg5
 z5:=Tryz.sizeOf5
 v5:=Tryz.zeroValue5
 infoByte:=by kernel_rfl
 cellsByte:=by kernel_rfl
 sizeByte:=by kernel_rfl
 neB5:=by decide}
set_option maxRecDepth 10000
attribute [local irreducible] QR QV OE zca aw zcm za3 zau zag thn zeu zdi jch zd8
open Go.H
def wordB (k:Nat):ByteArray:=⟨#[[114,121,119],[109,114],[109,119],[119,102,114]][k]!.toArray⟩
def zc3:List AV:= [.v (.string (wordB 0)),.v (.string (wordB 1)),.v (.string (wordB 2)),.v (.string (wordB 3))]
theorem ynk {k:Nat} (hk:k < 4):∃x:ByteArray,zc3[0+k * 1]? =some (.v (.string x))∧x.size≤3:=by
 rcases (by omega:k=0∨k=1∨k=2∨k=3) with rfl|rfl|rfl|rfl
 ·exact ⟨_,rfl,by decide⟩
 ·exact ⟨_,rfl,by decide⟩
 ·exact ⟨_,rfl,by decide⟩
 ·exact ⟨_,rfl,by decide⟩
theorem zl3:∀(xs:List ByteArray),(∀x∈xs,x.size≤3)→Lib.lens (xs.map (·.data.toList))≤3 * xs.length
 | [],_=>Nat.zero_le _
 |x::xs,h=>by
  have h1:=zl3 xs fun y hy=>h y (by simp [hy])
  have h2:=h x (by simp)
  have e:Lib.lens ((x::xs).map (·.data.toList))=x.data.toList.length+Lib.lens (xs.map (·.data.toList)):=by simp [Lib.lens]
  have e2:x.data.toList.length=x.size:=by rw [Array.length_toList];rfl
  rw [e,List.length_cons];omega
theorem zug (xs:List ByteArray) (sep:ByteArray) (hs:sep.size≤1) (hx:xs.length≤4) (h:∀x∈xs,x.size≤3):(Lib.join (xs.map (·.data.toList)) sep.data.toList).length≤140737488355328:=by
 cases xs with
 |nil=>exact Nat.zero_le _
 |cons x r=>
  have h1:=zl3 (x::r) h
  have e2:sep.data.toList.length=sep.size:=by rw [Array.length_toList];rfl
  rw [List.map_cons] at h1 ⊢
  rw [Lib.join_length,List.length_map,e2]
  rw [List.length_cons] at hx h1
  have h3:sep.size * r.length≤1 * r.length:=Nat.mul_le_mul_right _ hs
  omega
theorem ymg (s:SV) (xs:List ByteArray) (sep:ByteArray) (hs:sep.size≤1) (hx:xs.length≤4) (h:∀x∈xs,x.size≤3) (W:List Res):x3 Tryz.prog 126 [.v s.v,.v (.string sep)] (.row s.v 1 9 (xs.map zbg)::W) (fun r h'=>h'= .row s.v 1 9 (xs.map zbg)::W∧∃t:ByteArray,r= .v (.string t)):=
 ((zux yay zw3 s 9 xs sep (by omega) (zug xs sep hs hx h)).frame W).mono (by
   rintro _ _ ⟨_,rfl,rfl,t,rfl⟩
   exact ⟨rfl,t,rfl⟩)
def woC (g:Int):Int:=if g < 0∨g > 15 then 190 else 0
theorem yd4 (g:Int):∀{k:Nat},k < 4→∃c,zlr .shr .i64 g (k:Nat)=some c
 |0,_=>⟨_,rfl⟩
 |1,_=>⟨_,rfl⟩
 |2,_=>⟨_,rfl⟩
 |3,_=>⟨_,rfl⟩
set_option maxHeartbeats 4000000 in
theorem yfo (g:Int):x3 Tryz.prog 88 [iv g] (.glob 1 193 zc3:: []) (fun r h'=>h'= .glob 1 193 zc3:: []∧∃t:ByteArray,r= .tup [.v (.string t),iv (woC g)]):=by
 refine z6 Tryz.func88 rfl rfl rfl ?_
 refine rn ?_;refine q8 (fun hg1_2=> ?_) (fun hg1_2=> ?_)
 ·refine rn ?_;refine zro rfl ?_;have hw:woC g=190:=by
   refine if_pos ?_;first
   |(have q:g < 0:=by simpa using hg1_2
     exact .inl q)
   |(have q:15 < g:=by simpa using hc11
     exact .inr q)
  refine rn ?_;first
  |exact zbj rfl rfl (.refl _ _) ⟨rfl,_,by rw [hw];rfl⟩
  |exact zbj rfl rfl (.drop [_] _ _) ⟨rfl,_,by rw [hw];rfl⟩
 ·refine rn ?_;refine z8 rfl (fun hc11=> ?_) (fun hc11=> ?_)
  ·have hw:woC g=190:=by
    refine if_pos ?_;first
    |(have q:g < 0:=by simpa using hg1_2
      exact .inl q)
    |(have q:15 < g:=by simpa using hc11
      exact .inr q)
   refine rn ?_;first
   |exact zbj rfl rfl (.refl _ _) ⟨rfl,_,by rw [hw];rfl⟩
   |exact zbj rfl rfl (.drop [_] _ _) ⟨rfl,_,by rw [hw];rfl⟩
  ·have hw:woC g=0:=if_neg (by have q1:=of_decide_eq_false hg1_2;have q2:=of_decide_eq_false hc11;omega)
   refine rn ?_;refine zem 4 (fun k (z:SV×List ByteArray)=>z.2.length≤k∧∀x∈z.2,x.size≤3) (fun k z=>⟨[(12,iv (k:Nat)),(4,.v z.1.v),(0,iv g)],.row z.1.v 1 9 ((z.2).map zbg):: .glob 1 193 zc3:: [],[]⟩) (⟨none,0,0⟩,[]) ⟨Nat.le_refl _,by simp⟩ (w9 (zay 1 9) es) ?_
   rintro k ⟨v,xs⟩ lk ⟨hn,hX⟩
   simp only at hn hX
   show aw _ _ _ _ _ ⟨[(12,iv (k:Nat)),(4,.v v.v),(0,iv g)],.row v.v 1 9 ((xs).map zbg):: .glob 1 193 zc3:: [],[]⟩
   refine rn ?_;refine z8 rfl (fun hc13=> ?_) (fun hc13=> ?_)
   ·have hk:k < 4:=by have q:=of_decide_eq_true hc13;omega
    obtain ⟨c,hsh⟩:=yd4 g hk
    obtain ⟨x,hx,hxs⟩:=ynk hk
    refine zaa ?_;refine j8 ?_;refine x9 ?_;refine zab ?_;refine x9 (y6 ?_)
    refine q1 ?_;refine q1 ?_;refine u3 (j8 ?_)
    refine x9 (y6 ?_)
    refine q1 ?_;refine q1 ?_;refine qq rfl rfl (ze1 (c:=c) rfl rfl hsh (Int.natCast_nonneg _)) ?_
    refine rn ?_;refine z8 rfl (fun hc19=> ?_) (fun hc19=> ?_)
    ·refine y6 ?_;refine q1 ?_;refine q1 ?_;refine qq rfl rfl (u6 (i:=k) rfl rfl (by omega)) ?_
     refine qq rfl rfl (j4 rfl hx) ?_
     refine qv rfl rfl (u1 rfl rfl) ?_
     refine z7 rfl (j7 rfl rfl (by simp only [List.length_map,List.length_cons,List.length_nil];omega) rfl (fun s25=> ?_) (fun r hr=>by rw [List.mem_singleton.1 hr];rfl))
     refine zaj s25 fun sv hsv=> ?_
     subst hsv
     refine rn ?_;exact ⟨hk,(sv,xs++ [x]),⟨by simp only [List.length_append,List.length_cons,List.length_nil];omega,fun y hy=>by
      rcases List.mem_append.1 hy with hy|hy
      ·exact hX y hy
      ·rw [List.mem_singleton.1 hy];exact hxs⟩,by simp only [List.map_append];exact eA⟩
    ·refine rn ?_;exact ⟨hk,(v,xs),⟨by simp only;omega,hX⟩,eA⟩
   ·refine rn ?_;refine z7 rfl (w7 rfl rfl (y3.of_fun (ymg v xs _ (by decide) (by omega) hX _)) rfl ?_)
    rintro _ _ ⟨rfl,t,rfl⟩
    refine rn ?_;first
    |exact zbj rfl rfl (.refl _ _) ⟨rfl,_,by rw [hw];rfl⟩
    |exact zbj rfl rfl (.drop [_] _ _) ⟨rfl,_,by rw [hw];rfl⟩
end Go.Proofs
set_option maxRecDepth 100000
namespace Go.Proofs.YtcaijocpofcbdaaGreatDoor
open Go Go.Ab Go.H Go.ChangeShapes Go.WideShapes Go.ChangeAt Go.RowKit
def zmz:List (String×DataW Unit):= [("unicode/utf8.acceptRanges",Rows.laid_unicode_utf8_acceptRanges),("yardarm/level.words",Rows.laid_yardarm_level_words),("yardarm/history.limits",Rows.laid_yardarm_history_limits),("yardarm/rules.asks",Rows.laid_yardarm_rules_asks),("yardarm/session.guards",Rows.laid_yardarm_session_guards),("unicode/utf8.first",Rows.laid_unicode_utf8_first)]
def zkb:List (String×DataW Unit):= [("unicode/utf8.acceptRanges",Rows.laid_unicode_utf8_acceptRanges),("yardarm/level.words",Rows.laid_yardarm_level_words),("yardarm/history.limits",Rows.laid_yardarm_history_limits),("unicode/utf8.first",Rows.laid_unicode_utf8_first)]
theorem zsy:(zmz.filter fun x=>x.2.handleName?.isNone)=zkb:=by kernel_rfl
theorem yau {W:World} (h:laidMetH Tryz.prog zmz W):laidMet Tryz.prog zkb W:=by
 have:=(laidMetH_iff.1 h).1
 rw [zsy] at this
 exact this
theorem yju {w:World} (h:laidMetH Tryz.prog zmz w):(Res.glob 2 197 v8).holds w noX:=by
 obtain ⟨g,t,cs,fuel,p,hg,ht,hv,hd⟩:=h.funcs (n:= "yardarm/rules.asks") (d:=ygh) (.tail _ (.tail _ (.tail _ (.head _))))
 obtain rfl:=Option.some.inj ((show Tryz.prog.globalNamed "yardarm/rules.asks" =some 2 by kernel_rfl).symm.trans hg)
 obtain rfl:=Option.some.inj ((show (Tryz.prog.globals[2]?).map (·.type)=some 197 by kernel_rfl).symm.trans ht)
 rw [zyc] at hd
 have c1:Tryz.prog.cellsOf 196=1:=by kernel_rfl
 have c11:Tryz.prog.cellsOf 197=11:=by kernel_rfl
 have hlen:cs.toList.length=11:=by
  obtain ⟨_,_,_,_,hl,_⟩:=DataW.trod_array Tryz.underlying197 hd
  rw [hl,c11]
 unfold World.var? at hv
 rw [hg] at hv
 simp only [Option.bind_some] at hv
 split at hv
 ·rename_i c T0 fr hh
  cases hv
  refine zs4 hh (by rw [show v8.length=11 from rfl];simpa using hlen.symm) fun j h1 h2=> ?_
  cases j with
  |zero=>exact .any _
  |succ k=>
   have hk:k < 10:=by have:v8.length=11:=rfl;omega
   obtain ⟨b,r,hn,hone,ha⟩:=ybs k hk
   obtain ⟨f',d,q,e1,e2⟩:=Lib.array_elem Tryz.underlying197 hd (k+1) (by omega)
   have e1':d= .held (b::r):=by
    rw [List.getElem?_cons_succ,List.getElem?_map,List.getElem?_drop,Nat.add_comm 1 k,hn] at e1
    exact (Option.some.inj e1).symm
   subst e1'
   rw [c1,Nat.mul_one,List.drop_eq_getElem_cons (by simpa using h2),List.take_succ_cons,List.take_zero] at e2
   have:=func_of_trod (f0:=fnA.getD k 0) Tryz.underlying196 hone e2
   rw [Array.getElem_toList] at this
   rw [this,show v8[k+1]= .fn (.func (fnA.getD k 0)) [] [] from Option.some.inj ((List.getElem?_eq_getElem h1).symm.trans ha)]
   exact zhl _ _
 ·cases hv
theorem yjt {w:World} (h:laidMetH Tryz.prog zmz w):(Res.glob 0 117 x5).holds w noX:=by
 obtain ⟨g,t,cs,fuel,p,hg,ht,hv,hd⟩:=h.funcs (n:= "yardarm/session.guards") (d:=ync) (.tail _ (.tail _ (.tail _ (.tail _ (.head _)))))
 obtain rfl:=Option.some.inj ((show Tryz.prog.globalNamed "yardarm/session.guards" =some 0 by kernel_rfl).symm.trans hg)
 obtain rfl:=Option.some.inj ((show (Tryz.prog.globals[0]?).map (·.type)=some 117 by kernel_rfl).symm.trans ht)
 rw [ya3] at hd
 have c3:Tryz.prog.cellsOf 116=3:=by kernel_rfl
 have c12:Tryz.prog.cellsOf 117=12:=by kernel_rfl
 have hlen:cs.toList.length=4 * 3:=by
  obtain ⟨_,_,_,_,hl,_⟩:=DataW.trod_array Tryz.underlying117 hd
  rw [hl,c12]
 have hcs:cs.toList=guaV:=by
  refine (ztf 3 4 cs.toList (fun i=>(guaV.drop (i * 3)).take 3) hlen fun i hi=> ?_).trans rfl
  obtain ⟨f',d,q,e1,e2⟩:=Lib.array_elem Tryz.underlying117 hd i hi
  rw [c3] at e2
  match i,hi with
  |0,_=>obtain rfl:=Option.some.inj e1;exact zm2 yk9 yk8 e2
  |1,_=>obtain rfl:=Option.some.inj e1;exact zm2 yk8 yk8 e2
  |2,_=>obtain rfl:=Option.some.inj e1;exact zm2 yk9 yk9 e2
  |3,_=>obtain rfl:=Option.some.inj e1;exact zm2 yk8 yk9 e2
 unfold World.var? at hv
 rw [hg] at hv
 simp only [Option.bind_some] at hv
 split at hv
 ·rename_i c T0 fr hh
  cases hv
  have hc:cs=guaV.toArray:=by rw [←hcs]
  subst hc
  refine zs4 hh rfl fun j h1 h2=> ?_
  match j,h1 with
  |0,_=>exact .v _
  |1,_=>exact zhl _ _
  |2,_=>exact zhl _ _
  |3,_=>exact .v _
  |4,_=>exact zhl _ _
  |5,_=>exact zhl _ _
  |6,_=>exact .v _
  |7,_=>exact zhl _ _
  |8,_=>exact zhl _ _
  |9,_=>exact .v _
  |10,_=>exact zhl _ _
  |11,_=>exact zhl _ _
  |n+12,h1=>exact absurd h1 (by show ¬n+12 < 12;omega)
 ·cases hv
def yg2 (k:Nat):List UInt8:= [[114,121,119],[109,114],[109,119],[119,102,114]][k]!
theorem zy2:(Rows.laid_yardarm_level_words:DataW Unit)= .agg ((List.range 4).map fun i=> .lit (.string (yg2 i))):=by kernel_rfl
theorem yhj {s:ByteArray} {l:List UInt8} (h:s.data.toList=l):s=⟨l.toArray⟩:=by
 subst h;cases s;simp
theorem ymk {w:World} (h:Lib.VarReads Tryz.prog w "yardarm/level.words" Rows.laid_yardarm_level_words):(Res.glob 1 193 zc3).holds w noX:=by
 refine zm4 (vals:=(List.range 4).map fun i=>Value.string (wordB i)) (T:=193) h (by kernel_rfl) (show _=some 193 by kernel_rfl) fun fuel cs p hd=> ?_
 rw [zy2] at hd
 have c1:Tryz.prog.cellsOf 9=1:=by kernel_rfl
 have c4:Tryz.prog.cellsOf 193=4:=by kernel_rfl
 have hlen:cs.length=4 * 1:=by
  obtain ⟨_,_,_,_,hl,_⟩:=DataW.trod_array Tryz.underlying193 hd
  rw [hl,c4]
 refine (ztf 1 4 cs (fun i=> [Value.string (wordB i)]) hlen fun i hi=> ?_).trans rfl
 obtain ⟨f',d,q,h1,h2⟩:=Lib.array_elem Tryz.underlying193 hd i hi
 simp only [List.getElem?_map,List.getElem?_range hi,Option.map_some,Option.some.injEq] at h1
 subst h1
 rw [c1] at h2
 obtain ⟨s,e,ex,_⟩:=DataW.trod_string Tryz.underlying9 h2
 have e2:s.data.toList=yg2 i:=by
  have:=congrArg Prod.fst ex
  simp only [DataW.lit.injEq,Lit.string.injEq] at this
  exact this.symm
 rw [e,yhj e2]
 match i,hi with
 |0,_=>rfl
 |1,_=>rfl
 |2,_=>rfl
 |3,_=>rfl
theorem yk5:OO [.glob 1 193 zc3,.glob 0 117 x5,.glob 3 148 y8,.glob 5 276 y9,.glob 6 279 y4,.glob 2 197 v8] noX=noX:=by funext b;simp [OO,u4,noX,Res.own]
theorem zue {W:World} (h:laidMetH Tryz.prog zmz W):HRel noX W [.glob 1 193 zc3,.glob 0 117 x5,.glob 3 148 y8,.glob 5 276 y9,.glob 6 279 y4,.glob 2 197 v8]:=by
 have h':=yau h
 have h0:=ymn (Lib.laidMet.reads h' (.tail _ (.tail _ (.head _))))
 have h1:=ymm (Lib.laidMet.reads h' (.tail _ (.tail _ (.tail _ (.head _)))))
 have h2:=yml (Lib.laidMet.reads h' (.head _))
 have h3:=ymk (Lib.laidMet.reads h' (.tail _ (.head _)))
 refine ⟨by simp [u4,Res.own],fun b hb=>by simp [u4,Res.own] at hb,fun b hb=>hb.elim,fun r hr=> ?_⟩
 rw [yk5]
 simp only [List.mem_cons,List.not_mem_nil,or_false] at hr
 rcases hr with rfl|rfl|rfl|rfl|rfl|rfl
 ·exact h3
 ·exact yjt h
 ·exact h0
 ·exact h1
 ·exact h2
 ·exact yju h
noncomputable def witW0 (os:Os):World:={World.holding Tryz.prog os ⟨#[], #[],[]⟩ with heap:=((World.holding Tryz.prog os ⟨#[], #[],[]⟩).heap.modify 2 (Lay.setRow ym5)).modify 0 (Lay.setRow guaV)}
noncomputable def witW (os:Os):World:=(witW0 os).layVars Tryz.prog zkb
theorem yde (os:Os):(witW os).os=os:=World.layVars_os _ _ _
theorem zy4 (os:Os) (args:Array Value):laidMetH Tryz.prog zmz ((witW os).forCall (fun _ _=>0) ⟨#[],args,[]⟩).memory:=by
 refine laidMetH_of_parts3 (fuel:=8) ?_ (by kernel_rfl) (by kernel_rfl)
 rw [zsy]
 have h:laidMet Tryz.prog zkb (witW os):=laidMet_layVars (w0:=witW0 os) (zkb.map (·.1)) [] (by kernel_rfl) (by kernel_rfl) (by kernel_rfl) (by
  rw [show (zkb.filter fun x=> !(zkb.map (·.1)).contains x.1)= [] by kernel_rfl];exact LaidIn.none)
 exact h.of_heap (by simp [World.memory,World.forCall,Input.heap])
end Go.Proofs.YtcaijocpofcbdaaGreatDoor
set_option maxRecDepth 10000
namespace Go.Proofs
open Go Go.Ab
attribute [local irreducible] QR QV OE zca aw zcm za3 zau zag thn zeu zdi jch zd8
open Go.H
def wiC (h:Hist) (s b:Int):Int:=if u0 h≠0 then u0 h else if isB s h.ss.length=false then 2 else if b < 0∨b > 15 then 190 else if (zgj h.wants s b).length > 3000 then 6 else 0
def wiH (h:Hist) (s b:Int):Hist:=if wiC h s b=0 then zbs h (zgj h.wants s b) else zfw
theorem yg6 {h:Hist} {s b:Int} (hc:u0 h≠0):wiC h s b=u0 h:=if_pos hc
theorem zy5 {h:Hist} {s b:Int} (hc:u0 h=0) (hb:isB s h.ss.length=false):wiC h s b=2:=by rw [wiC,if_neg (by omega),if_pos hb]
theorem yg5 {h:Hist} {s b:Int} (hc:u0 h=0) (hb:isB s h.ss.length=true) (hw:woC b=190):wiC h s b=190:=by
 have:b < 0∨b > 15:=by
  by_cases q:b < 0∨b > 15
  ·exact q
  ·rw [woC,if_neg q] at hw;cases hw
 rw [wiC,if_neg (by omega),if_neg (by rw [hb];decide),if_pos this]
theorem zrw (b:Int):woC b=190∨(woC b=0∧¬(b < 0∨b > 15)):=by
 by_cases q:b < 0∨b > 15
 ·exact .inl (if_pos q)
 ·exact .inr ⟨if_neg q,q⟩
theorem yg7 {h:Hist} {s b:Int} (hc:u0 h=0) (hb:isB s h.ss.length=true) (hw:¬(b < 0∨b > 15)) (hl:(zgj h.wants s b).length > 3000):wiC h s b=6:=by rw [wiC,if_neg (by omega),if_neg (by rw [hb];decide),if_neg hw,if_pos hl]
theorem ydf {h:Hist} {s b:Int} (hc:u0 h=0) (hb:isB s h.ss.length=true) (hw:¬(b < 0∨b > 15)) (hl:¬(zgj h.wants s b).length > 3000):wiC h s b=0:=by rw [wiC,if_neg (by omega),if_neg (by rw [hb];decide),if_neg hw,if_neg hl]
theorem zu9 {h:Hist} {s b:Int} (he:wiC h s b≠0):wiH h s b=zfw:=if_neg he
theorem yg4 {h:Hist} {s b:Int} (he:wiC h s b=0):wiH h s b=zbs h (zgj h.wants s b):=if_pos he
def stH (h:Hist):Hist:=if u0 h=0 then zbs h (zbb h) else zfw
theorem yck {s:Int} {n:Nat} (h:decide (s < 0)=true):isB s n=false:=by have:=of_decide_eq_true h;unfold isB;simp <;> omega
theorem ycl {α β:Type} {f:α→β} {l:List α} {s:Int} (h:decide (s ≥ ((l.map f).length:Int))=true):isB s l.length=false:=by have:=of_decide_eq_true h;rw [List.length_map] at this;unfold isB;simp <;> omega
theorem yjf {α β:Type} {f:α→β} {l:List α} {s:Int} (h:decide (s < 0)=false) (k:decide (s ≥ ((l.map f).length:Int))=false):isB s l.length=true:=by
 have h:=of_decide_eq_false h
 have k:=of_decide_eq_false k
 rw [List.length_map] at k
 exact zq2.2 ⟨by omega,by omega⟩
theorem yhl {h:Hist} (hc:u0 h=0) (k:Nat):WOk h.ss.length (zee h.wants ((zb4 h).take k)):=zpu (zu5 (zbo.1 hc)) fun g hg=>⟨(zeo hc g (List.mem_of_mem_take hg)).2,(zeo hc g (List.mem_of_mem_take hg)).1.2⟩
theorem ycp (c0 c1 c2 c3 c4 c5 c6:AV) (ho: [c0,c1,c2,c3,c4,c5,c6].all AV.one=true) (l:List Wan) (hl:l.length≤1000000) (s bits:Int):x3 Tryz.prog 89 [.agg [c0,c1,c2,c3,c4,c5,c6,zfl l],iv s,iv bits] [] (fun r h'=>h'= []∧r= .agg [c0,c1,c2,c3,c4,c5,c6,zfl (zgj l s bits)]):=
 (yfp c0 c1 c2 c3 c4 c5 c6 ho l hl s bits).ventR (by rintro _ _ ⟨v,rfl,rfl⟩;exact ⟨_,_,zcg [_,_,_,_,_,_,_] [],rfl,rfl⟩)
theorem ya4 (g:Int) (W:List Res):x3 Tryz.prog 88 [iv g] (.glob 1 193 zc3::W) (fun r h'=>h'= .glob 1 193 zc3::W∧∃t:ByteArray,r= .tup [.v (.string t),iv (woC g)]):=((yfo g).frame W).mono (by rintro _ _ ⟨_,rfl,rfl,t,rfl⟩;exact ⟨rfl,t,rfl⟩)
set_option maxHeartbeats 4000000 in
theorem yfq (h:Hist) (la:Lim 4611686018427387904 h) (s bits:Int):x3 Tryz.prog 40 [.agg (x4 h),iv s,iv bits] (.glob 1 193 zc3:: .glob 0 117 x5:: .glob 3 148 y8:: .glob 5 276 y9:: .glob 6 279 y4:: .glob 2 197 v8:: []) (fun r h'=>h'= .glob 1 193 zc3:: .glob 0 117 x5:: .glob 3 148 y8:: .glob 5 276 y9:: .glob 6 279 y4:: .glob 2 197 v8:: []∧r= .tup [.agg (x4 (wiH h s bits)),iv (wiC h s bits)]):=by
 refine z6 Tryz.func40 rfl rfl rfl ?_
 refine rn ?_;refine z7 rfl (w6 rfl rfl rfl fun b3=> ?_)
 refine z7 rfl (x6 rfl fun b6=> ?_)
 refine rn ?_;refine qv rfl rfl (y5 rfl rfl (y3.qt (y3.of_fun (zq1 h la)) ((pt4 _ _ _ _ _ _).trans (.cons _ ((pt4 _ _ _ _ _ _).trans (.cons _ ((pt4 _ _ _ _ _ _).trans (.cons _ (pt4 _ _ _ _ _ _))))))))) ?_
 refine rn ?_;refine z8 rfl (fun hc15=> ?_) (fun hc15=> ?_)
 ·have hc:u0 h≠0:=nzT hc15
  refine rn ?_;exact zd7 (.cons _ _ _ _ (.agg _ _ _ _ _ _ _ rfl inferInstance inferInstance inferInstance rfl) (.cons _ _ _ _ (.tmp _ _ rfl) .nil)) (.trans (.drop [_,_] _ _) (.le (Sb.tups (aS:= [.agg zd2,_]) (bs:= [.agg (x4 zfw),_]) ⟨Sb.aggs (aS:=zd2) (bs:=x4 zfw) ⟨.nil _ _,.nil _ _,.nil _ _,.nil _ _,.nil _ _,.nil _ _,.nil _ _,.nil _ _,trivial⟩,.refl _,trivial⟩).le)) ⟨rfl,by rw [zu9 (by rw [yg6 hc];first|exact hc|decide),yg6 hc] <;> rfl⟩
 ·have hc:u0 h=0:=nzF hc15
  have lA:Lim 1000000 h:=(zel hc).mono (by decide)
  refine rn ?_;refine q8 (fun hg4_2=> ?_) (fun hg4_2=> ?_)
  ·refine rn ?_;refine zro rfl ?_;have hb:isB s h.ss.length=false:=by first|exact yck hg4_2|exact ycl hc26
   refine rn ?_;exact zd7 (.cons _ _ _ _ (.agg _ _ _ _ _ _ _ rfl inferInstance inferInstance inferInstance rfl) (.cons _ _ _ _ (.tmp _ _ rfl) .nil)) (.trans (.drop [_,_] _ _) (.le (Sb.tups (aS:= [.agg zd2,_]) (bs:= [.agg (x4 zfw),_]) ⟨Sb.aggs (aS:=zd2) (bs:=x4 zfw) ⟨.nil _ _,.nil _ _,.nil _ _,.nil _ _,.nil _ _,.nil _ _,.nil _ _,.nil _ _,trivial⟩,.refl _,trivial⟩).le)) ⟨rfl,by rw [zu9 (by rw [zy5 hc hb];first|exact hc|decide),zy5 hc hb] <;> rfl⟩
  ·refine rn ?_;refine z8 rfl (fun hc26=> ?_) (fun hc26=> ?_)
   ·have hb:isB s h.ss.length=false:=by first|exact yck hg4_2|exact ycl hc26
    refine rn ?_;exact zd7 (.cons _ _ _ _ (.agg _ _ _ _ _ _ _ rfl inferInstance inferInstance inferInstance rfl) (.cons _ _ _ _ (.tmp _ _ rfl) .nil)) (.trans (.drop [_,_] _ _) (.le (Sb.tups (aS:= [.agg zd2,_]) (bs:= [.agg (x4 zfw),_]) ⟨Sb.aggs (aS:=zd2) (bs:=x4 zfw) ⟨.nil _ _,.nil _ _,.nil _ _,.nil _ _,.nil _ _,.nil _ _,.nil _ _,.nil _ _,trivial⟩,.refl _,trivial⟩).le)) ⟨rfl,by rw [zu9 (by rw [zy5 hc hb];first|exact hc|decide),zy5 hc hb] <;> rfl⟩
   ·have hb:isB s h.ss.length=true:=yjf hg4_2 hc26
    refine rn ?_;refine z7 rfl (w7 rfl rfl (y3.perm (pt2 _ _ _ _) (y3.of_fun (ya4 bits _))) rfl ?_)
    rintro _ _ ⟨rfl,t,rfl⟩
    refine rn ?_;refine z8 rfl (fun hc34=> ?_) (fun hc34=> ?_)
    ·have hw:woC bits=190:=(zrw bits).resolve_right (fun q=>nzT hc34 q.1)
     rw [hw]
     refine rn ?_;exact zd7 (.cons _ _ _ _ (.agg _ _ _ _ _ _ _ rfl inferInstance inferInstance inferInstance rfl) (.cons _ _ _ _ (.tmp _ _ rfl) .nil)) (.trans (.trans (.perm ((pt1 _ _ _).trans (.cons _ (pt1 _ _ _))) _) (.drop [_,_] _ _)) (.le (Sb.tups (aS:= [.agg zd2,_]) (bs:= [.agg (x4 zfw),_]) ⟨Sb.aggs (aS:=zd2) (bs:=x4 zfw) ⟨.nil _ _,.nil _ _,.nil _ _,.nil _ _,.nil _ _,.nil _ _,.nil _ _,.nil _ _,trivial⟩,.refl _,trivial⟩).le)) ⟨rfl,by rw [zu9 (by rw [yg5 hc hb hw];first|exact hc|decide),yg5 hc hb hw] <;> rfl⟩
    ·have hw:¬(bits < 0∨bits > 15):=((zrw bits).resolve_left (fun q=>by have w:=nzF hc34;rw [q] at w;cases w)).2
     refine rn ?_;refine qv rfl rfl (y5 rfl rfl (zat (yjp h lA) (Sbs.refl _))) ?_
     refine rn ?_;refine qv rfl rfl (y5 rfl rfl (zat (ycp (zba h.ts) (zba h.ss) (zba h.os) (zba h.ps) (zrb h.evs) (zqk h.ords) (zqt h.mats) rfl h.wants (by have:=lA.wants;omega) s bits) (Sbs.refl _))) ?_
     refine z7 rfl (x6 rfl fun b11=> ?_)
     refine rn ?_;refine z8 rfl (fun hc45=> ?_) (fun hc45=> ?_)
     ·have hl:(zgj h.wants s bits).length > 3000:=by have q:=of_decide_eq_true hc45;rw [List.length_map] at q;omega
      refine rn ?_;exact zd7 (.cons _ _ _ _ (.agg _ _ _ _ _ _ _ rfl inferInstance inferInstance inferInstance rfl) (.cons _ _ _ _ (.tmp _ _ rfl) .nil)) (.trans (.trans (.perm (.cons _ ((pt1 _ _ _).trans (.cons _ (pt1 _ _ _)))) _) (.drop [_,_,_] _ _)) (.le (Sb.tups (aS:= [.agg zd2,_]) (bs:= [.agg (x4 zfw),_]) ⟨Sb.aggs (aS:=zd2) (bs:=x4 zfw) ⟨.nil _ _,.nil _ _,.nil _ _,.nil _ _,.nil _ _,.nil _ _,.nil _ _,.nil _ _,trivial⟩,.refl _,trivial⟩).le)) ⟨rfl,by rw [zu9 (by rw [yg7 hc hb hw hl];first|exact hc|decide),yg7 hc hb hw hl] <;> rfl⟩
     ·have hl:¬(zgj h.wants s bits).length > 3000:=by have q:=of_decide_eq_false hc45;rw [List.length_map] at q;omega
      refine rn ?_;exact zd7 (.cons _ _ _ _ (.agg _ _ _ _ _ _ _ rfl inferInstance inferInstance inferInstance rfl) (.cons _ _ _ _ (.tmp _ _ rfl) .nil)) (.trans (.perm (.cons _ ((pt1 _ _ _).trans (.cons _ (pt1 _ _ _)))) _) (.drop [_,_,_] _ _)) ⟨rfl,by rw [yg4 (ydf hc hb hw hl),ydf hc hb hw hl] <;> rfl⟩
set_option maxHeartbeats 4000000 in
theorem ya7 (h:Hist) (la:Lim 4611686018427387904 h):x3 Tryz.prog 41 [.agg (x4 h)] (.glob 0 117 x5:: .glob 3 148 y8:: .glob 5 276 y9:: .glob 6 279 y4:: .glob 2 197 v8:: []) (fun r h'=>h'= .glob 0 117 x5:: .glob 3 148 y8:: .glob 5 276 y9:: .glob 6 279 y4:: .glob 2 197 v8:: []∧r= .tup [.agg (x4 (stH h)),iv (u0 h)]):=by
 refine z6 Tryz.func41 rfl rfl rfl ?_
 refine rn ?_;refine z7 rfl (w6 rfl rfl rfl fun b1=> ?_)
 refine z7 rfl (x6 rfl fun b2=> ?_)
 refine rn ?_;refine qv rfl rfl (y5 rfl rfl (y3.qt (y3.of_fun (zke h la)) ((pt2 _ _ _ _).trans (.cons _ ((pt2 _ _ _ _).trans (.cons _ ((pt2 _ _ _ _).trans (.cons _ ((pt2 _ _ _ _).trans (.cons _ (pt2 _ _ _ _))))))))))) ?_
 refine rn ?_;refine z8 rfl (fun hc14=> ?_) (fun hc14=> ?_)
 ·have hc:u0 h≠0:=nzT hc14
  refine rn ?_;exact zd7 (.cons _ _ _ _ (.agg _ _ _ _ _ _ _ rfl inferInstance inferInstance inferInstance rfl) (.cons _ _ _ _ (.tmp _ _ rfl) .nil)) (.trans (.drop [_,_] _ _) (.le (Sb.tups (aS:= [.agg zd2,_]) (bs:= [.agg (x4 zfw),_]) ⟨Sb.aggs (aS:=zd2) (bs:=x4 zfw) ⟨.nil _ _,.nil _ _,.nil _ _,.nil _ _,.nil _ _,.nil _ _,.nil _ _,.nil _ _,trivial⟩,.refl _,trivial⟩).le)) ⟨rfl,by rw [stH,if_neg hc] <;> rfl⟩
 ·have hc:u0 h=0:=nzF hc14
  have lA:Lim 1000000 h:=(zel hc).mono (by decide)
  have lT:=tab_len h
  refine rn ?_;refine qv rfl rfl (y5 rfl rfl (zat (yjp h lA) (Sbs.refl _))) ?_
  refine rn ?_;refine za0 (zb4 h).length (fun _=>True) (fun k=>⟨[(21,iv k),(1,pZ b1),(2,pZ b2),(19,zcl (zb4 h)),(20,iv ((zb4 h).map zh6).length)],.box b2 28 zd2:: .box b1 28 (x4 (zbs h (zee h.wants ((zb4 h).take k)))):: .glob 0 117 x5:: .glob 3 148 y8:: .glob 5 276 y9:: .glob 6 279 y4:: .glob 2 197 v8:: [],[]⟩) trivial es ?_
  intro k lk _
  refine rn ?_;refine z8 rfl (fun hc22=> ?_) (fun hc22=> ?_)
  ·have hk:=zds hc22
   have rk:=zdm (f:=zh6) hk
   have hwk:=yhl hc k
   have hwl:=zpt hwk
   have lS:=(zel hc).ss
   refine rn ?_;refine z7 rfl (x6 rfl fun b7=> ?_)
   refine rn ?_;refine qv rfl rfl (y5 rfl rfl (zat (ycp (zba h.ts) (zba h.ss) (zba h.os) (zba h.ps) (zrb h.evs) (zqk h.ords) (zqt h.mats) rfl (zee h.wants ((zb4 h).take k)) (by omega) (zb4 h)[k].s (zb4 h)[k].a) (Sbs.refl _))) ?_
   refine rn ?_;exact ⟨hk,trivial,by rw [zu8 hk,←ydc hwk.1];exact eA⟩
  ·have qk:=zdu hc22 lk
   subst qk
   rw [List.take_length]
   refine rn ?_;exact zd7 (.cons _ _ _ _ (.agg _ _ _ _ _ _ _ rfl inferInstance inferInstance inferInstance rfl) (.cons _ _ _ _ (.tmp _ _ rfl) .nil)) (.drop [_,_] _ _) ⟨rfl,by rw [stH,if_pos hc,hc] <;> rfl⟩
theorem zs3 (a b:Grd):(([a.s,a.q,a.a]:List Int)== [b.s,b.q,b.a])=(a==b):=by
 rw [Bool.eq_iff_iff]
 obtain ⟨a1,a2,a3⟩:=a
 obtain ⟨b1,b2,b3⟩:=b
 simp
theorem zos {full:Bool} (l:List Grd) (fv:AV) (p:Grd→Bool) (G:List Res) (hp:∀a∈l,y3 Tryz.prog fv [.agg (zh6 a)] G (fun r h'=>h'=G∧r=bv (p a))) (hlen:l.length≤4611686018427387904):x3 Tryz.prog 92 [.list full 3 (l.map zh6),fv] G (fun r h'=>h'=G∧r=iv (zbf p 0 l)):=by
 refine z6 Tryz.func92 rfl rfl rfl ?_
 refine rn ?_;refine u7 (fun k:Nat=>k≤l.length∧zbf p 0 l=zbf p k (l.drop k)) (fun k=>⟨[(8,iv k),(7,iv (l.map zh6).length),(0,.list full 3 (l.map zh6)),(1,fv)],G,[]⟩) (fun k=>l.length - k) 0 ⟨Nat.zero_le _,by simp⟩
  (x8 (.cons _ _ _ rfl (.cons _ _ _ rfl (.cons _ _ _ rfl (.cons _ _ _ rfl (.nil)))))) ?_
 rintro k ⟨hk,hnot⟩
 refine rn ?_;refine z8 rfl (fun hc9=> ?_) (fun hc9=> ?_)
 ·have hk2:k < l.length:=by simpa using hc9
  have hrow:(l.map zh6)[k]? =some (zh6 l[k]):=by simp [hk2]
  have hd:=List.drop_eq_getElem_cons hk2
  refine rn ?_;refine qv rfl rfl (y5 rfl rfl (hp l[k] (by simp))) ?_
  refine rn ?_;refine z8 rfl (fun hc16=> ?_) (fun hc16=> ?_)
  ·refine rn ?_;exact k7 rfl (.refl _ _) ⟨rfl,by rw [hnot,hd,zbf,if_pos hc16];rfl⟩
  ·refine rn ?_;exact ⟨k+1,⟨by omega,by rw [hnot,hd,zbf,if_neg (by simp [hc16])]⟩,(x8 (.cons _ _ _ rfl (.cons _ _ _ rfl (.cons _ _ _ rfl (.cons _ _ _ rfl (.nil)))))),by omega⟩
 ·have hk3:k=l.length:=by
   have:l.length≤k:=by simpa using hc9
   omega
  refine rn ?_;exact k7 rfl (.refl _ _) ⟨rfl,by rw [hnot,hk3,List.drop_length,zbf];rfl⟩
theorem zkp {full:Bool} (l:List Grd) (fv:AV) (p:Grd→Bool) (G:List Res) (hp:∀a∈l,y3 Tryz.prog fv [.agg (zh6 a)] G (fun r h'=>h'=G∧r=bv (p a))) (hlen:l.length≤4611686018427387904):x3 Tryz.prog 46 [.list full 3 (l.map zh6),fv] G (fun r h'=>h'=G∧r=bv (l.any p)):=by
 refine z6 Tryz.func46 rfl rfl rfl ?_
 refine rn ?_;refine qv rfl rfl (y5 rfl rfl (y3.of_fun (zos l _ p G hp hlen))) ?_
 refine rn ?_;exact k7 rfl (.refl _ _) ⟨rfl,by simp only [←zd3 p l 0];rfl⟩
theorem ybg {f g:Bool} (l m:List Grd) (hl:l.length≤4611686018427387904) (hm:m.length≤4611686018427387904):x3 Tryz.prog 37 [.list f 3 (l.map zh6),.list g 3 (m.map zh6)] [] (fun r h'=>h'= []∧r=bv (decide (l=m))):=by
 refine z6 Tryz.func37 rfl rfl rfl ?_
 refine rn ?_;refine z8 rfl (fun hc10=> ?_) (fun hc10=> ?_)
 ·have hne:l.length≠m.length:=by have w:=hc10;intro e;rw [List.length_map,List.length_map,e] at w;simp at w
  refine rn ?_;refine rq 0 ?_
  exact ⟨rfl,by rw [decide_eq_false (fun e=>hne (by rw [e]))];rfl⟩
 ·have hlm:l.length=m.length:=by have w:=hc10;rw [List.length_map,List.length_map] at w;exact yf7 w
  refine rn ?_;refine yc0 (l.length) (fun k:Nat=>l.take k=m.take k) (fun k=> [(13,iv k)]) [(0,_),(1,_),(12,_)] rfl ?_
  intro k lk zk
  refine rn ?_;refine z8 rfl (fun hc14=> ?_) (fun hc14=> ?_)
  ·have hk:=zds hc14
   have rk:=zdm (f:=zh6) hk
   have hk2:k < m.length:=by omega
   have rk2:=zdm (f:=zh6) hk2
   refine rn ?_;refine j6 8 rfl ?_
   refine dq rfl rfl qrA ?_;refine dq rfl rfl qrA ?_;refine dq rfl rfl (zdp rfl rfl rk) ?_
   refine dq rfl rfl qrA ?_;refine dq rfl rfl qrA ?_;refine dq rfl rfl qrA ?_;refine dq rfl rfl (zdp rfl rfl rk2) ?_
   refine rn2 ?_;refine qq rfl rfl (zsm rfl rfl rfl rfl) ?_
   refine rn ?_;refine z8 rfl (fun hc24=> ?_) (fun hc24=> ?_)
   ·have hne:l[k]≠m[k]:=fun e=>by have w:=zwe hc24;rw [zs3,e] at w;simp at w
    refine rn ?_;refine rq 0 ?_
    exact ⟨rfl,by rw [decide_eq_false (ymb hk hk2 hne)];rfl⟩
   ·have heq:l[k]=m[k]:=by have w:=zwf hc24;rw [zs3] at w;simpa using w
    refine rn ?_;exact ⟨hk,yf6 hk hk2 zk heq,eA⟩
  ·have qk:=zdu hc14 lk
   refine rn ?_;refine rq 0 ?_
   exact ⟨rfl,by rw [decide_eq_true (by have w:=zk;rw [qk,List.take_length,hlm,List.take_length] at w;exact w)];rfl⟩
def guE:List Ev:= [ylf 0,seW 0 1,yle 0,ylf 1,⟨3,1,0,0,0,⟨0,0⟩,0,[]⟩,yle 1]
def guH:Hist:=⟨[⟨#[116,49]⟩,⟨#[116,50]⟩],[ycw],[bxx],[],guE,[],[],[]⟩
theorem zm3:u0 guH=0:=zbo.2 (by decide+kernel)
theorem yco:Lim 4611686018427387904 guH:=⟨by decide,by decide,by decide,by decide,by decide,by decide,by decide,by decide,by decide,by decide,by decide⟩
theorem yjl:zb4 guH= [⟨0,0,14⟩]:=by rw [zr3 zm3];decide+kernel
theorem yjk:wiC guH 0 1=0:=ydf zm3 (by decide) (by decide) (by decide)
def zs1:Hist:=zbs guH [⟨0,1⟩]
theorem yjj:wiH guH 0 1=zs1:=by rw [yg4 yjk];rfl
theorem zfx:u0 zs1=0:=zbo.2 (by decide+kernel)
theorem zxg:Lim 4611686018427387904 zs1:=⟨by decide,by decide,by decide,by decide,by decide,by decide,by decide,by decide,by decide,by decide,by decide⟩
theorem yfs:zb4 zs1= [⟨0,1,14⟩]:=by rw [zr3 zfx];decide+kernel
theorem zs2:za1 (zb4 zs1)= [(0,1)]:=by rw [yfs];decide
theorem yjs:riO zs1=false:=by rw [zvz zfx,zs2];rfl
theorem yfu:zme zs1 0 1=0:=yks zfx (by decide) (by decide)
theorem yft:zq8 zs1 (0,1)=⟨1,0,1,0,1,4⟩:=by
 rw [zq8,show seB zs1 (0,1).1 (0,1).2= [⟨1,0,1,0,1,4⟩] by rw [yd8 (k:=0) yfu (by decide)];decide+kernel];rfl
set_option maxHeartbeats 4000000 in
theorem zvm  :x3 Tryz.prog 79 [] [] (fun r h'=>h'= []∧r= .agg (x4 guH)):=by
 refine z6 Tryz.func79 rfl rfl rfl ?_
 refine rn ?_;refine z7 rfl (x6 rfl fun b0=> ?_)
 refine rn ?_;refine qv rfl rfl (u1 rfl rfl) ?_
 refine qv rfl rfl (u1 rfl rfl) ?_
 refine qv rfl rfl (u1 rfl rfl) ?_
 refine qq rfl rfl (k9 (out:=yf3 (ylf 0)) rfl (by rfl)) ?_
 refine qq rfl rfl (k9 (out:= [iv 0,iv 1]) rfl (by rfl)) ?_
 refine qq rfl rfl (k9 (out:=yf3 (seW 0 1)) rfl (by rfl)) ?_
 refine qq rfl rfl (k9 (out:=yf3 (yle 0)) rfl (by rfl)) ?_
 refine qq rfl rfl (k9 (out:=yf3 (ylf 1)) rfl (by rfl)) ?_
 refine qq rfl rfl (k9 (out:=yf3 ⟨3,1,0,0,0,⟨0,0⟩,0,[]⟩) rfl (by rfl)) ?_
 refine qq rfl rfl (k9 (out:=yf3 (yle 1)) rfl (by rfl)) ?_
 refine qv rfl rfl (u1 rfl rfl) ?_
 refine qq rfl rfl (k9 (out:= [.list true 1 [[sv ⟨#[116,49]⟩],[sv ⟨#[116,50]⟩]],.list true 1 [[sv ycw]],.list true 1 [[sv bxx]],.v (.slice none 0 0),.list true 9 (guE.map yf3),.v (.slice none 0 0),.v (.slice none 0 0),.v (.slice none 0 0)]) rfl (by rfl)) ?_
 refine rn ?_;exact zd7 (.cons _ _ _ _ (.agg _ _ _ _ _ _ _ rfl inferInstance inferInstance inferInstance rfl) .nil) (.trans (.drop [_] _ _) (.le (Sb.aggs (bs:=x4 guH) (by exact ⟨.unfull,.unfull,.unfull,.nil _ _,(.lists (by simp) ⟨⟨.refl _,.refl _,.refl _,.refl _,.refl _,.refl _,.refl _,.refl _,.nil _ _,trivial⟩,⟨.refl _,.refl _,.refl _,.refl _,.refl _,.refl _,.refl _,.refl _,.nil _ _,trivial⟩,⟨.refl _,.refl _,.refl _,.refl _,.refl _,.refl _,.refl _,.refl _,.nil _ _,trivial⟩,⟨.refl _,.refl _,.refl _,.refl _,.refl _,.refl _,.refl _,.refl _,.nil _ _,trivial⟩,⟨.refl _,.refl _,.refl _,.refl _,.refl _,.refl _,.refl _,.refl _,.nil _ _,trivial⟩,⟨.refl _,.refl _,.refl _,.refl _,.refl _,.refl _,.refl _,.refl _,.nil _ _,trivial⟩,trivial⟩),.nil _ _,.nil _ _,.nil _ _,trivial⟩)).le)) ⟨rfl,rfl⟩
theorem gA1:x3 Tryz.prog 33 [.agg (x4 guH)] (.glob 0 117 x5:: .glob 3 148 y8:: .glob 5 276 y9:: .glob 6 279 y4:: .glob 2 197 v8:: []) (fun r h'=>h'= .glob 0 117 x5:: .glob 3 148 y8:: .glob 5 276 y9:: .glob 6 279 y4:: .glob 2 197 v8:: []∧r= .tup [zcl [⟨0,0,14⟩],iv 0]):=(zke guH yco).mono fun _ _ q=>⟨q.1,by rw [q.2,yjl,zm3]⟩
theorem gA2:x3 Tryz.prog 40 [.agg (x4 guH),iv 0,iv 1] (.glob 1 193 zc3:: .glob 0 117 x5:: .glob 3 148 y8:: .glob 5 276 y9:: .glob 6 279 y4:: .glob 2 197 v8:: []) (fun r h'=>h'= .glob 1 193 zc3:: .glob 0 117 x5:: .glob 3 148 y8:: .glob 5 276 y9:: .glob 6 279 y4:: .glob 2 197 v8:: []∧r= .tup [.agg (x4 zs1),iv 0]):=(yfq guH yco 0 1).mono fun _ _ q=>⟨q.1,by rw [q.2,yjj,yjk]⟩
theorem gA3:x3 Tryz.prog 34 [.agg (x4 zs1)] (.glob 0 117 x5:: .glob 3 148 y8:: .glob 5 276 y9:: .glob 6 279 y4:: .glob 2 197 v8:: []) (fun r h'=>h'= .glob 0 117 x5:: .glob 3 148 y8:: .glob 5 276 y9:: .glob 6 279 y4:: .glob 2 197 v8:: []∧r= .tup [bv false,iv 0]):=(zq5 zs1 zxg).mono fun _ _ q=>⟨q.1,by rw [q.2,yjs,zfx]⟩
theorem gA4:x3 Tryz.prog 35 [.agg (x4 zs1)] (.glob 0 117 x5:: .glob 3 148 y8:: .glob 5 276 y9:: .glob 6 279 y4:: .glob 2 197 v8:: []) (fun r h'=>h'= .glob 0 117 x5:: .glob 3 148 y8:: .glob 5 276 y9:: .glob 6 279 y4:: .glob 2 197 v8:: []∧r= .tup [ycx [⟨1,0,1,0,1,4⟩],zfv [0],iv 0]):=(zxd zs1 zxg).mono fun _ _ q=>⟨q.1,by rw [q.2,zs2,zfx];simp only [List.map_cons,List.map_nil,yft]⟩
theorem gEq {f g:Bool}:x3 Tryz.prog 37 [.list f 3 ([(⟨0,0,14⟩:Grd)].map zh6),.list g 3 ([(⟨0,0,14⟩:Grd)].map zh6)] [] (fun r h'=>h'= []∧r=bv true):=(ybg [⟨0,0,14⟩] [⟨0,0,14⟩] (by decide) (by decide)).mono fun _ _ q=>⟨q.1,by rw [q.2,decide_eq_true rfl]⟩
theorem gEi {f g:Bool}:x3 Tryz.prog 39 [.list f 1 ([(0:Int)].map za5),.list g 1 ([(0:Int)].map za5)] [] (fun r h'=>h'= []∧r=bv true):=(ybf [0] [0] (by decide) (by decide)).mono fun _ _ q=>⟨q.1,by rw [q.2,zxp ya1];simp⟩
set_option maxHeartbeats 4000000 in
theorem ydh  :x3 Tryz.prog 31 [] (.glob 1 193 zc3:: .glob 0 117 x5:: .glob 3 148 y8:: .glob 5 276 y9:: .glob 6 279 y4:: .glob 2 197 v8:: []) (fun r h'=>h'= .glob 1 193 zc3:: .glob 0 117 x5:: .glob 3 148 y8:: .glob 5 276 y9:: .glob 6 279 y4:: .glob 2 197 v8:: []∧r=bv true):=by
 refine z6 Tryz.func31 rfl rfl rfl ?_
 refine rn ?_;refine qv rfl rfl (y5 rfl rfl (y3.pure (R:=fun r=>r= .agg (x4 guH)) (y3.of_fun zvm))) ?_
 refine qv rfl rfl (y5 rfl rfl (y3.qt (y3.of_fun gA1) ((pt1 _ _ _).trans (.cons _ ((pt1 _ _ _).trans (.cons _ ((pt1 _ _ _).trans (.cons _ ((pt1 _ _ _).trans (.cons _ (pt1 _ _ _))))))))))) ?_
 refine rn ?_;refine qv rfl rfl (y5 rfl rfl (y3.pure (R:=fun r=>r= .agg (x4 guH)) (y3.of_fun zvm))) ?_
 refine qv rfl rfl (y5 rfl rfl (y3.qt (y3.of_fun gA2) (.refl _))) ?_
 refine rn ?_;refine z7 rfl (x6 rfl fun b3=> ?_)
 refine rn ?_;refine qv rfl rfl (y5 rfl rfl (y3.qt (y3.of_fun gA3) ((pt2 _ _ _ _).trans (.cons _ ((pt2 _ _ _ _).trans (.cons _ ((pt2 _ _ _ _).trans (.cons _ ((pt2 _ _ _ _).trans (.cons _ (pt2 _ _ _ _))))))))))) ?_
 refine rn ?_;refine qv rfl rfl (y5 rfl rfl (y3.qt (y3.of_fun gA4) ((pt2 _ _ _ _).trans (.cons _ ((pt2 _ _ _ _).trans (.cons _ ((pt2 _ _ _ _).trans (.cons _ ((pt2 _ _ _ _).trans (.cons _ (pt2 _ _ _ _))))))))))) ?_
 refine q1 ?_;refine q1 ?_;refine q1 ?_;refine q1 ?_;refine q1 ?_;refine q1 ?_;refine q1 ?_;refine u3 (j8 ?_)
 refine x9 (y6 ?_)
 refine q1 ?_;refine q1 ?_;refine q1 ?_;refine q1 ?_;refine q1 ?_;refine q1 ?_;refine q1 ?_;refine q1 ?_;refine q1 ?_;refine q1 ?_;refine q1 ?_;refine q1 ?_;refine q1 ?_;refine q1 ?_;refine q1 ?_;refine q1 ?_;refine q1 ?_;refine q1 ?_;refine q1 ?_;refine q1 ?_;refine qq rfl rfl (k9 (out:= [iv 0,iv 0,iv 14]) rfl (by rfl)) ?_
 refine qv rfl rfl (u1 rfl rfl) ?_
 refine qv rfl rfl (y5 rfl rfl (y3.pure (R:=fun r=>r=bv true) (y3.of_fun gEq))) ?_
 refine q1 ?_;refine q1 ?_;refine q1 ?_;refine q1 ?_;refine q1 ?_;refine q1 ?_;refine q1 ?_;refine q1 ?_;refine qq rfl rfl (zdp (i:=0) rfl rfl rfl) ?_
 refine rn ?_;refine qv rfl rfl (u1 rfl rfl) ?_
 refine qv rfl rfl (y5 rfl rfl (y3.pure (R:=fun r=>r=bv true) (y3.of_fun gEi))) ?_
 refine rn ?_;refine rq 1 ?_
 exact ⟨rfl,rfl⟩
theorem zyd {h:Hist} {N:Nat} (la:Lim N h) {w:List Wan} (hw:w.length≤N):Lim N (zbs h w):=⟨la.ts,la.ss,la.os,la.ps,la.evs,la.ords,la.mats,hw,la.scans,la.ordts,la.matts⟩
theorem zll {h:Hist} {N:Nat} (la:Lim N h) (hc:u0 h=0):Lim N (zbs h (zbb h)):=zyd la (Nat.le_trans (zpt (zf6 hc)) la.ss)
theorem zfn {h:Hist} (hc:u0 h=0):u0 (zbs h (zbb h))=0:=zkz hc (zf6 hc)
theorem ylp {h:Hist} (hc:u0 h=0):stH h=zbs h (zbb h):=if_pos hc
theorem zvh {h:Hist} (hc:u0 h=0):riO (zbs h (zbb h))=true:=by rw [zvz (zfn hc),zn2 hc];rfl
theorem yh1 {h:Hist} (hc:u0 h=0):(riO h !=(((((za1 (zb4 h)).map (zq8 h)).map zcq).length:Int)==0))=false:=by
 rw [zvz hc]
 cases za1 (zb4 h) with
 |nil=>rfl
 |cons a l=>
  have e:((((((a::l).map (zq8 h)).map zcq).length:Nat):Int)==0)=false:=by
   rw [List.length_map,List.length_map,List.length_cons]
   exact beq_eq_false_iff_ne.2 (by omega)
  rw [e];simp
theorem zp1 {h:Hist} (hc:u0 h=0):(zb4 (zbs h (zbb h))).any (fun y=>y.q !=y.a)=false:=by
 rw [zpn hc (zf6 hc),List.any_eq_false]
 intro y hy
 obtain ⟨s,hs,rfl⟩:=List.mem_map.1 hy
 obtain ⟨n,hn,rfl⟩:=List.mem_map.1 (show s∈(List.range h.ss.length).map (fun i:Nat=>(i:Int)) from hs)
 have hn':=List.mem_range.1 hn
 show ¬((znv (zbb h) (n:Int) !=zs0 h (n:Int))=true)
 rw [zlm hc (by omega) (by omega)];simp
theorem zxc (h:Hist) (la:Lim 4611686018427387904 h) (hc:u0 h=0):x3 Tryz.prog 41 [.agg (x4 h)] (.glob 0 117 x5:: .glob 3 148 y8:: .glob 5 276 y9:: .glob 6 279 y4:: .glob 2 197 v8:: []) (fun r h'=>h'= .glob 0 117 x5:: .glob 3 148 y8:: .glob 5 276 y9:: .glob 6 279 y4:: .glob 2 197 v8:: []∧r= .tup [.agg (x4 (zbs h (zbb h))),iv 0]):=(ya7 h la).mono fun _ _ q=>⟨q.1,by rw [q.2,ylp hc,hc]⟩
theorem ya8 (h:Hist) (la:Lim 4611686018427387904 h) (hc:u0 h=0):x3 Tryz.prog 34 [.agg (x4 (zbs h (zbb h)))] (.glob 0 117 x5:: .glob 3 148 y8:: .glob 5 276 y9:: .glob 6 279 y4:: .glob 2 197 v8:: []) (fun r h'=>h'= .glob 0 117 x5:: .glob 3 148 y8:: .glob 5 276 y9:: .glob 6 279 y4:: .glob 2 197 v8:: []∧r= .tup [bv true,iv 0]):=(zq5 (zbs h (zbb h)) (zll la hc)).mono fun _ _ q=>⟨q.1,by rw [q.2,zvh hc,zfn hc]⟩
theorem ya5 (h:Hist) (la:Lim 4611686018427387904 h) (hc:u0 h=0):x3 Tryz.prog 33 [.agg (x4 (zbs h (zbb h)))] (.glob 0 117 x5:: .glob 3 148 y8:: .glob 5 276 y9:: .glob 6 279 y4:: .glob 2 197 v8:: []) (fun r h'=>h'= .glob 0 117 x5:: .glob 3 148 y8:: .glob 5 276 y9:: .glob 6 279 y4:: .glob 2 197 v8:: []∧r= .tup [zcl (zb4 (zbs h (zbb h))),iv 0]):=(zke (zbs h (zbb h)) (zll la hc)).mono fun _ _ q=>⟨q.1,by rw [q.2,zfn hc]⟩
theorem yn9 (y:Grd):x3 Tryz.prog 47 [.agg (zh6 y)] [] (fun r h'=>h'= []∧r=bv (y.q !=y.a)):=by
 refine z6 Tryz.func47 rfl rfl rfl ?_
 refine rn ?_;refine z7 rfl (w6 rfl rfl rfl fun b1=> ?_)
 refine rn ?_;refine rq 1 ?_
 exact ⟨rfl,rfl⟩
theorem yjr (h:Hist) (hc:u0 h=0):x3 Tryz.prog 46 [zcl (zb4 (zbs h (zbb h))),.fn (.func 47) [] []] [] (fun r h'=>h'= []∧r=bv false):=(zkp (zb4 (zbs h (zbb h))) (.fn (.func 47) [] []) (fun y=>y.q !=y.a) [] (fun y _=>y3.of_fun (yn9 y)) (by have:=tab_len (zbs h (zbb h));omega)).mono fun _ _ q=>⟨q.1,by rw [q.2,zp1 hc]⟩
set_option maxHeartbeats 4000000 in
theorem zui (x:Hist)  (lb:Lim 4611686018427387904 x)  :x3 Tryz.prog 10 [.agg (x4 x)] (.glob 1 193 zc3:: .glob 0 117 x5:: .glob 3 148 y8:: .glob 5 276 y9:: .glob 6 279 y4:: .glob 2 197 v8:: []) (fun r h'=>h'= .glob 1 193 zc3:: .glob 0 117 x5:: .glob 3 148 y8:: .glob 5 276 y9:: .glob 6 279 y4:: .glob 2 197 v8:: []∧r=bv true):=by
 refine z6 Tryz.func10 rfl rfl rfl ?_
 refine rn ?_;refine z7 rfl (w6 rfl rfl rfl fun b1=> ?_)
 refine rn ?_;refine qv rfl rfl (y5 rfl rfl (y3.qt (y3.of_fun ydh) ((pt1 _ _ _).trans (.cons _ ((pt1 _ _ _).trans (.cons _ ((pt1 _ _ _).trans (.cons _ ((pt1 _ _ _).trans (.cons _ ((pt1 _ _ _).trans (.cons _ (pt1 _ _ _))))))))))))) ?_
 refine rn ?_;refine z8 rfl (fun hc14=> ?_) (fun hc14=> ?_)
 ·exact absurd hc14 (by decide)
 ·refine rn ?_;refine qv rfl rfl (y5 rfl rfl (zat (ymu x lb) (Sbs.refl _))) ?_
  refine z7 rfl (x6 rfl fun b3=> ?_)
  refine rn ?_;refine qv rfl rfl (y5 rfl rfl (y3.qt (y3.of_fun (zq5 (zq9 x) ((zhn x).mono (by decide)))) ((pt3 _ _ _ _ _).trans (.cons _ ((pt3 _ _ _ _ _).trans (.cons _ ((pt3 _ _ _ _ _).trans (.cons _ ((pt3 _ _ _ _ _).trans (.cons _ (pt3 _ _ _ _ _))))))))))) ?_
  refine rn ?_;refine qv rfl rfl (y5 rfl rfl (y3.qt (y3.of_fun (zxd (zq9 x) ((zhn x).mono (by decide)))) ((pt3 _ _ _ _ _).trans (.cons _ ((pt3 _ _ _ _ _).trans (.cons _ ((pt3 _ _ _ _ _).trans (.cons _ ((pt3 _ _ _ _ _).trans (.cons _ (pt3 _ _ _ _ _))))))))))) ?_
  refine q1 ?_;refine q1 ?_;refine q1 ?_;refine q1 ?_;refine q1 ?_;refine q1 ?_;refine q1 ?_;refine u3 (j8 ?_)
  refine x9 ?_;refine x9 (y6 ?_)
  refine q1 ?_;refine q1 ?_;refine qq rfl rfl (zff (c:=false) rfl rfl (congrArg some (bne_self_eq_false _))) ?_
  refine rn ?_;refine z8 rfl (fun hc34=> ?_) (fun hc34=> ?_)
  ·have hc:u0 (zq9 x)≠0:=by simpa using hc34
   rw [yh2 hc,zr4 hc]
   refine x9 (y6 ?_)
   refine q1 ?_;refine q1 ?_;refine qq rfl rfl (zff (c:=true) rfl rfl (congrArg some (beq_self_eq_true _))) ?_
   refine q1 ?_;refine q1 ?_;refine q1 ?_;refine q1 ?_;refine q1 ?_;refine q1 ?_;refine q1 ?_;refine q1 ?_;refine q1 ?_;refine qq rfl rfl (k6 rfl rfl rfl (by simp [za1])) ?_
   refine qq rfl rfl (zff (c:=true) rfl rfl rfl) ?_
   refine rn ?_;first|(refine rq 1 ?_;exact ⟨rfl,rfl⟩)|(refine rq 2 ?_;exact ⟨rfl,rfl⟩)|(refine rq 3 ?_;exact ⟨rfl,rfl⟩)|(refine rq 4 ?_;exact ⟨rfl,rfl⟩)
  ·have hc:u0 (zq9 x)=0:=by simpa using hc34
   refine rn ?_;refine qv rfl rfl (y5 rfl rfl (y3.qt (y3.of_fun (zxc (zq9 x) ((zhn x).mono (by decide)) hc)) ((pt3 _ _ _ _ _).trans (.cons _ ((pt3 _ _ _ _ _).trans (.cons _ ((pt3 _ _ _ _ _).trans (.cons _ ((pt3 _ _ _ _ _).trans (.cons _ (pt3 _ _ _ _ _))))))))))) ?_
   refine rn ?_;refine z7 rfl (x6 rfl fun b9=> ?_)
   refine rn ?_;refine qv rfl rfl (y5 rfl rfl (y3.qt (y3.of_fun (ya8 (zq9 x) ((zhn x).mono (by decide)) hc)) ((pt4 _ _ _ _ _ _).trans (.cons _ ((pt4 _ _ _ _ _ _).trans (.cons _ ((pt4 _ _ _ _ _ _).trans (.cons _ ((pt4 _ _ _ _ _ _).trans (.cons _ (pt4 _ _ _ _ _ _))))))))))) ?_
   refine rn ?_;refine qv rfl rfl (y5 rfl rfl (y3.qt (y3.of_fun (ya5 (zq9 x) ((zhn x).mono (by decide)) hc)) ((pt4 _ _ _ _ _ _).trans (.cons _ ((pt4 _ _ _ _ _ _).trans (.cons _ ((pt4 _ _ _ _ _ _).trans (.cons _ ((pt4 _ _ _ _ _ _).trans (.cons _ (pt4 _ _ _ _ _ _))))))))))) ?_
   refine q1 ?_;refine q1 ?_;refine q1 ?_;refine q1 ?_;refine q1 ?_;refine u3 (j8 ?_)
   refine x9 ?_;refine x9 (y6 ?_)
   refine q1 ?_;refine qq rfl rfl (zff (c:=false) rfl rfl (congrArg some (bne_self_eq_false _))) ?_
   refine q1 ?_;refine q1 ?_;refine qq rfl rfl (zff (c:=false) rfl rfl (congrArg some (bne_self_eq_false _))) ?_
   refine q1 ?_;refine q1 ?_;refine q1 ?_;refine qq rfl rfl (zff (c:=false) rfl rfl (congrArg some (bne_self_eq_false _))) ?_
   refine q1 ?_;refine q1 ?_;refine q1 ?_;refine q1 ?_;refine q1 ?_;refine q1 ?_;refine q1 ?_;refine q1 ?_;refine q1 ?_;refine q1 ?_;refine qq rfl rfl (yik (c:=false) (zn8 rfl rfl) (by exact yh1 hc)) ?_
   refine rn ?_;refine z8 rfl (fun hc85=> ?_) (fun hc85=> ?_)
   ·exact absurd hc85 (by decide)
   ·refine rn ?_;refine qv rfl rfl (y5 rfl rfl (zat (yjr (zq9 x) hc) (Sbs.refl _))) ?_
    refine rn ?_;first|(refine rq 1 ?_;exact ⟨rfl,rfl⟩)|(refine rq 2 ?_;exact ⟨rfl,rfl⟩)|(refine rq 3 ?_;exact ⟨rfl,rfl⟩)|(refine rq 4 ?_;exact ⟨rfl,rfl⟩)
end Go.Proofs
