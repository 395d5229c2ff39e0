/- strings.Join over a row of one's own (the kit's shelf has walked it). Conditions: none. To be built over the variant of the library that mkab2.py prints. -/
import Derived.Test.YtcaijocpofcbdaaGreatDoorGGrJ
import Derived.Shelf.Strings.OnBuilder
set_option maxHeartbeats 4000000
set_option linter.unusedSectionVars false
set_option linter.unusedSimpArgs false
set_option linter.unusedVariables false
namespace Go.Ab
open Go Go.Shelf Go.Proofs Go.H
theorem zz1 {X:Nat→Prop} {w:World} {a:Addr} {cap:Nat} {T:TypeId} {xs:List ByteArray} (hh:HRel X w [.row (.slice (some a) xs.length cap) 1 T (xs.map za7)]):(∀(j:Nat) x,xs[j]? =some x→w.cell? ⟨a.block,a.off+j,none⟩=some (.string x))∧a.block < w.heap.size∧xs.length≤cap∧a.spot=none:=by
 obtain ⟨h1,h2,h3,h4,c,h5,h6,h7⟩:=hh.holds _ (List.mem_singleton.2 rfl)
 refine ⟨fun j x hx=> ?_,(hh.lt a.block (by simp [u4,Res.own])).1,h3,h1⟩
 obtain ⟨hj2,rfl⟩:=List.getElem?_eq_some_iff.1 hx
 obtain ⟨v,e,r⟩:=h7 j (by simpa using hj2) 0 (by simp [za7])
 simp only [List.getElem_map] at r
 have hv:v= .string xs[j]:=r.v_eq
 subst hv
 have e0:a.off+j * 1+0=a.off+j:=by omega
 rw [e0] at e
 simp [World.cell?,h5,e]
theorem zz2 {X:Nat→Prop} {w:World} {n cap:Nat} {T:TypeId} {xs:List ByteArray} (hh:HRel X w [.row (.slice none n cap) 1 T (xs.map za7)]):xs= []∧n=0∧cap=0:=by
 obtain ⟨h1,h2,h3⟩:=hh.holds _ (List.mem_singleton.2 rfl)
 exact ⟨by simpa using h1,h2,h3⟩
section
variable {P:Program} {ρ:Ren}
theorem zu4 (L:Lays.n156 P ρ) (E:Builder.Extra P ρ) (s:SV) (T:TypeId) (xs:List ByteArray) (sep:ByteArray) (hx:xs.length≤140737488355328) (hl:(Lib.join (xs.map (·.data.toList)) sep.data.toList).length≤140737488355328):
 x3 P (ρ.f 156) [.v s.v,.v (.string sep)] [.row s.v 1 T (xs.map za7)] (fun r h'=>h'= [.row s.v 1 T (xs.map za7)]∧∃t:ByteArray,r= .v (.string t)):=by
 intro X w vs hh ha
 match vs,ha with
 | [v,v2],⟨hv,hv2,_⟩=>
   obtain rfl:=hv.v_eq
   obtain rfl:=hv2.v_eq
   obtain ⟨a,n,cap⟩:=s
   cases a with
   |none=>
    obtain ⟨rfl,rfl,rfl⟩:=zz2 hh
    refine callsIn_wide.2 ((Any.strings_Join_none L E none 0 sep w).mono ?_)
    rintro e w' ⟨rfl,rfl⟩
    exact ⟨_,_,_,rfl,⟨rfl,_,rfl⟩,.v _,hh,.refl _ _⟩
   |some a=>
    have hn:n=xs.length:=by
     have:=(hh.holds _ (List.mem_singleton.2 rfl)).2.1
     simpa using this
    subst hn
    obtain ⟨g1,g2,g3,g4⟩:=zz1 hh
    obtain ⟨b,off,sp⟩:=a
    simp only at g1 g2 g4
    subst g4
    refine callsIn_wide.2 ((Any.strings_Join L E b off cap xs sep w g1 g2 hx g3 hl).mono ?_)
    rintro e w' ⟨rfl,hb⟩
    exact ⟨_,_,_,rfl,⟨rfl,_,rfl⟩,.v _,hh.grow hb.size hb.block,.grow hb.size hb.block ⟨⟨hb.os,hb.output⟩,hb.tape,trivial⟩⟩
end
end Go.Ab
set_option maxRecDepth 100000
namespace Go.Proofs
open Go Go.Ab Go.Shelf
def zw7:Go.Shelf.Ren:=⟨fun|156=>126|165=>165|166=>166|169=>167|240=>198|241=>199|276=>217|277=>218|n=>n,fun|0=>0|3=>3|4=>4|5=>5|9=>9|20=>20|31=>22|37=>234|70=>233|72=>236|75=>239|76=>240|80=>242|127=>256|164=>269|n=>n,fun n=>n⟩
theorem ya8:Lays.n156 Tryz.prog zw7:={
 mixed:=by kernel_rfl
 f156:=Tryz.func126.trans (congrArg some (by kernel_rfl))
 f165:=Tryz.func165.trans (congrArg some (by kernel_rfl))
 f166:=Tryz.func166.trans (congrArg some (by kernel_rfl))
 f169:=Tryz.func167.trans (congrArg some (by kernel_rfl))
 f240:=Tryz.func198.trans (congrArg some (by kernel_rfl))
 f241:=Tryz.func199.trans (congrArg some (by kernel_rfl))
 f276:=Tryz.func217.trans (congrArg some (by kernel_rfl))
 f277:=Tryz.func218.trans (congrArg some (by kernel_rfl))
 t0:=Tryz.underlying0
 a0:=Tryz.isAgg0
 z0:=Tryz.sizeOf0
 v0:=Tryz.zeroValue0
 t3:=Tryz.underlying3
 a3:=Tryz.isAgg3
 z3:=Tryz.sizeOf3
 v3:=Tryz.zeroValue3
 t4:=Tryz.underlying4
 a4:=Tryz.isAgg4
 z4:=Tryz.sizeOf4
 v4:=Tryz.zeroValue4
 t9:=Tryz.underlying9
 a9:=Tryz.isAgg9
 z9:=Tryz.sizeOf9
 v9:=Tryz.zeroValue9
 t20:=Tryz.underlying20
 a20:=Tryz.isAgg20
 z20:=Tryz.sizeOf20
 v20:=Tryz.zeroValue20
 t31:=Tryz.underlying22
 a31:=Tryz.isAgg22
 z31:=Tryz.sizeOf22
 v31:=Tryz.zeroValue22
 t37:=Tryz.underlying234
 a37:=Tryz.isAgg234
 z37:=Tryz.sizeOf234
 v37:=Tryz.zeroValue234
 t70:=Tryz.underlying233
 a70:=Tryz.isAgg233
 z70:=Tryz.sizeOf233
 v70:=Tryz.zeroValue233
 t72:=Tryz.underlying236
 a72:=Tryz.isAgg236
 z72:=Tryz.sizeOf236
 v72:=Tryz.zeroValue236
 t75:=Tryz.underlying239
 a75:=Tryz.isAgg239
 z75:=Tryz.sizeOf239
 v75:=Tryz.zeroValue239
 t76:=Tryz.underlying240
 a76:=Tryz.isAgg240
 z76:=Tryz.sizeOf240
 v76:=Tryz.zeroValue240
 t127:=Tryz.underlying256
 a127:=Tryz.isAgg256
 z127:=Tryz.sizeOf256
 v127:=Tryz.zeroValue256
 t164:=Tryz.underlying269
 a164:=Tryz.isAgg269
 z164:=Tryz.sizeOf269
 v164:=Tryz.zeroValue269}
theorem zw8:Builder.Extra Tryz.prog zw7:={
 sizeBuilder:=by kernel_rfl
 liesBuilder:=by kernel_rfl
 t5:=Tryz.underlying5
 a5:=Tryz.isAgg5
 z5:=Tryz.sizeOf5
 v5:=Tryz.zeroValue5
 infoByte:=by kernel_rfl
 cellsByte:=by kernel_rfl
 sizeByte:=by kernel_rfl
 neB5:=by decide}
set_option maxRecDepth 10000
attribute [local irreducible] QR QV OE zcc aw zco za8 zav zah thn zez zdl jch zeb
open Go.H
def wordB (k:Nat):ByteArray:=⟨#[[114,121,119],[109,114],[109,119],[119,102,114]][k]!.toArray⟩
def zcr:List AV:= [.v (.string (wordB 0)),.v (.string (wordB 1)),.v (.string (wordB 2)),.v (.string (wordB 3))]
theorem ynz {k:Nat} (hk:k < 4):∃x:ByteArray,zcr[0+k * 1]? =some (.v (.string x))∧x.size≤3:=by
 rcases (by omega:k=0∨k=1∨k=2∨k=3) with rfl|rfl|rfl|rfl
 ·exact ⟨_,rfl,by decide⟩
 ·exact ⟨_,rfl,by decide⟩
 ·exact ⟨_,rfl,by decide⟩
 ·exact ⟨_,rfl,by decide⟩
theorem zmb:∀(xs:List ByteArray),(∀x∈xs,x.size≤3)→Lib.lens (xs.map (·.data.toList))≤3 * xs.length
 | [],_=>Nat.zero_le _
 |x::xs,h=>by
  have h1:=zmb xs fun y hy=>h y (by simp [hy])
  have h2:=h x (by simp)
  have e:Lib.lens ((x::xs).map (·.data.toList))=x.data.toList.length+Lib.lens (xs.map (·.data.toList)):=by simp [Lib.lens]
  have e2:x.data.toList.length=x.size:=by rw [Array.length_toList];rfl
  rw [e,List.length_cons];omega
theorem zun (xs:List ByteArray) (sep:ByteArray) (hs:sep.size≤1) (hx:xs.length≤4) (h:∀x∈xs,x.size≤3):(Lib.join (xs.map (·.data.toList)) sep.data.toList).length≤140737488355328:=by
 cases xs with
 |nil=>exact Nat.zero_le _
 |cons x r=>
  have h1:=zmb (x::r) h
  have e2:sep.data.toList.length=sep.size:=by rw [Array.length_toList];rfl
  rw [List.map_cons] at h1 ⊢
  rw [Lib.join_length,oM,e2]
  rw [List.length_cons] at hx h1
  have h3:sep.size * r.length≤1 * r.length:=Nat.mul_le_mul_right _ hs
  omega
theorem ymu (s:SV) (xs:List ByteArray) (sep:ByteArray) (hs:sep.size≤1) (hx:xs.length≤4) (h:∀x∈xs,x.size≤3) (W:List Res):x3 Tryz.prog 126 [.v s.v,.v (.string sep)] (.row s.v 1 9 (xs.map za7)::W) (fun r h'=>h'= .row s.v 1 9 (xs.map za7)::W∧∃t:ByteArray,r= .v (.string t)):=
 ((zu4 ya8 zw8 s 9 xs sep (by omega) (zun xs sep hs hx h)).frame W).mono (by
   rintro _ _ ⟨_,rfl,rfl,t,rfl⟩
   exact ⟨rfl,t,rfl⟩)
def woC (g:Int):Int:=if g < 0∨g > 15 then 190 else 0
theorem yeh (g:Int):∀{k:Nat},k < 4→∃c,zlz .shr .i64 g (k:Nat)=some c
 |0,_=>⟨_,rfl⟩
 |1,_=>⟨_,rfl⟩
 |2,_=>⟨_,rfl⟩
 |3,_=>⟨_,rfl⟩
theorem yf2 (g:Int):x3 Tryz.prog 88 [iv g] (.glob 1 193 zcr:: []) (fun r h'=>h'= .glob 1 193 zcr:: []∧∃t:ByteArray,r= .tup [.v (.string t),iv (woC g)]):=by
 refine z6 Tryz.func88 rfl rfl rfl ?_
 refine rn ?_;refine q9 (fun hg1_2=> ?_) (fun hg1_2=> ?_)
 ·refine rn ?_;refine zrw rfl ?_;have hw:woC g=190:=by
   refine if_pos ?_;first
   |(have q:g < 0:=by simpa using hg1_2
     exact .inl q)
   |(have q:15 < g:=by simpa using hc11
     exact .inr q)
  refine rn ?_;first
  |exact zbo rfl rfl (.refl _ _) ⟨rfl,_,by rw [hw];rfl⟩
  |exact zbo rfl rfl (.drop [_] _ _) ⟨rfl,_,by rw [hw];rfl⟩
 ·refine rn ?_;refine z8 rfl (fun hc11=> ?_) (fun hc11=> ?_)
  ·have hw:woC g=190:=by
    refine if_pos ?_;first
    |(have q:g < 0:=by simpa using hg1_2
      exact .inl q)
    |(have q:15 < g:=by simpa using hc11
      exact .inr q)
   refine rn ?_;first
   |exact zbo rfl rfl (.refl _ _) ⟨rfl,_,by rw [hw];rfl⟩
   |exact zbo rfl rfl (.drop [_] _ _) ⟨rfl,_,by rw [hw];rfl⟩
  ·have hw:woC g=0:=if_neg (by have q1:=oF hg1_2;have q2:=oF hc11;omega)
   refine rn ?_;refine zer 4 (fun k (z:SV×List ByteArray)=>z.2.length≤k∧∀x∈z.2,x.size≤3) (fun k z=>⟨[(12,iv (k:Nat)),(4,.v z.1.v),(0,iv g)],.row z.1.v 1 9 ((z.2).map za7):: .glob 1 193 zcr:: [],[]⟩) (⟨none,0,0⟩,[]) ⟨Nat.le_refl _,by simp⟩ (w9 (za1 1 9) es) ?_
   rintro k ⟨v,xs⟩ lk ⟨hn,hX⟩
   simp only at hn hX
   show aw _ _ _ _ _ ⟨[(12,iv (k:Nat)),(4,.v v.v),(0,iv g)],.row v.v 1 9 ((xs).map za7):: .glob 1 193 zcr:: [],[]⟩
   refine rn ?_;refine z8 rfl (fun hc13=> ?_) (fun hc13=> ?_)
   ·have hk:k < 4:=by have q:=oT hc13;omega
    obtain ⟨c,hsh⟩:=yeh g hk
    obtain ⟨x,hx,hxs⟩:=ynz hk
    refine zab ?_;refine j8 ?_;refine x9 ?_;refine zad ?_;refine x9 (y5 ?_)
    refine q1 ?_;refine q1 ?_;refine u3 (j8 ?_)
    refine x9 (y5 ?_)
    refine q1 ?_;refine q1 ?_;refine qq rfl rfl (ze5 (c:=c) rfl rfl hsh (Int.natCast_nonneg _)) ?_
    refine rn ?_;refine z8 rfl (fun hc19=> ?_) (fun hc19=> ?_)
    ·refine y5 ?_;refine q1 ?_;refine q1 ?_;refine qq rfl rfl (u6 (i:=k) rfl rfl (by omega)) ?_
     refine qq rfl rfl (j4 rfl hx) ?_
     refine qv rfl rfl (u1 rfl rfl) ?_
     refine z7 rfl (j7 rfl rfl (by simp only [oM,List.length_cons,List.length_nil];omega) rfl (fun s25=> ?_) (fun r hr=>by rw [List.mem_singleton.1 hr];rfl))
     refine zal s25 fun sv hsv=> ?_
     subst hsv
     refine rn ?_;exact ⟨hk,(sv,xs++ [x]),⟨by simp only [List.length_append,List.length_cons,List.length_nil];omega,fun y hy=>by
      rcases List.mem_append.1 hy with hy|hy
      ·exact hX y hy
      ·rw [List.mem_singleton.1 hy];exact hxs⟩,by simp only [List.map_append];exact eA⟩
    ·refine rn ?_;exact ⟨hk,(v,xs),⟨by simp only;omega,hX⟩,eA⟩
   ·refine rn ?_;refine z7 rfl (w7 rfl rfl (y3.of_fun (ymu v xs _ (by decide) (by omega) hX _)) rfl ?_)
    rintro _ _ ⟨rfl,t,rfl⟩
    refine rn ?_;first
    |exact zbo rfl rfl (.refl _ _) ⟨rfl,_,by rw [hw];rfl⟩
    |exact zbo rfl rfl (.drop [_] _ _) ⟨rfl,_,by rw [hw];rfl⟩
end Go.Proofs
set_option maxRecDepth 100000
namespace Go.Proofs.YtcaijocpofcbdaaGreatDoor
open Go Go.Ab Go.H Go.ChangeShapes Go.WideShapes Go.ChangeAt Go.RowKit
def zm6:List (String×DataW Unit):= [("unicode/utf8.acceptRanges",Rows.laid_unicode_utf8_acceptRanges),("yardarm/level.words",Rows.laid_yardarm_level_words),("yardarm/history.limits",Rows.laid_yardarm_history_limits),("yardarm/rules.asks",Rows.laid_yardarm_rules_asks),("yardarm/session.guards",Rows.laid_yardarm_session_guards),("unicode/utf8.first",Rows.laid_unicode_utf8_first)]
def zki:List (String×DataW Unit):= [("unicode/utf8.acceptRanges",Rows.laid_unicode_utf8_acceptRanges),("yardarm/level.words",Rows.laid_yardarm_level_words),("yardarm/history.limits",Rows.laid_yardarm_history_limits),("unicode/utf8.first",Rows.laid_unicode_utf8_first)]
theorem zs3:(zm6.filter fun x=>x.2.handleName?.isNone)=zki:=by kernel_rfl
theorem ya4 {W:World} (h:laidMetH Tryz.prog zm6 W):laidMet Tryz.prog zki W:=by
 have:=(laidMetH_iff.1 h).1
 rw [zs3] at this
 exact this
theorem yj6 {w:World} (h:laidMetH Tryz.prog zm6 w):(Res.glob 2 197 v7).holds w noX:=by
 obtain ⟨g,t,cs,fuel,p,hg,ht,hv,hd⟩:=h.funcs (n:= "yardarm/rules.asks") (d:=ygw) (.tail _ (.tail _ (.tail _ (.head _))))
 obtain rfl:=Option.some.inj ((show Tryz.prog.globalNamed "yardarm/rules.asks" =some 2 by kernel_rfl).symm.trans hg)
 obtain rfl:=Option.some.inj ((show (Tryz.prog.globals[2]?).map (·.type)=some 197 by kernel_rfl).symm.trans ht)
 rw [zyi] at hd
 have c1:Tryz.prog.cellsOf 196=1:=by kernel_rfl
 have c11:Tryz.prog.cellsOf 197=11:=by kernel_rfl
 have hlen:cs.toList.length=11:=by
  obtain ⟨_,_,_,_,hl,_⟩:=DataW.trod_array Tryz.underlying197 hd
  rw [hl,c11]
 unfold World.var? at hv
 rw [hg] at hv
 simp only [Option.bind_some] at hv
 split at hv
 ·rename_i c T0 fr hh
  cases hv
  refine zs8 hh (by rw [show v7.length=11 from rfl];simpa using hlen.symm) fun j h1 h2=> ?_
  cases j with
  |zero=>exact .any _
  |succ k=>
   have hk:k < 10:=by have:v7.length=11:=rfl;omega
   obtain ⟨b,r,hn,hone,ha⟩:=yb3 k hk
   obtain ⟨f',d,q,e1,e2⟩:=Lib.array_elem Tryz.underlying197 hd (k+1) (by omega)
   have e1':d= .held (b::r):=by
    rw [List.getElem?_cons_succ,List.getElem?_map,List.getElem?_drop,Nat.add_comm 1 k,hn] at e1
    exact (Option.some.inj e1).symm
   subst e1'
   rw [c1,Nat.mul_one,List.drop_eq_getElem_cons (by simpa using h2),List.take_succ_cons,List.take_zero] at e2
   have:=func_of_trod (f0:=fnA.getD k 0) Tryz.underlying196 hone e2
   rw [Array.getElem_toList] at this
   rw [this,show v7[k+1]= .fn (.func (fnA.getD k 0)) [] [] from Option.some.inj ((List.getElem?_eq_getElem h1).symm.trans ha)]
   exact zhp _ _
 ·cases hv
theorem yj5 {w:World} (h:laidMetH Tryz.prog zm6 w):(Res.glob 0 117 x5).holds w noX:=by
 obtain ⟨g,t,cs,fuel,p,hg,ht,hv,hd⟩:=h.funcs (n:= "yardarm/session.guards") (d:=yns) (.tail _ (.tail _ (.tail _ (.tail _ (.head _)))))
 obtain rfl:=Option.some.inj ((show Tryz.prog.globalNamed "yardarm/session.guards" =some 0 by kernel_rfl).symm.trans hg)
 obtain rfl:=Option.some.inj ((show (Tryz.prog.globals[0]?).map (·.type)=some 117 by kernel_rfl).symm.trans ht)
 rw [ybd] at hd
 have c3:Tryz.prog.cellsOf 116=3:=by kernel_rfl
 have c12:Tryz.prog.cellsOf 117=12:=by kernel_rfl
 have hlen:cs.toList.length=4 * 3:=by
  obtain ⟨_,_,_,_,hl,_⟩:=DataW.trod_array Tryz.underlying117 hd
  rw [hl,c12]
 have hcs:cs.toList=guaV:=by
  refine (ztj 3 4 cs.toList (fun i=>(guaV.drop (i * 3)).take 3) hlen fun i hi=> ?_).trans rfl
  obtain ⟨f',d,q,e1,e2⟩:=Lib.array_elem Tryz.underlying117 hd i hi
  rw [c3] at e2
  match i,hi with
  |0,_=>obtain rfl:=Option.some.inj e1;exact znb yll ylk e2
  |1,_=>obtain rfl:=Option.some.inj e1;exact znb ylk ylk e2
  |2,_=>obtain rfl:=Option.some.inj e1;exact znb yll yll e2
  |3,_=>obtain rfl:=Option.some.inj e1;exact znb ylk yll e2
 unfold World.var? at hv
 rw [hg] at hv
 simp only [Option.bind_some] at hv
 split at hv
 ·rename_i c T0 fr hh
  cases hv
  have hc:cs=guaV.toArray:=by rw [←hcs]
  subst hc
  refine zs8 hh rfl fun j h1 h2=> ?_
  match j,h1 with
  |0,_=>exact .v _
  |1,_=>exact zhp _ _
  |2,_=>exact zhp _ _
  |3,_=>exact .v _
  |4,_=>exact zhp _ _
  |5,_=>exact zhp _ _
  |6,_=>exact .v _
  |7,_=>exact zhp _ _
  |8,_=>exact zhp _ _
  |9,_=>exact .v _
  |10,_=>exact zhp _ _
  |11,_=>exact zhp _ _
  |n+12,h1=>exact absurd h1 (by show ¬n+12 < 12;omega)
 ·cases hv
def yhg (k:Nat):List UInt8:= [[114,121,119],[109,114],[109,119],[119,102,114]][k]!
theorem zza:(Rows.laid_yardarm_level_words:DataW Unit)= .agg ((List.range 4).map fun i=> .lit (.string (yhg i))):=by kernel_rfl
theorem yhw {s:ByteArray} {l:List UInt8} (h:s.data.toList=l):s=⟨l.toArray⟩:=by
 subst h;cases s;simp
theorem ymy {w:World} (h:Lib.VarReads Tryz.prog w "yardarm/level.words" Rows.laid_yardarm_level_words):(Res.glob 1 193 zcr).holds w noX:=by
 refine znd (vals:=(List.range 4).map fun i=>Value.string (wordB i)) (T:=193) h (by kernel_rfl) (show _=some 193 by kernel_rfl) fun fuel cs p hd=> ?_
 rw [zza] at hd
 have c1:Tryz.prog.cellsOf 9=1:=by kernel_rfl
 have c4:Tryz.prog.cellsOf 193=4:=by kernel_rfl
 have hlen:cs.length=4 * 1:=by
  obtain ⟨_,_,_,_,hl,_⟩:=DataW.trod_array Tryz.underlying193 hd
  rw [hl,c4]
 refine (ztj 1 4 cs (fun i=> [Value.string (wordB i)]) hlen fun i hi=> ?_).trans rfl
 obtain ⟨f',d,q,h1,h2⟩:=Lib.array_elem Tryz.underlying193 hd i hi
 simp only [List.getElem?_map,List.getElem?_range hi,Option.map_some,Option.some.injEq] at h1
 subst h1
 rw [c1] at h2
 obtain ⟨s,e,ex,_⟩:=DataW.trod_string Tryz.underlying9 h2
 have e2:s.data.toList=yhg i:=by
  have:=congrArg Prod.fst ex
  simp only [DataW.lit.injEq,Lit.string.injEq] at this
  exact this.symm
 rw [e,yhw e2]
 match i,hi with
 |0,_=>rfl
 |1,_=>rfl
 |2,_=>rfl
 |3,_=>rfl
theorem ylh:OO [.glob 1 193 zcr,.glob 0 117 x5,.glob 3 148 y7,.glob 5 276 y9,.glob 6 279 y4,.glob 2 197 v7] noX=noX:=by funext b;simp [OO,u4,noX,Res.own]
theorem zul {W:World} (h:laidMetH Tryz.prog zm6 W):HRel noX W [.glob 1 193 zcr,.glob 0 117 x5,.glob 3 148 y7,.glob 5 276 y9,.glob 6 279 y4,.glob 2 197 v7]:=by
 have h':=ya4 h
 have h0:=ym1 (Lib.laidMet.reads h' (.tail _ (.tail _ (.head _))))
 have h1:=ym0 (Lib.laidMet.reads h' (.tail _ (.tail _ (.tail _ (.head _)))))
 have h2:=ymz (Lib.laidMet.reads h' (.head _))
 have h3:=ymy (Lib.laidMet.reads h' (.tail _ (.head _)))
 refine ⟨by simp [u4,Res.own],fun b hb=>by simp [u4,Res.own] at hb,fun b hb=>hb.elim,fun r hr=> ?_⟩
 rw [ylh]
 simp only [List.mem_cons,List.not_mem_nil,or_false] at hr
 rcases hr with rfl|rfl|rfl|rfl|rfl|rfl
 ·exact h3
 ·exact yj5 h
 ·exact h0
 ·exact h1
 ·exact h2
 ·exact yj6 h
noncomputable def witW0 (os:Os):World:={World.holding Tryz.prog os ⟨#[], #[],[]⟩ with heap:=((World.holding Tryz.prog os ⟨#[], #[],[]⟩).heap.modify 2 (Lay.setRow ynk)).modify 0 (Lay.setRow guaV)}
noncomputable def witW (os:Os):World:=(witW0 os).layVars Tryz.prog zki
theorem ydr (os:Os):(witW os).os=os:=World.layVars_os _ _ _
theorem zzc (os:Os) (args:Array Value):laidMetH Tryz.prog zm6 ((witW os).forCall (fun _ _=>0) ⟨#[],args,[]⟩).memory:=by
 refine laidMetH_of_parts3 (fuel:=8) ?_ (by kernel_rfl) (by kernel_rfl)
 rw [zs3]
 have h:laidMet Tryz.prog zki (witW os):=laidMet_layVars (w0:=witW0 os) (zki.map (·.1)) [] (by kernel_rfl) (by kernel_rfl) (by kernel_rfl) (by
  rw [show (zki.filter fun x=> !(zki.map (·.1)).contains x.1)= [] by kernel_rfl];exact LaidIn.none)
 exact h.of_heap (by simp [World.memory,World.forCall,Input.heap])
end Go.Proofs.YtcaijocpofcbdaaGreatDoor
set_option maxRecDepth 10000
namespace Go.Proofs
open Go Go.Ab
attribute [local irreducible] QR QV OE zcc aw zco za8 zav zah thn zez zdl jch zeb
open Go.H
def wiC (h:Hist) (s b:Int):Int:=if q8 h≠0 then q8 h else if isB s h.ss.length=false then 2 else if b < 0∨b > 15 then 190 else if (zfk h.wants s b).length > 3000 then 6 else 0
def wiH (h:Hist) (s b:Int):Hist:=if wiC h s b=0 then zai h (zfk h.wants s b) else zfz
theorem yhj {h:Hist} {s b:Int} (hc:q8 h≠0):wiC h s b=q8 h:=if_pos hc
theorem zzd {h:Hist} {s b:Int} (hc:q8 h=0) (hb:isB s h.ss.length=false):wiC h s b=2:=by rw [wiC,if_neg (by omega),if_pos hb]
theorem yhi {h:Hist} {s b:Int} (hc:q8 h=0) (hb:isB s h.ss.length=true) (hw:woC b=190):wiC h s b=190:=by
 have:b < 0∨b > 15:=by
  by_cases q:b < 0∨b > 15
  ·exact q
  ·rw [woC,if_neg q] at hw;cases hw
 rw [wiC,if_neg (by omega),if_neg (by rw [hb];decide),if_pos this]
theorem zr3 (b:Int):woC b=190∨(woC b=0∧¬(b < 0∨b > 15)):=by
 by_cases q:b < 0∨b > 15
 ·exact .inl (if_pos q)
 ·exact .inr ⟨if_neg q,q⟩
theorem yhk {h:Hist} {s b:Int} (hc:q8 h=0) (hb:isB s h.ss.length=true) (hw:¬(b < 0∨b > 15)) (hl:(zfk h.wants s b).length > 3000):wiC h s b=6:=by rw [wiC,if_neg (by omega),if_neg (by rw [hb];decide),if_neg hw,if_pos hl]
theorem zze {h:Hist} {s b:Int} (hc:q8 h=0) (hb:isB s h.ss.length=true) (hw:¬(b < 0∨b > 15)) (hl:¬(zfk h.wants s b).length > 3000):wiC h s b=0:=by rw [wiC,if_neg (by omega),if_neg (by rw [hb];decide),if_neg hw,if_neg hl]
theorem zvg {h:Hist} {s b:Int} (he:wiC h s b≠0):wiH h s b=zfz:=if_neg he
theorem yds {h:Hist} {s b:Int} (he:wiC h s b=0):wiH h s b=zai h (zfk h.wants s b):=if_pos he
def stH (h:Hist):Hist:=if q8 h=0 then zai h (k8 h) else zfz
theorem ycz {s:Int} {n:Nat} (h:decide (s < 0)=true):isB s n=false:=by have:=oT h;unfold isB;simp <;> omega
theorem yc0 {α β:Type} {f:α→β} {l:List α} {s:Int} (h:decide (s ≥ ((l.map f).length:Int))=true):isB s l.length=false:=by have:=oT h;rw [oM] at this;unfold isB;simp <;> omega
theorem yjr {α β:Type} {f:α→β} {l:List α} {s:Int} (h:decide (s < 0)=false) (k:decide (s ≥ ((l.map f).length:Int))=false):isB s l.length=true:=by
 have h:=oF h
 have k:=oF k
 rw [oM] at k
 exact zm8.2 ⟨by omega,by omega⟩
theorem yhy {h:Hist} (hc:q8 h=0) (k:Nat):WOk h.ss.length (zei h.wants ((zb1 h).take k)):=zp3 (zvc (zbe.1 hc)) fun g hg=>⟨(zet hc g (List.mem_of_mem_take hg)).2,(zet hc g (List.mem_of_mem_take hg)).1.2⟩
theorem yc3 (c0 c1 c2 c3 c4 c5 c6:AV) (ho: [c0,c1,c2,c3,c4,c5,c6].all AV.one=true) (l:List Wan) (hl:l.length≤1000000) (s bits:Int):x3 Tryz.prog 89 [.agg [c0,c1,c2,c3,c4,c5,c6,zfp l],iv s,iv bits] [] (fun r h'=>h'= []∧r= .agg [c0,c1,c2,c3,c4,c5,c6,zfp (zfk l s bits)]):=
 (yf4 c0 c1 c2 c3 c4 c5 c6 ho l hl s bits).ventR (by rintro _ _ ⟨v,rfl,rfl⟩;exact ⟨_,_,zcj [_,_,_,_,_,_,_] [],rfl,rfl⟩)
theorem ybe (g:Int) (W:List Res):x3 Tryz.prog 88 [iv g] (.glob 1 193 zcr::W) (fun r h'=>h'= .glob 1 193 zcr::W∧∃t:ByteArray,r= .tup [.v (.string t),iv (woC g)]):=((yf2 g).frame W).mono (by rintro _ _ ⟨_,rfl,rfl,t,rfl⟩;exact ⟨rfl,t,rfl⟩)
theorem zxh (h:Hist) (la:Lim 4611686018427387904 h) (s bits:Int):x3 Tryz.prog 40 [.agg (x4 h),iv s,iv bits] (.glob 1 193 zcr:: .glob 0 117 x5:: .glob 3 148 y7:: .glob 5 276 y9:: .glob 6 279 y4:: .glob 2 197 v7:: []) (fun r h'=>h'= .glob 1 193 zcr:: .glob 0 117 x5:: .glob 3 148 y7:: .glob 5 276 y9:: .glob 6 279 y4:: .glob 2 197 v7:: []∧r= .tup [.agg (x4 (wiH h s bits)),iv (wiC h s bits)]):=by
 refine z6 Tryz.func40 rfl rfl rfl ?_
 refine rn ?_;refine z7 rfl (w6 rfl rfl rfl fun b3=> ?_)
 refine z7 rfl (x6 rfl fun b6=> ?_)
 refine rn ?_;refine qv rfl rfl (y6 rfl rfl (y3.qt (y3.of_fun (zrc h la)) ((pt4 _ _ _ _ _ _).trans (.cons _ ((pt4 _ _ _ _ _ _).trans (.cons _ ((pt4 _ _ _ _ _ _).trans (.cons _ (pt4 _ _ _ _ _ _))))))))) ?_
 refine rn ?_;refine z8 rfl (fun hc15=> ?_) (fun hc15=> ?_)
 ·have hc:q8 h≠0:=nzT hc15
  refine rn ?_;exact zea (.cons _ _ _ _ (.agg _ _ _ _ _ _ _ rfl inferInstance inferInstance inferInstance rfl) (.cons _ _ _ _ (.tmp _ _ rfl) .nil)) (.trans (.drop [_,_] _ _) (.le (Sb.tups (aS:= [.agg zd5,_]) (bs:= [.agg (x4 zfz),_]) ⟨Sb.aggs (aS:=zd5) (bs:=x4 zfz) ⟨.nil _ _,.nil _ _,.nil _ _,.nil _ _,.nil _ _,.nil _ _,.nil _ _,.nil _ _,trivial⟩,.refl _,trivial⟩).le)) ⟨rfl,by rw [zvg (by rw [yhj hc];first|exact hc|decide),yhj hc] <;> rfl⟩
 ·have hc:q8 h=0:=nzF hc15
  have lA:Lim 1000000 h:=(zd9 hc).mono (by decide)
  refine rn ?_;refine q9 (fun hg4_2=> ?_) (fun hg4_2=> ?_)
  ·refine rn ?_;refine zrw rfl ?_;have hb:isB s h.ss.length=false:=by first|exact ycz hg4_2|exact yc0 hc26
   refine rn ?_;exact zea (.cons _ _ _ _ (.agg _ _ _ _ _ _ _ rfl inferInstance inferInstance inferInstance rfl) (.cons _ _ _ _ (.tmp _ _ rfl) .nil)) (.trans (.drop [_,_] _ _) (.le (Sb.tups (aS:= [.agg zd5,_]) (bs:= [.agg (x4 zfz),_]) ⟨Sb.aggs (aS:=zd5) (bs:=x4 zfz) ⟨.nil _ _,.nil _ _,.nil _ _,.nil _ _,.nil _ _,.nil _ _,.nil _ _,.nil _ _,trivial⟩,.refl _,trivial⟩).le)) ⟨rfl,by rw [zvg (by rw [zzd hc hb];first|exact hc|decide),zzd hc hb] <;> rfl⟩
  ·refine rn ?_;refine z8 rfl (fun hc26=> ?_) (fun hc26=> ?_)
   ·have hb:isB s h.ss.length=false:=by first|exact ycz hg4_2|exact yc0 hc26
    refine rn ?_;exact zea (.cons _ _ _ _ (.agg _ _ _ _ _ _ _ rfl inferInstance inferInstance inferInstance rfl) (.cons _ _ _ _ (.tmp _ _ rfl) .nil)) (.trans (.drop [_,_] _ _) (.le (Sb.tups (aS:= [.agg zd5,_]) (bs:= [.agg (x4 zfz),_]) ⟨Sb.aggs (aS:=zd5) (bs:=x4 zfz) ⟨.nil _ _,.nil _ _,.nil _ _,.nil _ _,.nil _ _,.nil _ _,.nil _ _,.nil _ _,trivial⟩,.refl _,trivial⟩).le)) ⟨rfl,by rw [zvg (by rw [zzd hc hb];first|exact hc|decide),zzd hc hb] <;> rfl⟩
   ·have hb:isB s h.ss.length=true:=yjr hg4_2 hc26
    refine rn ?_;refine z7 rfl (w7 rfl rfl (y3.perm (pt2 _ _ _ _) (y3.of_fun (ybe bits _))) rfl ?_)
    rintro _ _ ⟨rfl,t,rfl⟩
    refine rn ?_;refine z8 rfl (fun hc34=> ?_) (fun hc34=> ?_)
    ·have hw:woC bits=190:=(zr3 bits).resolve_right (fun q=>nzT hc34 q.1)
     rw [hw]
     refine rn ?_;exact zea (.cons _ _ _ _ (.agg _ _ _ _ _ _ _ rfl inferInstance inferInstance inferInstance rfl) (.cons _ _ _ _ (.tmp _ _ rfl) .nil)) (.trans (.trans (.perm ((pt1 _ _ _).trans (.cons _ (pt1 _ _ _))) _) (.drop [_,_] _ _)) (.le (Sb.tups (aS:= [.agg zd5,_]) (bs:= [.agg (x4 zfz),_]) ⟨Sb.aggs (aS:=zd5) (bs:=x4 zfz) ⟨.nil _ _,.nil _ _,.nil _ _,.nil _ _,.nil _ _,.nil _ _,.nil _ _,.nil _ _,trivial⟩,.refl _,trivial⟩).le)) ⟨rfl,by rw [zvg (by rw [yhi hc hb hw];first|exact hc|decide),yhi hc hb hw] <;> rfl⟩
    ·have hw:¬(bits < 0∨bits > 15):=((zr3 bits).resolve_left (fun q=>by have w:=nzF hc34;rw [q] at w;cases w)).2
     refine rn ?_;refine qv rfl rfl (y6 rfl rfl (zax (yj2 h lA) (Sbs.refl _))) ?_
     refine rn ?_;refine qv rfl rfl (y6 rfl rfl (zax (yc3 (zbg h.ts) (zbg h.ss) (zbg h.os) (zbg h.ps) (zrk h.evs) (zqv h.ords) (zq4 h.mats) rfl h.wants (by have:=lA.wants;omega) s bits) (Sbs.refl _))) ?_
     refine z7 rfl (x6 rfl fun b11=> ?_)
     refine rn ?_;refine z8 rfl (fun hc45=> ?_) (fun hc45=> ?_)
     ·have hl:(zfk h.wants s bits).length > 3000:=by have q:=oT hc45;rw [oM] at q;omega
      refine rn ?_;exact zea (.cons _ _ _ _ (.agg _ _ _ _ _ _ _ rfl inferInstance inferInstance inferInstance rfl) (.cons _ _ _ _ (.tmp _ _ rfl) .nil)) (.trans (.trans (.perm (.cons _ ((pt1 _ _ _).trans (.cons _ (pt1 _ _ _)))) _) (.drop [_,_,_] _ _)) (.le (Sb.tups (aS:= [.agg zd5,_]) (bs:= [.agg (x4 zfz),_]) ⟨Sb.aggs (aS:=zd5) (bs:=x4 zfz) ⟨.nil _ _,.nil _ _,.nil _ _,.nil _ _,.nil _ _,.nil _ _,.nil _ _,.nil _ _,trivial⟩,.refl _,trivial⟩).le)) ⟨rfl,by rw [zvg (by rw [yhk hc hb hw hl];first|exact hc|decide),yhk hc hb hw hl] <;> rfl⟩
     ·have hl:¬(zfk h.wants s bits).length > 3000:=by have q:=oF hc45;rw [oM] at q;omega
      refine rn ?_;exact zea (.cons _ _ _ _ (.agg _ _ _ _ _ _ _ rfl inferInstance inferInstance inferInstance rfl) (.cons _ _ _ _ (.tmp _ _ rfl) .nil)) (.trans (.perm (.cons _ ((pt1 _ _ _).trans (.cons _ (pt1 _ _ _)))) _) (.drop [_,_,_] _ _)) ⟨rfl,by rw [yds (zze hc hb hw hl),zze hc hb hw hl] <;> rfl⟩
theorem ybh (h:Hist) (la:Lim 4611686018427387904 h):x3 Tryz.prog 41 [.agg (x4 h)] (.glob 0 117 x5:: .glob 3 148 y7:: .glob 5 276 y9:: .glob 6 279 y4:: .glob 2 197 v7:: []) (fun r h'=>h'= .glob 0 117 x5:: .glob 3 148 y7:: .glob 5 276 y9:: .glob 6 279 y4:: .glob 2 197 v7:: []∧r= .tup [.agg (x4 (stH h)),iv (q8 h)]):=by
 refine z6 Tryz.func41 rfl rfl rfl ?_
 refine rn ?_;refine z7 rfl (w6 rfl rfl rfl fun b1=> ?_)
 refine z7 rfl (x6 rfl fun b2=> ?_)
 refine rn ?_;refine qv rfl rfl (y6 rfl rfl (y3.qt (y3.of_fun (zh9 h la)) ((pt2 _ _ _ _).trans (.cons _ ((pt2 _ _ _ _).trans (.cons _ ((pt2 _ _ _ _).trans (.cons _ ((pt2 _ _ _ _).trans (.cons _ (pt2 _ _ _ _))))))))))) ?_
 refine rn ?_;refine z8 rfl (fun hc14=> ?_) (fun hc14=> ?_)
 ·have hc:q8 h≠0:=nzT hc14
  refine rn ?_;exact zea (.cons _ _ _ _ (.agg _ _ _ _ _ _ _ rfl inferInstance inferInstance inferInstance rfl) (.cons _ _ _ _ (.tmp _ _ rfl) .nil)) (.trans (.drop [_,_] _ _) (.le (Sb.tups (aS:= [.agg zd5,_]) (bs:= [.agg (x4 zfz),_]) ⟨Sb.aggs (aS:=zd5) (bs:=x4 zfz) ⟨.nil _ _,.nil _ _,.nil _ _,.nil _ _,.nil _ _,.nil _ _,.nil _ _,.nil _ _,trivial⟩,.refl _,trivial⟩).le)) ⟨rfl,by rw [stH,if_neg hc] <;> rfl⟩
 ·have hc:q8 h=0:=nzF hc14
  have lA:Lim 1000000 h:=(zd9 hc).mono (by decide)
  have lT:=tab_len h
  refine rn ?_;refine qv rfl rfl (y6 rfl rfl (zax (yj2 h lA) (Sbs.refl _))) ?_
  refine rn ?_;refine za5 (zb1 h).length (fun _=>True) (fun k=>⟨[(21,iv k),(1,pZ b1),(2,pZ b2),(19,zct (zb1 h)),(20,iv ((zb1 h).map zjm).length)],.box b2 28 zd5:: .box b1 28 (x4 (zai h (zei h.wants ((zb1 h).take k)))):: .glob 0 117 x5:: .glob 3 148 y7:: .glob 5 276 y9:: .glob 6 279 y4:: .glob 2 197 v7:: [],[]⟩) trivial es ?_
  intro k lk _
  refine rn ?_;refine z8 rfl (fun hc22=> ?_) (fun hc22=> ?_)
  ·have hk:=zdr hc22
   have rk:=zdp (f:=zjm) hk
   have hwk:=yhy hc k
   have hwl:=zjz hwk
   have lS:=(zd9 hc).ss
   refine rn ?_;refine z7 rfl (x6 rfl fun b7=> ?_)
   refine rn ?_;refine qv rfl rfl (y6 rfl rfl (zax (yc3 (zbg h.ts) (zbg h.ss) (zbg h.os) (zbg h.ps) (zrk h.evs) (zqv h.ords) (zq4 h.mats) rfl (zei h.wants ((zb1 h).take k)) (by omega) (zb1 h)[k].s (zb1 h)[k].a) (Sbs.refl _))) ?_
   refine rn ?_;exact ⟨hk,trivial,by rw [zvf hk,←zp5 hwk.1];exact eA⟩
  ·have qk:=zdx hc22 lk
   subst qk
   rw [List.take_length]
   refine rn ?_;exact zea (.cons _ _ _ _ (.agg _ _ _ _ _ _ _ rfl inferInstance inferInstance inferInstance rfl) (.cons _ _ _ _ (.tmp _ _ rfl) .nil)) (.drop [_,_] _ _) ⟨rfl,by rw [stH,if_pos hc,hc] <;> rfl⟩
theorem zs7 (a b:Grd):(([a.s,a.q,a.a]:List Int)== [b.s,b.q,b.a])=(a==b):=by
 rw [Bool.eq_iff_iff]
 obtain ⟨a1,a2,a3⟩:=a
 obtain ⟨b1,b2,b3⟩:=b
 simp
theorem ybr {f g:Bool} (l m:List Grd) (hl:l.length≤4611686018427387904) (hm:m.length≤4611686018427387904):x3 Tryz.prog 37 [.list f 3 (l.map zjm),.list g 3 (m.map zjm)] [] (fun r h'=>h'= []∧r=bv (decide (l=m))):=by
 refine z6 Tryz.func37 rfl rfl rfl ?_
 refine rn ?_;refine z8 rfl (fun hc10=> ?_) (fun hc10=> ?_)
 ·have hne:l.length≠m.length:=by have w:=hc10;intro e;rw [oM,oM,e] at w;simp at w
  refine rn ?_;refine rq 0 ?_
  exact ⟨rfl,by rw [decide_eq_false (fun e=>hne (by rw [e]))];rfl⟩
 ·have hlm:l.length=m.length:=by have w:=hc10;rw [oM,oM] at w;exact ygm w
  refine rn ?_;refine ztm (l.length) (fun k:Nat=>l.take k=m.take k) (fun k=> [(13,iv k)]) [(0,_),(1,_),(12,_)] rfl ?_
  intro k lk zk
  refine rn ?_;refine z8 rfl (fun hc14=> ?_) (fun hc14=> ?_)
  ·have hk:=zdr hc14
   have rk:=zdp (f:=zjm) hk
   have hk2:k < m.length:=by omega
   have rk2:=zdp (f:=zjm) hk2
   refine rn ?_;refine j5 8 rfl ?_
   refine dq rfl rfl qrA ?_;refine dq rfl rfl qrA ?_;refine dq rfl rfl (za2 rfl rfl rk) ?_
   refine dq rfl rfl qrA ?_;refine dq rfl rfl qrA ?_;refine dq rfl rfl qrA ?_;refine dq rfl rfl (za2 rfl rfl rk2) ?_
   refine rn2 ?_;refine qq rfl rfl (zsr rfl rfl rfl rfl) ?_
   refine rn ?_;refine z8 rfl (fun hc24=> ?_) (fun hc24=> ?_)
   ·have hne:l[k]≠m[k]:=fun e=>by have w:=zwj hc24;rw [zs7,e] at w;simp at w
    refine rn ?_;refine rq 0 ?_
    exact ⟨rfl,by rw [decide_eq_false (ymp hk hk2 hne)];rfl⟩
   ·have heq:l[k]=m[k]:=by have w:=zwk hc24;rw [zs7] at w;simpa using w
    refine rn ?_;exact ⟨hk,ygl hk hk2 zk heq,eA⟩
  ·have qk:=zdx hc14 lk
   refine rn ?_;refine rq 0 ?_
   exact ⟨rfl,by rw [decide_eq_true (by have w:=zk;rw [qk,List.take_length,hlm,List.take_length] at w;exact w)];rfl⟩
def guE:List Ev:= [ylr 0,seW 0 1,ylq 0,ylr 1,⟨3,1,0,0,0,⟨0,0⟩,0,[]⟩,ylq 1]
def guH:Hist:=⟨[⟨#[116,49]⟩,⟨#[116,50]⟩],[yda],[bxx],[],guE,[],[],[]⟩
theorem znc:q8 guH=0:=zbe.2 (by decide+kernel)
theorem yc2:Lim 4611686018427387904 guH:=⟨by decide,by decide,by decide,by decide,by decide,by decide,by decide,by decide,by decide,by decide,by decide⟩
theorem yjy:zb1 guH= [⟨0,0,14⟩]:=by rw [zls znc];decide+kernel
theorem yjx:wiC guH 0 1=0:=zze znc (by decide) (by decide) (by decide)
def zs5:Hist:=zai guH [⟨0,1⟩]
theorem yjw:wiH guH 0 1=zs5:=by rw [yds yjx];rfl
theorem zf0:q8 zs5=0:=zbe.2 (by decide+kernel)
theorem zxm:Lim 4611686018427387904 zs5:=⟨by decide,by decide,by decide,by decide,by decide,by decide,by decide,by decide,by decide,by decide,by decide⟩
theorem yf7:zb1 zs5= [⟨0,1,14⟩]:=by rw [zls zf0];decide+kernel
theorem zs6:zbk (zb1 zs5)= [(0,1)]:=by rw [yf7];decide
theorem yj4:riO zs5=false:=by rw [zz4 zf0,zs6];rfl
theorem yf9:zlj zs5 0 1=0:=yk4 zf0 (by decide) (by decide)
theorem yf8:zur zs5 (0,1)=⟨1,0,1,0,1,4⟩:=by
 rw [zur,show seB zs5 (0,1).1 (0,1).2= [⟨1,0,1,0,1,4⟩] by rw [yel (k:=0) yf9 (by decide)];decide+kernel];rfl
theorem zvs  :x3 Tryz.prog 79 [] [] (fun r h'=>h'= []∧r= .agg (x4 guH)):=by
 refine z6 Tryz.func79 rfl rfl rfl ?_
 refine rn ?_;refine z7 rfl (x6 rfl fun b0=> ?_)
 refine rn ?_;refine qv rfl rfl (u1 rfl rfl) ?_
 refine qv rfl rfl (u1 rfl rfl) ?_
 refine qv rfl rfl (u1 rfl rfl) ?_
 refine qq rfl rfl (zac (out:=ygi (ylr 0)) rfl (by rfl)) ?_
 refine qq rfl rfl (zac (out:= [iv 0,iv 1]) rfl (by rfl)) ?_
 refine qq rfl rfl (zac (out:=ygi (seW 0 1)) rfl (by rfl)) ?_
 refine qq rfl rfl (zac (out:=ygi (ylq 0)) rfl (by rfl)) ?_
 refine qq rfl rfl (zac (out:=ygi (ylr 1)) rfl (by rfl)) ?_
 refine qq rfl rfl (zac (out:=ygi ⟨3,1,0,0,0,⟨0,0⟩,0,[]⟩) rfl (by rfl)) ?_
 refine qq rfl rfl (zac (out:=ygi (ylq 1)) rfl (by rfl)) ?_
 refine qv rfl rfl (u1 rfl rfl) ?_
 refine qq rfl rfl (zac (out:= [.list true 1 [[sv ⟨#[116,49]⟩],[sv ⟨#[116,50]⟩]],.list true 1 [[sv yda]],.list true 1 [[sv bxx]],.v (.slice none 0 0),.list true 9 (guE.map ygi),.v (.slice none 0 0),.v (.slice none 0 0),.v (.slice none 0 0)]) rfl (by rfl)) ?_
 refine rn ?_;exact zea (.cons _ _ _ _ (.agg _ _ _ _ _ _ _ rfl inferInstance inferInstance inferInstance rfl) .nil) (.trans (.drop [_] _ _) (.le (Sb.aggs (bs:=x4 guH) (by exact ⟨.unfull,.unfull,.unfull,.nil _ _,(.lists (by simp) ⟨⟨.refl _,.refl _,.refl _,.refl _,.refl _,.refl _,.refl _,.refl _,.nil _ _,trivial⟩,⟨.refl _,.refl _,.refl _,.refl _,.refl _,.refl _,.refl _,.refl _,.nil _ _,trivial⟩,⟨.refl _,.refl _,.refl _,.refl _,.refl _,.refl _,.refl _,.refl _,.nil _ _,trivial⟩,⟨.refl _,.refl _,.refl _,.refl _,.refl _,.refl _,.refl _,.refl _,.nil _ _,trivial⟩,⟨.refl _,.refl _,.refl _,.refl _,.refl _,.refl _,.refl _,.refl _,.nil _ _,trivial⟩,⟨.refl _,.refl _,.refl _,.refl _,.refl _,.refl _,.refl _,.refl _,.nil _ _,trivial⟩,trivial⟩),.nil _ _,.nil _ _,.nil _ _,trivial⟩)).le)) ⟨rfl,rfl⟩
theorem gA1:x3 Tryz.prog 33 [.agg (x4 guH)] (.glob 0 117 x5:: .glob 3 148 y7:: .glob 5 276 y9:: .glob 6 279 y4:: .glob 2 197 v7:: []) (fun r h'=>h'= .glob 0 117 x5:: .glob 3 148 y7:: .glob 5 276 y9:: .glob 6 279 y4:: .glob 2 197 v7:: []∧r= .tup [zct [⟨0,0,14⟩],iv 0]):=(zh9 guH yc2).mono fun _ _ q=>⟨q.1,by rw [q.2,yjy,znc]⟩
theorem gA2:x3 Tryz.prog 40 [.agg (x4 guH),iv 0,iv 1] (.glob 1 193 zcr:: .glob 0 117 x5:: .glob 3 148 y7:: .glob 5 276 y9:: .glob 6 279 y4:: .glob 2 197 v7:: []) (fun r h'=>h'= .glob 1 193 zcr:: .glob 0 117 x5:: .glob 3 148 y7:: .glob 5 276 y9:: .glob 6 279 y4:: .glob 2 197 v7:: []∧r= .tup [.agg (x4 zs5),iv 0]):=(zxh guH yc2 0 1).mono fun _ _ q=>⟨q.1,by rw [q.2,yjw,yjx]⟩
theorem gA3:x3 Tryz.prog 34 [.agg (x4 zs5)] (.glob 0 117 x5:: .glob 3 148 y7:: .glob 5 276 y9:: .glob 6 279 y4:: .glob 2 197 v7:: []) (fun r h'=>h'= .glob 0 117 x5:: .glob 3 148 y7:: .glob 5 276 y9:: .glob 6 279 y4:: .glob 2 197 v7:: []∧r= .tup [bv false,iv 0]):=(zxj zs5 zxm).mono fun _ _ q=>⟨q.1,by rw [q.2,yj4,zf0]⟩
theorem gA4:x3 Tryz.prog 35 [.agg (x4 zs5)] (.glob 0 117 x5:: .glob 3 148 y7:: .glob 5 276 y9:: .glob 6 279 y4:: .glob 2 197 v7:: []) (fun r h'=>h'= .glob 0 117 x5:: .glob 3 148 y7:: .glob 5 276 y9:: .glob 6 279 y4:: .glob 2 197 v7:: []∧r= .tup [ydb [⟨1,0,1,0,1,4⟩],zfy [0],iv 0]):=(yf5 zs5 zxm).mono fun _ _ q=>⟨q.1,by rw [q.2,zs6,zf0];simp only [List.map_cons,List.map_nil,yf8]⟩
theorem gEq {f g:Bool}:x3 Tryz.prog 37 [.list f 3 ([(⟨0,0,14⟩:Grd)].map zjm),.list g 3 ([(⟨0,0,14⟩:Grd)].map zjm)] [] (fun r h'=>h'= []∧r=bv true):=(ybr [⟨0,0,14⟩] [⟨0,0,14⟩] (by decide) (by decide)).mono fun _ _ q=>⟨q.1,by rw [q.2,decide_eq_true rfl]⟩
theorem gEi {f g:Bool}:x3 Tryz.prog 39 [.list f 1 ([(0:Int)].map zba),.list g 1 ([(0:Int)].map zba)] [] (fun r h'=>h'= []∧r=bv true):=(ybq [0] [0] (by decide) (by decide)).mono fun _ _ q=>⟨q.1,by rw [q.2,zxv ybb];simp⟩
theorem ydu  :x3 Tryz.prog 31 [] (.glob 1 193 zcr:: .glob 0 117 x5:: .glob 3 148 y7:: .glob 5 276 y9:: .glob 6 279 y4:: .glob 2 197 v7:: []) (fun r h'=>h'= .glob 1 193 zcr:: .glob 0 117 x5:: .glob 3 148 y7:: .glob 5 276 y9:: .glob 6 279 y4:: .glob 2 197 v7:: []∧r=bv true):=by
 refine z6 Tryz.func31 rfl rfl rfl ?_
 refine rn ?_;refine qv rfl rfl (y6 rfl rfl (y3.pure (R:=fun r=>r= .agg (x4 guH)) (y3.of_fun zvs))) ?_
 refine qv rfl rfl (y6 rfl rfl (y3.qt (y3.of_fun gA1) ((pt1 _ _ _).trans (.cons _ ((pt1 _ _ _).trans (.cons _ ((pt1 _ _ _).trans (.cons _ ((pt1 _ _ _).trans (.cons _ (pt1 _ _ _))))))))))) ?_
 refine rn ?_;refine qv rfl rfl (y6 rfl rfl (y3.pure (R:=fun r=>r= .agg (x4 guH)) (y3.of_fun zvs))) ?_
 refine qv rfl rfl (y6 rfl rfl (y3.qt (y3.of_fun gA2) (.refl _))) ?_
 refine rn ?_;refine z7 rfl (x6 rfl fun b3=> ?_)
 refine rn ?_;refine qv rfl rfl (y6 rfl rfl (y3.qt (y3.of_fun gA3) ((pt2 _ _ _ _).trans (.cons _ ((pt2 _ _ _ _).trans (.cons _ ((pt2 _ _ _ _).trans (.cons _ ((pt2 _ _ _ _).trans (.cons _ (pt2 _ _ _ _))))))))))) ?_
 refine rn ?_;refine qv rfl rfl (y6 rfl rfl (y3.qt (y3.of_fun gA4) ((pt2 _ _ _ _).trans (.cons _ ((pt2 _ _ _ _).trans (.cons _ ((pt2 _ _ _ _).trans (.cons _ ((pt2 _ _ _ _).trans (.cons _ (pt2 _ _ _ _))))))))))) ?_
 refine q1 ?_;refine q1 ?_;refine q1 ?_;refine q1 ?_;refine q1 ?_;refine q1 ?_;refine q1 ?_;refine u3 (j8 ?_)
 refine x9 (y5 ?_)
 refine q1 ?_;refine q1 ?_;refine q1 ?_;refine q1 ?_;refine q1 ?_;refine q1 ?_;refine q1 ?_;refine q1 ?_;refine q1 ?_;refine q1 ?_;refine q1 ?_;refine q1 ?_;refine q1 ?_;refine q1 ?_;refine q1 ?_;refine q1 ?_;refine q1 ?_;refine q1 ?_;refine q1 ?_;refine q1 ?_;refine qq rfl rfl (zac (out:= [iv 0,iv 0,iv 14]) rfl (by rfl)) ?_
 refine qv rfl rfl (u1 rfl rfl) ?_
 refine qv rfl rfl (y6 rfl rfl (y3.pure (R:=fun r=>r=bv true) (y3.of_fun gEq))) ?_
 refine q1 ?_;refine q1 ?_;refine q1 ?_;refine q1 ?_;refine q1 ?_;refine q1 ?_;refine q1 ?_;refine q1 ?_;refine qq rfl rfl (za2 (i:=0) rfl rfl rfl) ?_
 refine rn ?_;refine qv rfl rfl (u1 rfl rfl) ?_
 refine qv rfl rfl (y6 rfl rfl (y3.pure (R:=fun r=>r=bv true) (y3.of_fun gEi))) ?_
 refine rn ?_;refine rq 1 ?_
 exact ⟨rfl,rfl⟩
theorem zpx {h:Hist} {N:Nat} (la:Lim N h) {w:List Wan} (hw:w.length≤N):Lim N (zai h w):=⟨la.ts,la.ss,la.os,la.ps,la.evs,la.ords,la.mats,hw,la.scans,la.ordts,la.matts⟩
theorem zlu {h:Hist} {N:Nat} (la:Lim N h) (hc:q8 h=0):Lim N (zai h (k8 h)):=zpx la (Nat.le_trans (zjz (zb7 hc)) la.ss)
theorem zik {h:Hist} (hc:q8 h=0):q8 (zai h (k8 h))=0:=zg5 hc (zb7 hc)
theorem yl2 {h:Hist} (hc:q8 h=0):stH h=zai h (k8 h):=if_pos hc
theorem zxi (h:Hist) (la:Lim 4611686018427387904 h) (hc:q8 h=0):x3 Tryz.prog 41 [.agg (x4 h)] (.glob 0 117 x5:: .glob 3 148 y7:: .glob 5 276 y9:: .glob 6 279 y4:: .glob 2 197 v7:: []) (fun r h'=>h'= .glob 0 117 x5:: .glob 3 148 y7:: .glob 5 276 y9:: .glob 6 279 y4:: .glob 2 197 v7:: []∧r= .tup [.agg (x4 (zai h (k8 h))),iv 0]):=(ybh h la).mono fun _ _ q=>⟨q.1,by rw [q.2,yl2 hc,hc]⟩
structure Shown (h:Hist) (s g:Int) (M:List (Int×Int)) (e l o:Int) (p q:Nat):Prop where
 is:isO h s ⟨g,e,l,o,p,q⟩=true
 m0:M[0]? =some (e,l)
 ix:zbl (fun a=>a==e) 0 (zen h.evs s) < zbl (fun a=>a==l) 0 (zen h.evs s)
 hp:p < h.evs.length
 hq:q < h.evs.length
 tp:h.evs[p].t=e
 tq:h.evs[q].t=l
 op:h.evs[p].o=o
 oq:h.evs[q].o=o
 rk:∃r1 r2,yig h o h.evs[p].v=(r1,true)∧yig h o h.evs[q].v=(r2,true)∧r2 < r1
structure LackShown (h:Hist) (s b:Int) (z:Brch):Prop where
 zg:z.g=b
 ne:eaS h s b≠ []
 is:(isG z.g && decide (z∈eaS h s z.g))=true
theorem ylv (s:Int) {n:Nat} (hn:0 < n):∃k:Nat,k < n∧(IntKind.u64.wrap s).tmod (n:Int)=(k:Int):=by
 have h0:0≤IntKind.u64.wrap s:=Int.emod_nonneg _ (by decide)
 have h1:=Int.tmod_nonneg (n:Int) h0
 have h2:=Int.tmod_lt_of_pos (IntKind.u64.wrap s) (show (0:Int) < n by omega)
 exact ⟨((IntKind.u64.wrap s).tmod (n:Int)).toNat,by omega,by omega⟩
theorem zlr {h:Hist} (hc:q8 h=0):(zb1 h).length=h.ss.length:=by rw [zls hc,oM,upR,oM,List.length_range]
theorem ych {h:Hist} (hc:q8 h=0) {k:Nat} (hk:k < h.ss.length):((zb1 h).map zjm)[k]? =some (zjm ⟨k,ydg h.wants k,zk6 h k⟩):=by
 rw [zls hc,List.getElem?_map,List.getElem?_map,upR,List.getElem?_map,List.getElem?_range hk];rfl
theorem znw {h:Hist} (hc:q8 h=0) {k b:Nat} (hk:k < h.ss.length) (hb:b < 16):WOk h.ss.length (zcd (k8 h) k b):=zi7 (zb7 hc) ⟨by omega,by omega⟩ ⟨by omega,by omega⟩
theorem zyp {h:Hist} (hc:q8 h=0) {k b:Nat} (hk:k < h.ss.length) (hb:b < 16):wiC (zai h (k8 h)) k b=0:=by
 refine zze (zik hc) (zm8.2 ⟨by omega,by show (k:Int) < h.ss.length;omega⟩) (by omega) ?_
 show ¬(zfk (k8 h) k b).length > 3000
 rw [zp5 (zb7 hc).1]
 have h1:=zjz (znw hc hk hb)
 have h2:=(zd9 hc).ss
 omega
theorem yb9 {h:Hist} (hc:q8 h=0) {k b:Nat} (hk:k < h.ss.length) (hb:b < 16):wiH (zai h (k8 h)) k b=zai h (zcd (k8 h) k b):=by
 rw [yds (zyp hc hk hb)]
 show zai h (zfk (k8 h) k b)=_
 rw [zp5 (zb7 hc).1]
theorem zij {h:Hist} (hc:q8 h=0) {k b:Nat} (hk:k < h.ss.length) (hb:b < 16):q8 (zai h (zcd (k8 h) k b))=0:=zg5 hc (znw hc hk hb)
theorem zyr {h:Hist} (hc:q8 h=0) {k b j:Nat} (hk:k < h.ss.length) (hb:b < 16) (hj:j < h.ss.length):((zb1 (zai h (zcd (k8 h) k b))).map zjm)[j]? =some (zjm ⟨j,zn6 (zcd (k8 h) k b) j,zk6 h j⟩):=by
 rw [zpw hc (znw hc hk hb),List.getElem?_map,List.getElem?_map,upR,List.getElem?_map,List.getElem?_range hj];rfl
theorem zyq {h:Hist} (hc:q8 h=0) {k b:Nat} (hk:k < h.ss.length) (hb:b < 16):((zb1 (zai h (zcd (k8 h) k b))).map zjm)[k]? =some (zjm ⟨k,b,zk6 h k⟩):=by
 rw [zyr hc hk hb hk,zhx (zb7 hc).1,if_pos rfl]
theorem ybk {h:Hist} (hc:q8 h=0) {k b:Nat} (hk:k < h.ss.length) (hb:b < 16):(riO (zai h (zcd (k8 h) k b)) !=(bI .andNot .i64 (b:Int) (zk6 h (k:Int))==0))=false:=by
 rw [zz4 (zij hc hk hb),zrg hc (by omega) (by omega) ⟨by omega,by omega⟩];simp
theorem zvn {h:Hist} (hn:(((h.ss.map za7).length:Int)==0)=true):zb1 h= []:=by
 by_cases hc:q8 h=0
 ·have:(((h.ss.map za7).length:Nat):Int)=0:=by simpa using hn
  rw [oM] at this
  have h2:=zlr hc
  exact List.length_eq_zero_iff.1 (by omega)
 ·exact zlt hc
theorem yev (h:Hist) (la:Lim 4611686018427387904 h) (hc:q8 h=0):x3 Tryz.prog 45 [.agg (x4 (zai h (k8 h)))] (.glob 3 148 y7:: .glob 5 276 y9:: .glob 6 279 y4:: .glob 2 197 v7:: []) (fun r h'=>h'= .glob 3 148 y7:: .glob 5 276 y9:: .glob 6 279 y4:: .glob 2 197 v7:: []∧r=bv true):=(yco (zai h (k8 h)) (zlu la hc)).mono fun _ _ q=>⟨q.1,by rw [q.2,zbe.1 (zik hc)]⟩
theorem yf3 (h:Hist) (la:Lim 4611686018427387904 h) (hc:q8 h=0) {k b:Nat} (hk:k < h.ss.length) (hb:b < 16):x3 Tryz.prog 40 [.agg (x4 (zai h (k8 h))),iv (k:Nat),iv (b:Nat)] (.glob 1 193 zcr:: .glob 0 117 x5:: .glob 3 148 y7:: .glob 5 276 y9:: .glob 6 279 y4:: .glob 2 197 v7:: []) (fun r h'=>h'= .glob 1 193 zcr:: .glob 0 117 x5:: .glob 3 148 y7:: .glob 5 276 y9:: .glob 6 279 y4:: .glob 2 197 v7:: []∧r= .tup [.agg (x4 (zai h (zcd (k8 h) k b))),iv 0]):=(zxh (zai h (k8 h)) (zlu la hc) k b).mono fun _ _ q=>⟨q.1,by rw [q.2,yb9 hc hk hb,zyp hc hk hb]⟩
theorem ztq {h:Hist} {N:Nat} (la:Lim N h) (hc:q8 h=0) {k b:Nat} (hk:k < h.ss.length) (hb:b < 16):Lim N (zai h (zcd (k8 h) k b)):=zpx la (Nat.le_trans (zjz (znw hc hk hb)) la.ss)
theorem ybi (h:Hist) (la:Lim 4611686018427387904 h) (hc:q8 h=0) {k b:Nat} (hk:k < h.ss.length) (hb:b < 16):x3 Tryz.prog 34 [.agg (x4 (zai h (zcd (k8 h) k b)))] (.glob 0 117 x5:: .glob 3 148 y7:: .glob 5 276 y9:: .glob 6 279 y4:: .glob 2 197 v7:: []) (fun r h'=>h'= .glob 0 117 x5:: .glob 3 148 y7:: .glob 5 276 y9:: .glob 6 279 y4:: .glob 2 197 v7:: []∧r= .tup [bv (riO (zai h (zcd (k8 h) k b))),iv 0]):=(zxj (zai h (zcd (k8 h) k b)) (ztq la hc hk hb)).mono fun _ _ q=>⟨q.1,by rw [q.2,zij hc hk hb]⟩
theorem ybg (h:Hist) (la:Lim 4611686018427387904 h) (hc:q8 h=0) {k b:Nat} (hk:k < h.ss.length) (hb:b < 16):x3 Tryz.prog 33 [.agg (x4 (zai h (zcd (k8 h) k b)))] (.glob 0 117 x5:: .glob 3 148 y7:: .glob 5 276 y9:: .glob 6 279 y4:: .glob 2 197 v7:: []) (fun r h'=>h'= .glob 0 117 x5:: .glob 3 148 y7:: .glob 5 276 y9:: .glob 6 279 y4:: .glob 2 197 v7:: []∧r= .tup [zct (zb1 (zai h (zcd (k8 h) k b))),iv 0]):=(zh9 (zai h (zcd (k8 h) k b)) (ztq la hc hk hb)).mono fun _ _ q=>⟨q.1,by rw [q.2,zij hc hk hb]⟩
theorem zna (x:Hist) (session:Int) (lb:Lim 4611686018427387904 x)  :x3 Tryz.prog 9 [.agg (x4 x),iv session] (.glob 1 193 zcr:: .glob 0 117 x5:: .glob 3 148 y7:: .glob 5 276 y9:: .glob 6 279 y4:: .glob 2 197 v7:: []) (fun r h'=>h'= .glob 1 193 zcr:: .glob 0 117 x5:: .glob 3 148 y7:: .glob 5 276 y9:: .glob 6 279 y4:: .glob 2 197 v7:: []∧r=bv true):=by
 refine z6 Tryz.func9 rfl rfl rfl ?_
 refine rn ?_;refine z7 rfl (w6 rfl rfl rfl fun b2=> ?_)
 refine rn ?_;refine qv rfl rfl (y6 rfl rfl (y3.qt (y3.of_fun ydu) ((pt1 _ _ _).trans (.cons _ ((pt1 _ _ _).trans (.cons _ ((pt1 _ _ _).trans (.cons _ ((pt1 _ _ _).trans (.cons _ ((pt1 _ _ _).trans (.cons _ (pt1 _ _ _))))))))))))) ?_
 refine rn ?_;refine z8 rfl (fun hc19=> ?_) (fun hc19=> ?_)
 ·exact absurd hc19 (by decide)
 ·refine rn ?_;refine qv rfl rfl (y6 rfl rfl (zax (ym9 x lb) (Sbs.refl _))) ?_
  refine z7 rfl (x6 rfl fun b5=> ?_)
  refine rn ?_;refine qv rfl rfl (y6 rfl rfl (y3.qt (y3.of_fun (zh9 (zjp x) ((zfc x).mono (by decide)))) ((pt3 _ _ _ _ _).trans (.cons _ ((pt3 _ _ _ _ _).trans (.cons _ ((pt3 _ _ _ _ _).trans (.cons _ ((pt3 _ _ _ _ _).trans (.cons _ (pt3 _ _ _ _ _))))))))))) ?_
  refine rn ?_;refine q9 (fun hg5_2=> ?_) (fun hg5_2=> ?_)
  ·refine rn ?_;refine z8 rfl (fun hc34=> ?_) (fun hc34=> ?_)
   ·have ht:zb1 (zjp x)= []:=by
     first
     |exact zlt (by simpa using hg5_2)
     |exact zvn hc34
    rw [ht]
    refine x9 (y5 ?_)
    refine q1 ?_;refine q1 ?_;refine qq rfl rfl (zed (c:=true) rfl rfl rfl) ?_
    refine rn ?_;first|(refine rq 1 ?_;exact ⟨rfl,rfl⟩)|(refine rq 2 ?_;exact ⟨rfl,rfl⟩)|(refine rq 3 ?_;exact ⟨rfl,rfl⟩)|(refine rq 4 ?_;exact ⟨rfl,rfl⟩)
   ·first|cases hc34|exact absurd hc34 (by decide)|(exfalso;simp_all;done)
  ·refine rn ?_;refine z8 rfl (fun hc34=> ?_) (fun hc34=> ?_)
   ·have ht:zb1 (zjp x)= []:=by
     first
     |exact zlt (by simpa using hg5_2)
     |exact zvn hc34
    rw [ht]
    refine x9 (y5 ?_)
    refine q1 ?_;refine q1 ?_;refine qq rfl rfl (zed (c:=true) rfl rfl rfl) ?_
    refine rn ?_;first|(refine rq 1 ?_;exact ⟨rfl,rfl⟩)|(refine rq 2 ?_;exact ⟨rfl,rfl⟩)|(refine rq 3 ?_;exact ⟨rfl,rfl⟩)|(refine rq 4 ?_;exact ⟨rfl,rfl⟩)
   ·have hc:q8 (zjp x)=0:=by simpa using hg5_2
    have hn0:0 < (zjp x).ss.length:=by
     have q:(((((zjp x).ss.map za7).length:Nat):Int)==0)=false:=hc34
     rw [oM] at q
     have q2:(((zjp x).ss.length:Nat):Int)≠0:=by simpa using q
     omega
    have lss:=(zfc x).ss
    obtain ⟨k,hk,ek⟩:=ylv session hn0
    refine zab ?_;refine j8 ?_;refine x9 (y5 ?_)
    refine q1 ?_;refine qq rfl rfl (zaz (m:=IntKind.u64.wrap session) rfl rfl) ?_
    refine q1 ?_;refine q1 ?_;refine q1 ?_;refine qq rfl rfl (zaz (m:=(((zjp x).ss.map za7).length:Int)) rfl (zhb (by rw [oM];omega))) ?_
    refine qq rfl rfl (ycp (c:=(k:Int)) rfl rfl (by rw [oM];omega) (by rw [oM];exact ek)) ?_
    refine qq rfl rfl (zaz (m:=(k:Int)) rfl (zho (by omega))) ?_
    refine rn ?_;refine qv rfl rfl (y6 rfl rfl (y3.qt (y3.of_fun (zxi (zjp x) ((zfc x).mono (by decide)) hc)) ((pt3 _ _ _ _ _).trans (.cons _ ((pt3 _ _ _ _ _).trans (.cons _ ((pt3 _ _ _ _ _).trans (.cons _ ((pt3 _ _ _ _ _).trans (.cons _ (pt3 _ _ _ _ _))))))))))) ?_
    refine rn ?_;refine z7 rfl (x6 rfl fun b9=> ?_)
    first|refine z7 rfl (za3 rfl rfl rfl ?_)|refine z7 rfl (zbs rfl rfl rfl rfl (Nat.le_of_ble_eq_true rfl) ?_)
    refine q1 ?_;refine u3 (j8 ?_)
    refine x9 ?_;refine x9 (y5 ?_)
    refine q1 ?_;refine qq rfl rfl (zed (c:=false) rfl rfl (congrArg some (bne_self_eq_false _))) ?_
    refine rn ?_;refine qv rfl rfl (y6 rfl rfl (y3.qt (y3.of_fun (yev (zjp x) ((zfc x).mono (by decide)) hc)) ((pt5 _ _ _ _ _ _ _).trans (.cons _ ((pt5 _ _ _ _ _ _ _).trans (.cons _ ((pt5 _ _ _ _ _ _ _).trans (.cons _ (pt5 _ _ _ _ _ _ _))))))))) ?_
    refine rn ?_;refine z8 rfl (fun hc57=> ?_) (fun hc57=> ?_)
    ·exact absurd hc57 (by decide)
    ·refine rn ?_;refine ztm (16) (fun i:Nat=>True) (fun i=> [(58,iv i)]) [(6,_),(8,_),(9,_)] trivial ?_
     intro i li _
     refine rn ?_;refine z8 rfl (fun hc59=> ?_) (fun hc59=> ?_)
     ·have hi:i < 16:=by have q:=oT hc59;omega
      have rk1:=ych hc hk
      have rk2:=zyq hc hk hi
      have hne:=ybk hc hk hi
      refine rn ?_;refine qv rfl rfl (y6 rfl rfl (y3.qt (y3.of_fun (yf3 (zjp x) ((zfc x).mono (by decide)) hc hk hi)) ((pt3 _ _ _ _ _).trans (.cons _ ((pt3 _ _ _ _ _).trans (.cons _ ((pt3 _ _ _ _ _).trans (.cons _ ((pt3 _ _ _ _ _).trans (.cons _ ((pt3 _ _ _ _ _).trans (.cons _ (pt3 _ _ _ _ _))))))))))))) ?_
      refine rn ?_;refine z7 rfl (x6 rfl fun b11=> ?_)
      refine rn ?_;refine qv rfl rfl (y6 rfl rfl (y3.qt (y3.of_fun (ybi (zjp x) ((zfc x).mono (by decide)) hc hk hi)) ((pt5 _ _ _ _ _ _ _).trans (.cons _ ((pt5 _ _ _ _ _ _ _).trans (.cons _ ((pt5 _ _ _ _ _ _ _).trans (.cons _ ((pt5 _ _ _ _ _ _ _).trans (.cons _ (pt5 _ _ _ _ _ _ _))))))))))) ?_
      refine q1 ?_;refine q1 ?_;refine q1 ?_;refine q1 ?_;refine q1 ?_;refine u3 (j8 ?_)
      refine x9 ?_;refine x9 (y5 ?_)
      refine q1 ?_;refine qq rfl rfl (zed (c:=false) rfl rfl (congrArg some (bne_self_eq_false _))) ?_
      refine q1 ?_;refine q1 ?_;refine qq rfl rfl (zed (c:=false) rfl rfl (congrArg some (bne_self_eq_false _))) ?_
      refine q1 ?_;refine q1 ?_;refine q1 ?_;refine q1 ?_;refine q1 ?_;refine q1 ?_;refine qq rfl rfl (za2 rfl rfl rk1) ?_
      refine q1 ?_;refine q1 ?_;refine q1 ?_;refine q1 ?_;refine qq rfl rfl (yiw (c:=false) (zoi rfl rfl) (by exact hne)) ?_
      refine rn ?_;refine z8 rfl (fun hc90=> ?_) (fun hc90=> ?_)
      ·exact absurd hc90 (by decide)
      ·refine zab ?_;refine j8 ?_;refine x9 ?_;refine x9 (y5 ?_)
       refine q1 ?_;refine qq rfl rfl (ycp (c:=((i % 5:Nat):Int)) rfl rfl (by decide) (by rfl)) ?_
       refine rn ?_;refine z8 rfl (fun hc93=> ?_) (fun hc93=> ?_)
       ·refine rn ?_;exact ⟨hi,trivial,eA⟩
       ·refine rn ?_;refine qv rfl rfl (y6 rfl rfl (y3.qt (y3.of_fun (ybg (zjp x) ((zfc x).mono (by decide)) hc hk hi)) ((pt5 _ _ _ _ _ _ _).trans (.cons _ ((pt5 _ _ _ _ _ _ _).trans (.cons _ ((pt5 _ _ _ _ _ _ _).trans (.cons _ ((pt5 _ _ _ _ _ _ _).trans (.cons _ (pt5 _ _ _ _ _ _ _))))))))))) ?_
        refine q1 ?_;refine q1 ?_;refine q1 ?_;refine q1 ?_;refine q1 ?_;refine u3 (j8 ?_)
        refine x9 ?_;refine x9 (y5 ?_)
        refine q1 ?_;refine qq rfl rfl (zed (c:=false) rfl rfl (congrArg some (bne_self_eq_false _))) ?_
        refine q1 ?_;refine q1 ?_;refine q1 ?_;refine qq rfl rfl (za2 rfl rfl rk2) ?_
        refine q1 ?_;refine q1 ?_;refine q1 ?_;refine qq rfl rfl (zed (c:=false) rfl rfl (congrArg some (bne_self_eq_false _))) ?_
        refine rn ?_;refine z8 rfl (fun hc109=> ?_) (fun hc109=> ?_)
        ·exact absurd hc109 (by decide)
        ·refine rn ?_;have lT:=tab_len (zjp x)
         refine ztm ((zb1 (zjp x)).length) (fun j:Nat=>True) (fun j=> [(112,iv j)]) [(6,_),(8,_),(9,_),(15,_),(58,_),(111,_)] trivial ?_
         intro j lj _
         refine rn ?_;refine z8 rfl (fun hc113=> ?_) (fun hc113=> ?_)
         ·have hj:j < (zb1 (zjp x)).length:=zdr hc113
          have hj2:j < (zjp x).ss.length:=by rw [←zlr hc];exact hj
          have rj1:=ych hc hj2
          have rj2:=zyr hc hk hi hj2
          refine rn ?_;refine j5 10 rfl ?_
          refine dq rfl rfl qrA ?_;refine dq rfl rfl qrA ?_;refine dq rfl rfl (za2 rfl rfl rj2) ?_
          refine dq rfl rfl qrA ?_;refine dq rfl rfl qrA ?_;refine dq rfl rfl qrA ?_;refine dq rfl rfl qrA ?_;refine dq rfl rfl (za2 rfl rfl rj1) ?_
          refine rn2 ?_;refine qq rfl rfl (zed (c:=false) rfl rfl (congrArg some (bne_self_eq_false _))) ?_
          refine rn ?_;refine z8 rfl (fun hc125=> ?_) (fun hc125=> ?_)
          ·exact absurd hc125 (by decide)
          ·refine rn ?_;exact ⟨hj,trivial,eA⟩
         ·refine rn ?_;exact ⟨hi,trivial,eA⟩
     ·refine rn ?_;first|(refine rq 1 ?_;exact ⟨rfl,rfl⟩)|(refine rq 2 ?_;exact ⟨rfl,rfl⟩)|(refine rq 3 ?_;exact ⟨rfl,rfl⟩)|(refine rq 4 ?_;exact ⟨rfl,rfl⟩)
end Go.Proofs
