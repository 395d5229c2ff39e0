/- strings.Join over a row of one's own (the kit's shelf has walked it). Conditions: none. To be built over the variant of the library that mkab2.py prints. -/
import Derived.Test.YtcaijocpofcbdaaGreatDoorGTeK
import Derived.Shelf.Strings.OnBuilder
set_option maxHeartbeats 4000000
set_option linter.unusedSectionVars false
set_option linter.unusedSimpArgs false
set_option linter.unusedVariables false
namespace Go.Ab
open Go Go.Shelf Go.Proofs Go.H
theorem yfp {X:Nat→Prop} {w:World} {a:Addr} {cap:Nat} {T:TypeId} {xs:List ByteArray} (hh:HRel X w [.row (.slice (some a) xs.length cap) 1 T (xs.map za2)]):(∀(j:Nat) x,xs[j]? =some x→w.cell? ⟨a.block,a.off+j,none⟩=some (.string x))∧a.block < w.heap.size∧xs.length≤cap∧a.spot=none:=by
 obtain ⟨h1,h2,h3,h4,c,h5,h6,h7⟩:=hh.holds _ (List.mem_singleton.2 rfl)
 refine ⟨fun j x hx=> ?_,(hh.lt a.block (by simp [j3,Res.own])).1,h3,h1⟩
 obtain ⟨hj2,rfl⟩:=List.getElem?_eq_some_iff.1 hx
 obtain ⟨v,e,r⟩:=h7 j (by simpa using hj2) 0 (by simp [za2])
 simp only [List.getElem_map] at r
 have hv:v= .string xs[j]:=r.v_eq
 subst hv
 have e0:a.off+j * 1+0=a.off+j:=by omega
 rw [e0] at e
 simp [World.cell?,h5,e]
theorem yfr {X:Nat→Prop} {w:World} {n cap:Nat} {T:TypeId} {xs:List ByteArray} (hh:HRel X w [.row (.slice none n cap) 1 T (xs.map za2)]):xs= []∧n=0∧cap=0:=by
 obtain ⟨h1,h2,h3⟩:=hh.holds _ (List.mem_singleton.2 rfl)
 exact ⟨by simpa using h1,h2,h3⟩
section
variable {P:Program} {ρ:Ren}
theorem zzd (L:Lays.n156 P ρ) (E:Builder.Extra P ρ) (s:SV) (T:TypeId) (xs:List ByteArray) (sep:ByteArray) (hx:xs.length≤140737488355328) (hl:(Lib.join (xs.map (·.data.toList)) sep.data.toList).length≤140737488355328):
 y8 P (ρ.f 156) [.v s.v,.v (.string sep)] [.row s.v 1 T (xs.map za2)] (fun r h'=>h'= [.row s.v 1 T (xs.map za2)]∧∃t:ByteArray,r= .v (.string t)):=by
 intro X w vs hh ha
 match vs,ha with
 | [v,v2],⟨hv,hv2,_⟩=>
   obtain rfl:=hv.v_eq
   obtain rfl:=hv2.v_eq
   obtain ⟨a,n,cap⟩:=s
   cases a with
   |none=>
    obtain ⟨rfl,rfl,rfl⟩:=yfr hh
    refine callsIn_wide.2 ((Any.strings_Join_none L E none 0 sep w).mono ?_)
    rintro e w' ⟨rfl,rfl⟩
    exact ⟨_,_,_,rfl,⟨rfl,_,rfl⟩,.v _,hh,.refl _ _⟩
   |some a=>
    have hn:n=xs.length:=by
     have:=(hh.holds _ (List.mem_singleton.2 rfl)).2.1
     simpa using this
    subst hn
    obtain ⟨g1,g2,g3,g4⟩:=yfp hh
    obtain ⟨b,off,sp⟩:=a
    simp only at g1 g2 g4
    subst g4
    refine callsIn_wide.2 ((Any.strings_Join L E b off cap xs sep w g1 g2 hx g3 hl).mono ?_)
    rintro e w' ⟨rfl,hb⟩
    exact ⟨_,_,_,rfl,⟨rfl,_,rfl⟩,.v _,hh.grow hb.size hb.block,.grow hb.size hb.block ⟨⟨hb.os,hb.output⟩,hb.tape,trivial⟩⟩
end
end Go.Ab
set_option maxRecDepth 100000
namespace Go.Proofs
open Go Go.Ab Go.Shelf
def yb7:Go.Shelf.Ren:=⟨fun|156=>126|165=>165|166=>166|169=>167|240=>198|241=>199|276=>217|277=>218|n=>n,fun|0=>0|3=>3|4=>4|5=>5|9=>9|20=>20|31=>22|37=>234|70=>233|72=>236|75=>239|76=>240|80=>242|127=>256|164=>269|n=>n,fun n=>n⟩
theorem yhd:Lays.n156 Tryz.prog yb7:={
 mixed:=by kernel_rfl
 f156:=Tryz.func126.trans (congrArg some (by kernel_rfl))
 f165:=Tryz.func165.trans (congrArg some (by kernel_rfl))
 f166:=Tryz.func166.trans (congrArg some (by kernel_rfl))
 f169:=Tryz.func167.trans (congrArg some (by kernel_rfl))
 f240:=Tryz.func198.trans (congrArg some (by kernel_rfl))
 f241:=Tryz.func199.trans (congrArg some (by kernel_rfl))
 f276:=Tryz.func217.trans (congrArg some (by kernel_rfl))
 f277:=Tryz.func218.trans (congrArg some (by kernel_rfl))
 t0:=Tryz.underlying0
 a0:=Tryz.isAgg0
 z0:=Tryz.sizeOf0
 v0:=Tryz.zeroValue0
 t3:=Tryz.underlying3
 a3:=Tryz.isAgg3
 z3:=Tryz.sizeOf3
 v3:=Tryz.zeroValue3
 t4:=Tryz.underlying4
 a4:=Tryz.isAgg4
 z4:=Tryz.sizeOf4
 v4:=Tryz.zeroValue4
 t9:=Tryz.underlying9
 a9:=Tryz.isAgg9
 z9:=Tryz.sizeOf9
 v9:=Tryz.zeroValue9
 t20:=Tryz.underlying20
 a20:=Tryz.isAgg20
 z20:=Tryz.sizeOf20
 v20:=Tryz.zeroValue20
 t31:=Tryz.underlying22
 a31:=Tryz.isAgg22
 z31:=Tryz.sizeOf22
 v31:=Tryz.zeroValue22
 t37:=Tryz.underlying234
 a37:=Tryz.isAgg234
 z37:=Tryz.sizeOf234
 v37:=Tryz.zeroValue234
 t70:=Tryz.underlying233
 a70:=Tryz.isAgg233
 z70:=Tryz.sizeOf233
 v70:=Tryz.zeroValue233
 t72:=Tryz.underlying236
 a72:=Tryz.isAgg236
 z72:=Tryz.sizeOf236
 v72:=Tryz.zeroValue236
 t75:=Tryz.underlying239
 a75:=Tryz.isAgg239
 z75:=Tryz.sizeOf239
 v75:=Tryz.zeroValue239
 t76:=Tryz.underlying240
 a76:=Tryz.isAgg240
 z76:=Tryz.sizeOf240
 v76:=Tryz.zeroValue240
 t127:=Tryz.underlying256
 a127:=Tryz.isAgg256
 z127:=Tryz.sizeOf256
 v127:=Tryz.zeroValue256
 t164:=Tryz.underlying269
 a164:=Tryz.isAgg269
 z164:=Tryz.sizeOf269
 v164:=Tryz.zeroValue269}
theorem yb8:Builder.Extra Tryz.prog yb7:={
 sizeBuilder:=by kernel_rfl
 liesBuilder:=by kernel_rfl
 t5:=Tryz.underlying5
 a5:=Tryz.isAgg5
 z5:=Tryz.sizeOf5
 v5:=Tryz.zeroValue5
 infoByte:=by kernel_rfl
 cellsByte:=by kernel_rfl
 sizeByte:=by kernel_rfl
 neB5:=by decide}
set_option maxRecDepth 10000
attribute [local irreducible] QR QV OE zcz aw zdg zbs zbh za1 thn zfx zed jch zfd
open Go.H
def wordB (k:Nat):ByteArray:=⟨#[[114,121,119],[109,114],[109,119],[119,102,114]][k]!.toArray⟩
def zd7:List AV:= [.v (.string (wordB 0)),.v (.string (wordB 1)),.v (.string (wordB 2)),.v (.string (wordB 3))]
theorem ywh {k:Nat} (hk:k < 4):∃x:ByteArray,zd7[0+k * 1]? =some (.v (.string x))∧x.size≤3:=by
 rcases (by omega:k=0∨k=1∨k=2∨k=3) with rfl|rfl|rfl|rfl
 ·exact ⟨_,rfl,by decide⟩
 ·exact ⟨_,rfl,by decide⟩
 ·exact ⟨_,rfl,by decide⟩
 ·exact ⟨_,rfl,by decide⟩
theorem zom:∀(xs:List ByteArray),(∀x∈xs,x.size≤3)→Lib.lens (xs.map (·.data.toList))≤3 * xs.length
 | [],_=>Nat.zero_le _
 |x::xs,h=>by
  have h1:=zom xs fun y hy=>h y (by simp [hy])
  have h2:=h x (by simp)
  have e:Lib.lens ((x::xs).map (·.data.toList))=x.data.toList.length+Lib.lens (xs.map (·.data.toList)):=by simp [Lib.lens]
  have e2:x.data.toList.length=x.size:=by rw [Array.length_toList];rfl
  rw [e,List.length_cons];omega
theorem zyz (xs:List ByteArray) (sep:ByteArray) (hs:sep.size≤1) (hx:xs.length≤4) (h:∀x∈xs,x.size≤3):(Lib.join (xs.map (·.data.toList)) sep.data.toList).length≤140737488355328:=by
 cases xs with
 |nil=>exact Nat.zero_le _
 |cons x r=>
  have h1:=zom (x::r) h
  have e2:sep.data.toList.length=sep.size:=by rw [Array.length_toList];rfl
  rw [List.map_cons] at h1 ⊢
  rw [Lib.join_length,oM,e2]
  rw [List.length_cons] at hx h1
  have h3:sep.size * r.length≤1 * r.length:=Nat.mul_le_mul_right _ hs
  omega
theorem yu9 (s:SV) (xs:List ByteArray) (sep:ByteArray) (hs:sep.size≤1) (hx:xs.length≤4) (h:∀x∈xs,x.size≤3) (W:List Res):y8 Tryz.prog 126 [.v s.v,.v (.string sep)] (.row s.v 1 9 (xs.map za2)::W) (fun r h'=>h'= .row s.v 1 9 (xs.map za2)::W∧∃t:ByteArray,r= .v (.string t)):=
 ((zzd yhd yb8 s 9 xs sep (by omega) (zyz xs sep hs hx h)).frame W).mono (by
   rintro _ _ ⟨_,rfl,rfl,t,rfl⟩
   exact ⟨rfl,t,rfl⟩)
def woC (g:Int):Int:=if g < 0∨g > 15 then 190 else 0
theorem yli (g:Int):∀{k:Nat},k < 4→∃c,zn9 .shr .i64 g (k:Nat)=some c
 |0,_=>⟨_,rfl⟩
 |1,_=>⟨_,rfl⟩
 |2,_=>⟨_,rfl⟩
 |3,_=>⟨_,rfl⟩
theorem yno (g:Int):y8 Tryz.prog 88 [iv g] (.glob 1 193 zd7:: []) (fun r h'=>h'= .glob 1 193 zd7:: []∧∃t:ByteArray,r= .tup [.v (.string t),iv (woC g)]):=by
 refine z6 Tryz.func88 rfl rfl rfl ?_
 refine rn ?_;refine x4 (fun hg1_2=> ?_) (fun hg1_2=> ?_)
 ·refine rn ?_;refine zdi rfl ?_;have hw:woC g=190:=by
   refine if_pos ?_;first
   |(have q:g < 0:=by simpa using hg1_2
     exact .inl q)
   |(have q:15 < g:=by simpa using hc11
     exact .inr q)
  refine rn ?_;first
  |exact zbw rfl rfl (.refl _ _) ⟨rfl,_,by rw [hw];rfl⟩
  |exact zbw rfl rfl (.drop [_] _ _) ⟨rfl,_,by rw [hw];rfl⟩
 ·refine rn ?_;refine z7 rfl (fun hc11=> ?_) (fun hc11=> ?_)
  ·have hw:woC g=190:=by
    refine if_pos ?_;first
    |(have q:g < 0:=by simpa using hg1_2
      exact .inl q)
    |(have q:15 < g:=by simpa using hc11
      exact .inr q)
   refine rn ?_;first
   |exact zbw rfl rfl (.refl _ _) ⟨rfl,_,by rw [hw];rfl⟩
   |exact zbw rfl rfl (.drop [_] _ _) ⟨rfl,_,by rw [hw];rfl⟩
  ·have hw:woC g=0:=if_neg (by have q1:=oF hg1_2;have q2:=oF hc11;omega)
   refine rn ?_;refine zes 4 (fun k (z:SV×List ByteArray)=>z.2.length≤k∧∀x∈z.2,x.size≤3) (fun k z=>⟨[(12,iv (k:Nat)),(4,.v z.1.v),(0,iv g)],.row z.1.v 1 9 ((z.2).map za2):: .glob 1 193 zd7:: [],[]⟩) (⟨none,0,0⟩,[]) ⟨Nat.le_refl _,by simp⟩ (w9 (k6 1 9) es) ?_
   rintro k ⟨v,xs⟩ lk ⟨hn,hX⟩
   simp only at hn hX
   show aw _ _ _ _ _ ⟨[(12,iv (k:Nat)),(4,.v v.v),(0,iv g)],.row v.v 1 9 ((xs).map za2):: .glob 1 193 zd7:: [],[]⟩
   refine rn ?_;refine z7 rfl (fun hc13=> ?_) (fun hc13=> ?_)
   ·have hk:k < 4:=by have q:=oT hc13;omega
    obtain ⟨c,hsh⟩:=yli g hk
    obtain ⟨x,hx,hxs⟩:=ywh hk
    refine zad ?_;refine j7 ?_;refine x8 ?_;refine zaj ?_;refine x8 (y5 ?_)
    refine q1 ?_;refine q1 ?_;refine u0 (j7 ?_)
    refine x8 (y5 ?_)
    refine q1 ?_;refine q1 ?_;refine qq rfl rfl (zgp (c:=c) rfl rfl hsh (Int.natCast_nonneg _)) ?_
    refine rn ?_;refine z7 rfl (fun hc19=> ?_) (fun hc19=> ?_)
    ·refine y5 ?_;refine q1 ?_;refine q1 ?_;refine qq rfl rfl (j6 (i:=k) rfl rfl (by omega)) ?_
     refine qq rfl rfl (zab rfl hx) ?_
     refine qv rfl rfl (q8 rfl rfl) ?_
     refine z8 rfl (u6 rfl rfl (by simp only [oM,List.length_cons,List.length_nil];omega) rfl (fun s25=> ?_) (fun r hr=>by rw [List.mem_singleton.1 hr];rfl))
     refine zaa s25 fun sv hsv=> ?_
     subst hsv
     refine rn ?_;exact ⟨hk,(sv,xs++ [x]),⟨by simp only [List.length_append,List.length_cons,List.length_nil];omega,fun y hy=>by
      rcases List.mem_append.1 hy with hy|hy
      ·exact hX y hy
      ·rw [List.mem_singleton.1 hy];exact hxs⟩,by simp only [List.map_append];exact eA⟩
    ·refine rn ?_;exact ⟨hk,(v,xs),⟨by simp only;omega,hX⟩,eA⟩
   ·refine rn ?_;refine z8 rfl (q7 rfl rfl (y3.of_fun (yu9 v xs _ (by decide) (by omega) hX _)) rfl ?_)
    rintro _ _ ⟨rfl,t,rfl⟩
    refine rn ?_;first
    |exact zbw rfl rfl (.refl _ _) ⟨rfl,_,by rw [hw];rfl⟩
    |exact zbw rfl rfl (.drop [_] _ _) ⟨rfl,_,by rw [hw];rfl⟩
end Go.Proofs
set_option maxRecDepth 100000
namespace Go.Proofs.YtcaijocpofcbdaaGreatDoor
open Go Go.Ab Go.H Go.ChangeShapes Go.WideShapes Go.ChangeAt Go.RowKit
def zp1:List (String×DataW Unit):= [("unicode/utf8.acceptRanges",Rows.laid_unicode_utf8_acceptRanges),("yardarm/level.words",Rows.laid_yardarm_level_words),("yardarm/history.limits",Rows.laid_yardarm_history_limits),("yardarm/rules.asks",Rows.laid_yardarm_rules_asks),("yardarm/session.guards",Rows.laid_yardarm_session_guards),("unicode/utf8.first",Rows.laid_unicode_utf8_first)]
def zmz:List (String×DataW Unit):= [("unicode/utf8.acceptRanges",Rows.laid_unicode_utf8_acceptRanges),("yardarm/level.words",Rows.laid_yardarm_level_words),("yardarm/history.limits",Rows.laid_yardarm_history_limits),("unicode/utf8.first",Rows.laid_unicode_utf8_first)]
theorem zws:(zp1.filter fun x=>x.2.handleName?.isNone)=zmz:=by kernel_rfl
theorem yha {W:World} (h:laidMetH Tryz.prog zp1 W):laidMet Tryz.prog zmz W:=by
 have:=(laidMetH_iff.1 h).1
 rw [zws] at this
 exact this
theorem ysf {w:World} (h:laidMetH Tryz.prog zp1 w):(Res.glob 2 197 u7).holds w noX:=by
 obtain ⟨g,t,cs,fuel,p,hg,ht,hv,hd⟩:=h.funcs (n:= "yardarm/rules.asks") (d:=yoq) (.tail _ (.tail _ (.tail _ (.head _))))
 obtain rfl:=Option.some.inj ((show Tryz.prog.globalNamed "yardarm/rules.asks" =some 2 by kernel_rfl).symm.trans hg)
 obtain rfl:=Option.some.inj ((show (Tryz.prog.globals[2]?).map (·.type)=some 197 by kernel_rfl).symm.trans ht)
 rw [ydx] at hd
 have c1:Tryz.prog.cellsOf 196=1:=by kernel_rfl
 have c11:Tryz.prog.cellsOf 197=11:=by kernel_rfl
 have hlen:cs.toList.length=11:=by
  obtain ⟨_,_,_,_,hl,_⟩:=DataW.trod_array Tryz.underlying197 hd
  rw [hl,c11]
 unfold World.var? at hv
 rw [hg] at hv
 simp only [Option.bind_some] at hv
 split at hv
 ·rename_i c T0 fr hh
  cases hv
  refine zw1 hh (by rw [show u7.length=11 from rfl];simpa using hlen.symm) fun j h1 h2=> ?_
  cases j with
  |zero=>exact .any _
  |succ k=>
   have hk:k < 10:=by have:u7.length=11:=rfl;omega
   obtain ⟨b,r,hn,hone,ha⟩:=yih k hk
   obtain ⟨f',d,q,e1,e2⟩:=Lib.array_elem Tryz.underlying197 hd (k+1) (by omega)
   have e1':d= .held (b::r):=by
    rw [List.getElem?_cons_succ,List.getElem?_map,List.getElem?_drop,Nat.add_comm 1 k,hn] at e1
    exact (Option.some.inj e1).symm
   subst e1'
   rw [c1,Nat.mul_one,List.drop_eq_getElem_cons (by simpa using h2),List.take_succ_cons,List.take_zero] at e2
   have:=func_of_trod (f0:=fnA.getD k 0) Tryz.underlying196 hone e2
   rw [Array.getElem_toList] at this
   rw [this,show u7[k+1]= .fn (.func (fnA.getD k 0)) [] [] from Option.some.inj ((List.getElem?_eq_getElem h1).symm.trans ha)]
   exact zju _ _
 ·cases hv
theorem yse {w:World} (h:laidMetH Tryz.prog zp1 w):(Res.glob 0 117 w7).holds w noX:=by
 obtain ⟨g,t,cs,fuel,p,hg,ht,hv,hd⟩:=h.funcs (n:= "yardarm/session.guards") (d:=yv8) (.tail _ (.tail _ (.tail _ (.tail _ (.head _)))))
 obtain rfl:=Option.some.inj ((show Tryz.prog.globalNamed "yardarm/session.guards" =some 0 by kernel_rfl).symm.trans hg)
 obtain rfl:=Option.some.inj ((show (Tryz.prog.globals[0]?).map (·.type)=some 117 by kernel_rfl).symm.trans ht)
 rw [yhi] at hd
 have c3:Tryz.prog.cellsOf 116=3:=by kernel_rfl
 have c12:Tryz.prog.cellsOf 117=12:=by kernel_rfl
 have hlen:cs.toList.length=4 * 3:=by
  obtain ⟨_,_,_,_,hl,_⟩:=DataW.trod_array Tryz.underlying117 hd
  rw [hl,c12]
 have hcs:cs.toList=guaV:=by
  refine (zxh 3 4 cs.toList (fun i=>(guaV.drop (i * 3)).take 3) hlen fun i hi=> ?_).trans rfl
  obtain ⟨f',d,q,e1,e2⟩:=Lib.array_elem Tryz.underlying117 hd i hi
  rw [c3] at e2
  match i,hi with
  |0,_=>obtain rfl:=Option.some.inj e1;exact zp5 ytx ytw e2
  |1,_=>obtain rfl:=Option.some.inj e1;exact zp5 ytw ytw e2
  |2,_=>obtain rfl:=Option.some.inj e1;exact zp5 ytx ytx e2
  |3,_=>obtain rfl:=Option.some.inj e1;exact zp5 ytw ytx e2
 unfold World.var? at hv
 rw [hg] at hv
 simp only [Option.bind_some] at hv
 split at hv
 ·rename_i c T0 fr hh
  cases hv
  have hc:cs=guaV.toArray:=by rw [←hcs]
  subst hc
  refine zw1 hh rfl fun j h1 h2=> ?_
  match j,h1 with
  |0,_=>exact .v _
  |1,_=>exact zju _ _
  |2,_=>exact zju _ _
  |3,_=>exact .v _
  |4,_=>exact zju _ _
  |5,_=>exact zju _ _
  |6,_=>exact .v _
  |7,_=>exact zju _ _
  |8,_=>exact zju _ _
  |9,_=>exact .v _
  |10,_=>exact zju _ _
  |11,_=>exact zju _ _
  |n+12,h1=>exact absurd h1 (by show ¬n+12 < 12;omega)
 ·cases hv
def ypc (k:Nat):List UInt8:= [[114,121,119],[109,114],[109,119],[119,102,114]][k]!
theorem yeu:(Rows.laid_yardarm_level_words:DataW Unit)= .agg ((List.range 4).map fun i=> .lit (.string (ypc i))):=by kernel_rfl
theorem ypr {s:ByteArray} {l:List UInt8} (h:s.data.toList=l):s=⟨l.toArray⟩:=by
 subst h;cases s;simp
theorem yvd {w:World} (h:Lib.VarReads Tryz.prog w "yardarm/level.words" Rows.laid_yardarm_level_words):(Res.glob 1 193 zd7).holds w noX:=by
 refine zp8 (vals:=(List.range 4).map fun i=>Value.string (wordB i)) (T:=193) h (by kernel_rfl) (show _=some 193 by kernel_rfl) fun fuel cs p hd=> ?_
 rw [yeu] at hd
 have c1:Tryz.prog.cellsOf 9=1:=by kernel_rfl
 have c4:Tryz.prog.cellsOf 193=4:=by kernel_rfl
 have hlen:cs.length=4 * 1:=by
  obtain ⟨_,_,_,_,hl,_⟩:=DataW.trod_array Tryz.underlying193 hd
  rw [hl,c4]
 refine (zxh 1 4 cs (fun i=> [Value.string (wordB i)]) hlen fun i hi=> ?_).trans rfl
 obtain ⟨f',d,q,h1,h2⟩:=Lib.array_elem Tryz.underlying193 hd i hi
 simp only [List.getElem?_map,List.getElem?_range hi,Option.map_some,Option.some.injEq] at h1
 subst h1
 rw [c1] at h2
 obtain ⟨s,e,ex,_⟩:=DataW.trod_string Tryz.underlying9 h2
 have e2:s.data.toList=ypc i:=by
  have:=congrArg Prod.fst ex
  simp only [DataW.lit.injEq,Lit.string.injEq] at this
  exact this.symm
 rw [e,ypr e2]
 match i,hi with
 |0,_=>rfl
 |1,_=>rfl
 |2,_=>rfl
 |3,_=>rfl
theorem yts:OO [.glob 1 193 zd7,.glob 0 117 w7,.glob 3 148 x6,.glob 5 276 x7,.glob 6 279 y7,.glob 2 197 u7] noX=noX:=by funext b;simp [OO,j3,noX,Res.own]
theorem zyw {W:World} (h:laidMetH Tryz.prog zp1 W):HRel noX W [.glob 1 193 zd7,.glob 0 117 w7,.glob 3 148 x6,.glob 5 276 x7,.glob 6 279 y7,.glob 2 197 u7]:=by
 have h':=yha h
 have h0:=yvg (Lib.laidMet.reads h' (.tail _ (.tail _ (.head _))))
 have h1:=yvf (Lib.laidMet.reads h' (.tail _ (.tail _ (.tail _ (.head _)))))
 have h2:=yve (Lib.laidMet.reads h' (.head _))
 have h3:=yvd (Lib.laidMet.reads h' (.tail _ (.head _)))
 refine ⟨by simp [j3,Res.own],fun b hb=>by simp [j3,Res.own] at hb,fun b hb=>hb.elim,fun r hr=> ?_⟩
 rw [yts]
 simp only [List.mem_cons,List.not_mem_nil,or_false] at hr
 rcases hr with rfl|rfl|rfl|rfl|rfl|rfl
 ·exact h3
 ·exact yse h
 ·exact h0
 ·exact h1
 ·exact h2
 ·exact ysf h
noncomputable def witW0 (os:Os):World:={World.holding Tryz.prog os ⟨#[], #[],[]⟩ with heap:=((World.holding Tryz.prog os ⟨#[], #[],[]⟩).heap.modify 2 (Lay.setRow yv0)).modify 0 (Lay.setRow guaV)}
noncomputable def witW (os:Os):World:=(witW0 os).layVars Tryz.prog zmz
theorem ykl (os:Os):(witW os).os=os:=World.layVars_os _ _ _
theorem yew (os:Os) (args:Array Value):laidMetH Tryz.prog zp1 ((witW os).forCall (fun _ _=>0) ⟨#[],args,[]⟩).memory:=by
 refine laidMetH_of_parts3 (fuel:=8) ?_ (by kernel_rfl) (by kernel_rfl)
 rw [zws]
 have h:laidMet Tryz.prog zmz (witW os):=laidMet_layVars (w0:=witW0 os) (zmz.map (·.1)) [] (by kernel_rfl) (by kernel_rfl) (by kernel_rfl) (by
  rw [show (zmz.filter fun x=> !(zmz.map (·.1)).contains x.1)= [] by kernel_rfl];exact LaidIn.none)
 exact h.of_heap (by simp [World.memory,World.forCall,Input.heap])
end Go.Proofs.YtcaijocpofcbdaaGreatDoor
set_option maxRecDepth 10000
namespace Go.Proofs
open Go Go.Ab
attribute [local irreducible] QR QV OE zcz aw zdg zbs zbh za1 thn zfx zed jch zfd
open Go.H
def wiC (h:Hist) (s b:Int):Int:=if v8 h≠0 then v8 h else if isB s h.ss.length=false then 2 else if b < 0∨b > 15 then 190 else if (zi6 h.wants s b).length > 3000 then 6 else 0
def wiH (h:Hist) (s b:Int):Hist:=if wiC h s b=0 then ydy h (zi6 h.wants s b) else zjs
theorem ypf {h:Hist} {s b:Int} (hc:v8 h≠0):wiC h s b=v8 h:=if_pos hc
theorem yex {h:Hist} {s b:Int} (hc:v8 h=0) (hb:isB s h.ss.length=false):wiC h s b=2:=by rw [wiC,if_neg (by omega),if_pos hb]
theorem ype {h:Hist} {s b:Int} (hc:v8 h=0) (hb:isB s h.ss.length=true) (hw:woC b=190):wiC h s b=190:=by
 have:b < 0∨b > 15:=by
  by_cases q:b < 0∨b > 15
  ·exact q
  ·rw [woC,if_neg q] at hw;cases hw
 rw [wiC,if_neg (by omega),if_neg (by rw [hb];decide),if_pos this]
theorem zvi (b:Int):woC b=190∨(woC b=0∧¬(b < 0∨b > 15)):=by
 by_cases q:b < 0∨b > 15
 ·exact .inl (if_pos q)
 ·exact .inr ⟨if_neg q,q⟩
theorem ypg {h:Hist} {s b:Int} (hc:v8 h=0) (hb:isB s h.ss.length=true) (hw:¬(b < 0∨b > 15)) (hl:(zi6 h.wants s b).length > 3000):wiC h s b=6:=by rw [wiC,if_neg (by omega),if_neg (by rw [hb];decide),if_neg hw,if_pos hl]
theorem ykm {h:Hist} {s b:Int} (hc:v8 h=0) (hb:isB s h.ss.length=true) (hw:¬(b < 0∨b > 15)) (hl:¬(zi6 h.wants s b).length > 3000):wiC h s b=0:=by rw [wiC,if_neg (by omega),if_neg (by rw [hb];decide),if_neg hw,if_neg hl]
theorem zzs {h:Hist} {s b:Int} (he:wiC h s b≠0):wiH h s b=zjs:=if_neg he
theorem ypd {h:Hist} {s b:Int} (he:wiC h s b=0):wiH h s b=ydy h (zi6 h.wants s b):=if_pos he
theorem yjj {s:Int} {n:Nat} (h:decide (s < 0)=true):isB s n=false:=by have:=oT h;unfold isB;simp <;> omega
theorem yjk {α β:Type} {f:α→β} {l:List α} {s:Int} (h:decide (s ≥ ((l.map f).length:Int))=true):isB s l.length=false:=by have:=oT h;rw [oM] at this;unfold isB;simp <;> omega
theorem yry {α β:Type} {f:α→β} {l:List α} {s:Int} (h:decide (s < 0)=false) (k:decide (s ≥ ((l.map f).length:Int))=false):isB s l.length=true:=by
 have h:=oF h
 have k:=oF k
 rw [oM] at k
 exact zp3.2 ⟨by omega,by omega⟩
theorem yr8 (c0 c1 c2 c3 c4 c5 c6:AV) (ho: [c0,c1,c2,c3,c4,c5,c6].all AV.one=true) (l:List Wan) (hl:l.length≤1000000) (s bits:Int):y8 Tryz.prog 89 [.agg [c0,c1,c2,c3,c4,c5,c6,zg9 l],iv s,iv bits] [] (fun r h'=>h'= []∧r= .agg [c0,c1,c2,c3,c4,c5,c6,zg9 (zi6 l s bits)]):=
 (ynp c0 c1 c2 c3 c4 c5 c6 ho l hl s bits).ventR (by rintro _ _ ⟨v,rfl,rfl⟩;exact ⟨_,_,zav [_,_,_,_,_,_,_] [],rfl,rfl⟩)
theorem yhj (g:Int) (W:List Res):y8 Tryz.prog 88 [iv g] (.glob 1 193 zd7::W) (fun r h'=>h'= .glob 1 193 zd7::W∧∃t:ByteArray,r= .tup [.v (.string t),iv (woC g)]):=((yno g).frame W).mono (by rintro _ _ ⟨_,rfl,rfl,t,rfl⟩;exact ⟨rfl,t,rfl⟩)
theorem ynq (h:Hist) (la:Lim 4611686018427387904 h) (s bits:Int):y8 Tryz.prog 40 [.agg (x3 h),iv s,iv bits] (.glob 1 193 zd7:: .glob 0 117 w7:: .glob 3 148 x6:: .glob 5 276 x7:: .glob 6 279 y7:: .glob 2 197 u7:: []) (fun r h'=>h'= .glob 1 193 zd7:: .glob 0 117 w7:: .glob 3 148 x6:: .glob 5 276 x7:: .glob 6 279 y7:: .glob 2 197 u7:: []∧r= .tup [.agg (x3 (wiH h s bits)),iv (wiC h s bits)]):=by
 refine z6 Tryz.func40 rfl rfl rfl ?_
 refine rn ?_;refine z8 rfl (x9 rfl rfl rfl fun b3=> ?_)
 refine z8 rfl (y6 rfl fun b6=> ?_)
 refine rn ?_;refine qv rfl rfl (y4 rfl rfl (y3.qt (y3.of_fun (zut h la)) ((pt4 _ _ _ _ _ _).trans (.cons _ ((pt4 _ _ _ _ _ _).trans (.cons _ ((pt4 _ _ _ _ _ _).trans (.cons _ (pt4 _ _ _ _ _ _))))))))) ?_
 refine rn ?_;refine z7 rfl (fun hc15=> ?_) (fun hc15=> ?_)
 ·have hc:v8 h≠0:=nzT hc15
  refine rn ?_;exact ze0 (.cons _ _ _ _ (.agg _ _ _ _ _ _ _ rfl inferInstance inferInstance inferInstance rfl) (.cons _ _ _ _ (.tmp _ _ rfl) .nil)) (.trans (.drop [_,_] _ _) (.le (Sb.tups (aS:= [.agg zgc,_]) (bs:= [.agg (x3 zjs),_]) ⟨Sb.aggs (aS:=zgc) (bs:=x3 zjs) ⟨.nil _ _,.nil _ _,.nil _ _,.nil _ _,.nil _ _,.nil _ _,.nil _ _,.nil _ _,trivial⟩,.refl _,trivial⟩).le)) ⟨rfl,by rw [zzs (by rw [ypf hc];first|exact hc|decide),ypf hc] <;> rfl⟩
 ·have hc:v8 h=0:=nzF hc15
  have lA:Lim 1000000 h:=(zg1 hc).mono (by decide)
  refine rn ?_;refine x4 (fun hg4_2=> ?_) (fun hg4_2=> ?_)
  ·refine rn ?_;refine zdi rfl ?_;have hb:isB s h.ss.length=false:=by first|exact yjj hg4_2|exact yjk hc26
   refine rn ?_;exact ze0 (.cons _ _ _ _ (.agg _ _ _ _ _ _ _ rfl inferInstance inferInstance inferInstance rfl) (.cons _ _ _ _ (.tmp _ _ rfl) .nil)) (.trans (.drop [_,_] _ _) (.le (Sb.tups (aS:= [.agg zgc,_]) (bs:= [.agg (x3 zjs),_]) ⟨Sb.aggs (aS:=zgc) (bs:=x3 zjs) ⟨.nil _ _,.nil _ _,.nil _ _,.nil _ _,.nil _ _,.nil _ _,.nil _ _,.nil _ _,trivial⟩,.refl _,trivial⟩).le)) ⟨rfl,by rw [zzs (by rw [yex hc hb];first|exact hc|decide),yex hc hb] <;> rfl⟩
  ·refine rn ?_;refine z7 rfl (fun hc26=> ?_) (fun hc26=> ?_)
   ·have hb:isB s h.ss.length=false:=by first|exact yjj hg4_2|exact yjk hc26
    refine rn ?_;exact ze0 (.cons _ _ _ _ (.agg _ _ _ _ _ _ _ rfl inferInstance inferInstance inferInstance rfl) (.cons _ _ _ _ (.tmp _ _ rfl) .nil)) (.trans (.drop [_,_] _ _) (.le (Sb.tups (aS:= [.agg zgc,_]) (bs:= [.agg (x3 zjs),_]) ⟨Sb.aggs (aS:=zgc) (bs:=x3 zjs) ⟨.nil _ _,.nil _ _,.nil _ _,.nil _ _,.nil _ _,.nil _ _,.nil _ _,.nil _ _,trivial⟩,.refl _,trivial⟩).le)) ⟨rfl,by rw [zzs (by rw [yex hc hb];first|exact hc|decide),yex hc hb] <;> rfl⟩
   ·have hb:isB s h.ss.length=true:=yry hg4_2 hc26
    refine rn ?_;refine z8 rfl (q7 rfl rfl (y3.perm (pt2 _ _ _ _) (y3.of_fun (yhj bits _))) rfl ?_)
    rintro _ _ ⟨rfl,t,rfl⟩
    refine rn ?_;refine z7 rfl (fun hc34=> ?_) (fun hc34=> ?_)
    ·have hw:woC bits=190:=(zvi bits).resolve_right (fun q=>nzT hc34 q.1)
     rw [hw]
     refine rn ?_;exact ze0 (.cons _ _ _ _ (.agg _ _ _ _ _ _ _ rfl inferInstance inferInstance inferInstance rfl) (.cons _ _ _ _ (.tmp _ _ rfl) .nil)) (.trans (.trans (.perm ((pt1 _ _ _).trans (.cons _ (pt1 _ _ _))) _) (.drop [_,_] _ _)) (.le (Sb.tups (aS:= [.agg zgc,_]) (bs:= [.agg (x3 zjs),_]) ⟨Sb.aggs (aS:=zgc) (bs:=x3 zjs) ⟨.nil _ _,.nil _ _,.nil _ _,.nil _ _,.nil _ _,.nil _ _,.nil _ _,.nil _ _,trivial⟩,.refl _,trivial⟩).le)) ⟨rfl,by rw [zzs (by rw [ype hc hb hw];first|exact hc|decide),ype hc hb hw] <;> rfl⟩
    ·have hw:¬(bits < 0∨bits > 15):=((zvi bits).resolve_left (fun q=>by have w:=nzF hc34;rw [q] at w;cases w)).2
     refine rn ?_;refine qv rfl rfl (y4 rfl rfl (v6 (yvc h lA) (Sbs.refl _))) ?_
     refine rn ?_;refine qv rfl rfl (y4 rfl rfl (v6 (yr8 (zcf h.ts) (zcf h.ss) (zcf h.os) (zcf h.ps) (zlg h.evs) (zpl h.ords) (zpx h.mats) rfl h.wants (by have:=lA.wants;omega) s bits) (Sbs.refl _))) ?_
     refine z8 rfl (y6 rfl fun b11=> ?_)
     refine rn ?_;refine z7 rfl (fun hc45=> ?_) (fun hc45=> ?_)
     ·have hl:(zi6 h.wants s bits).length > 3000:=by have q:=oT hc45;rw [oM] at q;omega
      refine rn ?_;exact ze0 (.cons _ _ _ _ (.agg _ _ _ _ _ _ _ rfl inferInstance inferInstance inferInstance rfl) (.cons _ _ _ _ (.tmp _ _ rfl) .nil)) (.trans (.trans (.perm (.cons _ ((pt1 _ _ _).trans (.cons _ (pt1 _ _ _)))) _) (.drop [_,_,_] _ _)) (.le (Sb.tups (aS:= [.agg zgc,_]) (bs:= [.agg (x3 zjs),_]) ⟨Sb.aggs (aS:=zgc) (bs:=x3 zjs) ⟨.nil _ _,.nil _ _,.nil _ _,.nil _ _,.nil _ _,.nil _ _,.nil _ _,.nil _ _,trivial⟩,.refl _,trivial⟩).le)) ⟨rfl,by rw [zzs (by rw [ypg hc hb hw hl];first|exact hc|decide),ypg hc hb hw hl] <;> rfl⟩
     ·have hl:¬(zi6 h.wants s bits).length > 3000:=by have q:=oF hc45;rw [oM] at q;omega
      refine rn ?_;exact ze0 (.cons _ _ _ _ (.agg _ _ _ _ _ _ _ rfl inferInstance inferInstance inferInstance rfl) (.cons _ _ _ _ (.tmp _ _ rfl) .nil)) (.trans (.perm (.cons _ ((pt1 _ _ _).trans (.cons _ (pt1 _ _ _)))) _) (.drop [_,_,_] _ _)) ⟨rfl,by rw [ypd (ykm hc hb hw hl),ykm hc hb hw hl] <;> rfl⟩
def lkR (L:List Grd) (g:Grd) (i j:Nat):List (Int×Int):=zgv (L.take i)++((((List.range j).map zc2).filter (zha g)).map fun b=>(g.s,b))
theorem yu8 (L:List Grd) (g:Grd) (i:Nat):lkR L g i 0=zgv (L.take i):=by simp [lkR]
theorem yu6 {L:List Grd} {g:Grd} {i j:Nat} (hb:zha g (zc2 j)=true):lkR L g i (j+1)=lkR L g i j++ [(g.s,zc2 j)]:=by
 rw [lkR,lkR,List.range_succ,List.map_append,List.filter_append,List.map_append,←List.append_assoc]
 simp [hb]
theorem yrh {L:List Grd} {g:Grd} {i j:Nat} (hb:zha g (zc2 j)=false):lkR L g i (j+1)=lkR L g i j:=by
 rw [lkR,lkR,List.range_succ,List.map_append,List.filter_append,List.map_append,←List.append_assoc]
 simp [hb]
theorem yu7 {L:List Grd} {i:Nat} (hi:i < L.length):lkR L L[i] i 4=zgv (L.take (i+1)):=by
 rw [lkR,zgv,zgv,List.take_succ_eq_append_getElem hi,List.flatMap_append]
 simp only [List.flatMap_cons,List.flatMap_nil,List.append_nil]
 rfl
theorem yd2 {l:List Wan} {s:Int} {k:Nat} (hk:k < l.length) (hn:∀w∈l.take k,w.s≠s) (e:l[k].s=s):zza l s=l[k].bits:=by
 have e1:l.find? (fun w=>w.s==s)=some l[k]:=by
  rw [List.find?_eq_some_iff_getElem]
  refine ⟨by simpa using e,k,hk,rfl,fun j hj=> ?_⟩
  have hm:l[j]'(by omega)∈l.take k:=List.mem_take_iff_getElem.2 ⟨j,by omega,rfl⟩
  simpa using hn _ hm
 rw [zza,e1]
theorem yor {l:List Wan} {s:Int} {k:Nat} (hk:k < l.length) (hn:∀w∈l.take k,w.s≠s) (e:l[k].s≠s):∀w∈l.take (k+1),w.s≠s:=fun w hw=>by
 rw [List.take_succ_eq_append_getElem hk] at hw
 rcases List.mem_append.1 hw with hw|hw
 ·exact hn w hw
 ·rw [List.mem_singleton.1 hw];exact e
def yv9 (h:Hist) (s:Nat):Grd:=⟨s,zza h.wants s,zzi h s⟩
theorem ypo (h:Hist):zd5 h=zzf (yv9 h) h.ss.length:=by rw [zd5,zzf,upR,List.map_map];rfl
theorem yk1 {h:Hist} (hc:v8 h=0) {g:Grd} (hg:g∈zd5 h):(0≤g.q∧g.q≤15)∧(0≤g.a∧g.a≤15):=(zjb hc g (by rw [zmb hc];exact hg)).1
theorem zye (h:Hist) (lw:h.wants.length≤4611686018427387904) (s:Int):y8 Tryz.prog 87 [.agg (x3 h),iv s] [] (fun r h'=>h'= []∧r=iv (zza h.wants s)):=by
 refine z6 Tryz.func87 rfl rfl rfl ?_
 refine rn ?_;refine z8 rfl (x9 rfl rfl rfl fun b2=> ?_)
 refine rn ?_;refine zcj (h.wants.length) (fun k:Nat=>∀w∈h.wants.take k,w.s≠s) (fun k=> [(10,iv k)]) [(1,_),(8,_),(9,_)] (by simp) ?_
 intro k lk zk
 refine rn ?_;refine z7 rfl (fun hc11=> ?_) (fun hc11=> ?_)
 ·have hk:=zan hc11
  have rk:=zaf (f:=zco) hk
  refine rn ?_;refine z8 rfl (y6 rfl fun b6=> ?_)
  refine rn ?_;refine z7 rfl (fun hc17=> ?_) (fun hc17=> ?_)
  ·have he:h.wants[k].s=s:=by simpa using hc17
   refine rn ?_;refine rq 2 ?_
   exact ⟨rfl,by rw [yd2 hk zk he];rfl⟩
  ·have he:h.wants[k].s≠s:=by simpa using hc17
   refine rn ?_;exact ⟨hk,yor hk zk he,eA⟩
 ·have qk:=zap hc11 lk
  subst qk
  refine rn ?_;refine rq 1 ?_
  exact ⟨rfl,by rw [you (by rw [List.take_length] at zk;exact zk)];rfl⟩
theorem ztu (h:Hist) (la:Lim 3000 h) (hc:v8 h=0) (hE:h.evs.length≤70):y8 Tryz.prog 38 [.agg (x3 h)] [] (fun r h'=>∃v:SV,h'= [.row v.v 3 81 ((zd5 h).map zj3)]∧r= .v v.v):=by
 refine z6 Tryz.func38 rfl rfl rfl ?_
 have lS:=la.ss
 refine rn ?_;refine z8 rfl (x9 rfl rfl rfl fun b1=> ?_)
 refine rn ?_;refine zet h.ss.length (fun k v=>⟨[(8,iv k),(3,.v v.v),(1,pZ b1),(7,iv (h.ss.map za2).length)],.row v.v 3 81 ((zzf (yv9 h) k).map zj3):: .box b1 28 (x3 h):: [],[]⟩) ⟨none,0,0⟩ (w9 (k6 3 81) es) ?_
 intro k v lk
 refine rn ?_;refine z7 rfl (fun hc9=> ?_) (fun hc9=> ?_)
 ·have hk:=zan hc9
  have rk:=zaf (f:=za2) hk
  refine rn ?_;refine j4 10 rfl ?_
  refine rn ?_;refine dv rfl rfl (by exact y4 rfl rfl (v6 (zye h (by have:=la.wants;omega) k) (Sbs.refl _))) ?_
  refine rn ?_;refine dv rfl rfl (by exact y4 rfl rfl (v6 (yf1 h la hc hE k) (Sbs.refl _))) ?_
  refine dq rfl rfl (zag (out:= [iv k,iv (zza h.wants k),iv (zzi h k)]) rfl (by rfl)) ?_
  refine dv rfl rfl (q8 rfl rfl) ?_
  refine rn ?_;refine z8 rfl (u6 rfl rfl (by simp only [oM,zvr,List.length_cons,List.length_nil];omega) rfl (fun s21=> ?_) (fun r hr=>by rw [List.mem_singleton.1 hr];rfl))
  refine zaa s21 fun sv hsv=> ?_
  subst hsv
  refine rn ?_;exact ⟨hk,sv,by rw [yiw,List.map_append];exact eA⟩
 ·have qk:=zap hc9 lk
  subst qk
  refine rn ?_;exact u9 rfl (.trans (.perm (pt1 _ _ _) _) (.drop [_] _ _)) ⟨v,by rw [ypo],rfl⟩
theorem zog (h:Hist) (la:Lim 3000 h) (hc:v8 h=0) (hE:h.evs.length≤70):y8 Tryz.prog 38 [.agg (x3 h)] [] (fun r h'=>h'= []∧r=zc9 (zd5 h)):=(ztu h la hc hE).ventR (by rintro _ _ ⟨v,rfl,rfl⟩;exact ⟨_,_,zcv,rfl,rfl⟩)
theorem zl2 (j:Nat):0≤zc2 j:=by unfold zc2;split <;> (try split) <;> (try split) <;> decide
theorem yco (j:Nat):0 < zc2 j:=by unfold zc2;split <;> (try split) <;> (try split) <;> decide
theorem yi4 {a b:Int} (h:0≤a∧a≤15) (hb:0≤b): -9223372036854775808≤a / b∧a / b≤9223372036854775807:=by
 have h1:=Int.ediv_nonneg h.1 hb
 have h2:=Int.ediv_le_self b h.1
 omega
theorem yvm {j:Nat} (hj:j < 4):([iv 1,iv 2,iv 4,iv 8]:List AV)[j * 1]? =some (iv (zc2 j)):=by
 rcases (by omega:j=0∨j=1∨j=2∨j=3) with rfl|rfl|rfl|rfl <;> rfl
theorem ym8 {g:Grd} {b:Int} (h1:(g.q / b % 2==1)=true) (h2:(g.a / b % 2==0)=true):zha g b=true:=by
 rw [zha,decide_eq_true (by simpa using h1),decide_eq_true (by simpa using h2)];rfl
theorem zwv {g:Grd} {b:Int} (h1:(g.q / b % 2==1)=false):zha g b=false:=by
 rw [zha,decide_eq_false (by simpa using h1),Bool.false_and]
theorem zwu {g:Grd} {b:Int} (h1:(g.a / b % 2==0)=false):zha g b=false:=by
 rw [zha,decide_eq_false (p:=g.a / b % 2=0) (by simpa using h1),Bool.and_false]
theorem yb4 (L:List Grd):(zgv L).length≤4 * L.length:=by
 induction L with
 |nil=>simp [zgv]
 |cons g L ih=>
  have h1:zgv (g::L)=((zen.filter (zha g)).map fun b=>(g.s,b))++zgv L:=rfl
  have h2:(zen.filter (zha g)).length≤4:=List.length_filter_le _ _
  rw [h1,List.length_append,oM,List.length_cons];omega
theorem ym1 {L:List Grd} (hL:L.length≤3000) {g:Grd} {i j:Nat} (hi:i < L.length) (hj:j≤4):(lkR L g i j).length≤20000:=by
 have h1:=yb4 (L.take i)
 have h2:=List.length_take_le i L
 have h3:=List.length_filter_le (zha g) ((List.range j).map zc2)
 rw [oM,List.length_range] at h3
 rw [lkR,List.length_append,oM];omega
set_option maxHeartbeats 8000000 in
theorem zty (h:Hist) (la:Lim 3000 h) (hc:v8 h=0) (hE:h.evs.length≤70):y8 Tryz.prog 36 [.agg (x3 h)] [] (fun r h'=>∃v w:SV,h'= [.row v.v 1 3 (((zgv (zd5 h)).map Prod.snd).map j8),.row w.v 1 3 (((zgv (zd5 h)).map Prod.fst).map j8)]∧r= .tup [.v v.v,.v w.v]):=by
 refine z6 Tryz.func36 rfl rfl rfl ?_
 have lT:(zd5 h).length≤3000:=by rw [←zmb hc];exact tab_len h
 refine rn ?_;refine z8 rfl (x9 rfl rfl rfl fun b1=> ?_)
 refine rn ?_;refine qv rfl rfl (y4 rfl rfl (v6 (zog h la hc hE) (Sbs.refl _))) ?_
 refine rn ?_;refine zes (zd5 h).length (fun _ (_:SV×SV)=>True) (fun i z=>⟨[(13,iv i),(4,.v z.1.v),(5,.v z.2.v),(11,zc9 (zd5 h)),(12,iv ((zd5 h).map zj3).length)],.row z.1.v 1 3 ((((zgv ((zd5 h).take i))).map Prod.snd).map j8):: .row z.2.v 1 3 ((((zgv ((zd5 h).take i))).map Prod.fst).map j8):: .box b1 28 (x3 h):: [],[]⟩) (⟨none,0,0⟩,⟨none,0,0⟩) trivial (w9 (k6 1 3) (w9 (k6 1 3) es)) ?_
 rintro i ⟨v,w⟩ li -
 show aw _ _ _ _ _ ⟨[(13,iv i),(4,.v v.v),(5,.v w.v),(11,zc9 (zd5 h)),(12,iv ((zd5 h).map zj3).length)],.row v.v 1 3 ((((zgv ((zd5 h).take i))).map Prod.snd).map j8):: .row w.v 1 3 ((((zgv ((zd5 h).take i))).map Prod.fst).map j8):: .box b1 28 (x3 h):: [],[]⟩
 refine rn ?_;refine z7 rfl (fun hc14=> ?_) (fun hc14=> ?_)
 ·have hi:=zan hc14
  have ri:=zaf (f:=zj3) hi
  have hgi:=yk1 hc (List.getElem_mem hi)
  refine rn ?_;refine z8 rfl (y6 rfl fun b7=> ?_)
  first|refine z8 rfl (za3 rfl rfl rfl ?_)|refine z8 rfl (zbr rfl rfl rfl rfl (Nat.le_of_ble_eq_true rfl) ?_)
  refine u0 (j7 ?_)
  refine x8 (y5 ?_)
  refine qq rfl rfl (zgq (out:= [iv 1,iv 2,iv 4,iv 8]) rfl (by rfl)) ?_
  refine rn ?_;refine zes 4 (fun _ (_:SV×SV)=>True) (fun j z=>⟨[(18,iv j),(4,.v z.1.v),(5,.v z.2.v),(7,pZ b7),(11,zc9 (zd5 h)),(12,iv ((zd5 h).map zj3).length),(13,iv i),(17,.agg [iv 1,iv 2,iv 4,iv 8])],.box b7 81 (zj3 (zd5 h)[i]):: .row z.1.v 1 3 ((((lkR (zd5 h) (zd5 h)[i] i j)).map Prod.snd).map j8):: .row z.2.v 1 3 ((((lkR (zd5 h) (zd5 h)[i] i j)).map Prod.fst).map j8):: .box b1 28 (x3 h):: [],[]⟩) (v,w) trivial (by simp only [yu8];exact eA) ?_
  clear v w
  rintro j ⟨v,w⟩ lj -
  show aw _ _ _ _ _ ⟨[(18,iv j),(4,.v v.v),(5,.v w.v),(7,pZ b7),(11,zc9 (zd5 h)),(12,iv ((zd5 h).map zj3).length),(13,iv i),(17,.agg [iv 1,iv 2,iv 4,iv 8])],.box b7 81 (zj3 (zd5 h)[i]):: .row v.v 1 3 ((((lkR (zd5 h) (zd5 h)[i] i j)).map Prod.snd).map j8):: .row w.v 1 3 ((((lkR (zd5 h) (zd5 h)[i] i j)).map Prod.fst).map j8):: .box b1 28 (x3 h):: [],[]⟩
  refine rn ?_;refine z7 rfl (fun hc19=> ?_) (fun hc19=> ?_)
  ·have hj:j < 4:=by have q:=oT hc19;omega
   have lpk:(lkR (zd5 h) (zd5 h)[i] i j).length≤20000:=ym1 lT hi (by omega)
   refine zad ?_;refine j7 ?_;refine x8 ?_;refine zaj ?_;refine x8 (y5 ?_)
   refine qq rfl rfl (zcg rfl rfl hj (yvm hj)) ?_
   refine q1 ?_;refine u0 (j7 ?_)
   refine x8 (y5 ?_)
   refine q1 ?_;refine q1 ?_;refine q1 ?_;refine qq rfl rfl (yi6 rfl rfl (by have:=yco j;omega) (show (((zd5 h)[i]).q).tdiv (zc2 j)=(zd5 h)[i].q / zc2 j from Int.tdiv_eq_ediv_of_nonneg (by have:=hgi.1;omega)) (yi4 (by have:=hgi.1;omega) (zl2 j))) ?_
   refine qq rfl rfl (yi5 rfl rfl (by decide) (show ((zd5 h)[i].q / zc2 j).tmod 2=(zd5 h)[i].q / zc2 j % 2 from Int.tmod_eq_emod_of_nonneg (Int.ediv_nonneg (by have:=hgi.1;omega) (zl2 j)))) ?_
   refine rn ?_;refine x4 (fun hg8_6=> ?_) (fun hg8_6=> ?_)
   ·refine q1 ?_;refine q1 ?_;refine q1 ?_;refine qq rfl rfl (yi6 rfl rfl (by have:=yco j;omega) (show (((zd5 h)[i]).a).tdiv (zc2 j)=(zd5 h)[i].a / zc2 j from Int.tdiv_eq_ediv_of_nonneg (by have:=hgi.2;omega)) (yi4 (by have:=hgi.2;omega) (zl2 j))) ?_
    refine qq rfl rfl (yi5 rfl rfl (by decide) (show ((zd5 h)[i].a / zc2 j).tmod 2=(zd5 h)[i].a / zc2 j % 2 from Int.tmod_eq_emod_of_nonneg (Int.ediv_nonneg (by have:=hgi.2;omega) (zl2 j)))) ?_
    refine rn ?_;refine z7 rfl (fun hc34=> ?_) (fun hc34=> ?_)
    ·have hb:zha (zd5 h)[i] (zc2 j)=true:=ym8 hg8_6 hc34
     refine zqp 8 (.box b7 81 (zj3 (zd5 h)[i]):: .row w.v 1 3 ((((lkR (zd5 h) (zd5 h)[i] i j)).map Prod.fst).map j8):: .box b1 28 (x3 h):: []) rfl ?_
     refine rn ?_;refine mv rfl rfl (q8 rfl rfl) ?_
     refine yv7 (xs:=(((lkR (zd5 h) (zd5 h)[i] i j).map Prod.snd).map j8)) rfl rfl rfl rfl rfl rfl (by simp only [oM,List.length_cons,List.length_nil];omega) (fun r hr=>by rw [List.mem_singleton.1 hr];rfl) ?_
     refine rn ?_;refine mv rfl rfl (q8 rfl rfl) ?_
     refine yms ⟨(pt1 _ _ _),?_⟩
     refine rn ?_;refine zep fun s38=> ?_
     refine rn ?_;refine z8 rfl (u6 rfl rfl (by simp only [oM,List.length_cons,List.length_nil];omega) rfl (fun s43=> ?_) (fun r hr=>by rw [List.mem_singleton.1 hr];rfl))
     refine zaa s43 fun sv hsv=> ?_
     subst hsv
     refine rn ?_;exact ⟨hj,(s38,sv),trivial,by rw [yu6 hb,List.map_append,List.map_append,List.map_append,List.map_append];exact w9 (zax (pt1 _ _ _)) eA⟩
    ·have hb:zha (zd5 h)[i] (zc2 j)=false:=by
      first
      |exact zwv hg8_6
      |exact zwu hc34
     refine rn ?_;exact ⟨hj,(v,w),trivial,by rw [yrh hb];exact eA⟩
   ·refine rn ?_;refine zeu rfl ?_;have hb:zha (zd5 h)[i] (zc2 j)=false:=by
     first
     |exact zwv hg8_6
     |exact zwu hc34
    refine rn ?_;exact ⟨hj,(v,w),trivial,by rw [yrh hb];exact eA⟩
  ·obtain rfl:j=4:=by have q:=oF hc19;omega
   refine rn ?_;exact ⟨hi,(v,w),trivial,by rw [←yu7 hi];exact eA⟩
 ·have qi:=zap hc14 li
  subst qi
  rw [List.take_length]
  refine rn ?_;exact zbw rfl rfl (.trans (.perm (pt2 _ _ _ _) _) (.drop [_] _ _)) ⟨v,w,rfl,rfl⟩
theorem zx7 (h:Hist) (la:Lim 3000 h) (hc:v8 h=0) (hE:h.evs.length≤70):y8 Tryz.prog 36 [.agg (x3 h)] [] (fun r h'=>h'= []∧r= .tup [zbz ((zgv (zd5 h)).map Prod.snd),zbz ((zgv (zd5 h)).map Prod.fst)]):=(zty h la hc hE).ventR (by rintro _ _ ⟨v,w,rfl,rfl⟩;exact ⟨_,_,(zak [] [_]).trans (zak [_] []),rfl,rfl⟩)
theorem zw0 (a b:Grd):(([a.s,a.q,a.a]:List Int)== [b.s,b.q,b.a])=(a==b):=by
 rw [Bool.eq_iff_iff]
 obtain ⟨a1,a2,a3⟩:=a
 obtain ⟨b1,b2,b3⟩:=b
 simp
theorem zxa {f g:Bool} (l m:List Grd) (hl:l.length≤4611686018427387904) (hm:m.length≤4611686018427387904):y8 Tryz.prog 37 [.list f 3 (l.map zj3),.list g 3 (m.map zj3)] [] (fun r h'=>h'= []∧r=bv (decide (l=m))):=by
 refine z6 Tryz.func37 rfl rfl rfl ?_
 refine rn ?_;refine z7 rfl (fun hc10=> ?_) (fun hc10=> ?_)
 ·have hne:l.length≠m.length:=by have w:=hc10;intro e;rw [oM,oM,e] at w;simp at w
  refine rn ?_;refine rq 0 ?_
  exact ⟨rfl,by rw [decide_eq_false (fun e=>hne (by rw [e]))];rfl⟩
 ·have hlm:l.length=m.length:=by have w:=hc10;rw [oM,oM] at w;exact yoa w
  refine rn ?_;refine zcj (l.length) (fun k:Nat=>l.take k=m.take k) (fun k=> [(13,iv k)]) [(0,_),(1,_),(12,_)] rfl ?_
  intro k lk zk
  refine rn ?_;refine z7 rfl (fun hc14=> ?_) (fun hc14=> ?_)
  ·have hk:=zan hc14
   have rk:=zaf (f:=zj3) hk
   have hk2:k < m.length:=by omega
   have rk2:=zaf (f:=zj3) hk2
   refine rn ?_;refine j4 8 rfl ?_
   refine dq rfl rfl qrA ?_;refine dq rfl rfl qrA ?_;refine dq rfl rfl (zas rfl rfl rk) ?_
   refine dq rfl rfl qrA ?_;refine dq rfl rfl qrA ?_;refine dq rfl rfl qrA ?_;refine dq rfl rfl (zas rfl rfl rk2) ?_
   refine rn2 ?_;refine qq rfl rfl (zwd rfl rfl rfl rfl) ?_
   refine rn ?_;refine z7 rfl (fun hc24=> ?_) (fun hc24=> ?_)
   ·have hne:l[k]≠m[k]:=fun e=>by have w:=zpn hc24;rw [zw0,e] at w;simp at w
    refine rn ?_;refine rq 0 ?_
    exact ⟨rfl,by rw [decide_eq_false (yu1 hk hk2 hne)];rfl⟩
   ·have heq:l[k]=m[k]:=by have w:=zpo hc24;rw [zw0] at w;simpa using w
    refine rn ?_;exact ⟨hk,yn9 hk hk2 zk heq,eA⟩
  ·have qk:=zap hc14 lk
   refine rn ?_;refine rq 0 ?_
   exact ⟨rfl,by rw [decide_eq_true (by have w:=zk;rw [qk,List.take_length,hlm,List.take_length] at w;exact w)];rfl⟩
def guE:List Ev:= [yt5 0,seW 0 1,yt4 0,yt5 1,⟨3,1,0,0,0,⟨0,0⟩,0,[]⟩,yt4 1]
def guH:Hist:=⟨[⟨#[116,49]⟩,⟨#[116,50]⟩],[yjy],[bxx],[],guE,[],[],[]⟩
theorem zp6:v8 guH=0:=zd3.2 (by decide+kernel)
theorem yjm:Lim 4611686018427387904 guH:=⟨by decide,by decide,by decide,by decide,by decide,by decide,by decide,by decide,by decide,by decide,by decide⟩
theorem yr7:zdb guH= [⟨0,0,14⟩]:=by rw [zvp zp6];decide+kernel
theorem yr6:wiC guH 0 1=0:=ykm zp6 (by decide) (by decide) (by decide)
def zwy:Hist:=ydy guH [⟨0,1⟩]
theorem yr5:wiH guH 0 1=zwy:=by rw [ypd yr6];rfl
theorem zhp:v8 zwy=0:=zd3.2 (by decide+kernel)
theorem yck:Lim 4611686018427387904 zwy:=⟨by decide,by decide,by decide,by decide,by decide,by decide,by decide,by decide,by decide,by decide,by decide⟩
theorem yns:zdb zwy= [⟨0,1,14⟩]:=by rw [zvp zhp];decide+kernel
theorem zwz:zau (zdb zwy)= [(0,1)]:=by rw [yns];decide
theorem ysd:riO zwy=false:=by rw [yft zhp,zwz];rfl
theorem ynu:znl zwy 0 1=0:=yj8 zhp (by decide) (by decide)
theorem ynt:zoq zwy (0,1)=⟨1,0,1,0,1,4⟩:=by
 rw [zoq,show seB zwy (0,1).1 (0,1).2= [⟨1,0,1,0,1,4⟩] by rw [yfm (k:=0) ynu (by decide)];decide+kernel];rfl
theorem zz7  :y8 Tryz.prog 79 [] [] (fun r h'=>h'= []∧r= .agg (x3 guH)):=by
 refine z6 Tryz.func79 rfl rfl rfl ?_
 refine rn ?_;refine z8 rfl (y6 rfl fun b0=> ?_)
 refine rn ?_;refine qv rfl rfl (q8 rfl rfl) ?_
 refine qv rfl rfl (q8 rfl rfl) ?_
 refine qv rfl rfl (q8 rfl rfl) ?_
 refine qq rfl rfl (zag (out:=yn8 (yt5 0)) rfl (by rfl)) ?_
 refine qq rfl rfl (zag (out:= [iv 0,iv 1]) rfl (by rfl)) ?_
 refine qq rfl rfl (zag (out:=yn8 (seW 0 1)) rfl (by rfl)) ?_
 refine qq rfl rfl (zag (out:=yn8 (yt4 0)) rfl (by rfl)) ?_
 refine qq rfl rfl (zag (out:=yn8 (yt5 1)) rfl (by rfl)) ?_
 refine qq rfl rfl (zag (out:=yn8 ⟨3,1,0,0,0,⟨0,0⟩,0,[]⟩) rfl (by rfl)) ?_
 refine qq rfl rfl (zag (out:=yn8 (yt4 1)) rfl (by rfl)) ?_
 refine qv rfl rfl (q8 rfl rfl) ?_
 refine qq rfl rfl (zag (out:= [.list true 1 [[sv ⟨#[116,49]⟩],[sv ⟨#[116,50]⟩]],.list true 1 [[sv yjy]],.list true 1 [[sv bxx]],.v (.slice none 0 0),.list true 9 (guE.map yn8),.v (.slice none 0 0),.v (.slice none 0 0),.v (.slice none 0 0)]) rfl (by rfl)) ?_
 refine rn ?_;exact ze0 (.cons _ _ _ _ (.agg _ _ _ _ _ _ _ rfl inferInstance inferInstance inferInstance rfl) .nil) (.trans (.drop [_] _ _) (.le (Sb.aggs (bs:=x3 guH) (by exact ⟨.unfull,.unfull,.unfull,.nil _ _,(.lists (by simp) ⟨⟨.refl _,.refl _,.refl _,.refl _,.refl _,.refl _,.refl _,.refl _,.nil _ _,trivial⟩,⟨.refl _,.refl _,.refl _,.refl _,.refl _,.refl _,.refl _,.refl _,.nil _ _,trivial⟩,⟨.refl _,.refl _,.refl _,.refl _,.refl _,.refl _,.refl _,.refl _,.nil _ _,trivial⟩,⟨.refl _,.refl _,.refl _,.refl _,.refl _,.refl _,.refl _,.refl _,.nil _ _,trivial⟩,⟨.refl _,.refl _,.refl _,.refl _,.refl _,.refl _,.refl _,.refl _,.nil _ _,trivial⟩,⟨.refl _,.refl _,.refl _,.refl _,.refl _,.refl _,.refl _,.refl _,.nil _ _,trivial⟩,trivial⟩),.nil _ _,.nil _ _,.nil _ _,trivial⟩)).le)) ⟨rfl,rfl⟩
theorem gA1:y8 Tryz.prog 33 [.agg (x3 guH)] (.glob 0 117 w7:: .glob 3 148 x6:: .glob 5 276 x7:: .glob 6 279 y7:: .glob 2 197 u7:: []) (fun r h'=>h'= .glob 0 117 w7:: .glob 3 148 x6:: .glob 5 276 x7:: .glob 6 279 y7:: .glob 2 197 u7:: []∧r= .tup [zc9 [⟨0,0,14⟩],iv 0]):=(zp7 guH yjm).mono fun _ _ q=>⟨q.1,by rw [q.2,yr7,zp6]⟩
theorem gA2:y8 Tryz.prog 40 [.agg (x3 guH),iv 0,iv 1] (.glob 1 193 zd7:: .glob 0 117 w7:: .glob 3 148 x6:: .glob 5 276 x7:: .glob 6 279 y7:: .glob 2 197 u7:: []) (fun r h'=>h'= .glob 1 193 zd7:: .glob 0 117 w7:: .glob 3 148 x6:: .glob 5 276 x7:: .glob 6 279 y7:: .glob 2 197 u7:: []∧r= .tup [.agg (x3 zwy),iv 0]):=(ynq guH yjm 0 1).mono fun _ _ q=>⟨q.1,by rw [q.2,yr5,yr6]⟩
theorem gA3:y8 Tryz.prog 34 [.agg (x3 zwy)] (.glob 0 117 w7:: .glob 3 148 x6:: .glob 5 276 x7:: .glob 6 279 y7:: .glob 2 197 u7:: []) (fun r h'=>h'= .glob 0 117 w7:: .glob 3 148 x6:: .glob 5 276 x7:: .glob 6 279 y7:: .glob 2 197 u7:: []∧r= .tup [bv false,iv 0]):=(ycg zwy yck).mono fun _ _ q=>⟨q.1,by rw [q.2,ysd,zhp]⟩
theorem gA4:y8 Tryz.prog 35 [.agg (x3 zwy)] (.glob 0 117 w7:: .glob 3 148 x6:: .glob 5 276 x7:: .glob 6 279 y7:: .glob 2 197 u7:: []) (fun r h'=>h'= .glob 0 117 w7:: .glob 3 148 x6:: .glob 5 276 x7:: .glob 6 279 y7:: .glob 2 197 u7:: []∧r= .tup [zxi [⟨1,0,1,0,1,4⟩],zbz [0],iv 0]):=(ych zwy yck).mono fun _ _ q=>⟨q.1,by rw [q.2,zwz,zhp];simp only [List.map_cons,List.map_nil,ynt]⟩
theorem gEq {f g:Bool}:y8 Tryz.prog 37 [.list f 3 ([(⟨0,0,14⟩:Grd)].map zj3),.list g 3 ([(⟨0,0,14⟩:Grd)].map zj3)] [] (fun r h'=>h'= []∧r=bv true):=(zxa [⟨0,0,14⟩] [⟨0,0,14⟩] (by decide) (by decide)).mono fun _ _ q=>⟨q.1,by rw [q.2,decide_eq_true rfl]⟩
theorem gEi {f g:Bool}:y8 Tryz.prog 39 [.list f 1 ([(0:Int)].map j8),.list g 1 ([(0:Int)].map j8)] [] (fun r h'=>h'= []∧r=bv true):=(zw9 [0] [0] (by decide) (by decide)).mono fun _ _ q=>⟨q.1,by rw [q.2,zgf zjr];simp⟩
theorem ykq  :y8 Tryz.prog 31 [] (.glob 1 193 zd7:: .glob 0 117 w7:: .glob 3 148 x6:: .glob 5 276 x7:: .glob 6 279 y7:: .glob 2 197 u7:: []) (fun r h'=>h'= .glob 1 193 zd7:: .glob 0 117 w7:: .glob 3 148 x6:: .glob 5 276 x7:: .glob 6 279 y7:: .glob 2 197 u7:: []∧r=bv true):=by
 refine z6 Tryz.func31 rfl rfl rfl ?_
 refine rn ?_;refine qv rfl rfl (y4 rfl rfl (y3.pure (R:=fun r=>r= .agg (x3 guH)) (y3.of_fun zz7))) ?_
 refine qv rfl rfl (y4 rfl rfl (y3.qt (y3.of_fun gA1) ((pt1 _ _ _).trans (.cons _ ((pt1 _ _ _).trans (.cons _ ((pt1 _ _ _).trans (.cons _ ((pt1 _ _ _).trans (.cons _ (pt1 _ _ _))))))))))) ?_
 refine rn ?_;refine qv rfl rfl (y4 rfl rfl (y3.pure (R:=fun r=>r= .agg (x3 guH)) (y3.of_fun zz7))) ?_
 refine qv rfl rfl (y4 rfl rfl (y3.qt (y3.of_fun gA2) (.refl _))) ?_
 refine rn ?_;refine z8 rfl (y6 rfl fun b3=> ?_)
 refine rn ?_;refine qv rfl rfl (y4 rfl rfl (y3.qt (y3.of_fun gA3) ((pt2 _ _ _ _).trans (.cons _ ((pt2 _ _ _ _).trans (.cons _ ((pt2 _ _ _ _).trans (.cons _ ((pt2 _ _ _ _).trans (.cons _ (pt2 _ _ _ _))))))))))) ?_
 refine rn ?_;refine qv rfl rfl (y4 rfl rfl (y3.qt (y3.of_fun gA4) ((pt2 _ _ _ _).trans (.cons _ ((pt2 _ _ _ _).trans (.cons _ ((pt2 _ _ _ _).trans (.cons _ ((pt2 _ _ _ _).trans (.cons _ (pt2 _ _ _ _))))))))))) ?_
 refine q1 ?_;refine q1 ?_;refine q1 ?_;refine q1 ?_;refine q1 ?_;refine q1 ?_;refine q1 ?_;refine u0 (j7 ?_)
 refine x8 (y5 ?_)
 refine q1 ?_;refine q1 ?_;refine q1 ?_;refine q1 ?_;refine q1 ?_;refine q1 ?_;refine q1 ?_;refine q1 ?_;refine q1 ?_;refine q1 ?_;refine q1 ?_;refine q1 ?_;refine q1 ?_;refine q1 ?_;refine q1 ?_;refine q1 ?_;refine q1 ?_;refine q1 ?_;refine q1 ?_;refine q1 ?_;refine qq rfl rfl (zag (out:= [iv 0,iv 0,iv 14]) rfl (by rfl)) ?_
 refine qv rfl rfl (q8 rfl rfl) ?_
 refine qv rfl rfl (y4 rfl rfl (y3.pure (R:=fun r=>r=bv true) (y3.of_fun gEq))) ?_
 refine q1 ?_;refine q1 ?_;refine q1 ?_;refine q1 ?_;refine q1 ?_;refine q1 ?_;refine q1 ?_;refine q1 ?_;refine qq rfl rfl (zas (i:=0) rfl rfl rfl) ?_
 refine rn ?_;refine qv rfl rfl (q8 rfl rfl) ?_
 refine qv rfl rfl (y4 rfl rfl (y3.pure (R:=fun r=>r=bv true) (y3.of_fun gEi))) ?_
 refine rn ?_;refine rq 1 ?_
 exact ⟨rfl,rfl⟩
theorem zqg (x:Hist):(zge x).evs.length≤70:=by show ((x.evs.take 70).map zql).length≤70;rw [oM,List.length_take];omega
theorem yxb {g:Int} (hb:g∈zen):isG g=true:=by
 simp only [zen,List.mem_cons,List.not_mem_nil,or_false] at hb
 rcases hb with rfl|rfl|rfl|rfl <;> rfl
structure Shown (h:Hist) (s g:Int) (M:List (Int×Int)) (e l o:Int) (p q:Nat):Prop where
 is:isO h s ⟨g,e,l,o,p,q⟩=true
 m0:M[0]? =some (e,l)
 ix:za9 (fun a=>a==e) 0 (za0 h.evs s) < za9 (fun a=>a==l) 0 (za0 h.evs s)
 hp:p < h.evs.length
 hq:q < h.evs.length
 tp:h.evs[p].t=e
 tq:h.evs[q].t=l
 op:h.evs[p].o=o
 oq:h.evs[q].o=o
 rk:∃r1 r2,yqg h o h.evs[p].v=(r1,true)∧yqg h o h.evs[q].v=(r2,true)∧r2 < r1
theorem ym7 {h:Hist} (hc:v8 h=0):zgv (zd5 h)=zau (zdb h):=by
 rw [←zmb hc];exact (zww fun g hg=>(zjb hc g hg).1).symm
theorem ylx {h:Hist} (hc:v8 h=0):(riO h !=(((((zau (zdb h)).map Prod.snd).map j8).length:Int)==0))=false:=by
 rw [yft hc]
 cases zau (zdb h) with
 |nil=>rfl
 |cons a l=>
  have e:((((((a::l).map Prod.snd).map j8).length:Nat):Int)==0)=false:=by
   rw [oM,oM,List.length_cons]
   exact beq_eq_false_iff_ne.2 (by omega)
  rw [e];simp
structure LackShown (h:Hist) (s b:Int) (z:Brch):Prop where
 zg:z.g=b
 ne:eaS h s b≠ []
 is:(isG z.g && decide (z∈eaS h s z.g))=true
theorem zyx {h:Hist} (hc:v8 h=0) {d:Int×Int} (hd:d∈zau (zdb h)):LackShown h d.1 d.2 (zoq h d):=by
 obtain ⟨hb,hr,hne⟩:=zuq hc hd
 have hg:=yxb hb
 have he:znl h d.1 d.2=0:=yj8 hc (zp3.2 hr) hg
 obtain ⟨z,hz⟩:∃z,(eaS h d.1 d.2).head? =some z:=by
  cases hq:eaS h d.1 d.2 with
  |nil=>exact absurd hq hne
  |cons z l=>exact ⟨z,rfl⟩
 have hf:zoq h d=z:=by rw [zoq,yln he,ydq,hz];rfl
 have hm:=List.mem_of_head? hz
 have hzg:=(yh0 hm).1
 rw [hf]
 exact ⟨hzg,hne,by rw [hzg,hg,decide_eq_true hm];rfl⟩
theorem yrl {l:List Brch} (h:l≠ []):(((l.map zb9).length:Int)==0)=false:=by
 cases l with
 |nil=>exact absurd rfl h
 |cons a l=>rw [oM,List.length_cons];exact beq_eq_false_iff_ne.2 (by omega)
theorem ztx (h:Hist) (la:Lim 3000 h) (hc:v8 h=0) (hE:h.evs.length≤70):y8 Tryz.prog 36 [.agg (x3 h)] [] (fun r h'=>h'= []∧r= .tup [zbz ((zau (zdb h)).map Prod.snd),zbz ((zau (zdb h)).map Prod.fst)]):=(zx7 h la hc hE).mono fun _ _ q=>⟨q.1,by rw [q.2,ym7 hc]⟩
theorem yob (h:Hist) (hc:v8 h=0) {f g:Bool}:y8 Tryz.prog 37 [.list f 3 ((zdb h).map zj3),.list g 3 ((zd5 h).map zj3)] [] (fun r h'=>h'= []∧r=bv true):=(zxa (zdb h) (zd5 h) (by have:=tab_len h;omega) (by rw [←zmb hc];have:=tab_len h;omega)).mono fun _ _ q=>⟨q.1,by rw [q.2,decide_eq_true (zmb hc)]⟩
theorem yvs {f g:Bool} (l:List Int) (hl:l.length≤4611686018427387904):y8 Tryz.prog 39 [.list f 1 (l.map j8),.list g 1 (l.map j8)] [] (fun r h'=>h'= []∧r=bv true):=(zw9 l l hl hl).mono fun _ _ q=>⟨q.1,by rw [q.2,zgf zjr];simp⟩
theorem yf0 (h:Hist) (la:Lim 3000 h) (hc:v8 h=0) (hE:h.evs.length≤70) (s:Int) (z:Brch) (hz:(isG z.g && decide (z∈eaS h s z.g))=true):y8 Tryz.prog 27 [.agg (x3 h),iv s,.agg (zb9 z)] [] (fun r h'=>h'= []∧r=bv true):=(yl2 h la hc hE s z).mono fun _ _ q=>⟨q.1,by rw [q.2,hz]⟩
theorem zy0 (x:Hist)  (lb:Lim 4611686018427387904 x)  :y8 Tryz.prog 7 [.agg (x3 x)] (.glob 1 193 zd7:: .glob 0 117 w7:: .glob 3 148 x6:: .glob 5 276 x7:: .glob 6 279 y7:: .glob 2 197 u7:: []) (fun r h'=>h'= .glob 1 193 zd7:: .glob 0 117 w7:: .glob 3 148 x6:: .glob 5 276 x7:: .glob 6 279 y7:: .glob 2 197 u7:: []∧r=bv true):=by
 refine z6 Tryz.func7 rfl rfl rfl ?_
 refine rn ?_;refine z8 rfl (x9 rfl rfl rfl fun b1=> ?_)
 refine rn ?_;refine qv rfl rfl (y4 rfl rfl (y3.qt (y3.of_fun ykq) ((pt1 _ _ _).trans (.cons _ ((pt1 _ _ _).trans (.cons _ ((pt1 _ _ _).trans (.cons _ ((pt1 _ _ _).trans (.cons _ ((pt1 _ _ _).trans (.cons _ (pt1 _ _ _))))))))))))) ?_
 refine rn ?_;refine z7 rfl (fun hc18=> ?_) (fun hc18=> ?_)
 ·exact absurd hc18 (by decide)
 ·refine rn ?_;refine qv rfl rfl (y4 rfl rfl (v6 (yhx x lb) (Sbs.refl _))) ?_
  refine z8 rfl (y6 rfl fun b3=> ?_)
  refine rn ?_;refine qv rfl rfl (y4 rfl rfl (y3.qt (y3.of_fun (zp7 (zge x) ((ze5 x).mono (by decide)))) ((pt3 _ _ _ _ _).trans (.cons _ ((pt3 _ _ _ _ _).trans (.cons _ ((pt3 _ _ _ _ _).trans (.cons _ ((pt3 _ _ _ _ _).trans (.cons _ (pt3 _ _ _ _ _))))))))))) ?_
  refine rn ?_;refine qv rfl rfl (y4 rfl rfl (y3.qt (y3.of_fun (ycg (zge x) ((ze5 x).mono (by decide)))) ((pt3 _ _ _ _ _).trans (.cons _ ((pt3 _ _ _ _ _).trans (.cons _ ((pt3 _ _ _ _ _).trans (.cons _ ((pt3 _ _ _ _ _).trans (.cons _ (pt3 _ _ _ _ _))))))))))) ?_
  refine rn ?_;refine qv rfl rfl (y4 rfl rfl (y3.qt (y3.of_fun (ych (zge x) ((ze5 x).mono (by decide)))) ((pt3 _ _ _ _ _).trans (.cons _ ((pt3 _ _ _ _ _).trans (.cons _ ((pt3 _ _ _ _ _).trans (.cons _ ((pt3 _ _ _ _ _).trans (.cons _ (pt3 _ _ _ _ _))))))))))) ?_
  refine rn ?_;refine qv rfl rfl (y4 rfl rfl (v6 (zyd (zge x) ((ze5 x).mono (by decide))) (Sbs.refl _))) ?_
  refine rn ?_;refine z7 rfl (fun hc40=> ?_) (fun hc40=> ?_)
  ·have hc:v8 (zge x)≠0:=by simpa using hc40
   rw [yqa hc,zvq hc]
   refine x8 (y5 ?_)
   refine q1 ?_;refine q1 ?_;refine qq rfl rfl (zev (c:=true) rfl rfl (congrArg some (beq_self_eq_true _))) ?_
   refine q1 ?_;refine q1 ?_;refine q1 ?_;refine qq rfl rfl (zev (c:=true) rfl rfl (congrArg some (beq_self_eq_true _))) ?_
   refine q1 ?_;refine q1 ?_;refine q1 ?_;refine q1 ?_;refine qq rfl rfl (zev (c:=true) rfl rfl (congrArg some (beq_self_eq_true _))) ?_
   refine q1 ?_;refine q1 ?_;refine q1 ?_;refine q1 ?_;refine q1 ?_;refine q1 ?_;refine q1 ?_;refine q1 ?_;refine q1 ?_;refine q1 ?_;refine qq rfl rfl (k9 rfl rfl rfl (by simp [zau])) ?_
   refine q1 ?_;refine q1 ?_;refine qq rfl rfl (k9 rfl rfl rfl (by simp [zau])) ?_
   refine qq rfl rfl (zev (c:=true) rfl rfl rfl) ?_
   refine rn ?_;first|(refine rq 1 ?_;exact ⟨rfl,rfl⟩)|(refine rq 2 ?_;exact ⟨rfl,rfl⟩)|(refine rq 3 ?_;exact ⟨rfl,rfl⟩)|(refine rq 4 ?_;exact ⟨rfl,rfl⟩)
  ·have hc:v8 (zge x)=0:=by simpa using hc40
   have hLn:=zwt (zdb (zge x))
   have hTn:=tab_len (zge x)
   rw [hc]
   refine rn ?_;refine qv rfl rfl (y4 rfl rfl (v6 (yhx x lb) (Sbs.refl _))) ?_
   refine qv rfl rfl (y4 rfl rfl (v6 (ztx (zge x) ((ze5 x).mono (by decide):Lim 3000 (zge x)) hc (zqg x)) (Sbs.refl _))) ?_
   refine q1 ?_;refine q1 ?_;refine q1 ?_;refine q1 ?_;refine q1 ?_;refine u0 (j7 ?_)
   refine x8 ?_;refine x8 (y5 ?_)
   refine q1 ?_;refine qq rfl rfl (zev (c:=false) rfl rfl (congrArg some (bne_self_eq_false _))) ?_
   refine q1 ?_;refine q1 ?_;refine qq rfl rfl (zev (c:=false) rfl rfl (congrArg some (bne_self_eq_false _))) ?_
   refine q1 ?_;refine q1 ?_;refine q1 ?_;refine qq rfl rfl (zev (c:=false) rfl rfl (congrArg some (bne_self_eq_false _))) ?_
   refine rn ?_;refine qv rfl rfl (y4 rfl rfl (v6 (yhx x lb) (Sbs.refl _))) ?_
   refine qv rfl rfl (y4 rfl rfl (v6 (zog (zge x) ((ze5 x).mono (by decide):Lim 3000 (zge x)) hc (zqg x)) (Sbs.refl _))) ?_
   refine qv rfl rfl (y4 rfl rfl (v6 (yob (zge x) hc) (Sbs.refl _))) ?_
   refine q1 ?_;refine q1 ?_;refine q1 ?_;refine q1 ?_;refine q1 ?_;refine q1 ?_;refine q1 ?_;refine qq rfl rfl (yqx (c:=false) (zjk rfl rfl) (by exact ylx hc)) ?_
   refine rn ?_;refine qv rfl rfl (y4 rfl rfl (v6 (yvs ((zau (zdb (zge x))).map Prod.fst) (by rw [oM];omega)) (Sbs.refl _))) ?_
   refine q1 ?_;refine q1 ?_;refine q1 ?_;refine q1 ?_;refine q1 ?_;refine q1 ?_;refine q1 ?_;refine qq rfl rfl (zev (c:=false) rfl rfl (congrArg some (by simp))) ?_
   refine rn ?_;refine z7 rfl (fun hc112=> ?_) (fun hc112=> ?_)
   ·exact absurd hc112 (by decide)
   ·refine rn ?_;refine zcj (((zau (zdb (zge x))).map (zoq (zge x))).length) (fun i:Nat=>True) (fun i=> [(115,iv i)]) [(1,_),(3,_),(12,_),(13,_),(113,_),(114,_)] trivial ?_
    intro i li _
    refine rn ?_;refine z7 rfl (fun hc116=> ?_) (fun hc116=> ?_)
    ·have hi:=zan hc116
     have ri:=zaf (f:=zb9) hi
     have hi2:i < (zau (zdb (zge x))).length:=by rw [oM] at hi;exact hi
     have hsh:=zyx hc (List.getElem_mem hi2)
     have rs:(((zau (zdb (zge x))).map Prod.fst).map j8)[i]? =some (j8 ((zau (zdb (zge x)))[i]).1):=by simp [hi2]
     have rb:(((zau (zdb (zge x))).map Prod.snd).map j8)[i]? =some (j8 ((zau (zdb (zge x)))[i]).2):=by simp [hi2]
     have ez:((zau (zdb (zge x))).map (zoq (zge x)))[i]=zoq (zge x) (zau (zdb (zge x)))[i]:=by simp
     rw [ez] at ri
     obtain ⟨z,hz⟩:∃z,zoq (zge x) (zau (zdb (zge x)))[i]=z:=⟨_,rfl⟩
     rw [hz] at ri hsh
     obtain ⟨⟨s,b⟩,hd⟩:∃d,(zau (zdb (zge x)))[i]=d:=⟨_,rfl⟩
     rw [hd] at rs rb hsh
     simp only at rs rb hsh
     refine rn ?_;refine z8 rfl (y6 rfl fun b15=> ?_)
     refine rn ?_;refine j4 9 rfl ?_
     refine dq rfl rfl qrA ?_;refine dq rfl rfl qrA ?_;refine dq rfl rfl qrA ?_;refine dq rfl rfl (zas rfl rfl rs) ?_
     refine dq rfl rfl qrA ?_;refine dq rfl rfl qrA ?_;refine dq rfl rfl qrA ?_;refine dq rfl rfl (zas rfl rfl rb) ?_
     refine rn ?_;refine qv rfl rfl (y4 rfl rfl (v6 (zmn (zge x) ((ze5 x).mono (by decide):Lim 3000 (zge x)) hc (zqg x) s b) (Sbs.refl _))) ?_
     refine rn ?_;refine j4 19 rfl ?_
     refine dq rfl rfl qrA ?_;refine dq rfl rfl qrA ?_;refine dq rfl rfl qrA ?_;refine dq rfl rfl qrA ?_;refine dq rfl rfl (zas rfl rfl rb) ?_
     refine dq rfl rfl qrA ?_;refine dq rfl rfl (zev (c:=false) rfl rfl (congrArg some (by rw [hsh.zg];simp))) ?_
     refine dq rfl rfl qrA ?_;refine dq rfl rfl qrA ?_;refine dq rfl rfl qrA ?_;refine dq rfl rfl (zev (c:=false) rfl rfl (congrArg some (yrl hsh.ne))) ?_
     refine dq rfl rfl qrA ?_;refine dq rfl rfl qrA ?_;refine dq rfl rfl qrA ?_;refine dq rfl rfl qrA ?_;refine dq rfl rfl qrA ?_;refine dq rfl rfl (zas rfl rfl rs) ?_
     refine rn ?_;refine qv rfl rfl (y4 rfl rfl (v6 (yf0 (zge x) ((ze5 x).mono (by decide):Lim 3000 (zge x)) hc (zqg x) s z hsh.is) (Sbs.refl _))) ?_
     refine rn ?_;refine z7 rfl (fun hc151=> ?_) (fun hc151=> ?_)
     ·exact absurd hc151 (by decide)
     ·refine rn ?_;exact ⟨hi,trivial,eA⟩
    ·have qi:=zap hc116 li
     refine rn ?_;refine j4 3 rfl ?_
     refine rn ?_;refine dv rfl rfl (by exact y4 rfl rfl (v6 (yhx x lb) (Sbs.refl _))) ?_
     refine rn ?_;refine qv rfl rfl (y4 rfl rfl (v6 (yp3 (zge x) ((ze5 x).mono (by decide))) (Sbs.refl _))) ?_
     refine rn ?_;first|(refine rq 1 ?_;exact ⟨rfl,rfl⟩)|(refine rq 2 ?_;exact ⟨rfl,rfl⟩)|(refine rq 3 ?_;exact ⟨rfl,rfl⟩)|(refine rq 4 ?_;exact ⟨rfl,rfl⟩)
end Go.Proofs
