/- strings.Join over a row of one's own (the kit's shelf has walked it). Conditions: none. To be built over the variant of the library that mkab2.py prints. -/
import Derived.Test.YtcaijocpofcbdaaGreatDoorGBaK
import Derived.Shelf.Strings.OnBuilder
set_option maxHeartbeats 4000000
set_option linter.unusedSectionVars false
set_option linter.unusedSimpArgs false
set_option linter.unusedVariables false
namespace Go.Ab
open Go Go.Shelf Go.Proofs Go.H
theorem zzr {X:Nat→Prop} {w:World} {a:Addr} {cap:Nat} {T:TypeId} {xs:List ByteArray} (hh:HRel X w [.row (.slice (some a) xs.length cap) 1 T (xs.map zay)]):(∀(j:Nat) x,xs[j]? =some x→w.cell? ⟨a.block,a.off+j,none⟩=some (.string x))∧a.block < w.heap.size∧xs.length≤cap∧a.spot=none:=by
 obtain ⟨h1,h2,h3,h4,c,h5,h6,h7⟩:=hh.holds _ (List.mem_singleton.2 rfl)
 refine ⟨fun j x hx=> ?_,(hh.lt a.block (by simp [u2,Res.own])).1,h3,h1⟩
 obtain ⟨hj2,rfl⟩:=List.getElem?_eq_some_iff.1 hx
 obtain ⟨v,e,r⟩:=h7 j (by simpa using hj2) 0 (by simp [zay])
 simp only [List.getElem_map] at r
 have hv:v= .string xs[j]:=r.v_eq
 subst hv
 have e0:a.off+j * 1+0=a.off+j:=by omega
 rw [e0] at e
 simp [World.cell?,h5,e]
theorem zzs {X:Nat→Prop} {w:World} {n cap:Nat} {T:TypeId} {xs:List ByteArray} (hh:HRel X w [.row (.slice none n cap) 1 T (xs.map zay)]):xs= []∧n=0∧cap=0:=by
 obtain ⟨h1,h2,h3⟩:=hh.holds _ (List.mem_singleton.2 rfl)
 exact ⟨by simpa using h1,h2,h3⟩
section
variable {P:Program} {ρ:Ren}
theorem zu2 (L:Lays.n156 P ρ) (E:Builder.Extra P ρ) (s:SV) (T:TypeId) (xs:List ByteArray) (sep:ByteArray) (hx:xs.length≤140737488355328) (hl:(Lib.join (xs.map (·.data.toList)) sep.data.toList).length≤140737488355328):
 y9 P (ρ.f 156) [.v s.v,.v (.string sep)] [.row s.v 1 T (xs.map zay)] (fun r h'=>h'= [.row s.v 1 T (xs.map zay)]∧∃t:ByteArray,r= .v (.string t)):=by
 intro X w vs hh ha
 match vs,ha with
 | [v,v2],⟨hv,hv2,_⟩=>
   obtain rfl:=hv.v_eq
   obtain rfl:=hv2.v_eq
   obtain ⟨a,n,cap⟩:=s
   cases a with
   |none=>
    obtain ⟨rfl,rfl,rfl⟩:=zzs hh
    refine callsIn_wide.2 ((Any.strings_Join_none L E none 0 sep w).mono ?_)
    rintro e w' ⟨rfl,rfl⟩
    exact ⟨_,_,_,rfl,⟨rfl,_,rfl⟩,.v _,hh,.refl _ _⟩
   |some a=>
    have hn:n=xs.length:=by
     have:=(hh.holds _ (List.mem_singleton.2 rfl)).2.1
     simpa using this
    subst hn
    obtain ⟨g1,g2,g3,g4⟩:=zzr hh
    obtain ⟨b,off,sp⟩:=a
    simp only at g1 g2 g4
    subst g4
    refine callsIn_wide.2 ((Any.strings_Join L E b off cap xs sep w g1 g2 hx g3 hl).mono ?_)
    rintro e w' ⟨rfl,hb⟩
    exact ⟨_,_,_,rfl,⟨rfl,_,rfl⟩,.v _,hh.grow hb.size hb.block,.grow hb.size hb.block ⟨⟨hb.os,hb.output⟩,hb.tape,trivial⟩⟩
end
end Go.Ab
set_option maxRecDepth 100000
namespace Go.Proofs
open Go Go.Ab Go.Shelf
def zw5:Go.Shelf.Ren:=⟨fun|156=>126|165=>165|166=>166|169=>167|240=>198|241=>199|276=>217|277=>218|n=>n,fun|0=>0|3=>3|4=>4|5=>5|9=>9|20=>20|31=>22|37=>234|70=>233|72=>236|75=>239|76=>240|80=>242|127=>256|164=>269|n=>n,fun n=>n⟩
theorem ya0:Lays.n156 Tryz.prog zw5:={
 mixed:=by kernel_rfl
 f156:=Tryz.func126.trans (congrArg some (by kernel_rfl))
 f165:=Tryz.func165.trans (congrArg some (by kernel_rfl))
 f166:=Tryz.func166.trans (congrArg some (by kernel_rfl))
 f169:=Tryz.func167.trans (congrArg some (by kernel_rfl))
 f240:=Tryz.func198.trans (congrArg some (by kernel_rfl))
 f241:=Tryz.func199.trans (congrArg some (by kernel_rfl))
 f276:=Tryz.func217.trans (congrArg some (by kernel_rfl))
 f277:=Tryz.func218.trans (congrArg some (by kernel_rfl))
 t0:=Tryz.underlying0
 a0:=Tryz.isAgg0
 z0:=Tryz.sizeOf0
 v0:=Tryz.zeroValue0
 t3:=Tryz.underlying3
 a3:=Tryz.isAgg3
 z3:=Tryz.sizeOf3
 v3:=Tryz.zeroValue3
 t4:=Tryz.underlying4
 a4:=Tryz.isAgg4
 z4:=Tryz.sizeOf4
 v4:=Tryz.zeroValue4
 t9:=Tryz.underlying9
 a9:=Tryz.isAgg9
 z9:=Tryz.sizeOf9
 v9:=Tryz.zeroValue9
 t20:=Tryz.underlying20
 a20:=Tryz.isAgg20
 z20:=Tryz.sizeOf20
 v20:=Tryz.zeroValue20
 t31:=Tryz.underlying22
 a31:=Tryz.isAgg22
 z31:=Tryz.sizeOf22
 v31:=Tryz.zeroValue22
 t37:=Tryz.underlying234
 a37:=Tryz.isAgg234
 z37:=Tryz.sizeOf234
 v37:=Tryz.zeroValue234
 t70:=Tryz.underlying233
 a70:=Tryz.isAgg233
 z70:=Tryz.sizeOf233
 v70:=Tryz.zeroValue233
 t72:=Tryz.underlying236
 a72:=Tryz.isAgg236
 z72:=Tryz.sizeOf236
 v72:=Tryz.zeroValue236
 t75:=Tryz.underlying239
 a75:=Tryz.isAgg239
 z75:=Tryz.sizeOf239
 v75:=Tryz.zeroValue239
 t76:=Tryz.underlying240
 a76:=Tryz.isAgg240
 z76:=Tryz.sizeOf240
 v76:=Tryz.zeroValue240
 t127:=Tryz.underlying256
 a127:=Tryz.isAgg256
 z127:=Tryz.sizeOf256
 v127:=Tryz.zeroValue256
 t164:=Tryz.underlying269
 a164:=Tryz.isAgg269
 z164:=Tryz.sizeOf269
 v164:=Tryz.zeroValue269}
theorem zw6:Builder.Extra Tryz.prog zw5:={
 sizeBuilder:=by kernel_rfl
 liesBuilder:=by kernel_rfl
 t5:=Tryz.underlying5
 a5:=Tryz.isAgg5
 z5:=Tryz.sizeOf5
 v5:=Tryz.zeroValue5
 infoByte:=by kernel_rfl
 cellsByte:=by kernel_rfl
 sizeByte:=by kernel_rfl
 neB5:=by decide}
set_option maxRecDepth 10000
attribute [local irreducible] QR QV OE zca aw zcu zbh za3 zam thn ze6 zdj jch zeh
open Go.H
def wordB (k:Nat):ByteArray:=⟨#[[114,121,119],[109,114],[109,119],[119,102,114]][k]!.toArray⟩
def zb9:List AV:= [.v (.string (wordB 0)),.v (.string (wordB 1)),.v (.string (wordB 2)),.v (.string (wordB 3))]
theorem ynu {k:Nat} (hk:k < 4):∃x:ByteArray,zb9[0+k * 1]? =some (.v (.string x))∧x.size≤3:=by
 rcases (by omega:k=0∨k=1∨k=2∨k=3) with rfl|rfl|rfl|rfl
 ·exact ⟨_,rfl,by decide⟩
 ·exact ⟨_,rfl,by decide⟩
 ·exact ⟨_,rfl,by decide⟩
 ·exact ⟨_,rfl,by decide⟩
theorem zme:∀(xs:List ByteArray),(∀x∈xs,x.size≤3)→Lib.lens (xs.map (·.data.toList))≤3 * xs.length
 | [],_=>Nat.zero_le _
 |x::xs,h=>by
  have h1:=zme xs fun y hy=>h y (by simp [hy])
  have h2:=h x (by simp)
  have e:Lib.lens ((x::xs).map (·.data.toList))=x.data.toList.length+Lib.lens (xs.map (·.data.toList)):=by simp [Lib.lens]
  have e2:x.data.toList.length=x.size:=by rw [Array.length_toList];rfl
  rw [e,List.length_cons];omega
theorem zup (xs:List ByteArray) (sep:ByteArray) (hs:sep.size≤1) (hx:xs.length≤4) (h:∀x∈xs,x.size≤3):(Lib.join (xs.map (·.data.toList)) sep.data.toList).length≤140737488355328:=by
 cases xs with
 |nil=>exact Nat.zero_le _
 |cons x r=>
  have h1:=zme (x::r) h
  have e2:sep.data.toList.length=sep.size:=by rw [Array.length_toList];rfl
  rw [List.map_cons] at h1 ⊢
  rw [Lib.join_length,oM,e2]
  rw [List.length_cons] at hx h1
  have h3:sep.size * r.length≤1 * r.length:=Nat.mul_le_mul_right _ hs
  omega
theorem yml (s:SV) (xs:List ByteArray) (sep:ByteArray) (hs:sep.size≤1) (hx:xs.length≤4) (h:∀x∈xs,x.size≤3) (W:List Res):y9 Tryz.prog 126 [.v s.v,.v (.string sep)] (.row s.v 1 9 (xs.map zay)::W) (fun r h'=>h'= .row s.v 1 9 (xs.map zay)::W∧∃t:ByteArray,r= .v (.string t)):=
 ((zu2 ya0 zw6 s 9 xs sep (by omega) (zup xs sep hs hx h)).frame W).mono (by
   rintro _ _ ⟨_,rfl,rfl,t,rfl⟩
   exact ⟨rfl,t,rfl⟩)
def woC (g:Int):Int:=if g < 0∨g > 15 then 190 else 0
theorem ydy (g:Int):∀{k:Nat},k < 4→∃c,zl0 .shr .i64 g (k:Nat)=some c
 |0,_=>⟨_,rfl⟩
 |1,_=>⟨_,rfl⟩
 |2,_=>⟨_,rfl⟩
 |3,_=>⟨_,rfl⟩
theorem yfj (g:Int):y9 Tryz.prog 88 [iv g] (.glob 1 193 zb9:: []) (fun r h'=>h'= .glob 1 193 zb9:: []∧∃t:ByteArray,r= .tup [.v (.string t),iv (woC g)]):=by
 refine z6 Tryz.func88 rfl rfl rfl ?_
 refine rn ?_;refine q8 (fun hg1_2=> ?_) (fun hg1_2=> ?_)
 ·refine rn ?_;refine zry rfl ?_;have hw:woC g=190:=by
   refine if_pos ?_;first
   |(have q:g < 0:=by simpa using hg1_2
     exact .inl q)
   |(have q:15 < g:=by simpa using hc11
     exact .inr q)
  refine rn ?_;first
  |exact zbl rfl rfl (.refl _ _) ⟨rfl,_,by rw [hw];rfl⟩
  |exact zbl rfl rfl (.drop [_] _ _) ⟨rfl,_,by rw [hw];rfl⟩
 ·refine rn ?_;refine z8 rfl (fun hc11=> ?_) (fun hc11=> ?_)
  ·have hw:woC g=190:=by
    refine if_pos ?_;first
    |(have q:g < 0:=by simpa using hg1_2
      exact .inl q)
    |(have q:15 < g:=by simpa using hc11
      exact .inr q)
   refine rn ?_;first
   |exact zbl rfl rfl (.refl _ _) ⟨rfl,_,by rw [hw];rfl⟩
   |exact zbl rfl rfl (.drop [_] _ _) ⟨rfl,_,by rw [hw];rfl⟩
  ·have hw:woC g=0:=if_neg (by have q1:=oF hg1_2;have q2:=oF hc11;omega)
   refine rn ?_;refine zem 4 (fun k (z:SV×List ByteArray)=>z.2.length≤k∧∀x∈z.2,x.size≤3) (fun k z=>⟨[(12,iv (k:Nat)),(4,.v z.1.v),(0,iv g)],.row z.1.v 1 9 ((z.2).map zay):: .glob 1 193 zb9:: [],[]⟩) (⟨none,0,0⟩,[]) ⟨Nat.le_refl _,by simp⟩ (w7 (za1 1 9) es) ?_
   rintro k ⟨v,xs⟩ lk ⟨hn,hX⟩
   simp only at hn hX
   show aw _ _ _ _ _ ⟨[(12,iv (k:Nat)),(4,.v v.v),(0,iv g)],.row v.v 1 9 ((xs).map zay):: .glob 1 193 zb9:: [],[]⟩
   refine rn ?_;refine z8 rfl (fun hc13=> ?_) (fun hc13=> ?_)
   ·have hk:k < 4:=by have q:=oT hc13;omega
    obtain ⟨c,hsh⟩:=ydy g hk
    obtain ⟨x,hx,hxs⟩:=ynu hk
    refine zad ?_;refine k6 ?_;refine w6 ?_;refine zae ?_;refine w6 (y6 ?_)
    refine q1 ?_;refine q1 ?_;refine u3 (k6 ?_)
    refine w6 (y6 ?_)
    refine q1 ?_;refine q1 ?_;refine qq rfl rfl (ze1 (c:=c) rfl rfl hsh (Int.natCast_nonneg _)) ?_
    refine rn ?_;refine z8 rfl (fun hc19=> ?_) (fun hc19=> ?_)
    ·refine y6 ?_;refine q1 ?_;refine q1 ?_;refine qq rfl rfl (u9 (i:=k) rfl rfl (by omega)) ?_
     refine qq rfl rfl (j3 rfl hx) ?_
     refine qv rfl rfl (v8 rfl rfl) ?_
     refine z7 rfl (j8 rfl rfl (by simp only [oM,List.length_cons,List.length_nil];omega) rfl (fun s25=> ?_) (fun r hr=>by rw [List.mem_singleton.1 hr];rfl))
     refine zak s25 fun sv hsv=> ?_
     subst hsv
     refine rn ?_;exact ⟨hk,(sv,xs++ [x]),⟨by simp only [List.length_append,List.length_cons,List.length_nil];omega,fun y hy=>by
      rcases List.mem_append.1 hy with hy|hy
      ·exact hX y hy
      ·rw [List.mem_singleton.1 hy];exact hxs⟩,by simp only [List.map_append];exact eA⟩
    ·refine rn ?_;exact ⟨hk,(v,xs),⟨by simp only;omega,hX⟩,eA⟩
   ·refine rn ?_;refine z7 rfl (w8 rfl rfl (y3.of_fun (yml v xs _ (by decide) (by omega) hX _)) rfl ?_)
    rintro _ _ ⟨rfl,t,rfl⟩
    refine rn ?_;first
    |exact zbl rfl rfl (.refl _ _) ⟨rfl,_,by rw [hw];rfl⟩
    |exact zbl rfl rfl (.drop [_] _ _) ⟨rfl,_,by rw [hw];rfl⟩
end Go.Proofs
set_option maxRecDepth 100000
namespace Go.Proofs.YtcaijocpofcbdaaGreatDoor
open Go Go.Ab Go.H Go.ChangeShapes Go.WideShapes Go.ChangeAt Go.RowKit
def znd:List (String×DataW Unit):= [("unicode/utf8.acceptRanges",Rows.laid_unicode_utf8_acceptRanges),("yardarm/level.words",Rows.laid_yardarm_level_words),("yardarm/history.limits",Rows.laid_yardarm_history_limits),("yardarm/rules.asks",Rows.laid_yardarm_rules_asks),("yardarm/session.guards",Rows.laid_yardarm_session_guards),("unicode/utf8.first",Rows.laid_unicode_utf8_first)]
def zkp:List (String×DataW Unit):= [("unicode/utf8.acceptRanges",Rows.laid_unicode_utf8_acceptRanges),("yardarm/level.words",Rows.laid_yardarm_level_words),("yardarm/history.limits",Rows.laid_yardarm_history_limits),("unicode/utf8.first",Rows.laid_unicode_utf8_first)]
theorem zs2:(znd.filter fun x=>x.2.handleName?.isNone)=zkp:=by kernel_rfl
theorem yax {W:World} (h:laidMetH Tryz.prog znd W):laidMet Tryz.prog zkp W:=by
 have:=(laidMetH_iff.1 h).1
 rw [zs2] at this
 exact this
theorem yju {w:World} (h:laidMetH Tryz.prog znd w):(Res.glob 2 197 u0).holds w noX:=by
 obtain ⟨g,t,cs,fuel,p,hg,ht,hv,hd⟩:=h.funcs (n:= "yardarm/rules.asks") (d:=ygh) (.tail _ (.tail _ (.tail _ (.head _))))
 obtain rfl:=Option.some.inj ((show Tryz.prog.globalNamed "yardarm/rules.asks" =some 2 by kernel_rfl).symm.trans hg)
 obtain rfl:=Option.some.inj ((show (Tryz.prog.globals[2]?).map (·.type)=some 197 by kernel_rfl).symm.trans ht)
 rw [zyb] at hd
 have c1:Tryz.prog.cellsOf 196=1:=by kernel_rfl
 have c11:Tryz.prog.cellsOf 197=11:=by kernel_rfl
 have hlen:cs.toList.length=11:=by
  obtain ⟨_,_,_,_,hl,_⟩:=DataW.trod_array Tryz.underlying197 hd
  rw [hl,c11]
 unfold World.var? at hv
 rw [hg] at hv
 simp only [Option.bind_some] at hv
 split at hv
 ·rename_i c T0 fr hh
  cases hv
  refine zs7 hh (by rw [show u0.length=11 from rfl];simpa using hlen.symm) fun j h1 h2=> ?_
  cases j with
  |zero=>exact .any _
  |succ k=>
   have hk:k < 10:=by have:u0.length=11:=rfl;omega
   obtain ⟨b,r,hn,hone,ha⟩:=ybo k hk
   obtain ⟨f',d,q,e1,e2⟩:=Lib.array_elem Tryz.underlying197 hd (k+1) (by omega)
   have e1':d= .held (b::r):=by
    rw [List.getElem?_cons_succ,List.getElem?_map,List.getElem?_drop,Nat.add_comm 1 k,hn] at e1
    exact (Option.some.inj e1).symm
   subst e1'
   rw [c1,Nat.mul_one,List.drop_eq_getElem_cons (by simpa using h2),List.take_succ_cons,List.take_zero] at e2
   have:=func_of_trod (f0:=fnA.getD k 0) Tryz.underlying196 hone e2
   rw [Array.getElem_toList] at this
   rw [this,show u0[k+1]= .fn (.func (fnA.getD k 0)) [] [] from Option.some.inj ((List.getElem?_eq_getElem h1).symm.trans ha)]
   exact zhn _ _
 ·cases hv
theorem yjt {w:World} (h:laidMetH Tryz.prog znd w):(Res.glob 0 117 x6).holds w noX:=by
 obtain ⟨g,t,cs,fuel,p,hg,ht,hv,hd⟩:=h.funcs (n:= "yardarm/session.guards") (d:=ynn) (.tail _ (.tail _ (.tail _ (.tail _ (.head _)))))
 obtain rfl:=Option.some.inj ((show Tryz.prog.globalNamed "yardarm/session.guards" =some 0 by kernel_rfl).symm.trans hg)
 obtain rfl:=Option.some.inj ((show (Tryz.prog.globals[0]?).map (·.type)=some 117 by kernel_rfl).symm.trans ht)
 rw [ya3] at hd
 have c3:Tryz.prog.cellsOf 116=3:=by kernel_rfl
 have c12:Tryz.prog.cellsOf 117=12:=by kernel_rfl
 have hlen:cs.toList.length=4 * 3:=by
  obtain ⟨_,_,_,_,hl,_⟩:=DataW.trod_array Tryz.underlying117 hd
  rw [hl,c12]
 have hcs:cs.toList=guaV:=by
  refine (ztk 3 4 cs.toList (fun i=>(guaV.drop (i * 3)).take 3) hlen fun i hi=> ?_).trans rfl
  obtain ⟨f',d,q,e1,e2⟩:=Lib.array_elem Tryz.underlying117 hd i hi
  rw [c3] at e2
  match i,hi with
  |0,_=>obtain rfl:=Option.some.inj e1;exact zni ylb yla e2
  |1,_=>obtain rfl:=Option.some.inj e1;exact zni yla yla e2
  |2,_=>obtain rfl:=Option.some.inj e1;exact zni ylb ylb e2
  |3,_=>obtain rfl:=Option.some.inj e1;exact zni yla ylb e2
 unfold World.var? at hv
 rw [hg] at hv
 simp only [Option.bind_some] at hv
 split at hv
 ·rename_i c T0 fr hh
  cases hv
  have hc:cs=guaV.toArray:=by rw [←hcs]
  subst hc
  refine zs7 hh rfl fun j h1 h2=> ?_
  match j,h1 with
  |0,_=>exact .v _
  |1,_=>exact zhn _ _
  |2,_=>exact zhn _ _
  |3,_=>exact .v _
  |4,_=>exact zhn _ _
  |5,_=>exact zhn _ _
  |6,_=>exact .v _
  |7,_=>exact zhn _ _
  |8,_=>exact zhn _ _
  |9,_=>exact .v _
  |10,_=>exact zhn _ _
  |11,_=>exact zhn _ _
  |n+12,h1=>exact absurd h1 (by show ¬n+12 < 12;omega)
 ·cases hv
def yg4 (k:Nat):List UInt8:= [[114,121,119],[109,114],[109,119],[119,102,114]][k]!
theorem zyy:(Rows.laid_yardarm_level_words:DataW Unit)= .agg ((List.range 4).map fun i=> .lit (.string (yg4 i))):=by kernel_rfl
theorem yhj {s:ByteArray} {l:List UInt8} (h:s.data.toList=l):s=⟨l.toArray⟩:=by
 subst h;cases s;simp
theorem ymq {w:World} (h:Lib.VarReads Tryz.prog w "yardarm/level.words" Rows.laid_yardarm_level_words):(Res.glob 1 193 zb9).holds w noX:=by
 refine znl (vals:=(List.range 4).map fun i=>Value.string (wordB i)) (T:=193) h (by kernel_rfl) (show _=some 193 by kernel_rfl) fun fuel cs p hd=> ?_
 rw [zyy] at hd
 have c1:Tryz.prog.cellsOf 9=1:=by kernel_rfl
 have c4:Tryz.prog.cellsOf 193=4:=by kernel_rfl
 have hlen:cs.length=4 * 1:=by
  obtain ⟨_,_,_,_,hl,_⟩:=DataW.trod_array Tryz.underlying193 hd
  rw [hl,c4]
 refine (ztk 1 4 cs (fun i=> [Value.string (wordB i)]) hlen fun i hi=> ?_).trans rfl
 obtain ⟨f',d,q,h1,h2⟩:=Lib.array_elem Tryz.underlying193 hd i hi
 simp only [List.getElem?_map,List.getElem?_range hi,Option.map_some,Option.some.injEq] at h1
 subst h1
 rw [c1] at h2
 obtain ⟨s,e,ex,_⟩:=DataW.trod_string Tryz.underlying9 h2
 have e2:s.data.toList=yg4 i:=by
  have:=congrArg Prod.fst ex
  simp only [DataW.lit.injEq,Lit.string.injEq] at this
  exact this.symm
 rw [e,yhj e2]
 match i,hi with
 |0,_=>rfl
 |1,_=>rfl
 |2,_=>rfl
 |3,_=>rfl
theorem yk7:OO [.glob 1 193 zb9,.glob 0 117 x6,.glob 3 148 y8,.glob 5 276 x3,.glob 6 279 y5,.glob 2 197 u0] noX=noX:=by funext b;simp [OO,u2,noX,Res.own]
theorem zun {W:World} (h:laidMetH Tryz.prog znd W):HRel noX W [.glob 1 193 zb9,.glob 0 117 x6,.glob 3 148 y8,.glob 5 276 x3,.glob 6 279 y5,.glob 2 197 u0]:=by
 have h':=yax h
 have h0:=ymt (Lib.laidMet.reads h' (.tail _ (.tail _ (.head _))))
 have h1:=yms (Lib.laidMet.reads h' (.tail _ (.tail _ (.tail _ (.head _)))))
 have h2:=ymr (Lib.laidMet.reads h' (.head _))
 have h3:=ymq (Lib.laidMet.reads h' (.tail _ (.head _)))
 refine ⟨by simp [u2,Res.own],fun b hb=>by simp [u2,Res.own] at hb,fun b hb=>hb.elim,fun r hr=> ?_⟩
 rw [yk7]
 simp only [List.mem_cons,List.not_mem_nil,or_false] at hr
 rcases hr with rfl|rfl|rfl|rfl|rfl|rfl
 ·exact h3
 ·exact yjt h
 ·exact h0
 ·exact h1
 ·exact h2
 ·exact yju h
noncomputable def witW0 (os:Os):World:={World.holding Tryz.prog os ⟨#[], #[],[]⟩ with heap:=((World.holding Tryz.prog os ⟨#[], #[],[]⟩).heap.modify 2 (Lay.setRow ynd)).modify 0 (Lay.setRow guaV)}
noncomputable def witW (os:Os):World:=(witW0 os).layVars Tryz.prog zkp
theorem yc7 (os:Os):(witW os).os=os:=World.layVars_os _ _ _
theorem zy0 (os:Os) (args:Array Value):laidMetH Tryz.prog znd ((witW os).forCall (fun _ _=>0) ⟨#[],args,[]⟩).memory:=by
 refine laidMetH_of_parts3 (fuel:=8) ?_ (by kernel_rfl) (by kernel_rfl)
 rw [zs2]
 have h:laidMet Tryz.prog zkp (witW os):=laidMet_layVars (w0:=witW0 os) (zkp.map (·.1)) [] (by kernel_rfl) (by kernel_rfl) (by kernel_rfl) (by
  rw [show (zkp.filter fun x=> !(zkp.map (·.1)).contains x.1)= [] by kernel_rfl];exact LaidIn.none)
 exact h.of_heap (by simp [World.memory,World.forCall,Input.heap])
end Go.Proofs.YtcaijocpofcbdaaGreatDoor
set_option maxRecDepth 10000
namespace Go.Proofs
open Go Go.Ab
attribute [local irreducible] QR QV OE zca aw zcu zbh za3 zam thn ze6 zdj jch zeh
open Go.H
def wiC (h:Hist) (s b:Int):Int:=if u6 h≠0 then u6 h else if isB s h.ss.length=false then 2 else if b < 0∨b > 15 then 190 else if (zew h.wants s b).length > 3000 then 6 else 0
def wiH (h:Hist) (s b:Int):Hist:=if wiC h s b=0 then zbr h (zew h.wants s b) else zfu
theorem yc8 {h:Hist} {s b:Int} (hc:u6 h≠0):wiC h s b=u6 h:=if_pos hc
theorem zvg {h:Hist} {s b:Int} (hc:u6 h=0) (hb:isB s h.ss.length=false):wiC h s b=2:=by rw [wiC,if_neg (by omega),if_pos hb]
theorem yg6 {h:Hist} {s b:Int} (hc:u6 h=0) (hb:isB s h.ss.length=true) (hw:woC b=190):wiC h s b=190:=by
 have:b < 0∨b > 15:=by
  by_cases q:b < 0∨b > 15
  ·exact q
  ·rw [woC,if_neg q] at hw;cases hw
 rw [wiC,if_neg (by omega),if_neg (by rw [hb];decide),if_pos this]
theorem zr5 (b:Int):woC b=190∨(woC b=0∧¬(b < 0∨b > 15)):=by
 by_cases q:b < 0∨b > 15
 ·exact .inl (if_pos q)
 ·exact .inr ⟨if_neg q,q⟩
theorem yg7 {h:Hist} {s b:Int} (hc:u6 h=0) (hb:isB s h.ss.length=true) (hw:¬(b < 0∨b > 15)) (hl:(zew h.wants s b).length > 3000):wiC h s b=6:=by rw [wiC,if_neg (by omega),if_neg (by rw [hb];decide),if_neg hw,if_pos hl]
theorem zy2 {h:Hist} {s b:Int} (hc:u6 h=0) (hb:isB s h.ss.length=true) (hw:¬(b < 0∨b > 15)) (hl:¬(zew h.wants s b).length > 3000):wiC h s b=0:=by rw [wiC,if_neg (by omega),if_neg (by rw [hb];decide),if_neg hw,if_neg hl]
theorem ztw {h:Hist} {s b:Int} (he:wiC h s b≠0):wiH h s b=zfu:=if_neg he
theorem zy1 {h:Hist} {s b:Int} (he:wiC h s b=0):wiH h s b=zbr h (zew h.wants s b):=if_pos he
theorem yci {s:Int} {n:Nat} (h:decide (s < 0)=true):isB s n=false:=by have:=oT h;unfold isB;simp <;> omega
theorem ycj {α β:Type} {f:α→β} {l:List α} {s:Int} (h:decide (s ≥ ((l.map f).length:Int))=true):isB s l.length=false:=by have:=oT h;rw [oM] at this;unfold isB;simp <;> omega
theorem yje {α β:Type} {f:α→β} {l:List α} {s:Int} (h:decide (s < 0)=false) (k:decide (s ≥ ((l.map f).length:Int))=false):isB s l.length=true:=by
 have h:=oF h
 have k:=oF k
 rw [oM] at k
 exact zh9.2 ⟨by omega,by omega⟩
theorem yjn (c0 c1 c2 c3 c4 c5 c6:AV) (ho: [c0,c1,c2,c3,c4,c5,c6].all AV.one=true) (l:List Wan) (hl:l.length≤1000000) (s bits:Int):y9 Tryz.prog 89 [.agg [c0,c1,c2,c3,c4,c5,c6,zfl l],iv s,iv bits] [] (fun r h'=>h'= []∧r= .agg [c0,c1,c2,c3,c4,c5,c6,zfl (zew l s bits)]):=
 (yfk c0 c1 c2 c3 c4 c5 c6 ho l hl s bits).ventR (by rintro _ _ ⟨v,rfl,rfl⟩;exact ⟨_,_,zcm [_,_,_,_,_,_,_] [],rfl,rfl⟩)
theorem ya4 (g:Int) (W:List Res):y9 Tryz.prog 88 [iv g] (.glob 1 193 zb9::W) (fun r h'=>h'= .glob 1 193 zb9::W∧∃t:ByteArray,r= .tup [.v (.string t),iv (woC g)]):=((yfj g).frame W).mono (by rintro _ _ ⟨_,rfl,rfl,t,rfl⟩;exact ⟨rfl,t,rfl⟩)
theorem zri (h:Hist) (la:Lim 4611686018427387904 h) (s bits:Int):y9 Tryz.prog 40 [.agg (x4 h),iv s,iv bits] (.glob 1 193 zb9:: .glob 0 117 x6:: .glob 3 148 y8:: .glob 5 276 x3:: .glob 6 279 y5:: .glob 2 197 u0:: []) (fun r h'=>h'= .glob 1 193 zb9:: .glob 0 117 x6:: .glob 3 148 y8:: .glob 5 276 x3:: .glob 6 279 y5:: .glob 2 197 u0:: []∧r= .tup [.agg (x4 (wiH h s bits)),iv (wiC h s bits)]):=by
 refine z6 Tryz.func40 rfl rfl rfl ?_
 refine rn ?_;refine z7 rfl (x9 rfl rfl rfl fun b3=> ?_)
 refine z7 rfl (x5 rfl fun b6=> ?_)
 refine rn ?_;refine qv rfl rfl (y4 rfl rfl (y3.qt (y3.of_fun (zrf h la)) ((pt4 _ _ _ _ _ _).trans (.cons _ ((pt4 _ _ _ _ _ _).trans (.cons _ ((pt4 _ _ _ _ _ _).trans (.cons _ (pt4 _ _ _ _ _ _))))))))) ?_
 refine rn ?_;refine z8 rfl (fun hc15=> ?_) (fun hc15=> ?_)
 ·have hc:u6 h≠0:=nzT hc15
  refine rn ?_;exact zd7 (.cons _ _ _ _ (.agg _ _ _ _ _ _ _ rfl inferInstance inferInstance inferInstance rfl) (.cons _ _ _ _ (.tmp _ _ rfl) .nil)) (.trans (.drop [_,_] _ _) (.le (Sb.tups (aS:= [.agg zek,_]) (bs:= [.agg (x4 zfu),_]) ⟨Sb.aggs (aS:=zek) (bs:=x4 zfu) ⟨.nil _ _,.nil _ _,.nil _ _,.nil _ _,.nil _ _,.nil _ _,.nil _ _,.nil _ _,trivial⟩,.refl _,trivial⟩).le)) ⟨rfl,by rw [ztw (by rw [yc8 hc];first|exact hc|decide),yc8 hc] <;> rfl⟩
 ·have hc:u6 h=0:=nzF hc15
  have lA:Lim 1000000 h:=(zfa hc).mono (by decide)
  refine rn ?_;refine q8 (fun hg4_2=> ?_) (fun hg4_2=> ?_)
  ·refine rn ?_;refine zry rfl ?_;have hb:isB s h.ss.length=false:=by first|exact yci hg4_2|exact ycj hc26
   refine rn ?_;exact zd7 (.cons _ _ _ _ (.agg _ _ _ _ _ _ _ rfl inferInstance inferInstance inferInstance rfl) (.cons _ _ _ _ (.tmp _ _ rfl) .nil)) (.trans (.drop [_,_] _ _) (.le (Sb.tups (aS:= [.agg zek,_]) (bs:= [.agg (x4 zfu),_]) ⟨Sb.aggs (aS:=zek) (bs:=x4 zfu) ⟨.nil _ _,.nil _ _,.nil _ _,.nil _ _,.nil _ _,.nil _ _,.nil _ _,.nil _ _,trivial⟩,.refl _,trivial⟩).le)) ⟨rfl,by rw [ztw (by rw [zvg hc hb];first|exact hc|decide),zvg hc hb] <;> rfl⟩
  ·refine rn ?_;refine z8 rfl (fun hc26=> ?_) (fun hc26=> ?_)
   ·have hb:isB s h.ss.length=false:=by first|exact yci hg4_2|exact ycj hc26
    refine rn ?_;exact zd7 (.cons _ _ _ _ (.agg _ _ _ _ _ _ _ rfl inferInstance inferInstance inferInstance rfl) (.cons _ _ _ _ (.tmp _ _ rfl) .nil)) (.trans (.drop [_,_] _ _) (.le (Sb.tups (aS:= [.agg zek,_]) (bs:= [.agg (x4 zfu),_]) ⟨Sb.aggs (aS:=zek) (bs:=x4 zfu) ⟨.nil _ _,.nil _ _,.nil _ _,.nil _ _,.nil _ _,.nil _ _,.nil _ _,.nil _ _,trivial⟩,.refl _,trivial⟩).le)) ⟨rfl,by rw [ztw (by rw [zvg hc hb];first|exact hc|decide),zvg hc hb] <;> rfl⟩
   ·have hb:isB s h.ss.length=true:=yje hg4_2 hc26
    refine rn ?_;refine z7 rfl (w8 rfl rfl (y3.perm (pt2 _ _ _ _) (y3.of_fun (ya4 bits _))) rfl ?_)
    rintro _ _ ⟨rfl,t,rfl⟩
    refine rn ?_;refine z8 rfl (fun hc34=> ?_) (fun hc34=> ?_)
    ·have hw:woC bits=190:=(zr5 bits).resolve_right (fun q=>nzT hc34 q.1)
     rw [hw]
     refine rn ?_;exact zd7 (.cons _ _ _ _ (.agg _ _ _ _ _ _ _ rfl inferInstance inferInstance inferInstance rfl) (.cons _ _ _ _ (.tmp _ _ rfl) .nil)) (.trans (.trans (.perm ((pt1 _ _ _).trans (.cons _ (pt1 _ _ _))) _) (.drop [_,_] _ _)) (.le (Sb.tups (aS:= [.agg zek,_]) (bs:= [.agg (x4 zfu),_]) ⟨Sb.aggs (aS:=zek) (bs:=x4 zfu) ⟨.nil _ _,.nil _ _,.nil _ _,.nil _ _,.nil _ _,.nil _ _,.nil _ _,.nil _ _,trivial⟩,.refl _,trivial⟩).le)) ⟨rfl,by rw [ztw (by rw [yg6 hc hb hw];first|exact hc|decide),yg6 hc hb hw] <;> rfl⟩
    ·have hw:¬(bits < 0∨bits > 15):=((zr5 bits).resolve_left (fun q=>by have w:=nzF hc34;rw [q] at w;cases w)).2
     refine rn ?_;refine qv rfl rfl (y4 rfl rfl (zaf (ymp h lA) (Sbs.refl _))) ?_
     refine rn ?_;refine qv rfl rfl (y4 rfl rfl (zaf (yjn (zbv h.ts) (zbv h.ss) (zbv h.os) (zbv h.ps) (zte h.evs) (zuc h.ords) (zug h.mats) rfl h.wants (by have:=lA.wants;omega) s bits) (Sbs.refl _))) ?_
     refine z7 rfl (x5 rfl fun b11=> ?_)
     refine rn ?_;refine z8 rfl (fun hc45=> ?_) (fun hc45=> ?_)
     ·have hl:(zew h.wants s bits).length > 3000:=by have q:=oT hc45;rw [oM] at q;omega
      refine rn ?_;exact zd7 (.cons _ _ _ _ (.agg _ _ _ _ _ _ _ rfl inferInstance inferInstance inferInstance rfl) (.cons _ _ _ _ (.tmp _ _ rfl) .nil)) (.trans (.trans (.perm (.cons _ ((pt1 _ _ _).trans (.cons _ (pt1 _ _ _)))) _) (.drop [_,_,_] _ _)) (.le (Sb.tups (aS:= [.agg zek,_]) (bs:= [.agg (x4 zfu),_]) ⟨Sb.aggs (aS:=zek) (bs:=x4 zfu) ⟨.nil _ _,.nil _ _,.nil _ _,.nil _ _,.nil _ _,.nil _ _,.nil _ _,.nil _ _,trivial⟩,.refl _,trivial⟩).le)) ⟨rfl,by rw [ztw (by rw [yg7 hc hb hw hl];first|exact hc|decide),yg7 hc hb hw hl] <;> rfl⟩
     ·have hl:¬(zew h.wants s bits).length > 3000:=by have q:=oF hc45;rw [oM] at q;omega
      refine rn ?_;exact zd7 (.cons _ _ _ _ (.agg _ _ _ _ _ _ _ rfl inferInstance inferInstance inferInstance rfl) (.cons _ _ _ _ (.tmp _ _ rfl) .nil)) (.trans (.perm (.cons _ ((pt1 _ _ _).trans (.cons _ (pt1 _ _ _)))) _) (.drop [_,_,_] _ _)) ⟨rfl,by rw [zy1 (zy2 hc hb hw hl),zy2 hc hb hw hl] <;> rfl⟩
theorem zs6 (a b:Grd):(([a.s,a.q,a.a]:List Int)== [b.s,b.q,b.a])=(a==b):=by
 rw [Bool.eq_iff_iff]
 obtain ⟨a1,a2,a3⟩:=a
 obtain ⟨b1,b2,b3⟩:=b
 simp
theorem zng {full:Bool} (l:List Wan) (fv:AV) (p:Wan→Bool) (G:List Res) (hp:∀a∈l,y3 Tryz.prog fv [.agg (zbi a)] G (fun r h'=>h'=G∧r=bv (p a))) (hlen:l.length≤4611686018427387904):y9 Tryz.prog 102 [.list full 2 (l.map zbi),fv] G (fun r h'=>h'=G∧r=iv (za5 p 0 l)):=by
 refine z6 Tryz.func102 rfl rfl rfl ?_
 refine rn ?_;refine u5 (fun k:Nat=>k≤l.length∧za5 p 0 l=za5 p k (l.drop k)) (fun k=>⟨[(8,iv k),(7,iv (l.map zbi).length),(0,.list full 2 (l.map zbi)),(1,fv)],G,[]⟩) (fun k=>l.length - k) 0 ⟨Nat.zero_le _,by simp⟩
  (x7 (.cons _ _ _ rfl (.cons _ _ _ rfl (.cons _ _ _ rfl (.cons _ _ _ rfl (.nil)))))) ?_
 rintro k ⟨hk,hnot⟩
 refine rn ?_;refine z8 rfl (fun hc9=> ?_) (fun hc9=> ?_)
 ·have hk2:k < l.length:=by simpa using hc9
  have hrow:(l.map zbi)[k]? =some (zbi l[k]):=by simp [hk2]
  have hd:=List.drop_eq_getElem_cons hk2
  refine rn ?_;refine qv rfl rfl (y4 rfl rfl (hp l[k] (by simp))) ?_
  refine rn ?_;refine z8 rfl (fun hc16=> ?_) (fun hc16=> ?_)
  ·refine rn ?_;exact j6 rfl (.refl _ _) ⟨rfl,by rw [hnot,hd,za5,if_pos hc16];rfl⟩
  ·refine rn ?_;exact ⟨k+1,⟨by omega,by rw [hnot,hd,za5,if_neg (by simp [hc16])]⟩,(x7 (.cons _ _ _ rfl (.cons _ _ _ rfl (.cons _ _ _ rfl (.cons _ _ _ rfl (.nil)))))),by omega⟩
 ·have hk3:k=l.length:=by
   have:l.length≤k:=by simpa using hc9
   omega
  refine rn ?_;exact j6 rfl (.refl _ _) ⟨rfl,by rw [hnot,hk3,List.drop_length,za5];rfl⟩
theorem zi1 {full:Bool} (l:List Wan) (fv:AV) (p:Wan→Bool) (G:List Res) (hp:∀a∈l,y3 Tryz.prog fv [.agg (zbi a)] G (fun r h'=>h'=G∧r=bv (p a))) (hlen:l.length≤4611686018427387904):y9 Tryz.prog 49 [.list full 2 (l.map zbi),fv] G (fun r h'=>h'=G∧r=bv (l.any p)):=by
 refine z6 Tryz.func49 rfl rfl rfl ?_
 refine rn ?_;refine qv rfl rfl (y4 rfl rfl (y3.of_fun (zng l _ p G hp hlen))) ?_
 refine rn ?_;exact j6 rfl (.refl _ _) ⟨rfl,by simp only [←zd2 p l 0];rfl⟩
theorem ybf {f g:Bool} (l m:List Grd) (hl:l.length≤4611686018427387904) (hm:m.length≤4611686018427387904):y9 Tryz.prog 37 [.list f 3 (l.map zn8),.list g 3 (m.map zn8)] [] (fun r h'=>h'= []∧r=bv (decide (l=m))):=by
 refine z6 Tryz.func37 rfl rfl rfl ?_
 refine rn ?_;refine z8 rfl (fun hc10=> ?_) (fun hc10=> ?_)
 ·have hne:l.length≠m.length:=by have w:=hc10;intro e;rw [oM,oM,e] at w;simp at w
  refine rn ?_;refine rq 0 ?_
  exact ⟨rfl,by rw [decide_eq_false (fun e=>hne (by rw [e]))];rfl⟩
 ·have hlm:l.length=m.length:=by have w:=hc10;rw [oM,oM] at w;exact yf2 w
  refine rn ?_;refine ycw (l.length) (fun k:Nat=>l.take k=m.take k) (fun k=> [(13,iv k)]) [(0,_),(1,_),(12,_)] rfl ?_
  intro k lk zk
  refine rn ?_;refine z8 rfl (fun hc14=> ?_) (fun hc14=> ?_)
  ·have hk:=zd0 hc14
   have rk:=zdp (f:=zn8) hk
   have hk2:k < m.length:=by omega
   have rk2:=zdp (f:=zn8) hk2
   refine rn ?_;refine j4 8 rfl ?_
   refine dq rfl rfl qrA ?_;refine dq rfl rfl qrA ?_;refine dq rfl rfl (zcy rfl rfl rk) ?_
   refine dq rfl rfl qrA ?_;refine dq rfl rfl qrA ?_;refine dq rfl rfl qrA ?_;refine dq rfl rfl (zcy rfl rfl rk2) ?_
   refine rn2 ?_;refine qq rfl rfl (zsr rfl rfl rfl rfl) ?_
   refine rn ?_;refine z8 rfl (fun hc24=> ?_) (fun hc24=> ?_)
   ·have hne:l[k]≠m[k]:=fun e=>by have w:=zkj hc24;rw [zs6,e] at w;simp at w
    refine rn ?_;refine rq 0 ?_
    exact ⟨rfl,by rw [decide_eq_false (ymf hk hk2 hne)];rfl⟩
   ·have heq:l[k]=m[k]:=by have w:=zkk hc24;rw [zs6] at w;simpa using w
    refine rn ?_;exact ⟨hk,yf1 hk hk2 zk heq,eA⟩
  ·have qk:=zd1 hc14 lk
   refine rn ?_;refine rq 0 ?_
   exact ⟨rfl,by rw [decide_eq_true (by have w:=zk;rw [qk,List.take_length,hlm,List.take_length] at w;exact w)];rfl⟩
def guE:List Ev:= [yli 0,seW 0 1,ylh 0,yli 1,⟨3,1,0,0,0,⟨0,0⟩,0,[]⟩,ylh 1]
def guH:Hist:=⟨[⟨#[116,49]⟩,⟨#[116,50]⟩],[ycs],[bxx],[],guE,[],[],[]⟩
theorem znj:u6 guH=0:=zbb.2 (by decide+kernel)
theorem yck:Lim 4611686018427387904 guH:=⟨by decide,by decide,by decide,by decide,by decide,by decide,by decide,by decide,by decide,by decide,by decide⟩
theorem yjm:zec guH= [⟨0,0,14⟩]:=by rw [zog znj];decide+kernel
theorem yjl:wiC guH 0 1=0:=zy2 znj (by decide) (by decide) (by decide)
def zs4:Hist:=zbr guH [⟨0,1⟩]
theorem yjk:wiH guH 0 1=zs4:=by rw [zy1 yjl];rfl
theorem zfv:u6 zs4=0:=zbb.2 (by decide+kernel)
theorem zxg:Lim 4611686018427387904 zs4:=⟨by decide,by decide,by decide,by decide,by decide,by decide,by decide,by decide,by decide,by decide,by decide⟩
theorem yfp:zec zs4= [⟨0,1,14⟩]:=by rw [zog zfv];decide+kernel
theorem zs5:zbw (zec zs4)= [(0,1)]:=by rw [yfp];decide
theorem yjs:riO zs4=false:=by rw [yeb zfv,zs5];rfl
theorem yfr:zlp zs4 0 1=0:=ykt zfv (by decide) (by decide)
theorem yfq:zus zs4 (0,1)=⟨1,0,1,0,1,4⟩:=by
 rw [zus,show seB zs4 (0,1).1 (0,1).2= [⟨1,0,1,0,1,4⟩] by rw [yd2 (k:=0) yfr (by decide)];decide+kernel];rfl
theorem zvs  :y9 Tryz.prog 79 [] [] (fun r h'=>h'= []∧r= .agg (x4 guH)):=by
 refine z6 Tryz.func79 rfl rfl rfl ?_
 refine rn ?_;refine z7 rfl (x5 rfl fun b0=> ?_)
 refine rn ?_;refine qv rfl rfl (v8 rfl rfl) ?_
 refine qv rfl rfl (v8 rfl rfl) ?_
 refine qv rfl rfl (v8 rfl rfl) ?_
 refine qq rfl rfl (zab (out:=yf0 (yli 0)) rfl (by rfl)) ?_
 refine qq rfl rfl (zab (out:= [iv 0,iv 1]) rfl (by rfl)) ?_
 refine qq rfl rfl (zab (out:=yf0 (seW 0 1)) rfl (by rfl)) ?_
 refine qq rfl rfl (zab (out:=yf0 (ylh 0)) rfl (by rfl)) ?_
 refine qq rfl rfl (zab (out:=yf0 (yli 1)) rfl (by rfl)) ?_
 refine qq rfl rfl (zab (out:=yf0 ⟨3,1,0,0,0,⟨0,0⟩,0,[]⟩) rfl (by rfl)) ?_
 refine qq rfl rfl (zab (out:=yf0 (ylh 1)) rfl (by rfl)) ?_
 refine qv rfl rfl (v8 rfl rfl) ?_
 refine qq rfl rfl (zab (out:= [.list true 1 [[sv ⟨#[116,49]⟩],[sv ⟨#[116,50]⟩]],.list true 1 [[sv ycs]],.list true 1 [[sv bxx]],.v (.slice none 0 0),.list true 9 (guE.map yf0),.v (.slice none 0 0),.v (.slice none 0 0),.v (.slice none 0 0)]) rfl (by rfl)) ?_
 refine rn ?_;exact zd7 (.cons _ _ _ _ (.agg _ _ _ _ _ _ _ rfl inferInstance inferInstance inferInstance rfl) .nil) (.trans (.drop [_] _ _) (.le (Sb.aggs (bs:=x4 guH) (by exact ⟨.unfull,.unfull,.unfull,.nil _ _,(.lists (by simp) ⟨⟨.refl _,.refl _,.refl _,.refl _,.refl _,.refl _,.refl _,.refl _,.nil _ _,trivial⟩,⟨.refl _,.refl _,.refl _,.refl _,.refl _,.refl _,.refl _,.refl _,.nil _ _,trivial⟩,⟨.refl _,.refl _,.refl _,.refl _,.refl _,.refl _,.refl _,.refl _,.nil _ _,trivial⟩,⟨.refl _,.refl _,.refl _,.refl _,.refl _,.refl _,.refl _,.refl _,.nil _ _,trivial⟩,⟨.refl _,.refl _,.refl _,.refl _,.refl _,.refl _,.refl _,.refl _,.nil _ _,trivial⟩,⟨.refl _,.refl _,.refl _,.refl _,.refl _,.refl _,.refl _,.refl _,.nil _ _,trivial⟩,trivial⟩),.nil _ _,.nil _ _,.nil _ _,trivial⟩)).le)) ⟨rfl,rfl⟩
theorem gA1:y9 Tryz.prog 33 [.agg (x4 guH)] (.glob 0 117 x6:: .glob 3 148 y8:: .glob 5 276 x3:: .glob 6 279 y5:: .glob 2 197 u0:: []) (fun r h'=>h'= .glob 0 117 x6:: .glob 3 148 y8:: .glob 5 276 x3:: .glob 6 279 y5:: .glob 2 197 u0:: []∧r= .tup [zc7 [⟨0,0,14⟩],iv 0]):=(znk guH yck).mono fun _ _ q=>⟨q.1,by rw [q.2,yjm,znj]⟩
theorem gA2:y9 Tryz.prog 40 [.agg (x4 guH),iv 0,iv 1] (.glob 1 193 zb9:: .glob 0 117 x6:: .glob 3 148 y8:: .glob 5 276 x3:: .glob 6 279 y5:: .glob 2 197 u0:: []) (fun r h'=>h'= .glob 1 193 zb9:: .glob 0 117 x6:: .glob 3 148 y8:: .glob 5 276 x3:: .glob 6 279 y5:: .glob 2 197 u0:: []∧r= .tup [.agg (x4 zs4),iv 0]):=(zri guH yck 0 1).mono fun _ _ q=>⟨q.1,by rw [q.2,yjk,yjl]⟩
theorem gA3:y9 Tryz.prog 34 [.agg (x4 zs4)] (.glob 0 117 x6:: .glob 3 148 y8:: .glob 5 276 x3:: .glob 6 279 y5:: .glob 2 197 u0:: []) (fun r h'=>h'= .glob 0 117 x6:: .glob 3 148 y8:: .glob 5 276 x3:: .glob 6 279 y5:: .glob 2 197 u0:: []∧r= .tup [bv false,iv 0]):=(yfm zs4 zxg).mono fun _ _ q=>⟨q.1,by rw [q.2,yjs,zfv]⟩
theorem gA4:y9 Tryz.prog 35 [.agg (x4 zs4)] (.glob 0 117 x6:: .glob 3 148 y8:: .glob 5 276 x3:: .glob 6 279 y5:: .glob 2 197 u0:: []) (fun r h'=>h'= .glob 0 117 x6:: .glob 3 148 y8:: .glob 5 276 x3:: .glob 6 279 y5:: .glob 2 197 u0:: []∧r= .tup [yct [⟨1,0,1,0,1,4⟩],zft [0],iv 0]):=(yfn zs4 zxg).mono fun _ _ q=>⟨q.1,by rw [q.2,zs5,zfv];simp only [List.map_cons,List.map_nil,yfq]⟩
theorem gEq {f g:Bool}:y9 Tryz.prog 37 [.list f 3 ([(⟨0,0,14⟩:Grd)].map zn8),.list g 3 ([(⟨0,0,14⟩:Grd)].map zn8)] [] (fun r h'=>h'= []∧r=bv true):=(ybf [⟨0,0,14⟩] [⟨0,0,14⟩] (by decide) (by decide)).mono fun _ _ q=>⟨q.1,by rw [q.2,decide_eq_true rfl]⟩
theorem gEi {f g:Bool}:y9 Tryz.prog 39 [.list f 1 ([(0:Int)].map za8),.list g 1 ([(0:Int)].map za8)] [] (fun r h'=>h'= []∧r=bv true):=(znr [0] [0] (by decide) (by decide)).mono fun _ _ q=>⟨q.1,by rw [q.2,zgp znf];simp⟩
theorem yda  :y9 Tryz.prog 31 [] (.glob 1 193 zb9:: .glob 0 117 x6:: .glob 3 148 y8:: .glob 5 276 x3:: .glob 6 279 y5:: .glob 2 197 u0:: []) (fun r h'=>h'= .glob 1 193 zb9:: .glob 0 117 x6:: .glob 3 148 y8:: .glob 5 276 x3:: .glob 6 279 y5:: .glob 2 197 u0:: []∧r=bv true):=by
 refine z6 Tryz.func31 rfl rfl rfl ?_
 refine rn ?_;refine qv rfl rfl (y4 rfl rfl (y3.pure (R:=fun r=>r= .agg (x4 guH)) (y3.of_fun zvs))) ?_
 refine qv rfl rfl (y4 rfl rfl (y3.qt (y3.of_fun gA1) ((pt1 _ _ _).trans (.cons _ ((pt1 _ _ _).trans (.cons _ ((pt1 _ _ _).trans (.cons _ ((pt1 _ _ _).trans (.cons _ (pt1 _ _ _))))))))))) ?_
 refine rn ?_;refine qv rfl rfl (y4 rfl rfl (y3.pure (R:=fun r=>r= .agg (x4 guH)) (y3.of_fun zvs))) ?_
 refine qv rfl rfl (y4 rfl rfl (y3.qt (y3.of_fun gA2) (.refl _))) ?_
 refine rn ?_;refine z7 rfl (x5 rfl fun b3=> ?_)
 refine rn ?_;refine qv rfl rfl (y4 rfl rfl (y3.qt (y3.of_fun gA3) ((pt2 _ _ _ _).trans (.cons _ ((pt2 _ _ _ _).trans (.cons _ ((pt2 _ _ _ _).trans (.cons _ ((pt2 _ _ _ _).trans (.cons _ (pt2 _ _ _ _))))))))))) ?_
 refine rn ?_;refine qv rfl rfl (y4 rfl rfl (y3.qt (y3.of_fun gA4) ((pt2 _ _ _ _).trans (.cons _ ((pt2 _ _ _ _).trans (.cons _ ((pt2 _ _ _ _).trans (.cons _ ((pt2 _ _ _ _).trans (.cons _ (pt2 _ _ _ _))))))))))) ?_
 refine q1 ?_;refine q1 ?_;refine q1 ?_;refine q1 ?_;refine q1 ?_;refine q1 ?_;refine q1 ?_;refine u3 (k6 ?_)
 refine w6 (y6 ?_)
 refine q1 ?_;refine q1 ?_;refine q1 ?_;refine q1 ?_;refine q1 ?_;refine q1 ?_;refine q1 ?_;refine q1 ?_;refine q1 ?_;refine q1 ?_;refine q1 ?_;refine q1 ?_;refine q1 ?_;refine q1 ?_;refine q1 ?_;refine q1 ?_;refine q1 ?_;refine q1 ?_;refine q1 ?_;refine q1 ?_;refine qq rfl rfl (zab (out:= [iv 0,iv 0,iv 14]) rfl (by rfl)) ?_
 refine qv rfl rfl (v8 rfl rfl) ?_
 refine qv rfl rfl (y4 rfl rfl (y3.pure (R:=fun r=>r=bv true) (y3.of_fun gEq))) ?_
 refine q1 ?_;refine q1 ?_;refine q1 ?_;refine q1 ?_;refine q1 ?_;refine q1 ?_;refine q1 ?_;refine q1 ?_;refine qq rfl rfl (zcy (i:=0) rfl rfl rfl) ?_
 refine rn ?_;refine qv rfl rfl (v8 rfl rfl) ?_
 refine qv rfl rfl (y4 rfl rfl (y3.pure (R:=fun r=>r=bv true) (y3.of_fun gEi))) ?_
 refine rn ?_;refine rq 1 ?_
 exact ⟨rfl,rfl⟩
theorem zhv {h:Hist} {N:Nat} (la:Lim N h) {w:List Wan} (hw:w.length≤N):Lim N (zbr h w):=⟨la.ts,la.ss,la.os,la.ps,la.evs,la.ords,la.mats,hw,la.scans,la.ordts,la.matts⟩
structure Shown (h:Hist) (s g:Int) (M:List (Int×Int)) (e l o:Int) (p q:Nat):Prop where
 is:isO h s ⟨g,e,l,o,p,q⟩=true
 m0:M[0]? =some (e,l)
 ix:za5 (fun a=>a==e) 0 (zei h.evs s) < za5 (fun a=>a==l) 0 (zei h.evs s)
 hp:p < h.evs.length
 hq:q < h.evs.length
 tp:h.evs[p].t=e
 tq:h.evs[q].t=l
 op:h.evs[p].o=o
 oq:h.evs[q].o=o
 rk:∃r1 r2,yh3 h o h.evs[p].v=(r1,true)∧yh3 h o h.evs[q].v=(r2,true)∧r2 < r1
structure LackShown (h:Hist) (s b:Int) (z:Brch):Prop where
 zg:z.g=b
 ne:eaS h s b≠ []
 is:(isG z.g && decide (z∈eaS h s z.g))=true
theorem yhf {h:Hist} (hc:u6 h=0) {k:Nat} (hk:k < h.ss.length):((zec h).map zn8)[k]? =some (zn8 ⟨k,ybs h.wants k,yjj h k⟩):=by
 rw [zog hc,List.getElem?_map,List.getElem?_map,upR,List.getElem?_map,List.getElem?_range hk];rfl
theorem bvz0_2499 {a b:Bool} (h:a=b:=by rw [zmx,yku hz];simp only [*,Bool.true_and,Bool.false_and,Bool.and_false,Bool.and_true,Bool.true_or,Bool.or_false,Bool.false_or,Bool.or_true,if_true,if_false,Bool.false_eq_true,Bool.not_true,Bool.not_false]):bv a=bv b:=congrArg bv h
theorem same (a b:Hist) (la:Lim 4611686018427387904 a) (lb:Lim 4611686018427387904 b):y9 Tryz.prog 48 [.agg (x4 a),.agg (x4 b)] [] (fun r h'=>h'= []∧r=bv (zmx a b)):=by
 refine z6 Tryz.func48 rfl rfl rfl ?_
 refine rn ?_;refine z7 rfl (x9 rfl rfl rfl fun b2=> ?_)
 refine z7 rfl (x9 rfl rfl rfl fun b3=> ?_)
 refine rn ?_;refine j4 6 rfl ?_
 refine rn ?_;refine dv rfl rfl (by exact y4 rfl rfl (zaf (zwk _) (Sbs.refl _))) ?_
 refine rn ?_;refine dv rfl rfl (by exact y4 rfl rfl (zaf (zwk _) (Sbs.refl _))) ?_
 refine rn ?_;refine znv rfl fun b5=> ?_
 refine znv rfl fun b6=> ?_
 refine rn ?_;refine u5 (fun k:Nat=>k≤4∧∀j,j < k→zm3 a b j=true) (fun k=>⟨[(14,iv k),(2,pZ b2),(3,pZ b3),(5,pZ b5),(6,pZ b6)],[.box b6 _ (zgl b),.box b5 _ (zgl a),.box b3 _ (x4 b),.box b2 _ (x4 a)],[]⟩) (fun k=>4 - k) 0 ⟨by omega,fun j hj=>by omega⟩
  (x7 (.cons _ _ _ rfl (.cons _ _ _ rfl (.cons _ _ _ rfl (.cons _ _ _ rfl (.cons _ _ _ rfl (.nil))))))) ?_
 rintro k ⟨hk,hz⟩
 refine rn ?_;refine z8 rfl (fun hc15=> ?_) (fun hc15=> ?_)
 ·have hk4:k < 4:=by simp at hc15;omega
  refine rn ?_;refine j4 6 rfl ?_
  refine dq rfl rfl qrA ?_;refine dq rfl rfl qrA ?_;refine dq rfl rfl (j3 rfl (by have:=zm2 a hk4;simpa using this)) ?_
  refine dq rfl rfl qrA ?_;refine dq rfl rfl qrA ?_;refine dq rfl rfl (j3 rfl (by have:=zm2 b hk4;simpa using this)) ?_
  refine rn ?_;refine qv rfl rfl (y4 rfl rfl (zaf (ybe _ _ (la.nm k) (lb.nm k)) (Sbs.refl _))) ?_
  refine rn ?_;refine z8 rfl (fun hc24=> ?_) (fun hc24=> ?_)
  ·refine rn ?_;exact j6 rfl (.drop [_,_,_,_] _ _) ⟨rfl,congrArg bv (by rw [zmx,ygo hk4 (zkj hc24)];rfl)⟩
  ·refine rn ?_;exact ⟨k+1,⟨by omega,fun j hj=>by
    by_cases hjk:j=k
    ·subst hjk;exact zkk hc24
    ·exact hz j (by omega)⟩,(x7 (.cons _ _ _ rfl (.cons _ _ _ rfl (.cons _ _ _ rfl (.cons _ _ _ rfl (.cons _ _ _ rfl (.nil))))))),by omega⟩
 ·have hk3:k=4:=by simp at hc15;omega
  subst hk3
  refine rn ?_;refine qv rfl rfl (y4 rfl rfl (zaf (zph _ _ _ zkf (fun x hx y hy=>y3.of_fun (yd3 x y (la.ordts x hx) (lb.ordts y hy))) la.ords lb.ords) (Sbs.refl _))) ?_
  refine rn ?_;refine qv rfl rfl (y4 rfl rfl (zaf (zpi _ _ _ zoz (fun x hx y hy=>y3.of_fun (yd4 x y (la.matts x hx) (lb.matts y hy))) la.mats lb.mats) (Sbs.refl _))) ?_
  refine rn ?_;refine q8 (fun hg10_1=> ?_) (fun hg10_1=> ?_)
  ·refine rn ?_;refine q8 (fun hg10_4=> ?_) (fun hg10_4=> ?_)
   ·refine rn ?_;refine qv rfl rfl (y4 rfl rfl (zaf (ybd _ _ la.wants lb.wants) (Sbs.refl _))) ?_
    refine rn ?_;refine q8 (fun hg10_11=> ?_) (fun hg10_11=> ?_)
    ·refine rn ?_;refine qv rfl rfl (y4 rfl rfl (zaf (zrm _ _ _ ybc (fun x hx y hy=>y3.of_fun (zoj x y (la.scans x hx) (lb.scans y hy))) la.evs lb.evs) (Sbs.refl _))) ?_
     refine rn ?_;exact j6 rfl (.drop [_,_,_,_] _ _) ⟨rfl,bvz0_2499⟩
    ·refine rn ?_;exact j6 rfl (.drop [_,_,_,_] _ _) ⟨rfl,bvz0_2499⟩
   ·refine rn ?_;exact j6 rfl (.drop [_,_,_,_] _ _) ⟨rfl,bvz0_2499⟩
  ·refine rn ?_;exact j6 rfl (.drop [_,_,_,_] _ _) ⟨rfl,bvz0_2499⟩
theorem ynj {h:Hist} {s b:Int} (he:wiC h s b=0):u6 h=0∧isB s h.ss.length=true∧¬(b < 0∨b > 15):=by
 have hc:u6 h=0:=by
  by_cases hc:u6 h=0
  ·exact hc
  ·rw [yc8 hc] at he;exact absurd he hc
 have hb:isB s h.ss.length=true:=by
  cases hb:isB s h.ss.length with
  |true=>rfl
  |false=>rw [zvg hc hb] at he;cases he
 refine ⟨hc,hb,fun hw=> ?_⟩
 rw [wiC,if_neg (by omega),if_neg (by rw [hb];decide),if_pos hw] at he
 cases he
theorem ygv {h:Hist} (hc:u6 h=0) {k:Nat} (hk:k < h.ss.length) {b:Int} (hb:¬(b < 0∨b > 15)):WOk h.ss.length (zat h.wants k b):=zr3 (zr4 (zbb.1 hc)) ⟨by omega,by omega⟩ ⟨by omega,by omega⟩
theorem yni {h:Hist} (hc:u6 h=0) {k:Nat} (hk:k < h.ss.length) {b c:Int} (hb:¬(b < 0∨b > 15)) (hd:¬(c < 0∨c > 15)):WOk h.ss.length (zat (zat h.wants k b) k c):=zr3 (ygv hc hk hb) ⟨by omega,by omega⟩ ⟨by omega,by omega⟩
theorem yll {h:Hist} {k:Nat} {b:Int} (he:wiC h k b=0):wiH h k b=zbr h (zat h.wants k b):=by
 rw [zy1 he,zvc (zr4 (zbb.1 (ynj he).1)).1]
theorem ygm {h:Hist} (hc:u6 h=0) (s:Int):ybs h.wants s=zp4 h.wants s∧¬(zp4 h.wants s < 0∨zp4 h.wants s > 15):=by
 have:=ygk (zbb.1 hc) s
 exact ⟨ykq (zr4 (zbb.1 hc)).1 s,by omega⟩
theorem ygd {h:Hist} (hc:u6 h=0) {k:Nat} (hk:k < h.ss.length) {b c:Int} (hb:¬(b < 0∨b > 15)) (hd:¬(c < 0∨c > 15)):wiC (zbr h (zat h.wants k b)) k c=0∧wiH (zbr h (zat h.wants k b)) k c=zbr h (zat (zat h.wants k b) k c):=by
 have h1:=zj0 (yni hc hk hb hd)
 have h2:=(zfa hc).ss
 have e:zew (zat h.wants k b) k c=zat (zat h.wants k b) k c:=zvc (ygv hc hk hb).1 _ _
 have h0:wiC (zbr h (zat h.wants k b)) k c=0:=zy2 (zlb hc (ygv hc hk hb)) (zh9.2 ⟨by omega,by show (k:Int) < h.ss.length;omega⟩) hd (by show ¬(zew (zat h.wants k b) k c).length > 3000;rw [e];omega)
 refine ⟨h0,?_⟩
 rw [zy1 h0]
 show zbr h (zew (zat h.wants k b) k c)=_
 rw [e]
theorem yge {h:Hist} (hc:u6 h=0) {k:Nat} (hk:k < h.ss.length) {b:Int} (hb:¬(b < 0∨b > 15)):(h.wants.any (fun w=>w.s==(k:Int)) !=zmx (zbr h (zat (zat h.wants k b) k (zp4 h.wants k))) h)=false:=by
 have hw:h.wants.any (fun w=>w.s==(k:Int))=zqa h.wants k:=rfl
 rw [hw]
 cases hq:zqa h.wants k with
 |true=>
  rw [zvd (zr4 (zbb.1 hc)).1 hq]
  have:zmx (zbr h h.wants) h=true:=zl2 h
  rw [this];rfl
 |false=>
  cases hs:zmx (zbr h (zat (zat h.wants k b) k (zp4 h.wants k))) h with
  |false=>rfl
  |true=>
   have e:=(zok _ _).1 hs
   have e2:(zat (zat h.wants k b) k (zp4 h.wants k)).length=h.wants.length:=congrArg (fun x:Hist=>x.wants.length) e
   have e3:=zva (b:=b) hq (zp4 h.wants k)
   omega
theorem ybv {h:Hist} {w:List Wan} (hc:u6 (zbr h w)=0):zck (zbr h w)=0:=if_pos (zhy (zbb.1 hc)).1
theorem ymk:Lim 4611686018427387904 zfu:=⟨by decide,by decide,by decide,by decide,by decide,by decide,by decide,by decide,(fun e h=>by cases h),(fun e h=>by cases h),(fun e h=>by cases h)⟩
theorem yhv (h:Hist) (la:Lim 4611686018427387904 h):y9 Tryz.prog 48 [.agg (x4 h),.agg (x4 h)] [] (fun r h'=>h'= []∧r=bv true):=(same h h la la).mono fun _ _ q=>⟨q.1,by rw [q.2,zl2]⟩
theorem ykg (h:Hist) (la:Lim 4611686018427387904 h) (hm:zck h=0):y9 Tryz.prog 51 [.agg (x4 h)] [.glob 3 148 y8,.glob 5 276 x3,.glob 6 279 y5] (fun r h'=>h'= [.glob 3 148 y8,.glob 5 276 x3,.glob 6 279 y5]∧r=iv 0):=(yf7 h la).mono fun _ _ q=>⟨q.1,by rw [q.2,hm]⟩
theorem yfl (h:Hist) (la:Lim 4611686018427387904 h) {n:Hist} {s b:Int} (h1:wiC h s b=0) (h2:wiH h s b=n):y9 Tryz.prog 40 [.agg (x4 h),iv s,iv b] (.glob 1 193 zb9:: .glob 0 117 x6:: .glob 3 148 y8:: .glob 5 276 x3:: .glob 6 279 y5:: .glob 2 197 u0:: []) (fun r h'=>h'= .glob 1 193 zb9:: .glob 0 117 x6:: .glob 3 148 y8:: .glob 5 276 x3:: .glob 6 279 y5:: .glob 2 197 u0:: []∧r= .tup [.agg (x4 n),iv 0]):=(zri h la s b).mono fun _ _ q=>⟨q.1,by rw [q.2,h1,h2]⟩
theorem yoh (w:Wan) (s:Int) (b4:Nat):y9 Tryz.prog 50 [.agg (zbi w),pZ b4] (.box b4 3 [iv s]:: []) (fun r h'=>h'= .box b4 3 [iv s]:: []∧r=bv (w.s==s)):=by
 refine z6 Tryz.func50 rfl rfl rfl ?_
 refine rn ?_;refine z7 rfl (x9 rfl rfl rfl fun b2=> ?_)
 refine rn ?_;refine rq 1 ?_
 exact ⟨rfl,rfl⟩
theorem zxd (x:Hist) (session bits:Int) (lb:Lim 4611686018427387904 x)  :y9 Tryz.prog 11 [.agg (x4 x),iv session,iv bits] (.glob 1 193 zb9:: .glob 0 117 x6:: .glob 3 148 y8:: .glob 5 276 x3:: .glob 6 279 y5:: .glob 2 197 u0:: []) (fun r h'=>h'= .glob 1 193 zb9:: .glob 0 117 x6:: .glob 3 148 y8:: .glob 5 276 x3:: .glob 6 279 y5:: .glob 2 197 u0:: []∧r=bv true):=by
 refine z6 Tryz.func11 rfl rfl rfl ?_
 refine rn ?_;refine z7 rfl (x9 rfl rfl rfl fun b3=> ?_)
 refine z7 rfl (x9 rfl rfl rfl fun b4=> ?_)
 refine rn ?_;refine qv rfl rfl (y4 rfl rfl (y3.qt (y3.of_fun yda) ((pt2 _ _ _ _).trans (.cons _ ((pt2 _ _ _ _).trans (.cons _ ((pt2 _ _ _ _).trans (.cons _ ((pt2 _ _ _ _).trans (.cons _ ((pt2 _ _ _ _).trans (.cons _ (pt2 _ _ _ _))))))))))))) ?_
 refine rn ?_;refine z8 rfl (fun hc15=> ?_) (fun hc15=> ?_)
 ·exact absurd hc15 (by decide)
 ·refine rn ?_;refine qv rfl rfl (y4 rfl rfl (zaf (ym1 x lb) (Sbs.refl _))) ?_
  refine z7 rfl (x5 rfl fun b7=> ?_)
  refine rn ?_;refine qv rfl rfl (y4 rfl rfl (y3.qt (y3.of_fun (zri (zgh x) ((zc6 x).mono (by decide)) session bits)) ((pt3 _ _ _ _ _).trans (.cons _ ((pt3 _ _ _ _ _).trans (.cons _ ((pt3 _ _ _ _ _).trans (.cons _ ((pt3 _ _ _ _ _).trans (.cons _ ((pt3 _ _ _ _ _).trans (.cons _ (pt3 _ _ _ _ _))))))))))))) ?_
  refine rn ?_;refine z7 rfl (x5 rfl fun b8=> ?_)
  refine rn ?_;refine z8 rfl (fun hc26=> ?_) (fun hc26=> ?_)
  ·have he:wiC (zgh x) session bits≠0:=nzT hc26
   rw [ztw he]
   refine rn ?_;refine qv rfl rfl (y4 rfl rfl (zaf (yhv zfu ymk) (by exact ⟨.refl _,(Sb.aggs (aS:=zek) (bs:=x4 zfu) ⟨.nil _ _,.nil _ _,.nil _ _,.nil _ _,.nil _ _,.nil _ _,.nil _ _,.nil _ _,trivial⟩),trivial⟩))) ?_
   refine rn ?_;first|(refine rq 1 ?_;exact ⟨rfl,rfl⟩)|(refine rq 2 ?_;exact ⟨rfl,rfl⟩)|(refine rq 3 ?_;exact ⟨rfl,rfl⟩)|(refine rq 4 ?_;exact ⟨rfl,rfl⟩)|(refine rq 5 ?_;exact ⟨rfl,rfl⟩)
  ·have he:wiC (zgh x) session bits=0:=nzF hc26
   obtain ⟨hc,hb,hw⟩:=ynj he
   obtain ⟨k,rfl⟩:∃k:Nat,session=(k:Int):=⟨session.toNat,by have:=(zh9.1 hb).1;omega⟩
   have hk:k < (zgh x).ss.length:=by have:=(zh9.1 hb).2;omega
   have ha:=ygm hc (k:Int)
   rw [yll he]
   have rk:=yhf hc hk
   rw [ha.1] at rk
   have hbw:=ygd hc hk hw ha.2
   have hne:=yge hc hk hw
   refine rn ?_;refine qv rfl rfl (y4 rfl rfl (y3.qt (y3.of_fun (znk (zgh x) ((zc6 x).mono (by decide)))) ((pt5 _ _ _ _ _ _ _).trans (.cons _ ((pt5 _ _ _ _ _ _ _).trans (.cons _ ((pt5 _ _ _ _ _ _ _).trans (.cons _ ((pt5 _ _ _ _ _ _ _).trans (.cons _ (pt5 _ _ _ _ _ _ _))))))))))) ?_
   refine rn0 ?_;refine w6 ?_;refine zya 13 [7,8] [9] 11 12 10 12 45 28 (fun he=>he= .box b8 28 (x4 (zbr (zgh x) (zat (zgh x).wants k bits))):: .box b7 28 (x4 (zgh x)):: .box b4 3 [iv (k:Int)]:: .box b3 28 (x4 x):: .glob 1 193 zb9:: .glob 0 117 x6:: .glob 3 148 y8:: .glob 5 276 x3:: .glob 6 279 y5:: .glob 2 197 u0:: []) rfl rfl rfl rfl rfl rfl rfl rfl rfl rfl rfl rfl rfl rfl rfl rfl ?_
   refine jq rfl (fun he hC=>by rcases hC with hC|⟨bq,cq,heq,hC,rfl⟩ <;> obtain rfl:=hC <;> (try simp only [List.cons_append,List.nil_append]) <;> exact (qrA)) ?_
   refine jq rfl (fun he hC=>by rcases hC with hC|⟨bq,cq,heq,hC,rfl⟩ <;> obtain rfl:=hC <;> (try simp only [List.cons_append,List.nil_append]) <;> exact (qrA)) ?_
   refine jq rfl (fun he hC=>by rcases hC with hC|⟨bq,cq,heq,hC,rfl⟩ <;> obtain rfl:=hC <;> (try simp only [List.cons_append,List.nil_append]) <;> exact (qrA)) ?_
   refine jq rfl (fun he hC=>by rcases hC with hC|⟨bq,cq,heq,hC,rfl⟩ <;> obtain rfl:=hC <;> (try simp only [List.cons_append,List.nil_append]) <;> exact (qrA)) ?_
   refine jq rfl (fun he hC=>by rcases hC with hC|⟨bq,cq,heq,hC,rfl⟩ <;> obtain rfl:=hC <;> (try simp only [List.cons_append,List.nil_append]) <;> exact (zcy rfl rfl rk)) ?_
   refine jq rfl (fun he hC=>by rcases hC with hC|⟨bq,cq,heq,hC,rfl⟩ <;> obtain rfl:=hC <;> (try simp only [List.cons_append,List.nil_append]) <;> exact (qrA)) ?_
   refine jq rfl (fun he hC=>by rcases hC with hC|⟨bq,cq,heq,hC,rfl⟩ <;> obtain rfl:=hC <;> (try simp only [List.cons_append,List.nil_append]) <;> exact (qrA)) ?_
   refine je rfl ?_;refine je rfl ?_;refine je rfl ?_;refine je rfl ?_;refine je rfl ?_;refine je rfl ?_;refine zyu ?_;refine jce rfl fun u=> ?_
   refine w8 rfl rfl (y3.qt (y3.of_fun (yfl (zbr (zgh x) (zat (zgh x).wants k bits)) (zhv ((zc6 x).mono (by decide)) (Nat.le_trans (zj0 (ygv hc hk hw)) (Nat.le_trans (zc6 x).ss (by decide)))) hbw.1 hbw.2)) ((pt4 _ _ _ _ _ _).trans (.cons _ ((pt4 _ _ _ _ _ _).trans (.cons _ ((pt4 _ _ _ _ _ _).trans (.cons _ ((pt4 _ _ _ _ _ _).trans (.cons _ ((pt4 _ _ _ _ _ _).trans (.cons _ (pt4 _ _ _ _ _ _)))))))))))) rfl ?_
   rintro _ _ ⟨rfl,rfl⟩
   refine ⟨_,_,rfl,rfl,?_⟩
   refine jce rfl fun u=> ?_
   refine ylc qrA ⟨_,_,rfl,rfl,?_⟩
   refine jcn ⟨_,fun u he=>qrA,?_⟩
   refine jce rfl fun u=> ?_
   refine ylc qrA ⟨_,_,rfl,rfl,?_⟩
   refine jcn ⟨_,rfl,rfl,fun u b=>⟨rfl,rfl⟩,fun b12=> ?_⟩
   refine rn0 ?_;refine w6 ?_;show aw _ _ _ _ _ ⟨_,.box b12 28 (x4 (zbr (zgh x) (zat (zat (zgh x).wants k bits) k (zp4 (zgh x).wants k)))):: .box b8 28 (x4 (zbr (zgh x) (zat (zgh x).wants k bits))):: .box b7 28 (x4 (zgh x)):: .box b4 3 [iv (k:Int)]:: .box b3 28 (x4 x):: .glob 1 193 zb9:: .glob 0 117 x6:: .glob 3 148 y8:: .glob 5 276 x3:: .glob 6 279 y5:: .glob 2 197 u0:: [],[]⟩
   refine rn ?_;refine qv rfl rfl (y4 rfl rfl (y3.of_fun (zi1 (zgh x).wants (.fn (.func 50) [] [pZ b4]) (fun w=>w.s==(k:Int)) _ (fun w _=>y3.qt (y3.of_acall (fs:= []) (cs:= [pZ b4]) (yoh w k b4)) (pt3 _ _ _ _ _)) (by have:=(zc6 x).wants;omega)))) ?_
   refine q1 ?_;refine u3 (k6 ?_)
   refine w6 ?_;refine w6 (y6 ?_)
   refine q1 ?_;refine qq rfl rfl (zio (c:=false) rfl rfl (congrArg some (bne_self_eq_false _))) ?_
   refine rn ?_;refine qv rfl rfl (y4 rfl rfl (zaf (same (zbr (zgh x) (zat (zat (zgh x).wants k bits) k (zp4 (zgh x).wants k))) (zgh x) (zhv ((zc6 x).mono (by decide)) (Nat.le_trans (zj0 (yni hc hk hw ha.2)) (Nat.le_trans (zc6 x).ss (by decide)))) ((zc6 x).mono (by decide))) (Sbs.refl _))) ?_
   refine qq rfl rfl (yik (c:=false) (zon rfl rfl) (by exact hne)) ?_
   refine rn ?_;refine qv rfl rfl (y4 rfl rfl (y3.qt (y3.of_fun (ykg (zbr (zgh x) (zat (zgh x).wants k bits)) (zhv ((zc6 x).mono (by decide)) (Nat.le_trans (zj0 (ygv hc hk hw)) (Nat.le_trans (zc6 x).ss (by decide)))) (ybv (zlb hc (ygv hc hk hw))))) ((pt7 _ _ _ _ _ _ _ _ _).trans (.cons _ ((pt7 _ _ _ _ _ _ _ _ _).trans (.cons _ (pt7 _ _ _ _ _ _ _ _ _))))))) ?_
   refine qq rfl rfl (zio (c:=false) rfl rfl (congrArg some (bne_self_eq_false _))) ?_
   refine rn ?_;refine z8 rfl (fun hc63=> ?_) (fun hc63=> ?_)
   ·exact absurd hc63 (by decide)
   ·refine rn ?_;refine qv rfl rfl (y4 rfl rfl (zaf (yhv (zbr (zgh x) []) (zhv ((zc6 x).mono (by decide)) (by decide))) (by exact ⟨(Sb.aggs (bs:=x4 (zbr (zgh x) [])) (by exact ⟨.refl _,.refl _,.refl _,.refl _,.refl _,.refl _,.refl _,.nil _ _,trivial⟩)),(Sb.aggs (bs:=x4 (zbr (zgh x) [])) (by exact ⟨.refl _,.refl _,.refl _,.refl _,.refl _,.refl _,.refl _,.nil _ _,trivial⟩)),trivial⟩))) ?_
    refine rn ?_;first|(refine rq 1 ?_;exact ⟨rfl,rfl⟩)|(refine rq 2 ?_;exact ⟨rfl,rfl⟩)|(refine rq 3 ?_;exact ⟨rfl,rfl⟩)|(refine rq 4 ?_;exact ⟨rfl,rfl⟩)|(refine rq 5 ?_;exact ⟨rfl,rfl⟩)
end Go.Proofs
