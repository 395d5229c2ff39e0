/- strings.Join over a row of one's own (the kit's shelf has walked it). Conditions: none. To be built over the variant of the library that mkab2.py prints. -/
import Derived.Test.YtcaijocpofcbdaaGreatDoorGAsL
import Derived.Shelf.Strings.OnBuilder
set_option maxHeartbeats 4000000
set_option linter.unusedSectionVars false
set_option linter.unusedSimpArgs false
set_option linter.unusedVariables false
namespace Go.Ab
open Go Go.Shelf Go.Proofs Go.H
theorem ygs {X:Nat→Prop} {w:World} {a:Addr} {cap:Nat} {T:TypeId} {xs:List ByteArray} (hh:HRel X w [.row (.slice (some a) xs.length cap) 1 T (xs.map zaq)]):(∀(j:Nat) x,xs[j]? =some x→w.cell? ⟨a.block,a.off+j,none⟩=some (.string x))∧a.block < w.heap.size∧xs.length≤cap∧a.spot=none:=by
 obtain ⟨h1,h2,h3,h4,c,h5,h6,h7⟩:=hh.holds _ (D7.2 rfl);refine ⟨fun j x hx=>?_,(hh.lt a.block (by simp [j6,Res.own])).1,h3,h1⟩;obtain ⟨hj2,rfl⟩:=C8.1 hx;obtain ⟨v,e,r⟩:=h7 j (by simpa using hj2) 0 (by simp [zaq]);simp only [H7] at r;have hv:v= .string xs[j]:=r.v_eq;subst hv;have e0:a.off+j * 1+0=a.off+j:=by omega
 rw [e0] at e;simp [World.cell?,h5,e]
theorem ygu {X:Nat→Prop} {w:World} {n cap:Nat} {T:TypeId} {xs:List ByteArray} (hh:HRel X w [.row (.slice none n cap) 1 T (xs.map zaq)]):xs= []∧n=0∧cap=0:=by
 obtain ⟨h1,h2,h3⟩:=hh.holds _ (D7.2 rfl);exact ⟨by simpa using h1,h2,h3⟩
section
variable {P:Program} {ρ:Ren}
theorem yah (L:Lays.n156 P ρ) (E:Builder.Extra P ρ) (s:SV) (T:TypeId) (xs:List ByteArray) (sep:ByteArray) (hx:xs.length≤140737488355328) (hl:(Lib.join (xs.map (·.data.toList)) sep.data.toList).length≤140737488355328):
 y9 P (ρ.f 156) [.v s.v,.v (.string sep)] [.row s.v 1 T (xs.map zaq)] (fun r h'=>h'= [.row s.v 1 T (xs.map zaq)]∧∃t:ByteArray,r= .v (.string t)):=by
 intro X w vs hh ha;match vs,ha with
 | [v,v2],⟨hv,hv2,_⟩=>
   obtain rfl:=hv.v_eq;obtain rfl:=hv2.v_eq;obtain ⟨a,n,cap⟩:=s;cases a with
   |none=>
    obtain ⟨rfl,rfl,rfl⟩:=ygu hh;refine V7.2 ((Any.strings_Join_none L E none 0 sep w).mono ?_);rintro e w' ⟨rfl,rfl⟩;exact ⟨_,_,_,rfl,⟨rfl,_,rfl⟩,.v _,hh,.refl _ _⟩
   |some a=>
    have hn:n=xs.length:=by
     have:=(hh.holds _ (D7.2 rfl)).2.1;simpa using this
    subst hn;obtain ⟨g1,g2,g3,g4⟩:=ygs hh;obtain ⟨b,off,sp⟩:=a;simp only at g1 g2 g4;subst g4;refine V7.2 ((Any.strings_Join L E b off cap xs sep w g1 g2 hx g3 hl).mono ?_);rintro e w' ⟨rfl,hb⟩;exact ⟨_,_,_,rfl,⟨rfl,_,rfl⟩,.v _,hh.grow hb.size hb.block,.grow hb.size hb.block ⟨⟨hb.os,hb.output⟩,hb.tape,trivial⟩⟩
end
end Go.Ab
set_option maxRecDepth 100000
namespace Go.Proofs
open Go Go.Ab Go.Shelf
def ydc:Go.Shelf.Ren:=⟨fun|156=>126|165=>165|166=>166|169=>167|240=>198|241=>199|276=>217|277=>218|n=>n,fun|0=>0|3=>3|4=>4|5=>5|9=>9|20=>20|31=>22|37=>234|70=>233|72=>236|75=>239|76=>240|80=>242|127=>256|164=>269|n=>n,fun n=>n⟩
theorem yif:Lays.n156 Tryz.prog ydc:={
 mixed:=by kernel_rfl
 f156:=Tryz.func126.trans (A4 some (by kernel_rfl))
 f165:=Tryz.func165.trans (A4 some (by kernel_rfl))
 f166:=Tryz.func166.trans (A4 some (by kernel_rfl))
 f169:=Tryz.func167.trans (A4 some (by kernel_rfl))
 f240:=Tryz.func198.trans (A4 some (by kernel_rfl))
 f241:=Tryz.func199.trans (A4 some (by kernel_rfl))
 f276:=Tryz.func217.trans (A4 some (by kernel_rfl))
 f277:=Tryz.func218.trans (A4 some (by kernel_rfl))
 t0:=Tryz.underlying0
 a0:=Tryz.isAgg0
 z0:=Tryz.sizeOf0
 v0:=Tryz.zeroValue0
 t3:=Tryz.underlying3
 a3:=Tryz.isAgg3
 z3:=Tryz.sizeOf3
 v3:=Tryz.zeroValue3
 t4:=Tryz.underlying4
 a4:=Tryz.isAgg4
 z4:=Tryz.sizeOf4
 v4:=Tryz.zeroValue4
 t9:=Tryz.underlying9
 a9:=Tryz.isAgg9
 z9:=Tryz.sizeOf9
 v9:=Tryz.zeroValue9
 t20:=Tryz.underlying20
 a20:=Tryz.isAgg20
 z20:=Tryz.sizeOf20
 v20:=Tryz.zeroValue20
 t31:=Tryz.underlying22
 a31:=Tryz.isAgg22
 z31:=Tryz.sizeOf22
 v31:=Tryz.zeroValue22
 t37:=Tryz.underlying234
 a37:=Tryz.isAgg234
 z37:=Tryz.sizeOf234
 v37:=Tryz.zeroValue234
 t70:=Tryz.underlying233
 a70:=Tryz.isAgg233
 z70:=Tryz.sizeOf233
 v70:=Tryz.zeroValue233
 t72:=Tryz.underlying236
 a72:=Tryz.isAgg236
 z72:=Tryz.sizeOf236
 v72:=Tryz.zeroValue236
 t75:=Tryz.underlying239
 a75:=Tryz.isAgg239
 z75:=Tryz.sizeOf239
 v75:=Tryz.zeroValue239
 t76:=Tryz.underlying240
 a76:=Tryz.isAgg240
 z76:=Tryz.sizeOf240
 v76:=Tryz.zeroValue240
 t127:=Tryz.underlying256
 a127:=Tryz.isAgg256
 z127:=Tryz.sizeOf256
 v127:=Tryz.zeroValue256
 t164:=Tryz.underlying269
 a164:=Tryz.isAgg269
 z164:=Tryz.sizeOf269
 v164:=Tryz.zeroValue269}
theorem ydd:Builder.Extra Tryz.prog ydc:={
 sizeBuilder:=by kernel_rfl
 liesBuilder:=by kernel_rfl
 t5:=Tryz.underlying5
 a5:=Tryz.isAgg5
 z5:=Tryz.sizeOf5
 v5:=Tryz.zeroValue5
 infoByte:=by kernel_rfl
 cellsByte:=by kernel_rfl
 sizeByte:=by kernel_rfl
 neB5:=by decide}
set_option maxRecDepth 10000
attribute [local irreducible] QR QV OE zc9 aw zds zb0 zbp za8 thn zgc zem jch zfo
open Go.H
def wordB (k:Nat):ByteArray:=⟨#[[114,121,119],[109,114],[109,119],[119,102,114]][k]!.toArray⟩
def za4:List AV:= [.v (.string (wordB 0)),.v (.string (wordB 1)),.v (.string (wordB 2)),.v (.string (wordB 3))]
theorem yw2 {k:Nat} (hk:k < 4):∃x:ByteArray,za4[0+k * 1]? =some (.v (.string x))∧x.size≤3:=by
 rcases (by omega:k=0∨k=1∨k=2∨k=3) with rfl|rfl|rfl|rfl
 ·exact ⟨_,rfl,by decide⟩
 ·exact ⟨_,rfl,by decide⟩
 ·exact ⟨_,rfl,by decide⟩
 exact ⟨_,rfl,by decide⟩
theorem zo5:∀(xs:List ByteArray),(∀x∈xs,x.size≤3)→Lib.lens (xs.map (·.data.toList))≤3 * xs.length
 | [],_=>G1 _
 |x::xs,h=>by
  have h1:=zo5 xs fun y hy=>h y (by simp [hy]);have h2:=h x (by simp);have e:Lib.lens ((x::xs).map (·.data.toList))=x.data.toList.length+Lib.lens (xs.map (·.data.toList)):=by simp [Lib.lens]
  have e2:x.data.toList.length=x.size:=by rw [X5];rfl
  rw [e,E6];omega
theorem zz3 (xs:List ByteArray) (sep:ByteArray) (hs:sep.size≤1) (hx:xs.length≤4) (h:∀x∈xs,x.size≤3):(Lib.join (xs.map (·.data.toList)) sep.data.toList).length≤140737488355328:=by
 cases xs with
 |nil=>exact G1 _
 |cons x r=>
  have h1:=zo5 (x::r) h;have e2:sep.data.toList.length=sep.size:=by rw [X5];rfl
  rw [F6] at h1 ⊢;rw [Lib.join_length,oM,e2];rw [E6] at hx h1;have h3:sep.size * r.length≤1 * r.length:=G6 _ hs;omega
theorem yvt (s:SV) (xs:List ByteArray) (sep:ByteArray) (hs:sep.size≤1) (hx:xs.length≤4) (h:∀x∈xs,x.size≤3) (W:List Res):y9 Tryz.prog 126 [.v s.v,.v (.string sep)] (.row s.v 1 9 (xs.map zaq)::W) (fun r h'=>h'= .row s.v 1 9 (xs.map zaq)::W∧∃t:ByteArray,r= .v (.string t)):=
 ((yah yif ydd s 9 xs sep (by omega) (zz3 xs sep hs hx h)).frame W).mono (by
   rintro _ _ ⟨_,rfl,rfl,t,rfl⟩;exact ⟨rfl,t,rfl⟩)
def woC (g:Int):Int:=if g < 0∨g > 15 then 190 else 0
theorem ymd (g:Int):∀{k:Nat},k < 4→∃c,zou .shr .i64 g (k:Nat)=some c
 |0,_=>⟨_,rfl⟩
 |1,_=>⟨_,rfl⟩
 |2,_=>⟨_,rfl⟩
 |3,_=>⟨_,rfl⟩
theorem yob (g:Int):y9 Tryz.prog 88 [iv g] (.glob 1 193 za4:: []) (fun r h'=>h'= .glob 1 193 za4:: []∧∃t:ByteArray,r= .tup [.v (.string t),iv (woC g)]):=by
 refine z6 Tryz.func88 rfl rfl rfl ?_;refine rn ?_;refine x5 (fun hg1_2=>?_) (fun hg1_2=>?_)
 ·refine rn ?_;refine zdk rfl ?_;have hw:woC g=190:=by
   refine A6 ?_;first
   |(have q:g < 0:=by simpa using hg1_2
     exact .inl q)
   |(have q:15 < g:=by simpa using hc11
     exact .inr q)
  refine rn ?_;first
  |exact zb9 rfl rfl (.refl _ _) ⟨rfl,_,by rw [hw];rfl⟩
  |exact zb9 rfl rfl (.drop [_] _ _) ⟨rfl,_,by rw [hw];rfl⟩
 refine rn ?_;refine z7 rfl (fun hc11=>?_) (fun hc11=>?_)
 ·have hw:woC g=190:=by
   refine A6 ?_;first
   |(have q:g < 0:=by simpa using hg1_2
     exact .inl q)
   |(have q:15 < g:=by simpa using hc11
     exact .inr q)
  refine rn ?_;first
  |exact zb9 rfl rfl (.refl _ _) ⟨rfl,_,by rw [hw];rfl⟩
  |exact zb9 rfl rfl (.drop [_] _ _) ⟨rfl,_,by rw [hw];rfl⟩
 have hw:woC g=0:=A0 (by have q1:=oF hg1_2;have q2:=oF hc11;omega);refine rn ?_;refine zb5 4 (fun k (z:SV×List ByteArray)=>z.2.length≤k∧∀x∈z.2,x.size≤3) (fun k z=>⟨[(12,iv (k:Nat)),(4,.v z.1.v),(0,iv g)],.row z.1.v 1 9 ((z.2).map zaq):: .glob 1 193 za4:: [],[]⟩) (⟨none,0,0⟩,[]) ⟨C5 _,by simp⟩ (w8 (zaf 1 9) es) ?_;rintro k ⟨v,xs⟩ lk ⟨hn,hX⟩;simp only at hn hX;show aw _ _ _ _ _ ⟨[(12,iv (k:Nat)),(4,.v v.v),(0,iv g)],.row v.v 1 9 ((xs).map zaq):: .glob 1 193 za4:: [],[]⟩;refine rn ?_;refine z7 rfl (fun hc13=>?_) (fun hc13=>?_)
 ·have hk:k < 4:=by have q:=oT hc13;omega
  obtain ⟨c,hsh⟩:=ymd g hk;obtain ⟨x,hx,hxs⟩:=yw2 hk;refine k7 ?_;refine j8 ?_;refine x7 ?_;refine k8 ?_;refine x7 (y5 ?_);refine q1 ?_;refine q1 ?_;refine u1 (j8 ?_);refine x7 (y5 ?_);refine q1 ?_;refine q1 ?_;refine qq rfl rfl (zg5 (c:=c) rfl rfl hsh (Int.natCast_nonneg _)) ?_;refine rn ?_;refine z7 rfl (fun hc19=>?_) (fun hc19=>?_)
  ·refine y5 ?_;refine q1 ?_;refine q1 ?_;refine qq rfl rfl (k9 (i:=k) rfl rfl (by omega)) ?_;refine qq rfl rfl (zab rfl hx) ?_;refine qv rfl rfl (q8 rfl rfl) ?_;refine z8 rfl (j3 rfl rfl (by simp only [oM,E6,F3];omega) rfl (fun s25=>?_) (fun r hr=>by rw [D7.1 hr];rfl));refine zac s25 fun sv hsv=>?_;subst hsv
   refine rn ?_;exact ⟨hk,(sv,xs++ [x]),⟨by simp only [D4,E6,F3];omega,fun y hy=>by
    rcases D2.1 hy with hy|hy
    ·exact hX y hy
    rw [D7.1 hy];exact hxs⟩,by simp only [D9];exact eA⟩
  refine rn ?_;exact ⟨hk,(v,xs),⟨by simp only;omega,hX⟩,eA⟩
 refine rn ?_;refine z8 rfl (q7 rfl rfl (y4.of_fun (yvt v xs _ (by decide) (by omega) hX _)) rfl ?_);rintro _ _ ⟨rfl,t,rfl⟩;refine rn ?_;first
 |exact zb9 rfl rfl (.refl _ _) ⟨rfl,_,by rw [hw];rfl⟩
 |exact zb9 rfl rfl (.drop [_] _ _) ⟨rfl,_,by rw [hw];rfl⟩
end Go.Proofs
set_option maxRecDepth 100000
namespace Go.Proofs.YtcaijocpofcbdaaGreatDoor
open Go Go.Ab Go.H Go.ChangeShapes Go.WideShapes Go.ChangeAt Go.RowKit
def zqm:List (String×DataW Unit):= [("unicode/utf8.acceptRanges",Rows.laid_unicode_utf8_acceptRanges),("yardarm/level.words",Rows.laid_yardarm_level_words),("yardarm/history.limits",Rows.laid_yardarm_history_limits),("yardarm/rules.asks",Rows.laid_yardarm_rules_asks),("yardarm/session.guards",Rows.laid_yardarm_session_guards),("unicode/utf8.first",Rows.laid_unicode_utf8_first)]
def zng:List (String×DataW Unit):= [("unicode/utf8.acceptRanges",Rows.laid_unicode_utf8_acceptRanges),("yardarm/level.words",Rows.laid_yardarm_level_words),("yardarm/history.limits",Rows.laid_yardarm_history_limits),("unicode/utf8.first",Rows.laid_unicode_utf8_first)]
theorem zxx:(zqm.filter fun x=>x.2.handleName?.isNone)=zng:=by kernel_rfl
theorem yic {W:World} (h:laidMetH Tryz.prog zqm W):laidMet Tryz.prog zng W:=by
 have:=(laidMetH_iff.1 h).1;rw [zxx] at this;exact this
theorem ysx {w:World} (h:laidMetH Tryz.prog zqm w):(Res.glob 2 197 u3).holds w noX:=by
 obtain ⟨g,t,cs,fuel,p,hg,ht,hv,hd⟩:=h.funcs (n:= "yardarm/rules.asks") (d:=ypb) (.tail _ (.tail _ (.tail _ (.head _))));obtain rfl:=B6 ((show Tryz.prog.globalNamed "yardarm/rules.asks" =some 2 by kernel_rfl).symm.trans hg);obtain rfl:=B6 ((show (Tryz.prog.globals[2]?).map (·.type)=some 197 by kernel_rfl).symm.trans ht);rw [ye3] at hd;have c1:Tryz.prog.cellsOf 196=1:=by kernel_rfl
 have c11:Tryz.prog.cellsOf 197=11:=by kernel_rfl
 have hlen:cs.toList.length=11:=by
  obtain ⟨_,_,_,_,hl,_⟩:=DataW.trod_array Tryz.underlying197 hd;rw [hl,c11]
 unfold World.var? at hv;rw [hg] at hv;simp only [J3] at hv;split at hv
 ·rename_i c T0 fr hh;cases hv;refine zx5 hh (by rw [show u3.length=11 from rfl];simpa using hlen.symm) fun j h1 h2=>?_;cases j with
  |zero=>exact .any _
  |succ k=>
   have hk:k < 10:=by have:u3.length=11:=rfl;omega
   obtain ⟨b,r,hn,hone,ha⟩:=yji k hk;obtain ⟨f',d,q,e1,e2⟩:=Lib.array_elem Tryz.underlying197 hd (k+1) (by omega);have e1':d= .held (b::r):=by
    rw [I7,M1,Y0,Nat.add_comm 1 k,hn] at e1;exact (B6 e1).symm
   subst e1';rw [c1,Nat.mul_one,A8 (by simpa using h2),U9,Q4] at e2;have:=func_of_trod (f0:=fnA.getD k 0) Tryz.underlying196 hone e2;rw [Array.getElem_toList] at this;rw [this,show u3[k+1]= .fn (.func (fnA.getD k 0)) [] [] from B6 ((B4 h1).symm.trans ha)];exact zj8 _ _
 cases hv
theorem ysw {w:World} (h:laidMetH Tryz.prog zqm w):(Res.glob 0 117 x9).holds w noX:=by
 obtain ⟨g,t,cs,fuel,p,hg,ht,hv,hd⟩:=h.funcs (n:= "yardarm/session.guards") (d:=yws) (.tail _ (.tail _ (.tail _ (.tail _ (.head _)))));obtain rfl:=B6 ((show Tryz.prog.globalNamed "yardarm/session.guards" =some 0 by kernel_rfl).symm.trans hg);obtain rfl:=B6 ((show (Tryz.prog.globals[0]?).map (·.type)=some 117 by kernel_rfl).symm.trans ht);rw [yim] at hd;have c3:Tryz.prog.cellsOf 116=3:=by kernel_rfl
 have c12:Tryz.prog.cellsOf 117=12:=by kernel_rfl
 have hlen:cs.toList.length=4 * 3:=by
  obtain ⟨_,_,_,_,hl,_⟩:=DataW.trod_array Tryz.underlying117 hd;rw [hl,c12]
 have hcs:cs.toList=guaV:=by
  refine (zyj 3 4 cs.toList (fun i=>(guaV.drop (i * 3)).take 3) hlen fun i hi=>?_).trans rfl;obtain ⟨f',d,q,e1,e2⟩:=Lib.array_elem Tryz.underlying117 hd i hi;rw [c3] at e2;match i,hi with
  |0,_=>obtain rfl:=B6 e1;exact zqq yuj yui e2
  |1,_=>obtain rfl:=B6 e1;exact zqq yui yui e2
  |2,_=>obtain rfl:=B6 e1;exact zqq yuj yuj e2
  |3,_=>obtain rfl:=B6 e1;exact zqq yui yuj e2
 unfold World.var? at hv;rw [hg] at hv;simp only [J3] at hv;split at hv
 ·rename_i c T0 fr hh;cases hv;have hc:cs=guaV.toArray:=by rw [←hcs]
  subst hc;refine zx5 hh rfl fun j h1 h2=>?_;match j,h1 with
  |0,_=>exact .v _
  |1,_=>exact zj8 _ _
  |2,_=>exact zj8 _ _
  |3,_=>exact .v _
  |4,_=>exact zj8 _ _
  |5,_=>exact zj8 _ _
  |6,_=>exact .v _
  |7,_=>exact zj8 _ _
  |8,_=>exact zj8 _ _
  |9,_=>exact .v _
  |10,_=>exact zj8 _ _
  |11,_=>exact zj8 _ _
  |n+12,h1=>exact absurd h1 (by show ¬n+12 < 12;omega)
 cases hv
def yp1 (k:Nat):List UInt8:= [[114,121,119],[109,114],[109,119],[119,102,114]][k]!
theorem yfw:(Rows.laid_yardarm_level_words:DataW Unit)= .agg ((List.range 4).map fun i=> .lit (.string (yp1 i))):=by kernel_rfl
theorem yqe {s:ByteArray} {l:List UInt8} (h:s.data.toList=l):s=⟨l.toArray⟩:=by
 subst h;cases s;simp
theorem yvx {w:World} (h:Lib.VarReads Tryz.prog w "yardarm/level.words" Rows.laid_yardarm_level_words):(Res.glob 1 193 za4).holds w noX:=by
 refine zqt (vals:=(List.range 4).map fun i=>Value.string (wordB i)) (T:=193) h (by kernel_rfl) (show _=some 193 by kernel_rfl) fun fuel cs p hd=>?_;rw [yfw] at hd;have c1:Tryz.prog.cellsOf 9=1:=by kernel_rfl
 have c4:Tryz.prog.cellsOf 193=4:=by kernel_rfl
 have hlen:cs.length=4 * 1:=by
  obtain ⟨_,_,_,_,hl,_⟩:=DataW.trod_array Tryz.underlying193 hd;rw [hl,c4]
 refine (zyj 1 4 cs (fun i=> [Value.string (wordB i)]) hlen fun i hi=>?_).trans rfl;obtain ⟨f',d,q,h1,h2⟩:=Lib.array_elem Tryz.underlying193 hd i hi;simp only [M1,X4 hi,K8,D6] at h1;subst h1;rw [c1] at h2;obtain ⟨s,e,ex,_⟩:=DataW.trod_string Tryz.underlying9 h2;have e2:s.data.toList=yp1 i:=by
  have:=A4 Prod.fst ex;simp only [DataW.lit.injEq,Lit.string.injEq] at this;exact this.symm
 rw [e,yqe e2];match i,hi with
 |0,_=>rfl
 |1,_=>rfl
 |2,_=>rfl
 |3,_=>rfl
theorem yuf:OO [.glob 1 193 za4,.glob 0 117 x9,.glob 3 148 x3,.glob 5 276 x6,.glob 6 279 y7,.glob 2 197 u3] noX=noX:=by funext b;simp [OO,j6,noX,Res.own]
theorem zz1 {W:World} (h:laidMetH Tryz.prog zqm W):HRel noX W [.glob 1 193 za4,.glob 0 117 x9,.glob 3 148 x3,.glob 5 276 x6,.glob 6 279 y7,.glob 2 197 u3]:=by
 have h':=yic h;have h0:=yv0 (Lib.laidMet.reads h' (.tail _ (.tail _ (.head _))));have h1:=yvz (Lib.laidMet.reads h' (.tail _ (.tail _ (.tail _ (.head _)))));have h2:=yvy (Lib.laidMet.reads h' (.head _));have h3:=yvx (Lib.laidMet.reads h' (.tail _ (.head _)));refine ⟨by simp [j6,Res.own],fun b hb=>by simp [j6,Res.own] at hb,fun b hb=>hb.elim,fun r hr=>?_⟩;rw [yuf];simp only [C9,S0,Z6] at hr;rcases hr with rfl|rfl|rfl|rfl|rfl|rfl
 ·exact h3
 ·exact ysw h
 ·exact h0
 ·exact h1
 ·exact h2
 exact ysx h
noncomputable def witW0 (os:Os):World:={World.holding Tryz.prog os ⟨#[], #[],[]⟩ with heap:=((World.holding Tryz.prog os ⟨#[], #[],[]⟩).heap.modify 2 (Lay.setRow ywj)).modify 0 (Lay.setRow guaV)}
noncomputable def witW (os:Os):World:=(witW0 os).layVars Tryz.prog zng
theorem yli (os:Os):(witW os).os=os:=World.layVars_os _ _ _
theorem yf0 (os:Os) (args:Array Value):laidMetH Tryz.prog zqm ((witW os).forCall (fun _ _=>0) ⟨#[],args,[]⟩).memory:=by
 refine laidMetH_of_parts3 (fuel:=8) ?_ (by kernel_rfl) (by kernel_rfl);rw [zxx]
 have h:laidMet Tryz.prog zng (witW os):=laidMet_layVars (w0:=witW0 os) (zng.map (·.1)) [] (by kernel_rfl) (by kernel_rfl) (by kernel_rfl) (by
  rw [show (zng.filter fun x=> !(zng.map (·.1)).contains x.1)= [] by kernel_rfl];exact LaidIn.none)
 exact h.of_heap (by simp [World.memory,World.forCall,Input.heap])
end Go.Proofs.YtcaijocpofcbdaaGreatDoor
set_option maxRecDepth 10000
namespace Go.Proofs
open Go Go.Ab
attribute [local irreducible] QR QV OE zc9 aw zds zb0 zbp za8 thn zgc zem jch zfo
open Go.H
def wiC (h:Hist) (s b:Int):Int:=if v6 h≠0 then v6 h else if isB s h.ss.length=false then 2 else if b < 0∨b > 15 then 190 else if (zfv h.wants s b).length > 3000 then 6 else 0
def wiH (h:Hist) (s b:Int):Hist:=if wiC h s b=0 then zft h (zfv h.wants s b) else hist0
theorem zrz {h:Hist} {s b:Int} (hc:v6 h≠0):wiC h s b=v6 h:=A6 hc
theorem zkk {h:Hist} {s b:Int} (hc:v6 h=0) (hb:isB s h.ss.length=false):wiC h s b=2:=by rw [wiC,A0 (by omega),A6 hb]
theorem zuq {h:Hist} {s b:Int} (hc:v6 h=0) (hb:isB s h.ss.length=true) (hw:woC b=190):wiC h s b=190:=by
 have:b < 0∨b > 15:=by
  by_cases q:b < 0∨b > 15
  ·exact q
  rw [woC,A0 q] at hw;cases hw
 rw [wiC,A0 (by omega),A0 (by rw [hb];decide),A6 this]
theorem zlx (b:Int):woC b=190∨(woC b=0∧¬(b < 0∨b > 15)):=by
 by_cases q:b < 0∨b > 15
 ·exact .inl (A6 q)
 exact .inr ⟨A0 q,q⟩
theorem yav {h:Hist} {s b:Int} (hc:v6 h=0) (hb:isB s h.ss.length=true) (hw:¬(b < 0∨b > 15)) (hl:(zfv h.wants s b).length > 3000):wiC h s b=6:=by rw [wiC,A0 (by omega),A0 (by rw [hb];decide),A0 hw,A6 hl]
theorem zr0 {h:Hist} {s b:Int} (hc:v6 h=0) (hb:isB s h.ss.length=true) (hw:¬(b < 0∨b > 15)) (hl:¬(zfv h.wants s b).length > 3000):wiC h s b=0:=by rw [wiC,A0 (by omega),A0 (by rw [hb];decide),A0 hw,A0 hl]
theorem zfw {h:Hist} {s b:Int} (he:wiC h s b≠0):wiH h s b=hist0:=A0 he
theorem zup {h:Hist} {s b:Int} (he:wiC h s b=0):wiH h s b=zft h (zfv h.wants s b):=A6 he
def stH (h:Hist):Hist:=if v6 h=0 then zft h (zht h) else hist0
theorem zxz {s:Int} {n:Nat} (h:decide (s < 0)=true):isB s n=false:=by have:=oT h;unfold isB;simp <;> omega
theorem zx0 {α β:Type} {f:α→β} {l:List α} {s:Int} (h:decide (s ≥ ((l.map f).length:Int))=true):isB s l.length=false:=by have:=oT h;rw [oM] at this;unfold isB;simp <;> omega
theorem yki {α β:Type} {f:α→β} {l:List α} {s:Int} (h:decide (s < 0)=false) (k:decide (s ≥ ((l.map f).length:Int))=false):isB s l.length=true:=by
 have h:=oF h;have k:=oF k;rw [oM] at k;exact zni.2 ⟨by omega,by omega⟩
theorem yj0 {h:Hist} (hc:v6 h=0) (k:Nat):WOk h.ss.length (zcw h.wants ((zdb h).take k)):=zun (zrx (zcb.1 hc)) fun g hg=>⟨(zjq hc g (N6 hg)).2,(zjq hc g (N6 hg)).1.2⟩
theorem ysr (c0 c1 c2 c3 c4 c5 c6:AV) (ho: [c0,c1,c2,c3,c4,c5,c6].all AV.one=true) (l:List Wan) (hl:l.length≤1000000) (s bits:Int):y9 Tryz.prog 89 [.agg [c0,c1,c2,c3,c4,c5,c6,zd3 l],iv s,iv bits] [] (fun r h'=>h'= []∧r= .agg [c0,c1,c2,c3,c4,c5,c6,zd3 (zfv l s bits)]):=
 (ydl c0 c1 c2 c3 c4 c5 c6 ho l hl s bits).ventR (by rintro _ _ ⟨v,rfl,rfl⟩;exact ⟨_,_,zat [_,_,_,_,_,_,_] [],rfl,rfl⟩)
theorem zx1 (g:Int) (W:List Res):y9 Tryz.prog 88 [iv g] (.glob 1 193 za4::W) (fun r h'=>h'= .glob 1 193 za4::W∧∃t:ByteArray,r= .tup [.v (.string t),iv (woC g)]):=((yob g).frame W).mono (by rintro _ _ ⟨_,rfl,rfl,t,rfl⟩;exact ⟨rfl,t,rfl⟩)
theorem yod (h:Hist) (la:Lim 4611686018427387904 h) (s bits:Int):y9 Tryz.prog 40 [.agg (y8 h),iv s,iv bits] (.glob 1 193 za4:: .glob 0 117 x9:: .glob 3 148 x3:: .glob 5 276 x6:: .glob 6 279 y7:: .glob 2 197 u3:: []) (fun r h'=>h'= .glob 1 193 za4:: .glob 0 117 x9:: .glob 3 148 x3:: .glob 5 276 x6:: .glob 6 279 y7:: .glob 2 197 u3:: []∧r= .tup [.agg (y8 (wiH h s bits)),iv (wiC h s bits)]):=by
 refine z6 Tryz.func40 rfl rfl rfl ?_;refine rn ?_;refine z8 rfl (w7 rfl rfl rfl fun b3=>?_);refine z8 rfl (y6 rfl fun b6=>?_);refine rn ?_;refine qv rfl rfl (y3 rfl rfl (y4.qt (y4.of_fun (zqn h la)) ((pt4 _ _ _ _ _ _).trans (.cons _ ((pt4 _ _ _ _ _ _).trans (.cons _ ((pt4 _ _ _ _ _ _).trans (.cons _ (pt4 _ _ _ _ _ _))))))))) ?_;refine rn ?_;refine z7 rfl (fun hc15=>?_) (fun hc15=>?_)
 ·have hc:v6 h≠0:=nzT hc15;refine rn ?_;exact zdn (.cons _ _ _ _ (.agg _ _ _ _ _ _ _ rfl inferInstance inferInstance inferInstance rfl) (.cons _ _ _ _ (.tmp _ _ rfl) .nil)) (.trans (.drop [_,_] _ _) (.le (Sb.tups (aS:= [.agg zbd,_]) (bs:= [.agg (y8 hist0),_]) ⟨Sb.aggs (aS:=zbd) (bs:=y8 hist0) ⟨.nil _ _,.nil _ _,.nil _ _,.nil _ _,.nil _ _,.nil _ _,.nil _ _,.nil _ _,trivial⟩,.refl _,trivial⟩).le)) ⟨rfl,by rw [zfw (by rw [zrz hc];first|exact hc|decide),zrz hc] <;> rfl⟩
 have hc:v6 h=0:=nzF hc15;have lA:Lim 1000000 h:=(zeq hc).mono (by decide);refine rn ?_;refine x5 (fun hg4_2=>?_) (fun hg4_2=>?_)
 ·refine rn ?_;refine zdk rfl ?_;have hb:isB s h.ss.length=false:=by first|exact zxz hg4_2|exact zx0 hc26
  refine rn ?_;exact zdn (.cons _ _ _ _ (.agg _ _ _ _ _ _ _ rfl inferInstance inferInstance inferInstance rfl) (.cons _ _ _ _ (.tmp _ _ rfl) .nil)) (.trans (.drop [_,_] _ _) (.le (Sb.tups (aS:= [.agg zbd,_]) (bs:= [.agg (y8 hist0),_]) ⟨Sb.aggs (aS:=zbd) (bs:=y8 hist0) ⟨.nil _ _,.nil _ _,.nil _ _,.nil _ _,.nil _ _,.nil _ _,.nil _ _,.nil _ _,trivial⟩,.refl _,trivial⟩).le)) ⟨rfl,by rw [zfw (by rw [zkk hc hb];first|exact hc|decide),zkk hc hb] <;> rfl⟩
 refine rn ?_;refine z7 rfl (fun hc26=>?_) (fun hc26=>?_)
 ·have hb:isB s h.ss.length=false:=by first|exact zxz hg4_2|exact zx0 hc26
  refine rn ?_;exact zdn (.cons _ _ _ _ (.agg _ _ _ _ _ _ _ rfl inferInstance inferInstance inferInstance rfl) (.cons _ _ _ _ (.tmp _ _ rfl) .nil)) (.trans (.drop [_,_] _ _) (.le (Sb.tups (aS:= [.agg zbd,_]) (bs:= [.agg (y8 hist0),_]) ⟨Sb.aggs (aS:=zbd) (bs:=y8 hist0) ⟨.nil _ _,.nil _ _,.nil _ _,.nil _ _,.nil _ _,.nil _ _,.nil _ _,.nil _ _,trivial⟩,.refl _,trivial⟩).le)) ⟨rfl,by rw [zfw (by rw [zkk hc hb];first|exact hc|decide),zkk hc hb] <;> rfl⟩
 have hb:isB s h.ss.length=true:=yki hg4_2 hc26;refine rn ?_;refine z8 rfl (q7 rfl rfl (y4.perm (pt2 _ _ _ _) (y4.of_fun (zx1 bits _))) rfl ?_);rintro _ _ ⟨rfl,t,rfl⟩;refine rn ?_;refine z7 rfl (fun hc34=>?_) (fun hc34=>?_)
 ·have hw:woC bits=190:=(zlx bits).resolve_right (fun q=>nzT hc34 q.1);rw [hw];refine rn ?_;exact zdn (.cons _ _ _ _ (.agg _ _ _ _ _ _ _ rfl inferInstance inferInstance inferInstance rfl) (.cons _ _ _ _ (.tmp _ _ rfl) .nil)) (.trans (.trans (.perm ((pt1 _ _ _).trans (.cons _ (pt1 _ _ _))) _) (.drop [_,_] _ _)) (.le (Sb.tups (aS:= [.agg zbd,_]) (bs:= [.agg (y8 hist0),_]) ⟨Sb.aggs (aS:=zbd) (bs:=y8 hist0) ⟨.nil _ _,.nil _ _,.nil _ _,.nil _ _,.nil _ _,.nil _ _,.nil _ _,.nil _ _,trivial⟩,.refl _,trivial⟩).le)) ⟨rfl,by rw [zfw (by rw [zuq hc hb hw];first|exact hc|decide),zuq hc hb hw] <;> rfl⟩
 have hw:¬(bits < 0∨bits > 15):=((zlx bits).resolve_left (fun q=>by have w:=nzF hc34;rw [q] at w;cases w)).2;refine rn ?_;refine qv rfl rfl (y3 rfl rfl (u0 (yvw h lA) (Sbs.refl _))) ?_;refine rn ?_;refine qv rfl rfl (y3 rfl rfl (u0 (ysr (v7 h.ts) (v7 h.ss) (v7 h.os) (v7 h.ps) (zll h.evs) (zb2 h.ords) (zb3 h.mats) rfl h.wants (by have:=lA.wants;omega) s bits) (Sbs.refl _))) ?_;refine z8 rfl (y6 rfl fun b11=>?_);refine rn ?_;refine z7 rfl (fun hc45=>?_) (fun hc45=>?_)
 ·have hl:(zfv h.wants s bits).length > 3000:=by have q:=oT hc45;rw [oM] at q;omega
  refine rn ?_;exact zdn (.cons _ _ _ _ (.agg _ _ _ _ _ _ _ rfl inferInstance inferInstance inferInstance rfl) (.cons _ _ _ _ (.tmp _ _ rfl) .nil)) (.trans (.trans (.perm (.cons _ ((pt1 _ _ _).trans (.cons _ (pt1 _ _ _)))) _) (.drop [_,_,_] _ _)) (.le (Sb.tups (aS:= [.agg zbd,_]) (bs:= [.agg (y8 hist0),_]) ⟨Sb.aggs (aS:=zbd) (bs:=y8 hist0) ⟨.nil _ _,.nil _ _,.nil _ _,.nil _ _,.nil _ _,.nil _ _,.nil _ _,.nil _ _,trivial⟩,.refl _,trivial⟩).le)) ⟨rfl,by rw [zfw (by rw [yav hc hb hw hl];first|exact hc|decide),yav hc hb hw hl] <;> rfl⟩
 have hl:¬(zfv h.wants s bits).length > 3000:=by have q:=oF hc45;rw [oM] at q;omega
 refine rn ?_;exact zdn (.cons _ _ _ _ (.agg _ _ _ _ _ _ _ rfl inferInstance inferInstance inferInstance rfl) (.cons _ _ _ _ (.tmp _ _ rfl) .nil)) (.trans (.perm (.cons _ ((pt1 _ _ _).trans (.cons _ (pt1 _ _ _)))) _) (.drop [_,_,_] _ _)) ⟨rfl,by rw [zup (zr0 hc hb hw hl),zr0 hc hb hw hl] <;> rfl⟩
end Go.Proofs
namespace Go.H
open Go Go.Ab
theorem zp5 {s:Value} {sz:Nat} {T:TypeId} {rows rows':List (List AV)}:(Res.row s sz T rows).own=(Res.row s sz T rows').own:=by
 cases s <;> try rfl
 rename_i a _ _;cases a <;> rfl
theorem zy8 {X:Nat→Prop} {w:World} {s:Value} {sz:Nat} {T:TypeId} {α:Type} {f g:α→List AV} {l:List α} {G H0:List Res} (hh:HRel X w (.row s sz T (l.map f)::(G++H0)))
 (hc:∀a∈l,CT w (OO (.row s sz T (l.map f)::(G++H0)) X) (OO (.row s sz T (l.map g)::G) X) (f a) (g a)):HRel X w (.row s sz T (l.map g)::G):=by
 have hd:HRel X w (.row s sz T (l.map f)::G):=HRel.drop (h:=H0) (hh.perm (show (Res.row s sz T (l.map f)::(G++H0)).Perm (H0++(Res.row s sz T (l.map f)::G)) from (E9 (l₁:=Res.row s sz T (l.map f)::G))));have ho:j6 (.row s sz T (l.map g)::G)=j6 (.row s sz T (l.map f)::G):=by rw [v8,v8,zp5]
 have hO:OO (.row s sz T (l.map g)::G) X=OO (.row s sz T (l.map f)::G) X:=by unfold OO;rw [ho]
 refine ⟨by rw [ho];exact hd.nodup,fun b hb=>hd.lt b (by rw [←ho];exact hb),hd.xlt,fun r hr=>?_⟩;rcases C9.1 hr with rfl|hr
 ·have hx:=hh.holds _ O5;cases s <;> try exact hx.elim
  rename_i a len cap;cases a with
  |none=>
   obtain ⟨e,h2⟩:=hx;exact ⟨by rw [List.map_eq_nil_iff] at e ⊢;exact e,h2⟩
  |some a=>
   obtain ⟨h1,h2,h3,h4,c,h5,h6,h7⟩:=hx;refine ⟨h1,by rw [oM] at h2 ⊢;exact h2,h3,fun i hi=>?_,c,h5,h6,fun i hi j hj=>?_⟩
   ·have hi':i < l.length:=by simpa using hi
    have h4':=h4 i (by simpa using hi');simp only [H7] at h4' ⊢;rw [←h4'];exact (hc l[i] (D0 hi')).len
   have hi':i < l.length:=by simpa using hi
   have ct:=hc l[i] (D0 hi');simp only [H7] at hj ⊢;have hj':j < (f l[i]).length:=by rw [←ct.len];exact hj
   obtain ⟨v,e,r⟩:=h7 i (by simpa using hi') j (by simpa using hj');simp only [H7] at r;exact ⟨v,e,ct.get j hj' hj v r⟩
 rw [hO];exact hd.holds r (G3 _ hr)
theorem zvg (G:List Res) (n:NV) (sE sO sM:Value) (h:Hist) (E:List (SV×Ev)) (O:List (SV×H.Ord)) (M:List (SV×Mat)) (T9 T40 T54 T57 T52 T3:TypeId) (H:List Res) (hE:E.map (·.2)=h.evs) (hO:O.map (·.2)=h.ords) (hM:M.map (·.2)=h.mats)
 (h1: .row n.vT.v 1 T9 (h.ts.map zaq)∈H) (h2: .row n.vS.v 1 T9 (h.ss.map zaq)∈H) (h3: .row n.vO.v 1 T9 (h.os.map zaq)∈H) (h4: .row n.vP.v 1 T9 (h.ps.map zaq)∈H)
 (h6: .row sO 2 T54 (O.map zp6)∈H) (h7: .row sM 4 T57 (M.map zsv)∈H) (h9:∀r∈scR T52 E,r∈H) (h10:∀r∈otR T3 O,r∈H) (h11:∀r∈mtR T3 M,r∈H):
 zil (.row sE 9 T40 (E.map zuf)::(G++H)) (.agg [.v n.vT.v,.v n.vS.v,.v n.vO.v,.v n.vP.v,.v sE,.v sO,.v sM,zd3 h.wants]) (.row sE 9 T40 (h.evs.map evR)::G) (.agg [v7 h.ts,v7 h.ss,v7 h.os,v7 h.ps,.v sE,zb2 h.ords,zb3 h.mats,zd3 h.wants]):=by
 have he:h.evs.map evR=E.map (fun p=>evR p.2):=by rw [←hE,N9];rfl
 rw [he];refine ⟨fun x hx=>by rw [v8,zp5 (rows':=E.map zuf)] at hx;rw [v8,w9];rcases D2.1 hx with hx|hx;exact G5 _ hx;exact E4 _ (G5 _ hx),fun X w v hh hr=>?_⟩;have hmem:∀r∈H,r∈(Res.row sE 9 T40 (E.map zuf)::(G++H)):=fun r hr=>G3 _ (E4 _ hr)
 have hout:∀r∈H,∀x∈r.own,¬OO (.row sE 9 T40 (E.map fun p=>evR p.2)::G) X x:=fun r hr x hx q=>by
  have hxH:x∈j6 H:=k6.2 ⟨r,hr,hx⟩;have hn:=hh.nodup;rw [v8,w9,←E0,J2] at hn;rcases q with q|q
  ·rw [v8,zp5 (rows':=E.map zuf)] at q;exact hn.2.2 x q x hxH rfl
  exact (hh.lt x (by rw [v8,w9];exact E4 _ (E4 _ hxH))).2 q
 have lo:∀av u,Rel w (OO (.row sE 9 T40 (E.map zuf)::(G++H)) X) av u→Rel w (OO (.row sE 9 T40 (E.map fun p=>evR p.2)::G) X) av u:=fun av u r=>r.loose fun x hx=>hx.imp (fun q=>by
  rw [v8,zp5 (rows':=E.map zuf)] at q;rw [v8,w9];rcases D2.1 q with q|q
  ·exact G5 _ q
  exact E4 _ (G5 _ q)) id
 have S:∀{α:Type} {s:Value} {sz:Nat} {T:TypeId} {f g:α→List AV} {l:List α},.row s sz T (l.map f)∈H→(∀a∈l,CT w (OO (.row sE 9 T40 (E.map zuf)::(G++H)) X) (OO (.row sE 9 T40 (E.map fun p=>evR p.2)::G) X) (f a) (g a))→Rel w (OO (.row sE 9 T40 (E.map fun p=>evR p.2)::G) X) (.list false sz (l.map g)) s:=
  fun hm hc=>ya4 hh (hmem _ hm) (hout _ hm) hc
 have str:∀{s:Value} {l:List ByteArray},.row s 1 T9 (l.map zaq)∈H→Rel w (OO (.row sE 9 T40 (E.map fun p=>evR p.2)::G) X) (v7 l) s:=fun hm=>S (f:=zaq) (g:=zaq) hm fun a _=>⟨sc _,trivial⟩;have hrow:HRel X w (.row sE 9 T40 (E.map fun p=>evR p.2)::G):=zy8 hh fun p hp=>⟨sc _,sc _,sc _,sc _,sc _,sc _,sc _,sc _,sn (S (f:=zav) (g:=zav) (h9 _ (H2.2 ⟨p,hp,rfl⟩)) fun a _=>⟨sc _,sc _,sc _,trivial⟩),trivial⟩;have ords:Rel w (OO (.row sE 9 T40 (E.map fun p=>evR p.2)::G) X) (zb2 h.ords) sO:=by
  have:=S (g:=fun p=>zb7 p.2) h6 fun p hp=>⟨sc _,sn (S (f:=zag) (g:=zag) (h10 _ (H2.2 ⟨p,hp,rfl⟩)) fun a _=>⟨sc _,trivial⟩),trivial⟩;rw [←hO];show Rel w _ (.list false 2 ((O.map (·.2)).map zb7)) sO;rw [N9];exact this
 have mats:Rel w (OO (.row sE 9 T40 (E.map fun p=>evR p.2)::G) X) (zb3 h.mats) sM:=by
  have:=S (g:=fun p=>zck p.2) h7 fun p hp=>⟨sc _,sc _,sc _,sn (S (f:=zag) (g:=zag) (h11 _ (H2.2 ⟨p,hp,rfl⟩)) fun a _=>⟨sc _,trivial⟩),trivial⟩;rw [←hM];show Rel w _ (.list false 4 ((M.map (·.2)).map zck)) sM;rw [N9];exact this
 refine ⟨hrow,?_⟩;have hcells:CT w (OO (.row sE 9 T40 (E.map zuf)::(G++H)) X) (OO (.row sE 9 T40 (E.map fun p=>evR p.2)::G) X) [.v n.vT.v,.v n.vS.v,.v n.vO.v,.v n.vP.v,.v sE,.v sO,.v sM,zd3 h.wants] [v7 h.ts,v7 h.ss,v7 h.os,v7 h.ps,.v sE,zb2 h.ords,zb3 h.mats,zd3 h.wants]:=⟨sn (str h1),sn (str h2),sn (str h3),sn (str h4),sc _,sn ords,sn mats,lo _,trivial⟩;cases hr with
 |agg _ ds hl2 hc2=>exact .agg _ ds (by rw [hcells.len];exact hl2) fun j a b=>hcells.get j (by rw [←hcells.len];exact a) a _ (hc2 j (by rw [←hcells.len];exact a) b)
end Go.H
set_option maxRecDepth 10000
namespace Go.Proofs
open Go Go.Ab
attribute [local irreducible] QR QV OE zc9 aw zds zb0 zbp za8 thn zgc zem jch zfo
open Go.H
theorem yhh {r:Res} {A B W:List Res}:((A++r::B)++W).Perm (r::(W++(A++B))):=((U2 (l₁:=A) (l₂:=B) (a:=r)).append_right W).trans (.cons _ E9)
theorem ykm (h:Hist) (la:Lim 1000000 h) (W:List Res):y9 Tryz.prog 90 [.agg (y8 h)] W (fun r h'=>∃v:SV,h'= .row v.v 9 66 (h.evs.map evR)::W∧r= .agg [v7 h.ts,v7 h.ss,v7 h.os,v7 h.ps,.v v.v,zb2 h.ords,zb3 h.mats,zd3 h.wants]):=
 ((ykl h la).frame W).ventR (by
   rintro _ _ ⟨_,rfl,n,o,E,O,M,hE,hO,hM,rfl,rfl⟩;refine ⟨_,_,.trans (.perm (yhh (A:= [.row n.vT.v 1 9 (h.ts.map zaq),.row n.vS.v 1 9 (h.ss.map zaq),.row n.vO.v 1 9 (h.os.map zaq),.row n.vP.v 1 9 (h.ps.map zaq)])) _) (zvg W n o.1.v o.2.1.v o.2.2.v h E O M 9 66 99 112 139 3 (.row n.vT.v 1 9 (h.ts.map zaq):: .row n.vS.v 1 9 (h.ss.map zaq):: .row n.vO.v 1 9 (h.os.map zaq):: .row n.vP.v 1 9 (h.ps.map zaq):: .row o.2.1.v 2 99 (O.map zp6):: .row o.2.2.v 4 112 (M.map zsv)::(scR 139 E++(otR 3 O++mtR 3 M))) hE hO hM (by simp) (by simp) (by simp) (by simp) (by simp) (by simp) (fun r hr=>by simp [hr]) (fun r hr=>by simp [hr]) (fun r hr=>by simp [hr])),o.1,rfl,rfl⟩)
theorem ydm (c0 c1 c2 c3 c4 c5 c6:AV) (ho: [c0,c1,c2,c3,c4,c5,c6].all AV.one=true) (l:List Wan) (hl:l.length≤1000000) (s bits:Int) (W:List Res):y9 Tryz.prog 89 [.agg [c0,c1,c2,c3,c4,c5,c6,zd3 l],iv s,iv bits] W (fun r h'=>∃v:SV,h'= .row v.v 2 51 ((zfv l s bits).map zar)::W∧r= .agg [c0,c1,c2,c3,c4,c5,c6,.v v.v]):=
 ((ydl c0 c1 c2 c3 c4 c5 c6 ho l hl s bits).frame W).mono (by rintro _ _ ⟨_,rfl,v,rfl,rfl⟩;exact ⟨v,rfl,rfl⟩)
def zay (h:Hist) (vE vW:SV):List AV:= [v7 h.ts,v7 h.ss,v7 h.os,v7 h.ps,.v vE.v,zb2 h.ords,zb3 h.mats,.v vW.v]
theorem yoc (h:Hist) (la:Lim 4611686018427387904 h) (s bits:Int):y9 Tryz.prog 40 [.agg (y8 h),iv s,iv bits] (.glob 1 193 za4:: .glob 0 117 x9:: .glob 3 148 x3:: .glob 5 276 x6:: .glob 6 279 y7:: .glob 2 197 u3:: []) (fun r h'=>∃vE vW:SV,h'= .row vW.v 2 51 (((wiH h s bits).wants).map zar):: .row vE.v 9 66 (((wiH h s bits).evs).map evR):: .glob 1 193 za4:: .glob 0 117 x9:: .glob 3 148 x3:: .glob 5 276 x6:: .glob 6 279 y7:: .glob 2 197 u3:: []∧r= .tup [.agg (zay (wiH h s bits) vE vW),iv (wiC h s bits)]):=by
 refine z6 Tryz.func40 rfl rfl rfl ?_;refine rn ?_;refine z8 rfl (w7 rfl rfl rfl fun b3=>?_);refine z8 rfl (y6 rfl fun b6=>?_);refine rn ?_;refine qv rfl rfl (y3 rfl rfl (y4.qt (y4.of_fun (zqn h la)) ((pt4 _ _ _ _ _ _).trans (.cons _ ((pt4 _ _ _ _ _ _).trans (.cons _ ((pt4 _ _ _ _ _ _).trans (.cons _ (pt4 _ _ _ _ _ _))))))))) ?_;refine rn ?_;refine z7 rfl (fun hc15=>?_) (fun hc15=>?_)
 ·have hc:v6 h≠0:=nzT hc15;refine rn ?_;exact zdn (.cons _ _ _ _ (.agg _ _ _ _ _ _ _ rfl inferInstance inferInstance inferInstance rfl) (.cons _ _ _ _ (.tmp _ _ rfl) .nil)) (.trans (.drop [_,_] _ _) (.trans (.trans (j7 9 66 _) (j7 2 51 _)) (.le (Sb.tups (aS:= [.agg zbd,_]) (bs:= [.agg (zay hist0 ⟨none,0,0⟩ ⟨none,0,0⟩),_]) ⟨Sb.aggs (aS:=zbd) (bs:=zay hist0 ⟨none,0,0⟩ ⟨none,0,0⟩) ⟨.nil _ _,.nil _ _,.nil _ _,.nil _ _,.refl _,.nil _ _,.nil _ _,.refl _,trivial⟩,.refl _,trivial⟩).le))) ⟨⟨none,0,0⟩,⟨none,0,0⟩,by rw [zfw (by rw [zrz hc];first|exact hc|decide)] <;> rfl,by rw [zfw (by rw [zrz hc];first|exact hc|decide),zrz hc] <;> rfl⟩
 have hc:v6 h=0:=nzF hc15;have lA:Lim 1000000 h:=(zeq hc).mono (by decide);refine rn ?_;refine x5 (fun hg4_2=>?_) (fun hg4_2=>?_)
 ·refine rn ?_;refine zdk rfl ?_;have hb:isB s h.ss.length=false:=by first|exact zxz hg4_2|exact zx0 hc26
  refine rn ?_;exact zdn (.cons _ _ _ _ (.agg _ _ _ _ _ _ _ rfl inferInstance inferInstance inferInstance rfl) (.cons _ _ _ _ (.tmp _ _ rfl) .nil)) (.trans (.drop [_,_] _ _) (.trans (.trans (j7 9 66 _) (j7 2 51 _)) (.le (Sb.tups (aS:= [.agg zbd,_]) (bs:= [.agg (zay hist0 ⟨none,0,0⟩ ⟨none,0,0⟩),_]) ⟨Sb.aggs (aS:=zbd) (bs:=zay hist0 ⟨none,0,0⟩ ⟨none,0,0⟩) ⟨.nil _ _,.nil _ _,.nil _ _,.nil _ _,.refl _,.nil _ _,.nil _ _,.refl _,trivial⟩,.refl _,trivial⟩).le))) ⟨⟨none,0,0⟩,⟨none,0,0⟩,by rw [zfw (by rw [zkk hc hb];first|exact hc|decide)] <;> rfl,by rw [zfw (by rw [zkk hc hb];first|exact hc|decide),zkk hc hb] <;> rfl⟩
 refine rn ?_;refine z7 rfl (fun hc26=>?_) (fun hc26=>?_)
 ·have hb:isB s h.ss.length=false:=by first|exact zxz hg4_2|exact zx0 hc26
  refine rn ?_;exact zdn (.cons _ _ _ _ (.agg _ _ _ _ _ _ _ rfl inferInstance inferInstance inferInstance rfl) (.cons _ _ _ _ (.tmp _ _ rfl) .nil)) (.trans (.drop [_,_] _ _) (.trans (.trans (j7 9 66 _) (j7 2 51 _)) (.le (Sb.tups (aS:= [.agg zbd,_]) (bs:= [.agg (zay hist0 ⟨none,0,0⟩ ⟨none,0,0⟩),_]) ⟨Sb.aggs (aS:=zbd) (bs:=zay hist0 ⟨none,0,0⟩ ⟨none,0,0⟩) ⟨.nil _ _,.nil _ _,.nil _ _,.nil _ _,.refl _,.nil _ _,.nil _ _,.refl _,trivial⟩,.refl _,trivial⟩).le))) ⟨⟨none,0,0⟩,⟨none,0,0⟩,by rw [zfw (by rw [zkk hc hb];first|exact hc|decide)] <;> rfl,by rw [zfw (by rw [zkk hc hb];first|exact hc|decide),zkk hc hb] <;> rfl⟩
 have hb:isB s h.ss.length=true:=yki hg4_2 hc26;refine rn ?_;refine z8 rfl (q7 rfl rfl (y4.perm (pt2 _ _ _ _) (y4.of_fun (zx1 bits _))) rfl ?_);rintro _ _ ⟨rfl,t,rfl⟩;refine rn ?_;refine z7 rfl (fun hc34=>?_) (fun hc34=>?_)
 ·have hw:woC bits=190:=(zlx bits).resolve_right (fun q=>nzT hc34 q.1);rw [hw];refine rn ?_;exact zdn (.cons _ _ _ _ (.agg _ _ _ _ _ _ _ rfl inferInstance inferInstance inferInstance rfl) (.cons _ _ _ _ (.tmp _ _ rfl) .nil)) (.trans (.trans (.perm ((pt1 _ _ _).trans (.cons _ (pt1 _ _ _))) _) (.drop [_,_] _ _)) (.trans (.trans (j7 9 66 _) (j7 2 51 _)) (.le (Sb.tups (aS:= [.agg zbd,_]) (bs:= [.agg (zay hist0 ⟨none,0,0⟩ ⟨none,0,0⟩),_]) ⟨Sb.aggs (aS:=zbd) (bs:=zay hist0 ⟨none,0,0⟩ ⟨none,0,0⟩) ⟨.nil _ _,.nil _ _,.nil _ _,.nil _ _,.refl _,.nil _ _,.nil _ _,.refl _,trivial⟩,.refl _,trivial⟩).le))) ⟨⟨none,0,0⟩,⟨none,0,0⟩,by rw [zfw (by rw [zuq hc hb hw];first|exact hc|decide)] <;> rfl,by rw [zfw (by rw [zuq hc hb hw];first|exact hc|decide),zuq hc hb hw] <;> rfl⟩
 have hw:¬(bits < 0∨bits > 15):=((zlx bits).resolve_left (fun q=>by have w:=nzF hc34;rw [q] at w;cases w)).2;refine rn ?_;refine z8 rfl (q7 rfl rfl (y4.of_fun (ykm h lA _)) rfl ?_);rintro _ _ ⟨vE,rfl,rfl⟩;refine rn ?_;refine z8 rfl (q7 rfl rfl (y4.of_fun (ydm (v7 h.ts) (v7 h.ss) (v7 h.os) (v7 h.ps) (.v vE.v) (zb2 h.ords) (zb3 h.mats) rfl h.wants (by have:=lA.wants;omega) s bits _)) rfl ?_);rintro _ _ ⟨vW,rfl,rfl⟩;refine z8 rfl (y6 rfl fun b11=>?_);refine rn ?_;refine z7 rfl (fun hc45=>?_) (fun hc45=>?_)
 ·have hl:(zfv h.wants s bits).length > 3000:=by have q:=oT hc45;rw [oM] at q;omega
  refine rn ?_;exact zdn (.cons _ _ _ _ (.agg _ _ _ _ _ _ _ rfl inferInstance inferInstance inferInstance rfl) (.cons _ _ _ _ (.tmp _ _ rfl) .nil)) (.trans (.trans (.perm (.cons _ (.cons _ (.cons _ ((pt1 _ _ _).trans (.cons _ (pt1 _ _ _)))))) _) (.drop [_,_,_,_,_] _ _)) (.trans (.trans (j7 9 66 _) (j7 2 51 _)) (.le (Sb.tups (aS:= [.agg zbd,_]) (bs:= [.agg (zay hist0 ⟨none,0,0⟩ ⟨none,0,0⟩),_]) ⟨Sb.aggs (aS:=zbd) (bs:=zay hist0 ⟨none,0,0⟩ ⟨none,0,0⟩) ⟨.nil _ _,.nil _ _,.nil _ _,.nil _ _,.refl _,.nil _ _,.nil _ _,.refl _,trivial⟩,.refl _,trivial⟩).le))) ⟨⟨none,0,0⟩,⟨none,0,0⟩,by rw [zfw (by rw [yav hc hb hw hl];first|exact hc|decide)] <;> rfl,by rw [zfw (by rw [yav hc hb hw hl];first|exact hc|decide),yav hc hb hw hl] <;> rfl⟩
 have hl:¬(zfv h.wants s bits).length > 3000:=by have q:=oF hc45;rw [oM] at q;omega
 refine rn ?_;exact zdn (.cons _ _ _ _ (.agg _ _ _ _ _ _ _ rfl inferInstance inferInstance inferInstance rfl) (.cons _ _ _ _ (.tmp _ _ rfl) .nil)) (.trans (.perm (.cons _ ((pt3 _ _ _ _ _).trans (.cons _ (pt3 _ _ _ _ _)))) _) (.drop [_,_,_] _ _)) ⟨vE,vW,by rw [zup (zr0 hc hb hw hl)] <;> rfl,by rw [zup (zr0 hc hb hw hl),zr0 hc hb hw hl] <;> rfl⟩
def yp3:Option SV→List Wan→AV
 |none,l=>zd3 l
 |some v,_=> .v v.v
def ywp:Option SV→List Wan→List Res
 |none,_=> []
 |some v,l=> [.row v.v 2 51 (l.map zar)]
def yik (h:Hist) (vE:SV) (o:Option SV):List AV:= [v7 h.ts,v7 h.ss,v7 h.os,v7 h.ps,.v vE.v,zb2 h.ords,zb3 h.mats,yp3 o h.wants]
theorem ylj {h:Hist} (hc:v6 h=0) (h0:h.ss.length=0):h.wants= []:=by
 rw [S2];intro w hw;have:=(zrx (zcb.1 hc)).2 w hw;omega
theorem zmq {h:Hist} (hc:v6 h=0) (h0:(zdb h).length=0):(stH h).wants= []:=by
 have ht:zdb h= []:=List.length_eq_zero_iff.1 h0;have hs:h.ss.length=0:=by
  rw [zop hc,zro,oM,upR,oM,S9] at h0;exact h0
 rw [stH,A6 hc];show zht h= [];rw [show zht h=zcw h.wants (zdb h) from rfl,ht];exact ylj hc hs
theorem ztd (h:Hist) (la:Lim 4611686018427387904 h):y9 Tryz.prog 41 [.agg (y8 h)] (.glob 0 117 x9:: .glob 3 148 x3:: .glob 5 276 x6:: .glob 6 279 y7:: .glob 2 197 u3:: []) (fun r h'=>∃(vE:SV) (o:Option SV),h'=ywp o (stH h).wants++(.row vE.v 9 66 ((stH h).evs.map evR):: .glob 0 117 x9:: .glob 3 148 x3:: .glob 5 276 x6:: .glob 6 279 y7:: .glob 2 197 u3:: [])∧r= .tup [.agg (yik (stH h) vE o),iv (v6 h)]∧(o=none ↔ v6 h=0∧(zdb h).length=0)):=by
 refine z6 Tryz.func41 rfl rfl rfl ?_;refine rn ?_;refine z8 rfl (w7 rfl rfl rfl fun b1=>?_);refine z8 rfl (y6 rfl fun b2=>?_);refine rn ?_;refine qv rfl rfl (y3 rfl rfl (y4.qt (y4.of_fun (zqs h la)) ((pt2 _ _ _ _).trans (.cons _ ((pt2 _ _ _ _).trans (.cons _ ((pt2 _ _ _ _).trans (.cons _ ((pt2 _ _ _ _).trans (.cons _ (pt2 _ _ _ _))))))))))) ?_;refine rn ?_;refine z7 rfl (fun hc14=>?_) (fun hc14=>?_)
 ·have hc:v6 h≠0:=nzT hc14;refine rn ?_;exact zdn (.cons _ _ _ _ (.agg _ _ _ _ _ _ _ rfl inferInstance inferInstance inferInstance rfl) (.cons _ _ _ _ (.tmp _ _ rfl) .nil)) (.trans (.drop [_,_] _ _) (.trans (.trans (j7 9 66 _) (j7 2 51 _)) (.le (Sb.tups (aS:= [.agg zbd,_]) (bs:= [.agg (yik hist0 ⟨none,0,0⟩ (some ⟨none,0,0⟩)),_]) ⟨Sb.aggs (aS:=zbd) (bs:=yik hist0 ⟨none,0,0⟩ (some ⟨none,0,0⟩)) ⟨.nil _ _,.nil _ _,.nil _ _,.nil _ _,.refl _,.nil _ _,.nil _ _,.refl _,trivial⟩,.refl _,trivial⟩).le))) ⟨⟨none,0,0⟩,some ⟨none,0,0⟩,by rw [stH,A0 hc] <;> rfl,by rw [stH,A0 hc] <;> rfl,⟨fun q=>(by cases q),fun q=>absurd q.1 hc⟩⟩
 have hc:v6 h=0:=nzF hc14;have lA:Lim 1000000 h:=(zeq hc).mono (by decide);have lT:=tab_len h;refine rn ?_;refine z8 rfl (q7 rfl rfl (y4.of_fun (ykm h lA _)) rfl ?_);rintro _ _ ⟨vE,rfl,rfl⟩;refine rn ?_;refine zb5 (zdb h).length (fun k (o:Option SV)=>(o=none ↔ k=0)) (fun k o=>⟨[(21,iv k),(1,pZ b1),(2,pZ b2),(19,zdq (zdb h)),(20,iv ((zdb h).map znk).length)],.box b2 28 zbd:: .box b1 28 [v7 h.ts,v7 h.ss,v7 h.os,v7 h.ps,.v vE.v,zb2 h.ords,zb3 h.mats,yp3 o (zcw h.wants ((zdb h).take k))]::(ywp o (zcw h.wants ((zdb h).take k))++(.row vE.v 9 66 (h.evs.map evR):: .glob 0 117 x9:: .glob 3 148 x3:: .glob 5 276 x6:: .glob 6 279 y7:: .glob 2 197 u3:: [])),[]⟩) none ⟨fun _=>rfl,fun _=>rfl⟩ (w8 (show Ent _ ⟨_,.row vE.v 9 66 (h.evs.map evR):: .box b2 28 zbd:: .box b1 28 [v7 h.ts,v7 h.ss,v7 h.os,v7 h.ps,.v vE.v,zb2 h.ords,zb3 h.mats,zd3 h.wants]:: .glob 0 117 x9:: .glob 3 148 x3:: .glob 5 276 x6:: .glob 6 279 y7:: .glob 2 197 u3:: [],[]⟩ _ from zau ((pt1 _ _ _).trans (.cons _ (pt1 _ _ _)))) (show Ent _ ⟨_,.box b2 28 zbd:: .box b1 28 [v7 h.ts,v7 h.ss,v7 h.os,v7 h.ps,.v vE.v,zb2 h.ords,zb3 h.mats,zd3 h.wants]:: .row vE.v 9 66 (h.evs.map evR):: .glob 0 117 x9:: .glob 3 148 x3:: .glob 5 276 x6:: .glob 6 279 y7:: .glob 2 197 u3:: [],[]⟩ _ from es)) ?_;intro k o lk hk0;refine rn ?_;refine z7 rfl (fun hc22=>?_) (fun hc22=>?_)
 ·have hk:=zaw hc22;have rk:=zam (f:=znk) hk;have hwk:=yj0 hc k;have hwl:=zum hwk;have lS:=(zeq hc).ss
  refine zgv (s':=⟨[(21,iv k),(1,pZ b1),(2,pZ b2),(19,zdq (zdb h)),(20,iv ((zdb h).map znk).length)],.box b1 28 [v7 h.ts,v7 h.ss,v7 h.os,v7 h.ps,.v vE.v,zb2 h.ords,zb3 h.mats,zd3 (zcw h.wants ((zdb h).take k))]:: .box b2 28 zbd:: .row vE.v 9 66 (h.evs.map evR):: .glob 0 117 x9:: .glob 3 148 x3:: .glob 5 276 x6:: .glob 6 279 y7:: .glob 2 197 u3:: [],[]⟩) (by
   cases o with
   |none=>exact w8 (show Ent _ ⟨_,.box b2 28 zbd:: .box b1 28 [v7 h.ts,v7 h.ss,v7 h.os,v7 h.ps,.v vE.v,zb2 h.ords,zb3 h.mats,zd3 (zcw h.wants ((zdb h).take k))]:: .row vE.v 9 66 (h.evs.map evR):: .glob 0 117 x9:: .glob 3 148 x3:: .glob 5 276 x6:: .glob 6 279 y7:: .glob 2 197 u3:: [],[]⟩ _ from zau (List.Perm.swap _ _ _)) es
   |some v=>exact w8 (show Ent _ ⟨_,.box b2 28 zbd:: .box b1 28 [v7 h.ts,v7 h.ss,v7 h.os,v7 h.ps,.v vE.v,zb2 h.ords,zb3 h.mats,.v v.v]:: .row v.v 2 51 (((zcw h.wants ((zdb h).take k))).map zar):: .row vE.v 9 66 (h.evs.map evR):: .glob 0 117 x9:: .glob 3 148 x3:: .glob 5 276 x6:: .glob 6 279 y7:: .glob 2 197 u3:: [],[]⟩ _ from zau ((pt2 _ _ _ _).trans (.cons _ (pt1 _ _ _)))) (zv6 [_,_,_,_,_,_,_] [])) ?_
  refine rn ?_;refine z8 rfl (y6 rfl fun b7=>?_);refine rn ?_;refine z8 rfl (q7 rfl rfl (y4.of_fun (ydm (v7 h.ts) (v7 h.ss) (v7 h.os) (v7 h.ps) (.v vE.v) (zb2 h.ords) (zb3 h.mats) rfl (zcw h.wants ((zdb h).take k)) (by omega) (zdb h)[k].s (zdb h)[k].a _)) rfl ?_);rintro _ _ ⟨vW,rfl,rfl⟩;refine rn ?_;exact ⟨hk,some vW,⟨fun q=>(by cases q),fun q=>(by omega)⟩,by rw [zry hk,←zuo hwk.1];exact w8 (zau ((pt1 _ _ _).trans (.cons _ ((pt2 _ _ _ _).trans (.cons _ (pt1 _ _ _)))))) (w8 ztn (show Ent _ ⟨_,.box b2 28 zbd:: .box b1 28 [v7 h.ts,v7 h.ss,v7 h.os,v7 h.ps,.v vE.v,zb2 h.ords,zb3 h.mats,.v vW.v]:: .row vW.v 2 51 ((zfv (zcw h.wants ((zdb h).take k)) (zdb h)[k].s (zdb h)[k].a).map zar):: .row vE.v 9 66 (h.evs.map evR):: .glob 0 117 x9:: .glob 3 148 x3:: .glob 5 276 x6:: .glob 6 279 y7:: .glob 2 197 u3:: [],[]⟩ _ from es))⟩
 have qk:=zaz hc22 lk;subst qk;rw [C7];refine zes ?_;refine rn0 ?_;refine x7 ?_;rcases o with _|v
 ·refine rn ?_;first|exact zdn (.cons _ _ _ _ (.agg _ _ _ _ _ _ _ rfl inferInstance inferInstance inferInstance rfl) (.cons _ _ _ _ (.tmp _ _ rfl) .nil)) (.drop [_,_] _ _) ⟨vE,none,by rw [stH,A6 hc] <;> rfl,by rw [stH,A6 hc,hc] <;> rfl,⟨fun _=>⟨hc,hk0.1 rfl⟩,fun _=>rfl⟩⟩|exact zdn (.cons _ _ _ _ (.agg _ _ _ _ _ _ _ rfl inferInstance inferInstance inferInstance rfl) (.cons _ _ _ _ (.tmp _ _ rfl) .nil)) (.drop [_,_] _ _) ⟨vE,some v,by rw [stH,A6 hc] <;> rfl,by rw [stH,A6 hc,hc] <;> rfl,⟨fun q=>(by cases q),fun q=>(by have:=hk0.2 q.2;cases this)⟩⟩
 refine rn ?_;first|exact zdn (.cons _ _ _ _ (.agg _ _ _ _ _ _ _ rfl inferInstance inferInstance inferInstance rfl) (.cons _ _ _ _ (.tmp _ _ rfl) .nil)) (.drop [_,_] _ _) ⟨vE,none,by rw [stH,A6 hc] <;> rfl,by rw [stH,A6 hc,hc] <;> rfl,⟨fun _=>⟨hc,hk0.1 rfl⟩,fun _=>rfl⟩⟩|exact zdn (.cons _ _ _ _ (.agg _ _ _ _ _ _ _ rfl inferInstance inferInstance inferInstance rfl) (.cons _ _ _ _ (.tmp _ _ rfl) .nil)) (.drop [_,_] _ _) ⟨vE,some v,by rw [stH,A6 hc] <;> rfl,by rw [stH,A6 hc,hc] <;> rfl,⟨fun q=>(by cases q),fun q=>(by have:=hk0.2 q.2;cases this)⟩⟩
theorem ydn (h:Hist) (la:Lim 4611686018427387904 h) (hz:¬(v6 h=0∧(zdb h).length=0)):y9 Tryz.prog 41 [.agg (y8 h)] (.glob 0 117 x9:: .glob 3 148 x3:: .glob 5 276 x6:: .glob 6 279 y7:: .glob 2 197 u3:: []) (fun r h'=>∃vE vW:SV,h'= .row vW.v 2 51 ((stH h).wants.map zar):: .row vE.v 9 66 ((stH h).evs.map evR):: .glob 0 117 x9:: .glob 3 148 x3:: .glob 5 276 x6:: .glob 6 279 y7:: .glob 2 197 u3:: []∧r= .tup [.agg (zay (stH h) vE vW),iv (v6 h)]):=
 (ztd h la).mono fun _ _ q=>by
  obtain ⟨vE,o,rfl,rfl,ho⟩:=q;cases o with
  |none=>exact absurd (ho.1 rfl) hz
  |some vW=>exact ⟨vE,vW,rfl,rfl⟩
theorem ydo (h:Hist) (la:Lim 4611686018427387904 h) (hz:v6 h=0∧(zdb h).length=0):y9 Tryz.prog 41 [.agg (y8 h)] (.glob 0 117 x9:: .glob 3 148 x3:: .glob 5 276 x6:: .glob 6 279 y7:: .glob 2 197 u3:: []) (fun r h'=>∃vE:SV,h'= .row vE.v 9 66 ((stH h).evs.map evR):: .glob 0 117 x9:: .glob 3 148 x3:: .glob 5 276 x6:: .glob 6 279 y7:: .glob 2 197 u3:: []∧r= .tup [.agg [v7 (stH h).ts,v7 (stH h).ss,v7 (stH h).os,v7 (stH h).ps,.v vE.v,zb2 (stH h).ords,zb3 (stH h).mats,.list false 2 []],iv (v6 h)]):=
 (ztd h la).mono fun _ _ q=>by
  obtain ⟨vE,o,rfl,rfl,ho⟩:=q;have e:=ho.2 hz;subst e;have hw:=zmq hz.1 hz.2;refine ⟨vE,rfl,?_⟩;unfold yik;rw [hw];rfl
theorem ye7 {l:List Wan} {s:Int} {k:Nat} (hk:k < l.length) (hn:∀w∈l.take k,w.s≠s) (e:l[k].s=s):yae l s=l[k].bits:=by
 have e1:l.find? (fun w=>w.s==s)=some l[k]:=by
  rw [X2];refine ⟨by simpa using e,k,hk,rfl,fun j hj=>?_⟩;have hm:l[j]'(by omega)∈l.take k:=L3.2 ⟨j,by omega,rfl⟩;simpa using hn _ hm
 rw [yae,e1]
theorem ypc {l:List Wan} {s:Int} {k:Nat} (hk:k < l.length) (hn:∀w∈l.take k,w.s≠s) (e:l[k].s≠s):∀w∈l.take (k+1),w.s≠s:=fun w hw=>by
 rw [A5 hk] at hw;rcases D2.1 hw with hw|hw
 ·exact hn w hw
 rw [D7.1 hw];exact e
def ywt (h:Hist) (s:Nat):Grd:=⟨s,yae h.wants s,yil h s⟩
theorem yqb (h:Hist):zro h=yaj (ywt h) h.ss.length:=by rw [zro,yaj,upR,N9];rfl
def ypr (s b:Int) (w:Wan):Wan:=if w.s=s then ⟨w.s,b⟩ else w
theorem ysm {l:List Wan} {s:Int} {k:Nat} (hk:k < l.length) (e:l[k].s=s):ztb (l.take (k+1)) s=true:=by
 rw [ztb,F9];exact ⟨l[k],L3.2 ⟨k,by omega,rfl⟩,by simpa using e⟩
theorem ysn {l:List Wan} {s:Int} {k:Nat} (hk:k < l.length) (e:l[k].s≠s):ztb (l.take (k+1)) s=ztb (l.take k) s:=by
 rw [ztb,ztb,A5 hk,List.any_append];simp [e]
theorem zpr (l:List Wan) (s b:Int):zhq l s b=l.map (ypr s b)++(if ztb l s=true then [] else [⟨s,b⟩]):=rfl
theorem zzk (h:Hist) (lw:h.wants.length≤4611686018427387904) (s:Int):y9 Tryz.prog 87 [.agg (y8 h),iv s] [] (fun r h'=>h'= []∧r=iv (yae h.wants s)):=by
 refine z6 Tryz.func87 rfl rfl rfl ?_;refine rn ?_;refine z8 rfl (w7 rfl rfl rfl fun b2=>?_);refine rn ?_;refine zc8 (h.wants.length) (fun k:Nat=>∀w∈h.wants.take k,w.s≠s) (fun k=> [(10,iv k)]) [(1,_),(8,_),(9,_)] (by simp) ?_;intro k lk zk;refine rn ?_;refine z7 rfl (fun hc11=>?_) (fun hc11=>?_)
 ·have hk:=zaw hc11;have rk:=zam (f:=zar) hk;refine rn ?_;refine z8 rfl (y6 rfl fun b6=>?_);refine rn ?_;refine z7 rfl (fun hc17=>?_) (fun hc17=>?_)
  ·have he:h.wants[k].s=s:=by simpa using hc17
   refine rn ?_;refine rq 2 ?_;exact ⟨rfl,by rw [ye7 hk zk he];rfl⟩
  have he:h.wants[k].s≠s:=by simpa using hc17
  refine rn ?_;exact ⟨hk,ypc hk zk he,eA⟩
 have qk:=zaz hc11 lk;subst qk;refine rn ?_;refine rq 1 ?_;exact ⟨rfl,by rw [ypf (by rw [C7] at zk;exact zk)];rfl⟩
theorem zu5 (h:Hist) (la:Lim 3000 h) (hc:v6 h=0) (hE:h.evs.length≤70):y9 Tryz.prog 38 [.agg (y8 h)] [] (fun r h'=>∃v:SV,h'= [.row v.v 3 81 ((zro h).map znk)]∧r= .v v.v):=by
 refine z6 Tryz.func38 rfl rfl rfl ?_;have lS:=la.ss;refine rn ?_;refine z8 rfl (w7 rfl rfl rfl fun b1=>?_);refine rn ?_;refine zer h.ss.length (fun k v=>⟨[(8,iv k),(3,.v v.v),(1,pZ b1),(7,iv (h.ss.map zaq).length)],.row v.v 3 81 ((yaj (ywt h) k).map znk):: .box b1 28 (y8 h):: [],[]⟩) ⟨none,0,0⟩ (w8 (zaf 3 81) es) ?_;intro k v lk;refine rn ?_;refine z7 rfl (fun hc9=>?_) (fun hc9=>?_)
 ·have hk:=zaw hc9;have rk:=zam (f:=zaq) hk;refine rn ?_;refine j5 10 rfl ?_;refine rn ?_;refine dv rfl rfl (by exact y3 rfl rfl (u0 (zzk h (by have:=la.wants;omega) k) (Sbs.refl _))) ?_;refine rn ?_;refine dv rfl rfl (by exact y3 rfl rfl (u0 (yg2 h la hc hE k) (Sbs.refl _))) ?_;refine dq rfl rfl (zal (out:= [iv k,iv (yae h.wants k),iv (yil h k)]) rfl (by rfl)) ?_;refine dv rfl rfl (q8 rfl rfl) ?_;refine rn ?_;refine z8 rfl (j3 rfl rfl (by simp only [oM,zwu,E6,F3];omega) rfl (fun s21=>?_) (fun r hr=>by rw [D7.1 hr];rfl));refine zac s21 fun sv hsv=>?_;subst hsv;refine rn ?_;exact ⟨hk,sv,by rw [yjx,D9];exact eA⟩
 have qk:=zaz hc9 lk;subst qk;refine rn ?_;exact u6 rfl (.trans (.perm (pt1 _ _ _) _) (.drop [_] _ _)) ⟨v,by rw [yqb],rfl⟩
theorem zzc (h:Hist) (la:Lim 3000 h) (hc:v6 h=0) (hE:h.evs.length≤70):y9 Tryz.prog 38 [.agg (y8 h)] [] (fun r h'=>h'= []∧r=zdq (zro h)):=(zu5 h la hc hE).ventR (by rintro _ _ ⟨v,rfl,rfl⟩;exact ⟨_,_,zc5,rfl,rfl⟩)
theorem zzb (h:Hist) (lw:h.wants.length≤1000000) (s bits:Int):y9 Tryz.prog 44 [.agg (y8 h),iv s,iv bits] [] (fun r h'=>∃v:SV,h'= [.row v.v 2 51 ((zhq h.wants s bits).map zar)]∧r= .agg [v7 h.ts,v7 h.ss,v7 h.os,v7 h.ps,zll h.evs,zb2 h.ords,zb3 h.mats,.v v.v]):=by
 refine z6 Tryz.func44 rfl rfl rfl ?_;refine rn ?_;refine z8 rfl (w7 rfl rfl rfl fun b3=>?_);refine z8 rfl (y6 rfl fun b6=>?_);refine rn ?_;refine zer h.wants.length (fun k v=>⟨[(14,iv k),(7,.v v.v),(8,bv (ztb (h.wants.take k) s)),(1,iv s),(2,iv bits),(3,pZ b3),(6,pZ b6),(12,zd3 h.wants),(13,iv (h.wants.map zar).length)],.row v.v 2 51 (((h.wants.take k).map (ypr s bits)).map zar):: .box b6 28 zbd:: .box b3 28 (y8 h):: [],[]⟩) ⟨none,0,0⟩ (w8 (zaf 2 51) es) ?_;intro k v lk;refine rn ?_;refine z7 rfl (fun hc15=>?_) (fun hc15=>?_)
 ·have hk:=zaw hc15;have rk:=zam (f:=zar) hk;refine rn ?_;refine z8 rfl (y6 rfl fun b10=>?_);refine rn ?_;refine z7 rfl (fun hc21=>?_) (fun hc21=>?_)
  ·have he:h.wants[k].s=s:=by simpa using hc21
   refine rn ?_;refine qv rfl rfl (q8 rfl rfl) ?_;refine z8 rfl (j3 rfl rfl (by simp only [oM,D5,D4,E6,F3];omega) rfl (fun s27=>?_) (fun r hr=>by rw [D7.1 hr];rfl));refine zac s27 fun sv hsv=>?_;subst hsv;refine rn ?_;exact ⟨hk,sv,by rw [ysm hk he,A5 hk,D9,D9,show [h.wants[k]].map (ypr s bits)= [(⟨h.wants[k].s,bits⟩:Wan)] by simp [ypr,he]];exact eA⟩
  have he:h.wants[k].s≠s:=by simpa using hc21
  refine rn ?_;refine qv rfl rfl (q8 rfl rfl) ?_;refine z8 rfl (j3 rfl rfl (by simp only [oM,D5,D4,E6,F3];omega) rfl (fun s27=>?_) (fun r hr=>by rw [D7.1 hr];rfl));refine zac s27 fun sv hsv=>?_;subst hsv;refine rn ?_;exact ⟨hk,sv,by rw [ysn hk he,A5 hk,D9,D9,show [h.wants[k]].map (ypr s bits)= [h.wants[k]] by simp [ypr,he]];exact eA⟩
 have qk:=zaz hc15 lk;subst qk;rw [C7];refine rn ?_;refine z7 rfl (fun hc30=>?_) (fun hc30=>?_)
 ·have hh:ztb h.wants s=false:=by simpa using hc30
  refine y5 ?_;refine q1 ?_;refine q1 ?_;refine q1 ?_;refine qq rfl rfl (zal (out:= [iv s,iv bits]) rfl (by rfl)) ?_;refine qv rfl rfl (q8 rfl rfl) ?_;refine z8 rfl (j3 rfl rfl (by simp only [oM,D5,D4,E6,F3];omega) rfl (fun s36=>?_) (fun r hr=>by rw [D7.1 hr];rfl));refine zac s36 fun sv2 hsv=>?_;subst hsv;refine rn ?_;first
  |exact zdn (.cons _ _ _ _ (.agg _ _ _ _ _ _ _ rfl inferInstance inferInstance inferInstance rfl) .nil) (.trans (.perm ((pt1 _ _ _).trans (.cons _ (pt1 _ _ _))) _) (.drop [_,_] _ _)) ⟨sv2,by rw [zpr,hh,D9];rfl,rfl⟩
  |exact zdn (.cons _ _ _ _ (.agg _ _ _ _ _ _ _ rfl inferInstance inferInstance inferInstance rfl) .nil) (.trans (.perm ((pt1 _ _ _).trans (.cons _ (pt1 _ _ _))) _) (.drop [_,_] _ _)) ⟨v,by rw [zpr,hh];simp,rfl⟩
 have hh:ztb h.wants s=true:=by simpa using hc30
 refine rn ?_;first
 |exact zdn (.cons _ _ _ _ (.agg _ _ _ _ _ _ _ rfl inferInstance inferInstance inferInstance rfl) .nil) (.trans (.perm ((pt1 _ _ _).trans (.cons _ (pt1 _ _ _))) _) (.drop [_,_] _ _)) ⟨sv2,by rw [zpr,hh,D9];rfl,rfl⟩
 |exact zdn (.cons _ _ _ _ (.agg _ _ _ _ _ _ _ rfl inferInstance inferInstance inferInstance rfl) .nil) (.trans (.perm ((pt1 _ _ _).trans (.cons _ (pt1 _ _ _))) _) (.drop [_,_] _ _)) ⟨v,by rw [zpr,hh];simp,rfl⟩
theorem zm0 (h:Hist) (lw:h.wants.length≤1000000) (s bits:Int):y9 Tryz.prog 44 [.agg (y8 h),iv s,iv bits] [] (fun r h'=>h'= []∧r= .agg (y8 (zft h (zhq h.wants s bits)))):=
 (zzb h lw s bits).ventR (by rintro _ _ ⟨v,rfl,rfl⟩;exact ⟨_,_,zat [_,_,_,_,_,_,_] [],rfl,rfl⟩)
theorem zm1 (h:Hist) (la:Lim 3000 h) (hc:v6 h=0) (hE:h.evs.length≤70):y9 Tryz.prog 42 [.agg (y8 h)] [] (fun r h'=>h'= []∧r= .agg (y8 (zft h (zcw h.wants (zro h))))):=by
 refine z6 Tryz.func42 rfl rfl rfl ?_;have lT:(zro h).length≤3000:=by rw [←zop hc];exact tab_len h
 refine rn ?_;refine z8 rfl (w7 rfl rfl rfl fun b1=>?_);refine z8 rfl (y6 rfl fun b2=>?_);refine rn ?_;refine qv rfl rfl (y3 rfl rfl (u0 (zzc h la hc hE) (Sbs.refl _))) ?_;refine rn ?_;refine zbv (zro h).length (fun _=>True) (fun k=>⟨[(8,iv k),(1,pZ b1),(2,pZ b2),(6,zdq (zro h)),(7,iv ((zro h).map znk).length)],.box b2 28 zbd:: .box b1 28 (y8 (zft h (zcw h.wants ((zro h).take k)))):: [],[]⟩) trivial es ?_;intro k lk _;refine rn ?_;refine z7 rfl (fun hc9=>?_) (fun hc9=>?_)
 ·have hk:=zaw hc9;have rk:=zam (f:=znk) hk;have hwk:=yj0 hc k;rw [zop hc] at hwk;have hwl:=zum hwk;have lS:=la.ss;refine rn ?_;refine z8 rfl (y6 rfl fun b4=>?_);refine rn ?_;refine qv rfl rfl (y3 rfl rfl (u0 (zm0 (zft h (zcw h.wants ((zro h).take k))) (by show (zcw h.wants ((zro h).take k)).length≤_;omega) (zro h)[k].s (zro h)[k].a) (Sbs.refl _))) ?_;refine rn ?_;exact ⟨hk,trivial,by rw [zry hk];exact eA⟩
 have qk:=zaz hc9 lk;subst qk;rw [C7];refine rn ?_;exact zdn (.cons _ _ _ _ (.agg _ _ _ _ _ _ _ rfl inferInstance inferInstance inferInstance rfl) .nil) (.drop [_,_] _ _) ⟨rfl,rfl⟩
theorem zx4 (a b:Grd):(([a.s,a.q,a.a]:List Int)== [b.s,b.q,b.a])=(a==b):=by
 rw [K4];obtain ⟨a1,a2,a3⟩:=a;obtain ⟨b1,b2,b3⟩:=b;simp
theorem yi3 {f g:Bool} (l m:List Grd) (hl:l.length≤4611686018427387904) (hm:m.length≤4611686018427387904):y9 Tryz.prog 37 [.list f 3 (l.map znk),.list g 3 (m.map znk)] [] (fun r h'=>h'= []∧r=bv (decide (l=m))):=by
 refine z6 Tryz.func37 rfl rfl rfl ?_;refine rn ?_;refine z7 rfl (fun hc10=>?_) (fun hc10=>?_)
 ·have hne:l.length≠m.length:=by have w:=hc10;intro e;rw [oM,oM,e] at w;simp at w
  refine rn ?_;refine rq 0 ?_;exact ⟨rfl,by rw [I9 (fun e=>hne (by rw [e]))];rfl⟩
 have hlm:l.length=m.length:=by have w:=hc10;rw [oM,oM] at w;exact yoz w
 refine rn ?_;refine zc8 (l.length) (fun k:Nat=>l.take k=m.take k) (fun k=> [(13,iv k)]) [(0,_),(1,_),(12,_)] rfl ?_;intro k lk zk;refine rn ?_;refine z7 rfl (fun hc14=>?_) (fun hc14=>?_)
 ·have hk:=zaw hc14;have rk:=zam (f:=znk) hk;have hk2:k < m.length:=by omega
  have rk2:=zam (f:=znk) hk2;refine rn ?_;refine j5 8 rfl ?_;refine dq rfl rfl qrA ?_;refine dq rfl rfl qrA ?_;refine dq rfl rfl (za2 rfl rfl rk) ?_;refine dq rfl rfl qrA ?_;refine dq rfl rfl qrA ?_;refine dq rfl rfl qrA ?_;refine dq rfl rfl (za2 rfl rfl rk2) ?_;refine rn2 ?_;refine qq rfl rfl (zxh rfl rfl rfl rfl) ?_;refine rn ?_;refine z7 rfl (fun hc24=>?_) (fun hc24=>?_)
  ·have hne:l[k]≠m[k]:=fun e=>by have w:=zj2 hc24;rw [zx4,e] at w;simp at w
   refine rn ?_;refine rq 0 ?_;exact ⟨rfl,by rw [I9 (yvo hk hk2 hne)];rfl⟩
  have heq:l[k]=m[k]:=by have w:=zj3 hc24;rw [zx4] at w;simpa using w
  refine rn ?_;exact ⟨hk,yoy hk hk2 zk heq,eA⟩
 have qk:=zaz hc14 lk;refine rn ?_;refine rq 0 ?_;exact ⟨rfl,by rw [I4 (by have w:=zk;rw [qk,C7,hlm,C7] at w;exact w)];rfl⟩
def guE:List Ev:= [yur 0,seW 0 1,yuq 0,yur 1,⟨3,1,0,0,0,⟨0,0⟩,0,[]⟩,yuq 1]
def guH:Hist:=⟨[⟨#[116,49]⟩,⟨#[116,50]⟩],[ykw],[bxx],[],guE,[],[],[]⟩
theorem zqr:v6 guH=0:=zcb.2 (by decide+kernel)
theorem ykk:Lim 4611686018427387904 guH:=⟨by decide,by decide,by decide,by decide,by decide,by decide,by decide,by decide,by decide,by decide,by decide⟩
theorem ysq:zdb guH= [⟨0,0,14⟩]:=by rw [zwt zqr];decide+kernel
theorem ysp:wiC guH 0 1=0:=zr0 zqr (by decide) (by decide) (by decide)
def zx2:Hist:=zft guH [⟨0,1⟩]
theorem yso:wiH guH 0 1=zx2:=by rw [zup ysp];rfl
theorem zh3:v6 zx2=0:=zcb.2 (by decide+kernel)
theorem ydr:Lim 4611686018427387904 zx2:=⟨by decide,by decide,by decide,by decide,by decide,by decide,by decide,by decide,by decide,by decide,by decide⟩
theorem yoh:zdb zx2= [⟨0,1,14⟩]:=by rw [zwt zh3];decide+kernel
theorem zx3:zcx (zdb zx2)= [(0,1)]:=by rw [yoh];decide
theorem ysv:riO zx2=false:=by rw [ymu zh3,zx3];rfl
theorem yoj:zoj zx2 0 1=0:=yt2 zh3 (by decide) (by decide)
theorem yoi:zz6 zx2 (0,1)=⟨1,0,1,0,1,4⟩:=by
 rw [zz6,show seB zx2 (0,1).1 (0,1).2= [⟨1,0,1,0,1,4⟩] by rw [ymi (k:=0) yoj (by decide)];decide+kernel];rfl
theorem ybc  :y9 Tryz.prog 79 [] [] (fun r h'=>h'= []∧r= .agg (y8 guH)):=by
 refine z6 Tryz.func79 rfl rfl rfl ?_;refine rn ?_;refine z8 rfl (y6 rfl fun b0=>?_);refine rn ?_;refine qv rfl rfl (q8 rfl rfl) ?_;refine qv rfl rfl (q8 rfl rfl) ?_;refine qv rfl rfl (q8 rfl rfl) ?_;refine qq rfl rfl (zal (out:=yox (yur 0)) rfl (by rfl)) ?_;refine qq rfl rfl (zal (out:= [iv 0,iv 1]) rfl (by rfl)) ?_;refine qq rfl rfl (zal (out:=yox (seW 0 1)) rfl (by rfl)) ?_;refine qq rfl rfl (zal (out:=yox (yuq 0)) rfl (by rfl)) ?_;refine qq rfl rfl (zal (out:=yox (yur 1)) rfl (by rfl)) ?_;refine qq rfl rfl (zal (out:=yox ⟨3,1,0,0,0,⟨0,0⟩,0,[]⟩) rfl (by rfl)) ?_;refine qq rfl rfl (zal (out:=yox (yuq 1)) rfl (by rfl)) ?_;refine qv rfl rfl (q8 rfl rfl) ?_;refine qq rfl rfl (zal (out:= [.list true 1 [[sv ⟨#[116,49]⟩],[sv ⟨#[116,50]⟩]],.list true 1 [[sv ykw]],.list true 1 [[sv bxx]],.v (.slice none 0 0),.list true 9 (guE.map yox),.v (.slice none 0 0),.v (.slice none 0 0),.v (.slice none 0 0)]) rfl (by rfl)) ?_;refine rn ?_;exact zdn (.cons _ _ _ _ (.agg _ _ _ _ _ _ _ rfl inferInstance inferInstance inferInstance rfl) .nil) (.trans (.drop [_] _ _) (.le (Sb.aggs (bs:=y8 guH) (by exact ⟨.unfull,.unfull,.unfull,.nil _ _,(.lists (by simp) ⟨⟨.refl _,.refl _,.refl _,.refl _,.refl _,.refl _,.refl _,.refl _,.nil _ _,trivial⟩,⟨.refl _,.refl _,.refl _,.refl _,.refl _,.refl _,.refl _,.refl _,.nil _ _,trivial⟩,⟨.refl _,.refl _,.refl _,.refl _,.refl _,.refl _,.refl _,.refl _,.nil _ _,trivial⟩,⟨.refl _,.refl _,.refl _,.refl _,.refl _,.refl _,.refl _,.refl _,.nil _ _,trivial⟩,⟨.refl _,.refl _,.refl _,.refl _,.refl _,.refl _,.refl _,.refl _,.nil _ _,trivial⟩,⟨.refl _,.refl _,.refl _,.refl _,.refl _,.refl _,.refl _,.refl _,.nil _ _,trivial⟩,trivial⟩),.nil _ _,.nil _ _,.nil _ _,trivial⟩)).le)) ⟨rfl,rfl⟩
theorem gA1:y9 Tryz.prog 33 [.agg (y8 guH)] (.glob 0 117 x9:: .glob 3 148 x3:: .glob 5 276 x6:: .glob 6 279 y7:: .glob 2 197 u3:: []) (fun r h'=>h'= .glob 0 117 x9:: .glob 3 148 x3:: .glob 5 276 x6:: .glob 6 279 y7:: .glob 2 197 u3:: []∧r= .tup [zdq [⟨0,0,14⟩],iv 0]):=(zqs guH ykk).mono fun _ _ q=>⟨q.1,by rw [q.2,ysq,zqr]⟩
theorem gA2:y9 Tryz.prog 40 [.agg (y8 guH),iv 0,iv 1] (.glob 1 193 za4:: .glob 0 117 x9:: .glob 3 148 x3:: .glob 5 276 x6:: .glob 6 279 y7:: .glob 2 197 u3:: []) (fun r h'=>h'= .glob 1 193 za4:: .glob 0 117 x9:: .glob 3 148 x3:: .glob 5 276 x6:: .glob 6 279 y7:: .glob 2 197 u3:: []∧r= .tup [.agg (y8 zx2),iv 0]):=(yod guH ykk 0 1).mono fun _ _ q=>⟨q.1,by rw [q.2,yso,ysp]⟩
theorem gA3:y9 Tryz.prog 34 [.agg (y8 zx2)] (.glob 0 117 x9:: .glob 3 148 x3:: .glob 5 276 x6:: .glob 6 279 y7:: .glob 2 197 u3:: []) (fun r h'=>h'= .glob 0 117 x9:: .glob 3 148 x3:: .glob 5 276 x6:: .glob 6 279 y7:: .glob 2 197 u3:: []∧r= .tup [bv false,iv 0]):=(yoe zx2 ydr).mono fun _ _ q=>⟨q.1,by rw [q.2,ysv,zh3]⟩
theorem gA4:y9 Tryz.prog 35 [.agg (y8 zx2)] (.glob 0 117 x9:: .glob 3 148 x3:: .glob 5 276 x6:: .glob 6 279 y7:: .glob 2 197 u3:: []) (fun r h'=>h'= .glob 0 117 x9:: .glob 3 148 x3:: .glob 5 276 x6:: .glob 6 279 y7:: .glob 2 197 u3:: []∧r= .tup [zyk [⟨1,0,1,0,1,4⟩],zcs [0],iv 0]):=(yof zx2 ydr).mono fun _ _ q=>⟨q.1,by rw [q.2,zx3,zh3];simp only [F6,I1,yoi]⟩
theorem gEq {f g:Bool}:y9 Tryz.prog 37 [.list f 3 ([(⟨0,0,14⟩:Grd)].map znk),.list g 3 ([(⟨0,0,14⟩:Grd)].map znk)] [] (fun r h'=>h'= []∧r=bv true):=(yi3 [⟨0,0,14⟩] [⟨0,0,14⟩] (by decide) (by decide)).mono fun _ _ q=>⟨q.1,by rw [q.2,I4 rfl]⟩
theorem gEi {f g:Bool}:y9 Tryz.prog 39 [.list f 1 ([(0:Int)].map zag),.list g 1 ([(0:Int)].map zag)] [] (fun r h'=>h'= []∧r=bv true):=(zq1 [0] [0] (by decide) (by decide)).mono fun _ _ q=>⟨q.1,by rw [q.2,zhm zmd];simp⟩
theorem ylm  :y9 Tryz.prog 31 [] (.glob 1 193 za4:: .glob 0 117 x9:: .glob 3 148 x3:: .glob 5 276 x6:: .glob 6 279 y7:: .glob 2 197 u3:: []) (fun r h'=>h'= .glob 1 193 za4:: .glob 0 117 x9:: .glob 3 148 x3:: .glob 5 276 x6:: .glob 6 279 y7:: .glob 2 197 u3:: []∧r=bv true):=by
 refine z6 Tryz.func31 rfl rfl rfl ?_;refine rn ?_;refine qv rfl rfl (y3 rfl rfl (y4.pure (R:=fun r=>r= .agg (y8 guH)) (y4.of_fun ybc))) ?_;refine qv rfl rfl (y3 rfl rfl (y4.qt (y4.of_fun gA1) ((pt1 _ _ _).trans (.cons _ ((pt1 _ _ _).trans (.cons _ ((pt1 _ _ _).trans (.cons _ ((pt1 _ _ _).trans (.cons _ (pt1 _ _ _))))))))))) ?_;refine rn ?_;refine qv rfl rfl (y3 rfl rfl (y4.pure (R:=fun r=>r= .agg (y8 guH)) (y4.of_fun ybc))) ?_;refine qv rfl rfl (y3 rfl rfl (y4.qt (y4.of_fun gA2) (.refl _))) ?_;refine rn ?_;refine z8 rfl (y6 rfl fun b3=>?_);refine rn ?_;refine qv rfl rfl (y3 rfl rfl (y4.qt (y4.of_fun gA3) ((pt2 _ _ _ _).trans (.cons _ ((pt2 _ _ _ _).trans (.cons _ ((pt2 _ _ _ _).trans (.cons _ ((pt2 _ _ _ _).trans (.cons _ (pt2 _ _ _ _))))))))))) ?_;refine rn ?_;refine qv rfl rfl (y3 rfl rfl (y4.qt (y4.of_fun gA4) ((pt2 _ _ _ _).trans (.cons _ ((pt2 _ _ _ _).trans (.cons _ ((pt2 _ _ _ _).trans (.cons _ ((pt2 _ _ _ _).trans (.cons _ (pt2 _ _ _ _))))))))))) ?_;refine q1 ?_;refine q1 ?_;refine q1 ?_;refine q1 ?_;refine q1 ?_;refine q1 ?_;refine q1 ?_;refine u1 (j8 ?_);refine x7 (y5 ?_);refine q1 ?_;refine q1 ?_;refine q1 ?_;refine q1 ?_;refine q1 ?_;refine q1 ?_;refine q1 ?_;refine q1 ?_;refine q1 ?_;refine q1 ?_;refine q1 ?_;refine q1 ?_;refine q1 ?_;refine q1 ?_;refine q1 ?_;refine q1 ?_;refine q1 ?_;refine q1 ?_;refine q1 ?_;refine q1 ?_;refine qq rfl rfl (zal (out:= [iv 0,iv 0,iv 14]) rfl (by rfl)) ?_;refine qv rfl rfl (q8 rfl rfl) ?_;refine qv rfl rfl (y3 rfl rfl (y4.pure (R:=fun r=>r=bv true) (y4.of_fun gEq))) ?_;refine q1 ?_;refine q1 ?_;refine q1 ?_;refine q1 ?_;refine q1 ?_;refine q1 ?_;refine q1 ?_;refine q1 ?_;refine qq rfl rfl (za2 (i:=0) rfl rfl rfl) ?_;refine rn ?_;refine qv rfl rfl (q8 rfl rfl) ?_;refine qv rfl rfl (y3 rfl rfl (y4.pure (R:=fun r=>r=bv true) (y4.of_fun gEi))) ?_;refine rn ?_;refine rq 1 ?_;exact ⟨rfl,rfl⟩
theorem zt9 {h:Hist} {N:Nat} (la:Lim N h) {w:List Wan} (hw:w.length≤N):Lim N (zft h w):=⟨la.ts,la.ss,la.os,la.ps,la.evs,la.ords,la.mats,hw,la.scans,la.ordts,la.matts⟩
theorem zy0 {h:Hist} {N:Nat} (la:Lim N h) (hc:v6 h=0):Lim N (zft h (zht h)):=zt9 la (B8 (zum (zyx hc)) la.ss)
theorem yly {h:Hist} (hc:v6 h=0):stH h=zft h (zht h):=A6 hc
theorem yd6 (x:Hist):(u2 x).evs.length≤70:=by show ((x.evs.take 70).map zq6).length≤70;rw [oM,D5];omega
structure Shown (h:Hist) (s g:Int) (M:List (Int×Int)) (e l o:Int) (p q:Nat):Prop where
 is:isO h s ⟨g,e,l,o,p,q⟩=true
 m0:M[0]? =some (e,l)
 ix:zbe (fun a=>a==e) 0 (zbn h.evs s) < zbe (fun a=>a==l) 0 (zbn h.evs s)
 hp:p < h.evs.length
 hq:q < h.evs.length
 tp:h.evs[p].t=e
 tq:h.evs[q].t=l
 op:h.evs[p].o=o
 oq:h.evs[q].o=o
 rk:∃r1 r2,yq0 h o h.evs[p].v=(r1,true)∧yq0 h o h.evs[q].v=(r2,true)∧r2 < r1
structure LackShown (h:Hist) (s b:Int) (z:Brch):Prop where
 zg:z.g=b
 ne:eaS h s b≠ []
 is:(isG z.g && decide (z∈eaS h s z.g))=true
theorem bvz0_5951 {a b:Bool} (h:a=b:=by rw [zn7,yt3 hz];simp only [*,B9,B0,C2,E3,D1,E8,C4,F1,G4,F2,B3,D8,D3]):bv a=bv b:=A4 bv h
theorem same (a b:Hist) (la:Lim 4611686018427387904 a) (lb:Lim 4611686018427387904 b):y9 Tryz.prog 48 [.agg (y8 a),.agg (y8 b)] [] (fun r h'=>h'= []∧r=bv (zn7 a b)):=by
 refine z6 Tryz.func48 rfl rfl rfl ?_;refine rn ?_;refine z8 rfl (w7 rfl rfl rfl fun b2=>?_);refine z8 rfl (w7 rfl rfl rfl fun b3=>?_);refine rn ?_;refine j5 6 rfl ?_;refine rn ?_;refine dv rfl rfl (by exact y3 rfl rfl (u0 (ycq _) (Sbs.refl _))) ?_;refine rn ?_;refine dv rfl rfl (by exact y3 rfl rfl (u0 (ycq _) (Sbs.refl _))) ?_;refine rn ?_;refine zq5 rfl fun b5=>?_;refine zq5 rfl fun b6=>?_
 refine rn ?_;refine u4 (fun k:Nat=>k≤4∧∀j,j < k→zp9 a b j=true) (fun k=>⟨[(14,iv k),(2,pZ b2),(3,pZ b3),(5,pZ b5),(6,pZ b6)],[.box b6 _ (zix b),.box b5 _ (zix a),.box b3 _ (y8 b),.box b2 _ (y8 a)],[]⟩) (fun k=>4 - k) 0 ⟨by omega,fun j hj=>by omega⟩
  (w6 (.cons _ _ _ rfl (.cons _ _ _ rfl (.cons _ _ _ rfl (.cons _ _ _ rfl (.cons _ _ _ rfl (.nil))))))) ?_
 rintro k ⟨hk,hz⟩;refine rn ?_;refine z7 rfl (fun hc15=>?_) (fun hc15=>?_)
 ·have hk4:k < 4:=by simp at hc15;omega
  refine rn ?_;refine j5 6 rfl ?_;refine dq rfl rfl qrA ?_;refine dq rfl rfl qrA ?_;refine dq rfl rfl (zab rfl (by have:=zp8 a hk4;simpa using this)) ?_;refine dq rfl rfl qrA ?_;refine dq rfl rfl qrA ?_;refine dq rfl rfl (zab rfl (by have:=zp8 b hk4;simpa using this)) ?_;refine rn ?_;refine qv rfl rfl (y3 rfl rfl (u0 (yi2 _ _ (la.nm k) (lb.nm k)) (Sbs.refl _))) ?_;refine rn ?_;refine z7 rfl (fun hc24=>?_) (fun hc24=>?_)
  ·refine rn ?_;exact u6 rfl (.drop [_,_,_,_] _ _) ⟨rfl,A4 bv (by rw [zn7,ypj hk4 (zj2 hc24)];rfl)⟩
  refine rn ?_;exact ⟨k+1,⟨by omega,fun j hj=>by
   by_cases hjk:j=k
   ·subst hjk;exact zj3 hc24
   exact hz j (by omega)⟩,(w6 (.cons _ _ _ rfl (.cons _ _ _ rfl (.cons _ _ _ rfl (.cons _ _ _ rfl (.cons _ _ _ rfl (.nil))))))),by omega⟩
 have hk3:k=4:=by simp at hc15;omega
 subst hk3;refine rn ?_;refine qv rfl rfl (y3 rfl rfl (u0 (ztl _ _ _ zm9 (fun x hx y hy=>y4.of_fun (ymj x y (la.ordts x hx) (lb.ordts y hy))) la.ords lb.ords) (Sbs.refl _))) ?_;refine rn ?_;refine qv rfl rfl (y3 rfl rfl (u0 (ztm _ _ _ zsw (fun x hx y hy=>y4.of_fun (ymk x y (la.matts x hx) (lb.matts y hy))) la.mats lb.mats) (Sbs.refl _))) ?_;refine rn ?_;refine x5 (fun hg10_1=>?_) (fun hg10_1=>?_)
 ·refine rn ?_;refine x5 (fun hg10_4=>?_) (fun hg10_4=>?_)
  ·refine rn ?_;refine qv rfl rfl (y3 rfl rfl (u0 (yi1 _ _ la.wants lb.wants) (Sbs.refl _))) ?_;refine rn ?_;refine x5 (fun hg10_11=>?_) (fun hg10_11=>?_)
   ·refine rn ?_;refine qv rfl rfl (y3 rfl rfl (u0 (zv4 _ _ _ zjk (fun x hx y hy=>y4.of_fun (zsd x y (la.scans x hx) (lb.scans y hy))) la.evs lb.evs) (Sbs.refl _))) ?_;refine rn ?_;exact u6 rfl (.drop [_,_,_,_] _ _) ⟨rfl,bvz0_5951⟩
   refine rn ?_;exact u6 rfl (.drop [_,_,_,_] _ _) ⟨rfl,bvz0_5951⟩
  refine rn ?_;exact u6 rfl (.drop [_,_,_,_] _ _) ⟨rfl,bvz0_5951⟩
 refine rn ?_;exact u6 rfl (.drop [_,_,_,_] _ _) ⟨rfl,bvz0_5951⟩
theorem yw1 {h:Hist} {s b:Int} (he:wiC h s b=0):v6 h=0∧isB s h.ss.length=true∧¬(b < 0∨b > 15):=by
 have hc:v6 h=0:=by
  by_cases hc:v6 h=0
  ·exact hc
  rw [zrz hc] at he;exact absurd he hc
 have hb:isB s h.ss.length=true:=by
  cases hb:isB s h.ss.length with
  |true=>rfl
  |false=>rw [zkk hc hb] at he;cases he
 refine ⟨hc,hb,fun hw=>?_⟩;rw [wiC,A0 (by omega),A0 (by rw [hb];decide),A6 hw] at he;cases he
theorem yr1:Lim 4611686018427387904 hist0:=⟨by decide,by decide,by decide,by decide,by decide,by decide,by decide,by decide,(fun e h=>by cases h),(fun e h=>by cases h),(fun e h=>by cases h)⟩
theorem zps (l:List Wan) (s b:Int):(zfv l s b).length≤l.length+1:=by
 unfold zfv;split
 ·simp
 simp
theorem zom {h:Hist} (la:Lim 4611686018427387904 h) (s b:Int):Lim 4611686018427387904 (wiH h s b):=by
 by_cases he:wiC h s b=0
 ·rw [zup he];refine zt9 la ?_;have h1:=zps h.wants s b;have h2:=(zeq (yw1 he).1).wants;omega
 rw [zfw he];exact yr1
theorem zoq {h:Hist} (la:Lim 4611686018427387904 h):Lim 4611686018427387904 (stH h):=by
 by_cases hc:v6 h=0
 ·rw [yly hc];exact zy0 la hc
 rw [stH,A0 hc];exact yr1
theorem ygp (a:Hist) (la:Lim 4611686018427387904 a) {xs ys:List AV} {h:List Res} (hx:zi3 h xs (y8 a)) (hy:zi3 h ys (y8 a)):y4 Tryz.prog (.fn (.func 22) [] []) [.agg xs,.agg ys] h (fun r h'=>h'=h∧r=bv true):=
 (y4.lendG (y4.of_fun (ybm a la)) (by rintro _ _ ⟨rfl,rfl⟩;exact ⟨.v _,fun x hx=>by cases hx⟩) (BLe.refl _ _) (by exact ⟨yex hx,yex hy,trivial⟩)).mono (by rintro _ _ ⟨_,rfl,rfl,rfl⟩;exact ⟨rfl,rfl⟩)
theorem zkd (h:List Res) (a:Hist):zi3 h (y8 a) (y8 a):=⟨.refl _ _,.refl _ _,.refl _ _,.refl _ _,.refl _ _,.refl _ _,.refl _ _,.refl _ _,trivial⟩
theorem ze1 (h:List Res):zi3 h zbd (y8 hist0):=⟨.of_le (Sb.nil _ _).le,.of_le (Sb.nil _ _).le,.of_le (Sb.nil _ _).le,.of_le (Sb.nil _ _).le,.of_le (Sb.nil _ _).le,.of_le (Sb.nil _ _).le,.of_le (Sb.nil _ _).le,.of_le (Sb.nil _ _).le,trivial⟩
theorem znz {h:List Res} {a:Hist} {vE vW:SV} {i j:Nat} [h1:HasRow h vE.v i 9 66 (a.evs.map evR)] [h2:HasRow h vW.v j 2 51 (a.wants.map zar)]:zi3 h (zay a vE vW) (y8 a):=⟨.refl _ _,.refl _ _,.refl _ _,.refl _ _,zra (hr:=h1),.refl _ _,.refl _ _,zra (hr:=h2),trivial⟩
theorem yew {h:List Res} {a:Hist} {vE:SV} {i:Nat} [h1:HasRow h vE.v i 9 66 (a.evs.map evR)] (hw:a.wants= []):zi3 h [v7 a.ts,v7 a.ss,v7 a.os,v7 a.ps,.v vE.v,zb2 a.ords,zb3 a.mats,.list false 2 []] (y8 a):=⟨.refl _ _,.refl _ _,.refl _ _,.refl _ _,zra (hr:=h1),.refl _ _,.refl _ _,(by rw [hw];exact .refl _ _),trivial⟩
theorem zjc {α:Type} (f:α→List AV) {l:List α} {i:Nat} (h:i < l.length):(l.map f)[i]? =some (f l[i]):=by simp [h]
theorem zpy {E:List Ev} {i:Nat} (h:i < E.length):(E.map evR).set i (List.take 0 (evR E[i])++ [iv 0]++List.drop (0+ [iv 0].length) (evR E[i]))=(E.set i {E[i] with kind:=0}).map evR:=by rw [T4];rfl
theorem zux {W:List Wan} {i:Nat} (h:i < W.length):(W.map zar).set i (List.take 1 (zar W[i])++ [iv 0]++List.drop (1+ [iv 0].length) (zar W[i]))=(W.set i {W[i] with bits:=0}).map zar:=by rw [T4];rfl
theorem ydk (x:Hist) (session bits:Int) (lb:Lim 4611686018427387904 x)  :y9 Tryz.prog 8 [.agg (y8 x),iv session,iv bits] (.glob 1 193 za4:: .glob 0 117 x9:: .glob 3 148 x3:: .glob 5 276 x6:: .glob 6 279 y7:: .glob 2 197 u3:: []) (fun r h'=>h'= .glob 1 193 za4:: .glob 0 117 x9:: .glob 3 148 x3:: .glob 5 276 x6:: .glob 6 279 y7:: .glob 2 197 u3:: []∧r=bv true):=by
 refine z6 Tryz.func8 rfl rfl rfl ?_;refine rn ?_;refine z8 rfl (w7 rfl rfl rfl fun b3=>?_);refine rn ?_;refine qv rfl rfl (y3 rfl rfl (y4.qt (y4.of_fun ylm) ((pt1 _ _ _).trans (.cons _ ((pt1 _ _ _).trans (.cons _ ((pt1 _ _ _).trans (.cons _ ((pt1 _ _ _).trans (.cons _ ((pt1 _ _ _).trans (.cons _ (pt1 _ _ _))))))))))))) ?_;refine rn ?_;refine z7 rfl (fun hc21=>?_) (fun hc21=>?_)
 ·exact absurd hc21 (by decide)
 refine rn ?_;refine qv rfl rfl (y3 rfl rfl (u0 (zv1 x lb) (Sbs.refl _))) ?_;refine z8 rfl (y6 rfl fun b7=>?_);refine rn ?_;refine z8 rfl (q7 rfl rfl (y4.frL [.box b7 28 (y8 (u2 x)),.box b3 28 (y8 x)] (y4.of_fun (yoc (u2 x) ((zap x).mono (by decide)) session bits))) rfl ?_);rintro _ _ ⟨_,rfl,vE1,vW1,rfl,rfl⟩;simp only [G7,E7];refine rn ?_;refine z8 rfl (y6 rfl fun b8=>?_);refine rn0 ?_;refine x7 ?_;rcases Classical.em (v6 (u2 x)=0∧(zdb (u2 x)).length=0) with hN|hS
 ·refine rn ?_;refine z8 rfl (q7 rfl rfl (y4.frL [.box b8 28 (zay (wiH (u2 x) session bits) vE1 vW1),.box b7 28 (y8 (u2 x)),.box b3 28 (y8 x),.row vW1.v 2 51 ((wiH (u2 x) session bits).wants.map zar),.row vE1.v 9 66 ((wiH (u2 x) session bits).evs.map evR),.glob 1 193 za4] (y4.of_fun (ydo (u2 x) ((zap x).mono (by decide)) hN))) rfl ?_);rintro _ _ ⟨_,rfl,vE2,rfl,rfl⟩;simp only [G7,E7];refine rn ?_;refine z8 rfl (y6 rfl fun b10=>?_);refine rn ?_;refine j5 3 rfl ?_;refine rn ?_;refine dv rfl rfl (by exact y3 rfl rfl (u0 (zih (u2 x) ((zap x).mono (by decide))) (Sbs.refl _))) ?_;refine rn ?_;refine qv rfl rfl (y3 rfl rfl (u0 (zih (u2 x) ((zap x).mono (by decide))) (Sbs.refl _))) ?_;refine rn ?_;refine z8 rfl (y6 rfl fun b14=>?_);refine z8 rfl (y6 rfl fun b15=>?_);refine rn0 ?_;refine zhj (fun X:List AV×List AV=>(∀H,zi3 H X.1 (y8 (wiH (u2 x) session bits)))∧(∀H,zi3 H X.2 (y8 (stH (u2 x))))∧X.1.length=8∧X.2.length=8) (fun X=>⟨[(3,pZ b3),(7,pZ b7),(8,pZ b8),(9,iv (wiC (u2 x) session bits)),(10,pZ b10),(11,iv (v6 (u2 x))),(12,iv (wiC (u2 x) session bits)),(13,iv (v6 (u2 x))),(14,pZ b14),(15,pZ b15)],.box b15 28 X.2:: .box b14 28 X.1:: .box b10 28 ([v7 (stH (u2 x)).ts,v7 (stH (u2 x)).ss,v7 (stH (u2 x)).os,v7 (stH (u2 x)).ps,.v vE2.v,zb2 (stH (u2 x)).ords,zb3 (stH (u2 x)).mats,.list false 2 []]):: .box b8 28 (zay (wiH (u2 x) session bits) vE1 vW1):: .box b7 28 (y8 (u2 x)):: .box b3 28 (y8 x):: .row vW1.v 2 51 ((wiH (u2 x) session bits).wants.map zar):: .row vE1.v 9 66 ((wiH (u2 x) session bits).evs.map evR):: .glob 1 193 za4:: .row vE2.v 9 66 ((stH (u2 x)).evs.map evR):: .glob 0 117 x9:: .glob 3 148 x3:: .glob 5 276 x6:: .glob 6 279 y7:: .glob 2 197 u3:: [],[]⟩) ?_ ?_
  ·refine rn ?_;refine z7 rfl (fun hc41=>?_) (fun hc41=>?_)
   ·have hc:v6 (u2 x)=0:=K7.1 hc41;have h15:∀H,zi3 H (y8 (stH (u2 x))) (y8 (stH (u2 x))):=fun H=>zkd H _;refine rn ?_;refine qv rfl rfl (y3 rfl rfl (u0 (zv1 x lb) (Sbs.refl _))) ?_;refine qv rfl rfl (y3 rfl rfl (y4.pure (R:=fun z=>z= .agg (y8 (stH (u2 x)))) ((y4.of_fun (zm1 (u2 x) ((zap x).mono (by decide):Lim 3000 (u2 x)) hc (yd6 x))).mono fun _ _ q=>⟨q.1,by rw [q.2,yly hc,zht,zop hc]⟩))) ?_;first|refine z8 rfl (zak rfl rfl rfl ?_)|refine z8 rfl (za6 rfl rfl rfl rfl (A7 rfl) ?_)
    refine u1 (j8 ?_);refine k8 ?_;refine x7 (y5 ?_);refine q1 ?_;refine q1 ?_;refine q1 ?_;refine qq rfl rfl (za9 (zek rfl) (show iv _=iv (((u2 x).ss.length:Nat):Int) from A4 iv (by rw [oM]))) ?_;refine qv rfl rfl (y3 rfl rfl (u0 (zg3 session (((u2 x).ss.length:Nat):Int)) (Sbs.refl _))) ?_;refine rn ?_;refine z7 rfl (fun hc50=>?_) (fun hc50=>?_)
    ·have hb:isB session (u2 x).ss.length=false:=by simpa using hc50
     have hE:wiC (u2 x) session bits=2:=zkk hc hb;have hwi:(wiH (u2 x) session bits)=hist0:=zfw (by rw [hE];decide);have h14:∀H,zi3 H zbd (y8 (wiH (u2 x) session bits)):=fun H=>by rw [hwi];exact ze1 H
     refine rn ?_;exact ⟨(_,_),⟨h14,h15,rfl,rfl⟩,by rw [hE];exact eA⟩
    have hb:isB session (u2 x).ss.length=true:=by simpa using hc50
    refine rn ?_;refine qv rfl rfl (y3 rfl rfl (u0 (zg3 bits 16) (Sbs.refl _))) ?_;refine rn ?_;refine z7 rfl (fun hc57=>?_) (fun hc57=>?_)
    ·have hw:isB bits 16=false:=by simpa using hc57
     have hE:wiC (u2 x) session bits=190:=zuq hc hb (by rw [woC,A6 (by unfold isB at hw;simp at hw;omega)]);have hwi:(wiH (u2 x) session bits)=hist0:=zfw (by rw [hE];decide);have h14:∀H,zi3 H zbd (y8 (wiH (u2 x) session bits)):=fun H=>by rw [hwi];exact ze1 H
     refine rn ?_;exact ⟨(_,_),⟨h14,h15,rfl,rfl⟩,by rw [hE];exact eA⟩
    have hw:isB bits 16=true:=by simpa using hc57
    have hb16:=zni.1 hw;have hwq:¬(bits < 0∨bits > 15):=by omega
    have hE0:wiC (u2 x) session bits=0:=zr0 hc hb hwq (by have h1:=(zap x).wants;have h2:=zps (u2 x).wants session bits;omega);have hE:wiC (u2 x) session bits=v6 (u2 x):=hE0.trans hc.symm;have hwi:(wiH (u2 x) session bits)=zft (u2 x) (zhq (u2 x).wants session bits):=by rw [zup hE0,zuo (zrx (zcb.1 hc)).1]
    have h14:∀H,zi3 H (y8 (zft (u2 x) (zhq (u2 x).wants session bits))) (y8 (wiH (u2 x) session bits)):=fun H=>by rw [hwi];exact zkd H _
    refine rn ?_;refine qv rfl rfl (y3 rfl rfl (u0 (zv1 x lb) (Sbs.refl _))) ?_;refine rn ?_;refine qv rfl rfl (y3 rfl rfl (u0 (zm0 (u2 x) (by have:=(zap x).wants;omega) session bits) (Sbs.refl _))) ?_;refine rn ?_;exact ⟨(_,_),⟨h14,h15,rfl,rfl⟩,by rw [hE];exact eA⟩
   have hc:v6 (u2 x)≠0:=H1.1 hc41;have hE:wiC (u2 x) session bits=v6 (u2 x):=zrz hc;have hwi:(wiH (u2 x) session bits)=hist0:=zfw (by rw [hE];exact hc);have hst:(stH (u2 x))=hist0:=A0 hc;have h14:∀H,zi3 H zbd (y8 (wiH (u2 x) session bits)):=fun H=>by rw [hwi];exact ze1 H
   have h15:∀H,zi3 H zbd (y8 (stH (u2 x))):=fun H=>by rw [hst];exact ze1 H
   refine rn ?_;exact ⟨(_,_),⟨h14,h15,rfl,rfl⟩,by rw [hE];exact eA⟩
  rintro ⟨X14,X15⟩ ⟨h14,h15,l14,l15⟩;simp only at h14 h15 l14 l15;show aw _ _ _ _ _ ⟨[(3,pZ b3),(7,pZ b7),(8,pZ b8),(9,iv (wiC (u2 x) session bits)),(10,pZ b10),(11,iv (v6 (u2 x))),(12,iv (wiC (u2 x) session bits)),(13,iv (v6 (u2 x))),(14,pZ b14),(15,pZ b15)],.box b15 28 X15:: .box b14 28 X14:: .box b10 28 ([v7 (stH (u2 x)).ts,v7 (stH (u2 x)).ss,v7 (stH (u2 x)).os,v7 (stH (u2 x)).ps,.v vE2.v,zb2 (stH (u2 x)).ords,zb3 (stH (u2 x)).mats,.list false 2 []]):: .box b8 28 (zay (wiH (u2 x) session bits) vE1 vW1):: .box b7 28 (y8 (u2 x)):: .box b3 28 (y8 x):: .row vW1.v 2 51 ((wiH (u2 x) session bits).wants.map zar):: .row vE1.v 9 66 ((wiH (u2 x) session bits).evs.map evR):: .glob 1 193 za4:: .row vE2.v 9 66 ((stH (u2 x)).evs.map evR):: .glob 0 117 x9:: .glob 3 148 x3:: .glob 5 276 x6:: .glob 6 279 y7:: .glob 2 197 u3:: [],[]⟩;refine x7 ?_;refine x7 (y5 ?_);refine q1 ?_;refine q1 ?_;refine qq rfl rfl (ziw (c:=false) rfl rfl (A4 some (S8 _))) ?_;refine q1 ?_;refine q1 ?_;refine q1 ?_;refine qq rfl rfl (ziw (c:=false) rfl rfl (A4 some (S8 _))) ?_;refine q1 ?_;refine q1 ?_;refine q1 ?_;refine qq rfl rfl (zfl rfl l14.symm) ?_;refine qv rfl rfl (by exact y3 rfl rfl (ygp (wiH (u2 x) session bits) (zom ((zap x).mono (by decide)) session bits) (by exact znz) (by exact (h14 _)))) ?_;refine q1 ?_;refine q1 ?_;refine q1 ?_;refine q1 ?_;refine qq rfl rfl (zfl rfl l15.symm) ?_;refine qv rfl rfl (by exact y3 rfl rfl (ygp (stH (u2 x)) (zoq ((zap x).mono (by decide))) (by exact (yew (zmq hN.1 hN.2))) (by exact (h15 _)))) ?_;refine rn ?_;refine z7 rfl (fun hc80=>?_) (fun hc80=>?_)
  ·first|cases hc80|exact absurd hc80 (by decide)|(exfalso;simp_all;done)
  refine k7 ?_;refine rn0 ?_;refine x7 ?_;refine x7 ?_;refine zgv (za1 (h1:= [_,_])) ?_;refine rn ?_;refine qv rfl rfl (q8 rfl rfl) ?_;refine qq rfl rfl (za9 (zek rfl) (show iv _=iv 2 from rfl)) ?_;refine rn ?_;refine zb5 2 (fun _ (z:List Ev×List Wan×List Ev×List Wan)=>z.1.length≤4611686018427387904∧z.2.1.length≤4611686018427387904∧z.2.2.1.length≤4611686018427387904∧z.2.2.2.length≤4611686018427387904) (fun k z=>⟨[(85,iv k),(3,pZ b3),(7,pZ b7),(83,.list true 8 [zay (wiH (u2 x) session bits) vE1 vW1,[v7 (stH (u2 x)).ts,v7 (stH (u2 x)).ss,v7 (stH (u2 x)).os,v7 (stH (u2 x)).ps,.v vE2.v,zb2 (stH (u2 x)).ords,zb3 (stH (u2 x)).mats,.list false 2 []]]),(84,iv 2)],.box b10 28 ([v7 (stH (u2 x)).ts,v7 (stH (u2 x)).ss,v7 (stH (u2 x)).os,v7 (stH (u2 x)).ps,.v vE2.v,zb2 (stH (u2 x)).ords,zb3 (stH (u2 x)).mats,.list false 2 []]):: .box b8 28 (zay (wiH (u2 x) session bits) vE1 vW1):: .box b7 28 (y8 (u2 x)):: .box b3 28 (y8 x):: .row vW1.v 2 51 (z.2.1.map zar):: .row vE1.v 9 66 (z.1.map evR):: .glob 1 193 za4:: .row vE2.v 9 66 (z.2.2.1.map evR):: .glob 0 117 x9:: .glob 3 148 x3:: .glob 5 276 x6:: .glob 6 279 y7:: .glob 2 197 u3:: [],[]⟩) ((wiH (u2 x) session bits).evs,(wiH (u2 x) session bits).wants,(stH (u2 x)).evs,(stH (u2 x)).wants) ⟨(zom ((zap x).mono (by decide)) session bits).evs,(zom ((zap x).mono (by decide)) session bits).wants,(zoq ((zap x).mono (by decide))).evs,(zoq ((zap x).mono (by decide))).wants⟩ es ?_;rintro k ⟨E1,W1,E2,W2⟩ lk ⟨hE1,hW1,hE2,hW2⟩;simp only at hE1 hW1 hE2 hW2;show aw _ _ _ _ _ ⟨[(85,iv k),(3,pZ b3),(7,pZ b7),(83,.list true 8 [zay (wiH (u2 x) session bits) vE1 vW1,[v7 (stH (u2 x)).ts,v7 (stH (u2 x)).ss,v7 (stH (u2 x)).os,v7 (stH (u2 x)).ps,.v vE2.v,zb2 (stH (u2 x)).ords,zb3 (stH (u2 x)).mats,.list false 2 []]]),(84,iv 2)],.box b10 28 ([v7 (stH (u2 x)).ts,v7 (stH (u2 x)).ss,v7 (stH (u2 x)).os,v7 (stH (u2 x)).ps,.v vE2.v,zb2 (stH (u2 x)).ords,zb3 (stH (u2 x)).mats,.list false 2 []]):: .box b8 28 (zay (wiH (u2 x) session bits) vE1 vW1):: .box b7 28 (y8 (u2 x)):: .box b3 28 (y8 x):: .row vW1.v 2 51 (W1.map zar):: .row vE1.v 9 66 (E1.map evR):: .glob 1 193 za4:: .row vE2.v 9 66 (E2.map evR):: .glob 0 117 x9:: .glob 3 148 x3:: .glob 5 276 x6:: .glob 6 279 y7:: .glob 2 197 u3:: [],[]⟩;refine rn ?_;refine z7 rfl (fun hc86=>?_) (fun hc86=>?_)
  ·have hk2:k < 2:=by have q:=oT hc86;omega
   refine k7 ?_;refine rn0 ?_;refine x7 ?_;refine k8 ?_;refine x7 ?_;rcases (show k=0∨k=1 by omega) with rfl|rfl
   ·refine y5 ?_;refine qq rfl rfl (za2 (i:=0) rfl rfl rfl) ?_;refine rn ?_;refine z8 rfl (y6 rfl fun b17=>?_);first|refine z8 rfl (zak rfl rfl rfl ?_)|refine z8 rfl (za6 rfl rfl rfl rfl (A7 rfl) ?_)
    refine u1 (j8 ?_);refine x7 ?_;refine x7 (y5 ?_);refine q1 ?_;refine q1 ?_;refine qq rfl rfl (za9 (zdc rfl) (A4 (fun n:Nat=>iv (n:Int)) (oM:(E1.map evR).length=E1.length))) ?_;refine rn ?_;refine zb5 E1.length (fun _ (E:List Ev)=>E.length=E1.length) (fun i E=>⟨[(92,iv i),(17,pZ b17),(85,iv ((0:Nat):Int)),(91,iv (E1.length:Nat)),(3,pZ b3),(7,pZ b7),(83,.list true 8 [zay (wiH (u2 x) session bits) vE1 vW1,[v7 (stH (u2 x)).ts,v7 (stH (u2 x)).ss,v7 (stH (u2 x)).os,v7 (stH (u2 x)).ps,.v vE2.v,zb2 (stH (u2 x)).ords,zb3 (stH (u2 x)).mats,.list false 2 []]]),(84,iv 2)],.box b17 28 (zay (wiH (u2 x) session bits) vE1 vW1):: .box b10 28 ([v7 (stH (u2 x)).ts,v7 (stH (u2 x)).ss,v7 (stH (u2 x)).os,v7 (stH (u2 x)).ps,.v vE2.v,zb2 (stH (u2 x)).ords,zb3 (stH (u2 x)).mats,.list false 2 []]):: .box b8 28 (zay (wiH (u2 x) session bits) vE1 vW1):: .box b7 28 (y8 (u2 x)):: .box b3 28 (y8 x):: .row vW1.v 2 51 (W1.map zar):: .row vE1.v 9 66 (E.map evR):: .glob 1 193 za4:: .row vE2.v 9 66 (E2.map evR):: .glob 0 117 x9:: .glob 3 148 x3:: .glob 5 276 x6:: .glob 6 279 y7:: .glob 2 197 u3:: [],[]⟩) E1 rfl es ?_;intro i E li hEl;try simp only at hEl
    refine rn ?_;refine z7 rfl (fun hc93=>?_) (fun hc93=>?_)
    ·have hi:=(show i < _ from by have q:=oT hc93;exact T8.1 q);have hiE:i < E.length:=by omega
     refine k7 ?_;refine j8 ?_;refine x7 ?_;refine k8 ?_;refine x7 (y5 ?_);refine q1 ?_;refine q1 ?_;refine u1 (j8 ?_);refine y5 ?_;refine q1 ?_;refine q1 ?_;refine q1 ?_;refine qq rfl rfl (q9 (k:=i) rfl rfl (by rw [oM];omega)) ?_;refine rn ?_;refine z8 rfl (zae (k:=i) rfl rfl rfl (zjc evR hiE) rfl (A7 rfl) ?_);rw [zpy hiE];refine rn ?_;exact ⟨hi,E.set i {E[i] with kind:=0},by rw [M6];exact hEl,eA⟩
    have hEe:=hEl;obtain ⟨E',hE'⟩:∃e,e=E:=⟨_,rfl⟩;rw [←hE'] at hEl ⊢;refine zes ?_;refine ze2 ?_;refine ze2 ?_;refine zcg ?_;refine j8 ?_;refine x7 (y5 ?_);refine q1 ?_;refine q1 ?_;refine qq rfl rfl (za9 (zdc rfl) (A4 (fun n:Nat=>iv (n:Int)) (oM:(W1.map zar).length=W1.length))) ?_;refine rn ?_;refine zb5 W1.length (fun _ (W:List Wan)=>W.length=W1.length) (fun i W=>⟨[(104,iv i),(17,pZ b17),(85,iv ((0:Nat):Int)),(103,iv (W1.length:Nat)),(3,pZ b3),(7,pZ b7),(83,.list true 8 [zay (wiH (u2 x) session bits) vE1 vW1,[v7 (stH (u2 x)).ts,v7 (stH (u2 x)).ss,v7 (stH (u2 x)).os,v7 (stH (u2 x)).ps,.v vE2.v,zb2 (stH (u2 x)).ords,zb3 (stH (u2 x)).mats,.list false 2 []]]),(84,iv 2)],.box b17 28 (zay (wiH (u2 x) session bits) vE1 vW1):: .box b10 28 ([v7 (stH (u2 x)).ts,v7 (stH (u2 x)).ss,v7 (stH (u2 x)).os,v7 (stH (u2 x)).ps,.v vE2.v,zb2 (stH (u2 x)).ords,zb3 (stH (u2 x)).mats,.list false 2 []]):: .box b8 28 (zay (wiH (u2 x) session bits) vE1 vW1):: .box b7 28 (y8 (u2 x)):: .box b3 28 (y8 x):: .row vW1.v 2 51 (W.map zar):: .row vE1.v 9 66 (E'.map evR):: .glob 1 193 za4:: .row vE2.v 9 66 (E2.map evR):: .glob 0 117 x9:: .glob 3 148 x3:: .glob 5 276 x6:: .glob 6 279 y7:: .glob 2 197 u3:: [],[]⟩) W1 rfl es ?_;intro i W li hWl;try simp only at hWl
    refine rn ?_;refine z7 rfl (fun hc105=>?_) (fun hc105=>?_)
    ·have hi:=(show i < _ from by have q:=oT hc105;exact T8.1 q);have hiW:i < W.length:=by omega
     refine k7 ?_;refine j8 ?_;refine x7 ?_;refine k8 ?_;refine x7 (y5 ?_);refine q1 ?_;refine q1 ?_;refine u1 (j8 ?_);refine y5 ?_;refine q1 ?_;refine q1 ?_;refine q1 ?_;refine qq rfl rfl (q9 (k:=i) rfl rfl (by rw [oM];omega)) ?_;refine rn ?_;refine z8 rfl (zae (k:=i) rfl rfl rfl (zjc zar hiW) rfl (A7 rfl) ?_);rw [zux hiW];refine rn ?_;exact ⟨hi,W.set i {W[i] with bits:=0},by rw [M6];exact hWl,eA⟩
    obtain ⟨W',hW'⟩:∃e,e=W:=⟨_,rfl⟩;rw [←hW'] at hWl ⊢;refine rn ?_;exact ⟨hk2,(E',W',E2,W2),⟨by simp only;omega,by simp only;omega,hE2,hW2⟩,eA⟩
   refine y5 ?_;refine qq rfl rfl (za2 (i:=1) rfl rfl rfl) ?_;refine rn ?_;refine z8 rfl (y6 rfl fun b17=>?_);first|refine z8 rfl (zak rfl rfl rfl ?_)|refine z8 rfl (za6 rfl rfl rfl rfl (A7 rfl) ?_)
   refine u1 (j8 ?_);refine x7 ?_;refine x7 (y5 ?_);refine q1 ?_;refine q1 ?_;refine qq rfl rfl (za9 (zdc rfl) (A4 (fun n:Nat=>iv (n:Int)) (oM:(E2.map evR).length=E2.length))) ?_;refine rn ?_;refine zb5 E2.length (fun _ (E:List Ev)=>E.length=E2.length) (fun i E=>⟨[(92,iv i),(17,pZ b17),(85,iv ((1:Nat):Int)),(91,iv (E2.length:Nat)),(3,pZ b3),(7,pZ b7),(83,.list true 8 [zay (wiH (u2 x) session bits) vE1 vW1,[v7 (stH (u2 x)).ts,v7 (stH (u2 x)).ss,v7 (stH (u2 x)).os,v7 (stH (u2 x)).ps,.v vE2.v,zb2 (stH (u2 x)).ords,zb3 (stH (u2 x)).mats,.list false 2 []]]),(84,iv 2)],.box b17 28 ([v7 (stH (u2 x)).ts,v7 (stH (u2 x)).ss,v7 (stH (u2 x)).os,v7 (stH (u2 x)).ps,.v vE2.v,zb2 (stH (u2 x)).ords,zb3 (stH (u2 x)).mats,.list false 2 []]):: .box b10 28 ([v7 (stH (u2 x)).ts,v7 (stH (u2 x)).ss,v7 (stH (u2 x)).os,v7 (stH (u2 x)).ps,.v vE2.v,zb2 (stH (u2 x)).ords,zb3 (stH (u2 x)).mats,.list false 2 []]):: .box b8 28 (zay (wiH (u2 x) session bits) vE1 vW1):: .box b7 28 (y8 (u2 x)):: .box b3 28 (y8 x):: .row vW1.v 2 51 (W1.map zar):: .row vE1.v 9 66 (E1.map evR):: .glob 1 193 za4:: .row vE2.v 9 66 (E.map evR):: .glob 0 117 x9:: .glob 3 148 x3:: .glob 5 276 x6:: .glob 6 279 y7:: .glob 2 197 u3:: [],[]⟩) E2 rfl es ?_;intro i E li hEl;try simp only at hEl
   refine rn ?_;refine z7 rfl (fun hc93=>?_) (fun hc93=>?_)
   ·have hi:=(show i < _ from by have q:=oT hc93;exact T8.1 q);have hiE:i < E.length:=by omega
    refine k7 ?_;refine j8 ?_;refine x7 ?_;refine k8 ?_;refine x7 (y5 ?_);refine q1 ?_;refine q1 ?_;refine u1 (j8 ?_);refine y5 ?_;refine q1 ?_;refine q1 ?_;refine q1 ?_;refine qq rfl rfl (q9 (k:=i) rfl rfl (by rw [oM];omega)) ?_;refine rn ?_;refine z8 rfl (zae (k:=i) rfl rfl rfl (zjc evR hiE) rfl (A7 rfl) ?_);rw [zpy hiE];refine rn ?_;exact ⟨hi,E.set i {E[i] with kind:=0},by rw [M6];exact hEl,eA⟩
   have hEe:=hEl;obtain ⟨E',hE'⟩:∃e,e=E:=⟨_,rfl⟩;rw [←hE'] at hEl ⊢;refine zes ?_;refine ze2 ?_;refine ze2 ?_;refine zcg ?_;refine j8 ?_;refine x7 (y5 ?_);refine q1 ?_;refine q1 ?_;refine qq rfl rfl (za9 (zek rfl) (show iv _=iv ((0:Nat):Int) from rfl)) ?_;refine rn ?_;refine zb5 0 (fun _ (W:List Wan)=>W.length=0) (fun i W=>⟨[(104,iv i),(17,pZ b17),(85,iv ((1:Nat):Int)),(103,iv (0:Nat)),(3,pZ b3),(7,pZ b7),(83,.list true 8 [zay (wiH (u2 x) session bits) vE1 vW1,[v7 (stH (u2 x)).ts,v7 (stH (u2 x)).ss,v7 (stH (u2 x)).os,v7 (stH (u2 x)).ps,.v vE2.v,zb2 (stH (u2 x)).ords,zb3 (stH (u2 x)).mats,.list false 2 []]]),(84,iv 2)],.box b17 28 ([v7 (stH (u2 x)).ts,v7 (stH (u2 x)).ss,v7 (stH (u2 x)).os,v7 (stH (u2 x)).ps,.v vE2.v,zb2 (stH (u2 x)).ords,zb3 (stH (u2 x)).mats,.list false 2 []]):: .box b10 28 ([v7 (stH (u2 x)).ts,v7 (stH (u2 x)).ss,v7 (stH (u2 x)).os,v7 (stH (u2 x)).ps,.v vE2.v,zb2 (stH (u2 x)).ords,zb3 (stH (u2 x)).mats,.list false 2 []]):: .box b8 28 (zay (wiH (u2 x) session bits) vE1 vW1):: .box b7 28 (y8 (u2 x)):: .box b3 28 (y8 x):: .row vW1.v 2 51 (W1.map zar):: .row vE1.v 9 66 (E1.map evR):: .glob 1 193 za4:: .row vE2.v 9 66 (E'.map evR):: .glob 0 117 x9:: .glob 3 148 x3:: .glob 5 276 x6:: .glob 6 279 y7:: .glob 2 197 u3:: [],[]⟩) [] rfl es ?_;intro i W li hWl;try simp only at hWl
   refine rn ?_;refine z7 rfl (fun hc105=>?_) (fun hc105=>?_)
   ·exact absurd hc105 (by simp)
   obtain ⟨W',hW'⟩:∃e,e=W:=⟨_,rfl⟩;refine rn ?_;exact ⟨hk2,(E1,W1,E',W2),⟨hE1,hW1,by simp only;omega,hW2⟩,eA⟩
  have hk2:k=2:=by have q:=oF hc86;omega
  refine rn ?_;refine j5 3 rfl ?_;refine rn ?_;refine dv rfl rfl (by exact y3 rfl rfl (u0 (zv1 x lb) (Sbs.refl _))) ?_;refine rn ?_;refine qv rfl rfl (y3 rfl rfl (u0 (ybm (u2 x) ((zap x).mono (by decide))) (Sbs.refl _))) ?_;refine rn ?_;exact u6 rfl (.trans (.perm (.cons _ (.cons _ (.cons _ (.cons _ (.cons _ (.cons _ (pt1 _ _ _))))))) _) (.drop [_,_,_,_,_,_,_] _ _)) ⟨rfl,rfl⟩
 refine rn ?_;refine z8 rfl (q7 rfl rfl (y4.frL [.box b8 28 (zay (wiH (u2 x) session bits) vE1 vW1),.box b7 28 (y8 (u2 x)),.box b3 28 (y8 x),.row vW1.v 2 51 ((wiH (u2 x) session bits).wants.map zar),.row vE1.v 9 66 ((wiH (u2 x) session bits).evs.map evR),.glob 1 193 za4] (y4.of_fun (ydn (u2 x) ((zap x).mono (by decide)) hS))) rfl ?_);rintro _ _ ⟨_,rfl,vE2,vW2,rfl,rfl⟩;simp only [G7,E7];refine rn ?_;refine z8 rfl (y6 rfl fun b10=>?_);refine rn ?_;refine j5 3 rfl ?_;refine rn ?_;refine dv rfl rfl (by exact y3 rfl rfl (u0 (zih (u2 x) ((zap x).mono (by decide))) (Sbs.refl _))) ?_;refine rn ?_;refine qv rfl rfl (y3 rfl rfl (u0 (zih (u2 x) ((zap x).mono (by decide))) (Sbs.refl _))) ?_;refine rn ?_;refine z8 rfl (y6 rfl fun b14=>?_);refine z8 rfl (y6 rfl fun b15=>?_);refine rn0 ?_;refine zhj (fun X:List AV×List AV=>(∀H,zi3 H X.1 (y8 (wiH (u2 x) session bits)))∧(∀H,zi3 H X.2 (y8 (stH (u2 x))))∧X.1.length=8∧X.2.length=8) (fun X=>⟨[(3,pZ b3),(7,pZ b7),(8,pZ b8),(9,iv (wiC (u2 x) session bits)),(10,pZ b10),(11,iv (v6 (u2 x))),(12,iv (wiC (u2 x) session bits)),(13,iv (v6 (u2 x))),(14,pZ b14),(15,pZ b15)],.box b15 28 X.2:: .box b14 28 X.1:: .box b10 28 (zay (stH (u2 x)) vE2 vW2):: .box b8 28 (zay (wiH (u2 x) session bits) vE1 vW1):: .box b7 28 (y8 (u2 x)):: .box b3 28 (y8 x):: .row vW1.v 2 51 ((wiH (u2 x) session bits).wants.map zar):: .row vE1.v 9 66 ((wiH (u2 x) session bits).evs.map evR):: .glob 1 193 za4:: .row vW2.v 2 51 ((stH (u2 x)).wants.map zar):: .row vE2.v 9 66 ((stH (u2 x)).evs.map evR):: .glob 0 117 x9:: .glob 3 148 x3:: .glob 5 276 x6:: .glob 6 279 y7:: .glob 2 197 u3:: [],[]⟩) ?_ ?_
 ·refine rn ?_;refine z7 rfl (fun hc41=>?_) (fun hc41=>?_)
  ·have hc:v6 (u2 x)=0:=K7.1 hc41;have h15:∀H,zi3 H (y8 (stH (u2 x))) (y8 (stH (u2 x))):=fun H=>zkd H _;refine rn ?_;refine qv rfl rfl (y3 rfl rfl (u0 (zv1 x lb) (Sbs.refl _))) ?_;refine qv rfl rfl (y3 rfl rfl (y4.pure (R:=fun z=>z= .agg (y8 (stH (u2 x)))) ((y4.of_fun (zm1 (u2 x) ((zap x).mono (by decide):Lim 3000 (u2 x)) hc (yd6 x))).mono fun _ _ q=>⟨q.1,by rw [q.2,yly hc,zht,zop hc]⟩))) ?_;first|refine z8 rfl (zak rfl rfl rfl ?_)|refine z8 rfl (za6 rfl rfl rfl rfl (A7 rfl) ?_)
   refine u1 (j8 ?_);refine k8 ?_;refine x7 (y5 ?_);refine q1 ?_;refine q1 ?_;refine q1 ?_;refine qq rfl rfl (za9 (zek rfl) (show iv _=iv (((u2 x).ss.length:Nat):Int) from A4 iv (by rw [oM]))) ?_;refine qv rfl rfl (y3 rfl rfl (u0 (zg3 session (((u2 x).ss.length:Nat):Int)) (Sbs.refl _))) ?_;refine rn ?_;refine z7 rfl (fun hc50=>?_) (fun hc50=>?_)
   ·have hb:isB session (u2 x).ss.length=false:=by simpa using hc50
    have hE:wiC (u2 x) session bits=2:=zkk hc hb;have hwi:(wiH (u2 x) session bits)=hist0:=zfw (by rw [hE];decide);have h14:∀H,zi3 H zbd (y8 (wiH (u2 x) session bits)):=fun H=>by rw [hwi];exact ze1 H
    refine rn ?_;exact ⟨(_,_),⟨h14,h15,rfl,rfl⟩,by rw [hE];exact eA⟩
   have hb:isB session (u2 x).ss.length=true:=by simpa using hc50
   refine rn ?_;refine qv rfl rfl (y3 rfl rfl (u0 (zg3 bits 16) (Sbs.refl _))) ?_;refine rn ?_;refine z7 rfl (fun hc57=>?_) (fun hc57=>?_)
   ·have hw:isB bits 16=false:=by simpa using hc57
    have hE:wiC (u2 x) session bits=190:=zuq hc hb (by rw [woC,A6 (by unfold isB at hw;simp at hw;omega)]);have hwi:(wiH (u2 x) session bits)=hist0:=zfw (by rw [hE];decide);have h14:∀H,zi3 H zbd (y8 (wiH (u2 x) session bits)):=fun H=>by rw [hwi];exact ze1 H
    refine rn ?_;exact ⟨(_,_),⟨h14,h15,rfl,rfl⟩,by rw [hE];exact eA⟩
   have hw:isB bits 16=true:=by simpa using hc57
   have hb16:=zni.1 hw;have hwq:¬(bits < 0∨bits > 15):=by omega
   have hE0:wiC (u2 x) session bits=0:=zr0 hc hb hwq (by have h1:=(zap x).wants;have h2:=zps (u2 x).wants session bits;omega);have hE:wiC (u2 x) session bits=v6 (u2 x):=hE0.trans hc.symm;have hwi:(wiH (u2 x) session bits)=zft (u2 x) (zhq (u2 x).wants session bits):=by rw [zup hE0,zuo (zrx (zcb.1 hc)).1]
   have h14:∀H,zi3 H (y8 (zft (u2 x) (zhq (u2 x).wants session bits))) (y8 (wiH (u2 x) session bits)):=fun H=>by rw [hwi];exact zkd H _
   refine rn ?_;refine qv rfl rfl (y3 rfl rfl (u0 (zv1 x lb) (Sbs.refl _))) ?_;refine rn ?_;refine qv rfl rfl (y3 rfl rfl (u0 (zm0 (u2 x) (by have:=(zap x).wants;omega) session bits) (Sbs.refl _))) ?_;refine rn ?_;exact ⟨(_,_),⟨h14,h15,rfl,rfl⟩,by rw [hE];exact eA⟩
  have hc:v6 (u2 x)≠0:=H1.1 hc41;have hE:wiC (u2 x) session bits=v6 (u2 x):=zrz hc;have hwi:(wiH (u2 x) session bits)=hist0:=zfw (by rw [hE];exact hc);have hst:(stH (u2 x))=hist0:=A0 hc;have h14:∀H,zi3 H zbd (y8 (wiH (u2 x) session bits)):=fun H=>by rw [hwi];exact ze1 H
  have h15:∀H,zi3 H zbd (y8 (stH (u2 x))):=fun H=>by rw [hst];exact ze1 H
  refine rn ?_;exact ⟨(_,_),⟨h14,h15,rfl,rfl⟩,by rw [hE];exact eA⟩
 rintro ⟨X14,X15⟩ ⟨h14,h15,l14,l15⟩;simp only at h14 h15 l14 l15;show aw _ _ _ _ _ ⟨[(3,pZ b3),(7,pZ b7),(8,pZ b8),(9,iv (wiC (u2 x) session bits)),(10,pZ b10),(11,iv (v6 (u2 x))),(12,iv (wiC (u2 x) session bits)),(13,iv (v6 (u2 x))),(14,pZ b14),(15,pZ b15)],.box b15 28 X15:: .box b14 28 X14:: .box b10 28 (zay (stH (u2 x)) vE2 vW2):: .box b8 28 (zay (wiH (u2 x) session bits) vE1 vW1):: .box b7 28 (y8 (u2 x)):: .box b3 28 (y8 x):: .row vW1.v 2 51 ((wiH (u2 x) session bits).wants.map zar):: .row vE1.v 9 66 ((wiH (u2 x) session bits).evs.map evR):: .glob 1 193 za4:: .row vW2.v 2 51 ((stH (u2 x)).wants.map zar):: .row vE2.v 9 66 ((stH (u2 x)).evs.map evR):: .glob 0 117 x9:: .glob 3 148 x3:: .glob 5 276 x6:: .glob 6 279 y7:: .glob 2 197 u3:: [],[]⟩;refine x7 ?_;refine x7 (y5 ?_);refine q1 ?_;refine q1 ?_;refine qq rfl rfl (ziw (c:=false) rfl rfl (A4 some (S8 _))) ?_;refine q1 ?_;refine q1 ?_;refine q1 ?_;refine qq rfl rfl (ziw (c:=false) rfl rfl (A4 some (S8 _))) ?_;refine q1 ?_;refine q1 ?_;refine q1 ?_;refine qq rfl rfl (zfl rfl l14.symm) ?_;refine qv rfl rfl (by exact y3 rfl rfl (ygp (wiH (u2 x) session bits) (zom ((zap x).mono (by decide)) session bits) (by exact znz) (by exact (h14 _)))) ?_;refine q1 ?_;refine q1 ?_;refine q1 ?_;refine q1 ?_;refine qq rfl rfl (zfl rfl l15.symm) ?_;refine qv rfl rfl (by exact y3 rfl rfl (ygp (stH (u2 x)) (zoq ((zap x).mono (by decide))) (by exact znz) (by exact (h15 _)))) ?_;refine rn ?_;refine z7 rfl (fun hc80=>?_) (fun hc80=>?_)
 ·first|cases hc80|exact absurd hc80 (by decide)|(exfalso;simp_all;done)
 refine k7 ?_;refine rn0 ?_;refine x7 ?_;refine x7 ?_;refine zgv (za1 (h1:= [_,_])) ?_;refine rn ?_;refine qv rfl rfl (q8 rfl rfl) ?_;refine qq rfl rfl (za9 (zek rfl) (show iv _=iv 2 from rfl)) ?_;refine rn ?_;refine zb5 2 (fun _ (z:List Ev×List Wan×List Ev×List Wan)=>z.1.length≤4611686018427387904∧z.2.1.length≤4611686018427387904∧z.2.2.1.length≤4611686018427387904∧z.2.2.2.length≤4611686018427387904) (fun k z=>⟨[(85,iv k),(3,pZ b3),(7,pZ b7),(83,.list true 8 [zay (wiH (u2 x) session bits) vE1 vW1,zay (stH (u2 x)) vE2 vW2]),(84,iv 2)],.box b10 28 (zay (stH (u2 x)) vE2 vW2):: .box b8 28 (zay (wiH (u2 x) session bits) vE1 vW1):: .box b7 28 (y8 (u2 x)):: .box b3 28 (y8 x):: .row vW1.v 2 51 (z.2.1.map zar):: .row vE1.v 9 66 (z.1.map evR):: .glob 1 193 za4:: .row vW2.v 2 51 (z.2.2.2.map zar):: .row vE2.v 9 66 (z.2.2.1.map evR):: .glob 0 117 x9:: .glob 3 148 x3:: .glob 5 276 x6:: .glob 6 279 y7:: .glob 2 197 u3:: [],[]⟩) ((wiH (u2 x) session bits).evs,(wiH (u2 x) session bits).wants,(stH (u2 x)).evs,(stH (u2 x)).wants) ⟨(zom ((zap x).mono (by decide)) session bits).evs,(zom ((zap x).mono (by decide)) session bits).wants,(zoq ((zap x).mono (by decide))).evs,(zoq ((zap x).mono (by decide))).wants⟩ es ?_;rintro k ⟨E1,W1,E2,W2⟩ lk ⟨hE1,hW1,hE2,hW2⟩;simp only at hE1 hW1 hE2 hW2;show aw _ _ _ _ _ ⟨[(85,iv k),(3,pZ b3),(7,pZ b7),(83,.list true 8 [zay (wiH (u2 x) session bits) vE1 vW1,zay (stH (u2 x)) vE2 vW2]),(84,iv 2)],.box b10 28 (zay (stH (u2 x)) vE2 vW2):: .box b8 28 (zay (wiH (u2 x) session bits) vE1 vW1):: .box b7 28 (y8 (u2 x)):: .box b3 28 (y8 x):: .row vW1.v 2 51 (W1.map zar):: .row vE1.v 9 66 (E1.map evR):: .glob 1 193 za4:: .row vW2.v 2 51 (W2.map zar):: .row vE2.v 9 66 (E2.map evR):: .glob 0 117 x9:: .glob 3 148 x3:: .glob 5 276 x6:: .glob 6 279 y7:: .glob 2 197 u3:: [],[]⟩;refine rn ?_;refine z7 rfl (fun hc86=>?_) (fun hc86=>?_)
 ·have hk2:k < 2:=by have q:=oT hc86;omega
  refine k7 ?_;refine rn0 ?_;refine x7 ?_;refine k8 ?_;refine x7 ?_;rcases (show k=0∨k=1 by omega) with rfl|rfl
  ·refine y5 ?_;refine qq rfl rfl (za2 (i:=0) rfl rfl rfl) ?_;refine rn ?_;refine z8 rfl (y6 rfl fun b17=>?_);first|refine z8 rfl (zak rfl rfl rfl ?_)|refine z8 rfl (za6 rfl rfl rfl rfl (A7 rfl) ?_)
   refine u1 (j8 ?_);refine x7 ?_;refine x7 (y5 ?_);refine q1 ?_;refine q1 ?_;refine qq rfl rfl (za9 (zdc rfl) (A4 (fun n:Nat=>iv (n:Int)) (oM:(E1.map evR).length=E1.length))) ?_;refine rn ?_;refine zb5 E1.length (fun _ (E:List Ev)=>E.length=E1.length) (fun i E=>⟨[(92,iv i),(17,pZ b17),(85,iv ((0:Nat):Int)),(91,iv (E1.length:Nat)),(3,pZ b3),(7,pZ b7),(83,.list true 8 [zay (wiH (u2 x) session bits) vE1 vW1,zay (stH (u2 x)) vE2 vW2]),(84,iv 2)],.box b17 28 (zay (wiH (u2 x) session bits) vE1 vW1):: .box b10 28 (zay (stH (u2 x)) vE2 vW2):: .box b8 28 (zay (wiH (u2 x) session bits) vE1 vW1):: .box b7 28 (y8 (u2 x)):: .box b3 28 (y8 x):: .row vW1.v 2 51 (W1.map zar):: .row vE1.v 9 66 (E.map evR):: .glob 1 193 za4:: .row vW2.v 2 51 (W2.map zar):: .row vE2.v 9 66 (E2.map evR):: .glob 0 117 x9:: .glob 3 148 x3:: .glob 5 276 x6:: .glob 6 279 y7:: .glob 2 197 u3:: [],[]⟩) E1 rfl es ?_;intro i E li hEl;try simp only at hEl
   refine rn ?_;refine z7 rfl (fun hc93=>?_) (fun hc93=>?_)
   ·have hi:=(show i < _ from by have q:=oT hc93;exact T8.1 q);have hiE:i < E.length:=by omega
    refine k7 ?_;refine j8 ?_;refine x7 ?_;refine k8 ?_;refine x7 (y5 ?_);refine q1 ?_;refine q1 ?_;refine u1 (j8 ?_);refine y5 ?_;refine q1 ?_;refine q1 ?_;refine q1 ?_;refine qq rfl rfl (q9 (k:=i) rfl rfl (by rw [oM];omega)) ?_;refine rn ?_;refine z8 rfl (zae (k:=i) rfl rfl rfl (zjc evR hiE) rfl (A7 rfl) ?_);rw [zpy hiE];refine rn ?_;exact ⟨hi,E.set i {E[i] with kind:=0},by rw [M6];exact hEl,eA⟩
   have hEe:=hEl;obtain ⟨E',hE'⟩:∃e,e=E:=⟨_,rfl⟩;rw [←hE'] at hEl ⊢;refine zes ?_;refine ze2 ?_;refine ze2 ?_;refine zcg ?_;refine j8 ?_;refine x7 (y5 ?_);refine q1 ?_;refine q1 ?_;refine qq rfl rfl (za9 (zdc rfl) (A4 (fun n:Nat=>iv (n:Int)) (oM:(W1.map zar).length=W1.length))) ?_;refine rn ?_;refine zb5 W1.length (fun _ (W:List Wan)=>W.length=W1.length) (fun i W=>⟨[(104,iv i),(17,pZ b17),(85,iv ((0:Nat):Int)),(103,iv (W1.length:Nat)),(3,pZ b3),(7,pZ b7),(83,.list true 8 [zay (wiH (u2 x) session bits) vE1 vW1,zay (stH (u2 x)) vE2 vW2]),(84,iv 2)],.box b17 28 (zay (wiH (u2 x) session bits) vE1 vW1):: .box b10 28 (zay (stH (u2 x)) vE2 vW2):: .box b8 28 (zay (wiH (u2 x) session bits) vE1 vW1):: .box b7 28 (y8 (u2 x)):: .box b3 28 (y8 x):: .row vW1.v 2 51 (W.map zar):: .row vE1.v 9 66 (E'.map evR):: .glob 1 193 za4:: .row vW2.v 2 51 (W2.map zar):: .row vE2.v 9 66 (E2.map evR):: .glob 0 117 x9:: .glob 3 148 x3:: .glob 5 276 x6:: .glob 6 279 y7:: .glob 2 197 u3:: [],[]⟩) W1 rfl es ?_;intro i W li hWl;try simp only at hWl
   refine rn ?_;refine z7 rfl (fun hc105=>?_) (fun hc105=>?_)
   ·have hi:=(show i < _ from by have q:=oT hc105;exact T8.1 q);have hiW:i < W.length:=by omega
    refine k7 ?_;refine j8 ?_;refine x7 ?_;refine k8 ?_;refine x7 (y5 ?_);refine q1 ?_;refine q1 ?_;refine u1 (j8 ?_);refine y5 ?_;refine q1 ?_;refine q1 ?_;refine q1 ?_;refine qq rfl rfl (q9 (k:=i) rfl rfl (by rw [oM];omega)) ?_;refine rn ?_;refine z8 rfl (zae (k:=i) rfl rfl rfl (zjc zar hiW) rfl (A7 rfl) ?_);rw [zux hiW];refine rn ?_;exact ⟨hi,W.set i {W[i] with bits:=0},by rw [M6];exact hWl,eA⟩
   obtain ⟨W',hW'⟩:∃e,e=W:=⟨_,rfl⟩;rw [←hW'] at hWl ⊢;refine rn ?_;exact ⟨hk2,(E',W',E2,W2),⟨by simp only;omega,by simp only;omega,hE2,hW2⟩,eA⟩
  refine y5 ?_;refine qq rfl rfl (za2 (i:=1) rfl rfl rfl) ?_;refine rn ?_;refine z8 rfl (y6 rfl fun b17=>?_);first|refine z8 rfl (zak rfl rfl rfl ?_)|refine z8 rfl (za6 rfl rfl rfl rfl (A7 rfl) ?_)
  refine u1 (j8 ?_);refine x7 ?_;refine x7 (y5 ?_);refine q1 ?_;refine q1 ?_;refine qq rfl rfl (za9 (zdc rfl) (A4 (fun n:Nat=>iv (n:Int)) (oM:(E2.map evR).length=E2.length))) ?_;refine rn ?_;refine zb5 E2.length (fun _ (E:List Ev)=>E.length=E2.length) (fun i E=>⟨[(92,iv i),(17,pZ b17),(85,iv ((1:Nat):Int)),(91,iv (E2.length:Nat)),(3,pZ b3),(7,pZ b7),(83,.list true 8 [zay (wiH (u2 x) session bits) vE1 vW1,zay (stH (u2 x)) vE2 vW2]),(84,iv 2)],.box b17 28 (zay (stH (u2 x)) vE2 vW2):: .box b10 28 (zay (stH (u2 x)) vE2 vW2):: .box b8 28 (zay (wiH (u2 x) session bits) vE1 vW1):: .box b7 28 (y8 (u2 x)):: .box b3 28 (y8 x):: .row vW1.v 2 51 (W1.map zar):: .row vE1.v 9 66 (E1.map evR):: .glob 1 193 za4:: .row vW2.v 2 51 (W2.map zar):: .row vE2.v 9 66 (E.map evR):: .glob 0 117 x9:: .glob 3 148 x3:: .glob 5 276 x6:: .glob 6 279 y7:: .glob 2 197 u3:: [],[]⟩) E2 rfl es ?_;intro i E li hEl;try simp only at hEl
  refine rn ?_;refine z7 rfl (fun hc93=>?_) (fun hc93=>?_)
  ·have hi:=(show i < _ from by have q:=oT hc93;exact T8.1 q);have hiE:i < E.length:=by omega
   refine k7 ?_;refine j8 ?_;refine x7 ?_;refine k8 ?_;refine x7 (y5 ?_);refine q1 ?_;refine q1 ?_;refine u1 (j8 ?_);refine y5 ?_;refine q1 ?_;refine q1 ?_;refine q1 ?_;refine qq rfl rfl (q9 (k:=i) rfl rfl (by rw [oM];omega)) ?_;refine rn ?_;refine z8 rfl (zae (k:=i) rfl rfl rfl (zjc evR hiE) rfl (A7 rfl) ?_);rw [zpy hiE];refine rn ?_;exact ⟨hi,E.set i {E[i] with kind:=0},by rw [M6];exact hEl,eA⟩
  have hEe:=hEl;obtain ⟨E',hE'⟩:∃e,e=E:=⟨_,rfl⟩;rw [←hE'] at hEl ⊢;refine zes ?_;refine ze2 ?_;refine ze2 ?_;refine zcg ?_;refine j8 ?_;refine x7 (y5 ?_);refine q1 ?_;refine q1 ?_;refine qq rfl rfl (za9 (zdc rfl) (A4 (fun n:Nat=>iv (n:Int)) (oM:(W2.map zar).length=W2.length))) ?_;refine rn ?_;refine zb5 W2.length (fun _ (W:List Wan)=>W.length=W2.length) (fun i W=>⟨[(104,iv i),(17,pZ b17),(85,iv ((1:Nat):Int)),(103,iv (W2.length:Nat)),(3,pZ b3),(7,pZ b7),(83,.list true 8 [zay (wiH (u2 x) session bits) vE1 vW1,zay (stH (u2 x)) vE2 vW2]),(84,iv 2)],.box b17 28 (zay (stH (u2 x)) vE2 vW2):: .box b10 28 (zay (stH (u2 x)) vE2 vW2):: .box b8 28 (zay (wiH (u2 x) session bits) vE1 vW1):: .box b7 28 (y8 (u2 x)):: .box b3 28 (y8 x):: .row vW1.v 2 51 (W1.map zar):: .row vE1.v 9 66 (E1.map evR):: .glob 1 193 za4:: .row vW2.v 2 51 (W.map zar):: .row vE2.v 9 66 (E'.map evR):: .glob 0 117 x9:: .glob 3 148 x3:: .glob 5 276 x6:: .glob 6 279 y7:: .glob 2 197 u3:: [],[]⟩) W2 rfl es ?_;intro i W li hWl;try simp only at hWl
  refine rn ?_;refine z7 rfl (fun hc105=>?_) (fun hc105=>?_)
  ·have hi:=(show i < _ from by have q:=oT hc105;exact T8.1 q);have hiW:i < W.length:=by omega
   refine k7 ?_;refine j8 ?_;refine x7 ?_;refine k8 ?_;refine x7 (y5 ?_);refine q1 ?_;refine q1 ?_;refine u1 (j8 ?_);refine y5 ?_;refine q1 ?_;refine q1 ?_;refine q1 ?_;refine qq rfl rfl (q9 (k:=i) rfl rfl (by rw [oM];omega)) ?_;refine rn ?_;refine z8 rfl (zae (k:=i) rfl rfl rfl (zjc zar hiW) rfl (A7 rfl) ?_);rw [zux hiW];refine rn ?_;exact ⟨hi,W.set i {W[i] with bits:=0},by rw [M6];exact hWl,eA⟩
  obtain ⟨W',hW'⟩:∃e,e=W:=⟨_,rfl⟩;rw [←hW'] at hWl ⊢;refine rn ?_;exact ⟨hk2,(E1,W1,E',W'),⟨hE1,hW1,by simp only;omega,by simp only;omega⟩,eA⟩
 have hk2:k=2:=by have q:=oF hc86;omega
 refine rn ?_;refine j5 3 rfl ?_;refine rn ?_;refine dv rfl rfl (by exact y3 rfl rfl (u0 (zv1 x lb) (Sbs.refl _))) ?_;refine rn ?_;refine qv rfl rfl (y3 rfl rfl (u0 (ybm (u2 x) ((zap x).mono (by decide))) (Sbs.refl _))) ?_;refine rn ?_;exact u6 rfl (.trans (.perm (.cons _ (.cons _ (.cons _ (.cons _ (.cons _ (.cons _ ((pt1 _ _ _).trans (.cons _ (pt1 _ _ _))))))))) _) (.drop [_,_,_,_,_,_,_,_] _ _)) ⟨rfl,rfl⟩
end Go.Proofs
