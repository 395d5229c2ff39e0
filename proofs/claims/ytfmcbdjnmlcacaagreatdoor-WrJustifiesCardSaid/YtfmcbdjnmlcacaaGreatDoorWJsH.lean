/- The walks of the rules of events. Conditions: none. -/
import Derived.Test.YtfmcbdjnmlcacaaGreatDoorWJsG
set_option linter.unusedSectionVars false
set_option linter.unusedSimpArgs false
set_option linter.unusedVariables false
set_option maxRecDepth 10000
namespace Go.Proofs
open Go Go.Ab
attribute [local irreducible] QR QV OE zcr aw zdc zdn zbj zcg thn zff zeb jch zfn
open Go.H
theorem zd3 (o:Option Nat):∃i b,zbt o= .tup [iv i,bv b]:=by
 cases o with
 |none=>exact ⟨_,_,rfl⟩
 |some i=>exact ⟨_,_,rfl⟩
theorem yqn (h:Hist) (la:Lim 3000 h) (bl:Nat) (G:List Res):y7 Tryz.prog 300 [pZ bl] (.box bl 252 (zcd h)::G) (fun r h'=>h'=G∧r=zbt (zcy h 1)):=by
 refine z6 Tryz.func300 rfl rfl rfl ?_
 refine rn ?_;refine z8 rfl (w8 rfl rfl rfl fun b1=> ?_)
 refine rn ?_;refine z8 rfl (v2 rfl rfl (y0.perm (pt1 _ _ _) (y0.of_fun (rAt h (Nat.le_trans la.evs (by decide)) bl (.fn (.func 317) [] [pZ b1]) rfl (.box b1 247 [pZ bl]::G) (fun k e=>zbg 1 e (h.evs.take k)) (fun k hk r1 r2 r3 r4 r5=>y0.qt (h2:=G) (y0.of_acall (fs:= []) (cs:= [pZ b1]) (ymt _ bl b1 h _ r1 r2 r3 r4 r5)) (.refl _))))) rfl ?_)
 rintro _ _ ⟨rfl,rfl⟩
 obtain ⟨pi,pb,hpv⟩:∃i b,zbt (zdi (fun k e=>zbg 1 e (h.evs.take k)) 0 h.evs)= .tup [iv i,bv b]:=zd3 _
 rw [hpv]
 refine rn ?_;refine rq 1 ?_
 exact ⟨rfl,hpv.symm⟩
theorem yws (h:Hist) (la:Lim 3000 h) (bl:Nat) (G:List Res):y7 Tryz.prog 307 [pZ bl] (.box bl 252 (zcd h)::G) (fun r h'=>h'=G∧r=zbt (zcy h 2)):=by
 refine z6 Tryz.func307 rfl rfl rfl ?_
 refine rn ?_;refine z8 rfl (w8 rfl rfl rfl fun b1=> ?_)
 refine rn ?_;refine z8 rfl (v2 rfl rfl (y0.perm (pt1 _ _ _) (y0.of_fun (rAt h (Nat.le_trans la.evs (by decide)) bl (.fn (.func 318) [] [pZ b1]) rfl (.box b1 247 [pZ bl]::G) (fun k e=>zbg 2 e (h.evs.take k)) (fun k hk r1 r2 r3 r4 r5=>y0.qt (h2:=G) (y0.of_acall (fs:= []) (cs:= [pZ b1]) (yug _ bl b1 h _ r1 r2 r3 r4 r5)) (.refl _))))) rfl ?_)
 rintro _ _ ⟨rfl,rfl⟩
 obtain ⟨pi,pb,hpv⟩:∃i b,zbt (zdi (fun k e=>zbg 2 e (h.evs.take k)) 0 h.evs)= .tup [iv i,bv b]:=zd3 _
 rw [hpv]
 refine rn ?_;refine rq 1 ?_
 exact ⟨rfl,hpv.symm⟩
theorem yql (h:Hist) (la:Lim 3000 h) (bl:Nat) (G:List Res):y7 Tryz.prog 308 [pZ bl] (.box bl 252 (zcd h)::G) (fun r h'=>h'=G∧r=zbt (zcy h 3)):=by
 refine z6 Tryz.func308 rfl rfl rfl ?_
 refine rn ?_;refine z8 rfl (w8 rfl rfl rfl fun b1=> ?_)
 refine rn ?_;refine z8 rfl (v2 rfl rfl (y0.perm (pt1 _ _ _) (y0.of_fun (rAt h (Nat.le_trans la.evs (by decide)) bl (.fn (.func 319) [] [pZ b1]) rfl (.box b1 247 [pZ bl]::G) (fun k e=>zbg 3 e (h.evs.take k)) (fun k hk r1 r2 r3 r4 r5=>y0.qt (h2:=G) (y0.of_acall (fs:= []) (cs:= [pZ b1]) (yms _ bl b1 h _ r1 r2 r3 r4 r5 (by have:=la.evs;simp;omega))) (.refl _))))) rfl ?_)
 rintro _ _ ⟨rfl,rfl⟩
 obtain ⟨pi,pb,hpv⟩:∃i b,zbt (zdi (fun k e=>zbg 3 e (h.evs.take k)) 0 h.evs)= .tup [iv i,bv b]:=zd3 _
 rw [hpv]
 refine rn ?_;refine rq 1 ?_
 exact ⟨rfl,hpv.symm⟩
theorem yg0 (h:Hist) (la:Lim 3000 h) (bl:Nat) (G:List Res):y7 Tryz.prog 309 [pZ bl] (.box bl 252 (zcd h)::G) (fun r h'=>h'=G∧r=zbt (zcy h 4)):=by
 refine z6 Tryz.func309 rfl rfl rfl ?_
 refine rn ?_;refine z8 rfl (w8 rfl rfl rfl fun b1=> ?_)
 refine rn ?_;refine z8 rfl (v2 rfl rfl (y0.perm (pt1 _ _ _) (y0.of_fun (rAt h (Nat.le_trans la.evs (by decide)) bl (.fn (.func 320) [] [pZ b1]) rfl (.box b1 247 [pZ bl]::G) (fun k e=>zbg 4 e (h.evs.take k)) (fun k hk r1 r2 r3 r4 r5=>y0.qt (h2:=G) (y0.of_acall (fs:= []) (cs:= [pZ b1]) (ybx _ bl b1 h _ r1 r2 r3 r4 r5 (Nat.le_trans (la.scans _ (List.getElem_mem hk)) (by decide)))) (.refl _))))) rfl ?_)
 rintro _ _ ⟨rfl,rfl⟩
 obtain ⟨pi,pb,hpv⟩:∃i b,zbt (zdi (fun k e=>zbg 4 e (h.evs.take k)) 0 h.evs)= .tup [iv i,bv b]:=zd3 _
 rw [hpv]
 refine rn ?_;refine rq 1 ?_
 exact ⟨rfl,hpv.symm⟩
theorem ywo (h:Hist) (la:Lim 3000 h) (bl:Nat) (G:List Res):y7 Tryz.prog 310 [pZ bl] (.box bl 252 (zcd h)::G) (fun r h'=>h'=G∧r=zbt (zcy h 5)):=by
 refine z6 Tryz.func310 rfl rfl rfl ?_
 refine rn ?_;refine z8 rfl (w8 rfl rfl rfl fun b1=> ?_)
 refine rn ?_;refine z8 rfl (v2 rfl rfl (y0.perm (pt1 _ _ _) (y0.of_fun (rAt h (Nat.le_trans la.evs (by decide)) bl (.fn (.func 323) [] [pZ b1]) rfl (.box b1 247 [pZ bl]::G) (fun k e=>zbg 5 e (h.evs.take k)) (fun k hk r1 r2 r3 r4 r5=>y0.qt (h2:=G) (y0.of_acall (fs:= []) (cs:= [pZ b1]) (yuc _ bl b1 h _ r1 r2 r3 r4 r5 (Nat.le_trans (la.scans _ (List.getElem_mem hk)) (by decide)))) (.refl _))))) rfl ?_)
 rintro _ _ ⟨rfl,rfl⟩
 obtain ⟨pi,pb,hpv⟩:∃i b,zbt (zdi (fun k e=>zbg 5 e (h.evs.take k)) 0 h.evs)= .tup [iv i,bv b]:=zd3 _
 rw [hpv]
 refine rn ?_;refine rq 1 ?_
 exact ⟨rfl,hpv.symm⟩
theorem yub (h:Hist) (la:Lim 3000 h) (bl:Nat) (G:List Res):y7 Tryz.prog 311 [pZ bl] (.box bl 252 (zcd h)::G) (fun r h'=>h'=G∧r=zbt (zcy h 6)):=by
 refine z6 Tryz.func311 rfl rfl rfl ?_
 refine rn ?_;refine z8 rfl (v2 rfl rfl (id (y0.of_fun (rAt h (Nat.le_trans la.evs (by decide)) bl (.fn (.func 325) [] []) rfl (G) (fun k e=>zbg 6 e (h.evs.take k)) (fun k hk r1 r2 r3 r4 r5=>y0.pure (R:=fun r=>r=bv _) (y0.of_acall (fs:= []) (cs:= []) (yqd _ (Nat.le_trans (la.scans _ (List.getElem_mem hk)) (by decide)))))))) rfl ?_)
 rintro _ _ ⟨rfl,rfl⟩
 obtain ⟨pi,pb,hpv⟩:∃i b,zbt (zdi (fun k e=>zbg 6 e (h.evs.take k)) 0 h.evs)= .tup [iv i,bv b]:=zd3 _
 rw [hpv]
 refine rn ?_;refine rq 0 ?_
 exact ⟨rfl,hpv.symm⟩
open Go.Shelf
def yly:Go.Shelf.Ren:=⟨fun|125=>137|128=>184|129=>185|189=>89|215=>204|216=>181|257=>136|294=>175|295=>176|296=>177|297=>178|298=>179|299=>180|300=>182|301=>183|328=>219|329=>220|330=>221|331=>222|332=>223|343=>265|n=>n,fun|0=>0|3=>3|4=>4|5=>5|9=>9|28=>29|46=>180|51=>225|53=>227|131=>67|182=>218|183=>219|218=>265|222=>185|228=>288|229=>289|n=>n,fun n=>n⟩
theorem ygg:Lays.n189 Tryz.prog yly:={
 mixed:=by kernel_rfl
 f125:=Tryz.func137.trans (congrArg some (by kernel_rfl))
 f128:=Tryz.func184.trans (congrArg some (by kernel_rfl))
 f129:=Tryz.func185.trans (congrArg some (by kernel_rfl))
 f189:=Tryz.func89.trans (congrArg some (by kernel_rfl))
 f215:=Tryz.func204.trans (congrArg some (by kernel_rfl))
 f216:=Tryz.func181.trans (congrArg some (by kernel_rfl))
 f257:=Tryz.func136.trans (congrArg some (by kernel_rfl))
 f294:=Tryz.func175.trans (congrArg some (by kernel_rfl))
 f295:=Tryz.func176.trans (congrArg some (by kernel_rfl))
 f296:=Tryz.func177.trans (congrArg some (by kernel_rfl))
 f297:=Tryz.func178.trans (congrArg some (by kernel_rfl))
 f298:=Tryz.func179.trans (congrArg some (by kernel_rfl))
 f299:=Tryz.func180.trans (congrArg some (by kernel_rfl))
 f300:=Tryz.func182.trans (congrArg some (by kernel_rfl))
 f301:=Tryz.func183.trans (congrArg some (by kernel_rfl))
 f328:=Tryz.func219.trans (congrArg some (by kernel_rfl))
 f329:=Tryz.func220.trans (congrArg some (by kernel_rfl))
 f330:=Tryz.func221.trans (congrArg some (by kernel_rfl))
 f331:=Tryz.func222.trans (congrArg some (by kernel_rfl))
 f332:=Tryz.func223.trans (congrArg some (by kernel_rfl))
 f343:=Tryz.func265.trans (congrArg some (by kernel_rfl))
 t0:=Tryz.underlying0
 a0:=Tryz.isAgg0
 z0:=Tryz.sizeOf0
 v0:=Tryz.zeroValue0
 t3:=Tryz.underlying3
 a3:=Tryz.isAgg3
 z3:=Tryz.sizeOf3
 v3:=Tryz.zeroValue3
 t4:=Tryz.underlying4
 a4:=Tryz.isAgg4
 z4:=Tryz.sizeOf4
 v4:=Tryz.zeroValue4
 t5:=Tryz.underlying5
 a5:=Tryz.isAgg5
 z5:=Tryz.sizeOf5
 v5:=Tryz.zeroValue5
 t9:=Tryz.underlying9
 a9:=Tryz.isAgg9
 z9:=Tryz.sizeOf9
 v9:=Tryz.zeroValue9
 t28:=Tryz.underlying29
 a28:=Tryz.isAgg29
 z28:=Tryz.sizeOf29
 v28:=Tryz.zeroValue29
 t46:=Tryz.underlying180
 a46:=Tryz.isAgg180
 z46:=Tryz.sizeOf180
 v46:=Tryz.zeroValue180
 t51:=Tryz.underlying225
 a51:=Tryz.isAgg225
 z51:=Tryz.sizeOf225
 v51:=Tryz.zeroValue225
 t53:=Tryz.underlying227
 a53:=Tryz.isAgg227
 z53:=Tryz.sizeOf227
 v53:=Tryz.zeroValue227
 t131:=Tryz.underlying67
 a131:=Tryz.isAgg67
 z131:=Tryz.sizeOf67
 v131:=Tryz.zeroValue67
 t182:=Tryz.underlying218
 a182:=Tryz.isAgg218
 z182:=Tryz.sizeOf218
 v182:=Tryz.zeroValue218
 t183:=Tryz.underlying219
 a183:=Tryz.isAgg219
 z183:=Tryz.sizeOf219
 v183:=Tryz.zeroValue219
 t218:=Tryz.underlying265
 a218:=Tryz.isAgg265
 z218:=Tryz.sizeOf265
 v218:=Tryz.zeroValue265
 t222:=Tryz.underlying185
 a222:=Tryz.isAgg185
 z222:=Tryz.sizeOf185
 v222:=Tryz.zeroValue185
 t228:=Tryz.underlying288
 a228:=Tryz.isAgg288
 z228:=Tryz.sizeOf288
 v228:=Tryz.zeroValue288
 t229:=Tryz.underlying289
 a229:=Tryz.isAgg289
 z229:=Tryz.sizeOf289
 v229:=Tryz.zeroValue289}
def yog:Go.Shelf.Ren:=⟨fun|20=>90|n=>n,fun|0=>0|3=>3|4=>4|22=>29|n=>n,fun n=>n⟩
theorem yix:Lays2.n20 Tryz.prog yog:={
 mixed:=by kernel_rfl
 f20:=Tryz.func90.trans (congrArg some (by kernel_rfl))
 i3:=by kernel_rfl
 t0:=Tryz.underlying0
 a0:=Tryz.isAgg0
 z0:=Tryz.sizeOf0
 v0:=Tryz.zeroValue0
 t3:=Tryz.underlying3
 a3:=Tryz.isAgg3
 z3:=Tryz.sizeOf3
 v3:=Tryz.zeroValue3
 t4:=Tryz.underlying4
 a4:=Tryz.isAgg4
 z4:=Tryz.sizeOf4
 v4:=Tryz.zeroValue4
 t22:=Tryz.underlying29
 a22:=Tryz.isAgg29
 z22:=Tryz.sizeOf29
 v22:=Tryz.zeroValue29}
theorem zxw {f:Bool} (rows:List (List AV)) (hl:rows.length≤1099511627776):y7 Tryz.prog 64 [.list f 1 rows] [] (fun r h'=>h'= []∧r= .list false 1 rows):=by
 refine z6 Tryz.func64 rfl rfl rfl ?_
 refine rn ?_;refine z8 rfl (zj9 rfl rfl rfl fun b4 hb4=> ?_)
 refine rn ?_;refine z7 rfl (fun hc4=> ?_) (fun hc4=> ?_)
 ·refine rn ?_;have h0:=hb4 hc4
  subst h0
  exact j9 rfl (.le (Sb.nil _ _).le) ⟨rfl,rfl⟩
 ·refine rn ?_;refine qv rfl rfl (q6 rfl rfl) ?_
  refine rn ?_;refine qv rfl rfl (znh rfl rfl (by simpa using hl)) ?_
  refine rn ?_;exact j9 rfl (.refl _ _) ⟨rfl,by rw [List.nil_append];rfl⟩
theorem ztr {f:Bool} (rows:List (List AV)) (hl:rows.length * 8≤140737488355328) (hone:∀r∈rows,r.all AV.one=true):y7 Tryz.prog 64 [.list f 1 rows] [] (fun r h'=>∃s,h'= [.row s 1 3 rows]∧r= .v s):=by
 refine z6 Tryz.func64 rfl rfl rfl ?_
 refine rn ?_;refine z8 rfl (zj9 rfl rfl rfl fun b4 hb4=> ?_)
 refine rn ?_;refine z7 rfl (fun hc4=> ?_) (fun hc4=> ?_)
 ·refine rn ?_;have h0:=hb4 hc4
  subst h0
  exact j9 rfl (zat 1 3 _) ⟨_,rfl,rfl⟩
 ·refine rn ?_;refine z8 rfl (zje rfl rfl rfl fun s5=> ?_)
  refine rn ?_;refine z8 rfl (zf0 rfl rfl (by simp only [List.length_nil];omega) rfl (fun s7=> ?_) hone (by simpa using hl))
  refine rn ?_;exact j9 rfl (.refl _ _) ⟨_,by rw [List.nil_append],rfl⟩
theorem zn7 {f:Bool} (rows:List (List AV)) (hl:rows.length≤1099511627776) (hone:∀r∈rows,r.all AV.one=true):y7 Tryz.prog 64 [.list f 1 rows] [] (fun r h'=>∃s,h'= [.row s 1 3 rows]∧r= .v s):=ztr rows (by omega) hone
theorem ztq {f:Bool} (rows:List (List AV)) (hl:rows.length * 16≤140737488355328) (hone:∀r∈rows,r.all AV.one=true):y7 Tryz.prog 154 [.list f 1 rows] [] (fun r h'=>∃s,h'= [.row s 1 9 rows]∧r= .v s):=by
 refine z6 Tryz.func154 rfl rfl rfl ?_
 refine rn ?_;refine z8 rfl (zj9 rfl rfl rfl fun b4 hb4=> ?_)
 refine rn ?_;refine z7 rfl (fun hc4=> ?_) (fun hc4=> ?_)
 ·refine rn ?_;have h0:=hb4 hc4
  subst h0
  exact j9 rfl (zat 1 9 _) ⟨_,rfl,rfl⟩
 ·refine rn ?_;refine z8 rfl (zje rfl rfl rfl fun s5=> ?_)
  refine rn ?_;refine z8 rfl (zf0 rfl rfl (by simp only [List.length_nil];omega) rfl (fun s7=> ?_) hone (by simpa using hl))
  refine rn ?_;exact j9 rfl (.refl _ _) ⟨_,by rw [List.nil_append],rfl⟩
theorem zvz {f:Bool} (rows:List (List AV)) (hl:rows.length≤1099511627776) (hone:∀r∈rows,r.all AV.one=true):y7 Tryz.prog 154 [.list f 1 rows] [] (fun r h'=>∃s,h'= [.row s 1 9 rows]∧r= .v s):=ztq rows (by omega) hone
theorem yel {f:Bool} (rows:List (List AV)) (hl:rows.length≤1099511627776):y7 Tryz.prog 85 [.list f 3 rows] [] (fun r h'=>h'= []∧r= .list false 3 rows):=by
 refine z6 Tryz.func85 rfl rfl rfl ?_
 refine rn ?_;refine z8 rfl (zj9 rfl rfl rfl fun b4 hb4=> ?_)
 refine rn ?_;refine z7 rfl (fun hc4=> ?_) (fun hc4=> ?_)
 ·refine rn ?_;have h0:=hb4 hc4
  subst h0
  exact j9 rfl (.le (Sb.nil _ _).le) ⟨rfl,rfl⟩
 ·refine rn ?_;refine qv rfl rfl (q6 rfl rfl) ?_
  refine rn ?_;refine qv rfl rfl (znh rfl rfl (by simpa using hl)) ?_
  refine rn ?_;exact j9 rfl (.refl _ _) ⟨rfl,by rw [List.nil_append];rfl⟩
theorem yi1 {f:Bool} (rows:List (List AV)) (hl:rows.length≤1099511627776):y7 Tryz.prog 110 [.list f 2 rows] [] (fun r h'=>h'= []∧r= .list false 2 rows):=by
 refine z6 Tryz.func110 rfl rfl rfl ?_
 refine rn ?_;refine z8 rfl (zj9 rfl rfl rfl fun b4 hb4=> ?_)
 refine rn ?_;refine z7 rfl (fun hc4=> ?_) (fun hc4=> ?_)
 ·refine rn ?_;have h0:=hb4 hc4
  subst h0
  exact j9 rfl (.le (Sb.nil _ _).le) ⟨rfl,rfl⟩
 ·refine rn ?_;refine qv rfl rfl (q6 rfl rfl) ?_
  refine rn ?_;refine qv rfl rfl (znh rfl rfl (by simpa using hl)) ?_
  refine rn ?_;exact j9 rfl (.refl _ _) ⟨rfl,by rw [List.nil_append];rfl⟩
theorem yay (s:SV) (xs:List Int) (hs:xs.length < 4611686018427387904):y7 Tryz.prog 89 [.v s.v] [.row s.v 1 3 (xs.map zai)] (fun r h'=>h'= [.row s.v 1 3 ((srt xs).map zai)]∧r= .v (.tuple #[])):=
 zz0 ygg s 3 xs hs
theorem yeg (s:SV) (xs:List Int) (hs:xs.length≤4611686018427387904):y7 Tryz.prog 90 [.v s.v] [.row s.v 1 3 (xs.map zai)] (fun r h'=>∃s':SV,h'= [.row s'.v 1 3 ((zb6 xs).map zai)]∧r= .v s'.v):=by
 rw [←zzt];exact zrp yix s 3 xs hs
theorem zqv (h:Hist) (la:Lim 3000 h) (bl:Nat) (x:Int) (G:List Res):y7 Tryz.prog 328 [pZ bl,iv x] (.box bl 252 (zcd h)::G) (fun r h'=>h'= .box bl 252 (zcd h)::G∧r=zaq (za4 h.evs x)):=by
 refine z6 Tryz.func328 rfl rfl rfl ?_
 have be:=la.evs
 refine rn ?_;refine z8 rfl (zax (enc:=intK) rfl fun bm=> ?_)
 refine rn ?_;refine zb7 h.evs.length (fun k=>True) (fun k=>⟨[(18,iv k),(0,pZ bl),(1,iv x),(5,.v (.map (some bm))),(16,znz h.evs),(17,iv (h.evs.map evR).length)],.map bm (zal intK (zbe bv (ykt (h.evs.take k)))):: .box bl 252 (zcd h)::G,[]⟩) trivial es ?_
 intro k lk _
 refine rn ?_;refine z7 rfl (fun hc19=> ?_) (fun hc19=> ?_)
 ·have hk:=zay hc19
  have rk:=zag (f:=evR) hk
  refine rn ?_;refine z8 rfl (y5 rfl fun b7=> ?_)
  first|refine z8 rfl (j5 rfl rfl rfl ?_)|refine z8 rfl (zak rfl rfl rfl rfl (Nat.le_of_ble_eq_true rfl) ?_)
  refine u4 (zac ?_)
  refine y6 ?_;refine q1 ?_;refine q1 ?_;refine q1 ?_;refine q1 ?_;refine q1 ?_;refine q1 ?_;refine qq rfl rfl (zbm (enc:=intK) (k:=h.evs[k].t) false rfl rfl) ?_
  refine rn ?_;refine w7 (fun hg5_7=> ?_) (fun hg5_7=> ?_)
  ·refine rn ?_;refine z8 rfl (zan (g:=bv) (enc:=intK) (k:=h.evs[k].t) rfl rfl rfl ?_)
   refine rn ?_;exact ⟨hk,trivial,by first|(rw [zki hk,hg5_7,Bool.true_or];exact eA)|(rw [zki hk,hg5_7,Bool.false_or];exact eA)⟩
  ·refine rn ?_;refine z8 rfl (zan (g:=bv) (enc:=intK) (k:=h.evs[k].t) rfl rfl rfl ?_)
   refine rn ?_;exact ⟨hk,trivial,by first|(rw [zki hk,hg5_7,Bool.true_or];exact eA)|(rw [zki hk,hg5_7,Bool.false_or];exact eA)⟩
 ·have qk:=zaz hc19 lk
  subst qk
  rw [List.take_length]
  refine rn ?_;refine zda h.evs.length (fun k s=>⟨[(41,iv k),(8,.v s.v),(1,iv x),(5,.v (.map (some bm))),(39,znz h.evs),(40,iv (h.evs.map evR).length)],.row s.v 1 3 ((((h.evs.take k).filter (wrB h.evs x)).map Ev.t).map zai):: .map bm (zal intK (zbe bv (ykt h.evs))):: .box bl 252 (zcd h)::G,[]⟩) ⟨none,0,0⟩ (v8 (k9 1 3) es) ?_
  intro k s lk
  refine rn ?_;refine z7 rfl (fun hc42=> ?_) (fun hc42=> ?_)
  ·have hk:=zay hc42
   have rk:=zag (f:=evR) hk
   refine rn ?_;refine z8 rfl (y5 rfl fun b10=> ?_)
   refine rn ?_;refine w7 (fun hg11_3=> ?_) (fun hg11_3=> ?_)
   ·refine rn ?_;refine w7 (fun hg11_9=> ?_) (fun hg11_9=> ?_)
    ·refine q1 ?_;refine q1 ?_;refine q1 ?_;refine qq rfl rfl (zbm (enc:=intK) (k:=h.evs[k].t) false rfl rfl) ?_
     refine rn ?_;refine z7 rfl (fun hc59=> ?_) (fun hc59=> ?_)
     ·have hx:wrB h.evs x h.evs[k]=true:=by unfold wrB;rw [←zmr];simp_all
      refine rn ?_;refine qv rfl rfl (q6 rfl rfl) ?_
      refine z8 rfl (u7 rfl rfl (by simp only [oM,List.length_cons,List.length_nil];have:=ydt (l:=h.evs) (k:=k) (p:=wrB h.evs x);omega) rfl (fun s64=> ?_) (zgw [h.evs[k].t]))
      refine k7 s64 fun sv hsv=> ?_
      subst hsv
      refine rn ?_;exact ⟨hk,sv,by rw [yu8 hk hx,List.map_append,List.map_append];exact eA⟩
     ·have hx:wrB h.evs x h.evs[k]=false:=by unfold wrB;rw [←zmr];simp_all
      refine rn ?_;exact ⟨hk,s,by rw [yn8 hk hx];exact eA⟩
    ·refine rn ?_;refine zd9 rfl ?_;have hx:wrB h.evs x h.evs[k]=false:=by unfold wrB;rw [←zmr];simp_all
     refine rn ?_;exact ⟨hk,s,by rw [yn8 hk hx];exact eA⟩
   ·refine rn ?_;refine zd9 rfl ?_;have hx:wrB h.evs x h.evs[k]=false:=by unfold wrB;rw [←zmr];simp_all
    refine rn ?_;exact ⟨hk,s,by rw [yn8 hk hx];exact eA⟩
  ·have qk:=zaz hc42 lk
   subst qk
   refine rn ?_;refine z8 rfl (v2 rfl rfl (zgg (y0.of_fun (yay s _ (by have:=ydt (l:=h.evs) (k:=h.evs.length) (p:=wrB h.evs x);rw [oM];omega)))) rfl ?_)
   rintro _ _ ⟨rfl,rfl⟩
   refine rn ?_;refine z8 rfl (v2 rfl rfl (za3 (y0.of_fun (yeg s _ (by rw [(zcx _).length_eq,oM];have:=ydt (l:=h.evs) (k:=h.evs.length) (p:=wrB h.evs x);omega)))) rfl ?_)
   rintro _ _ ⟨s',rfl,rfl⟩
   refine rn ?_;exact j9 rfl (.trans zbr (.drop1 _ _ _)) ⟨rfl,by rw [List.take_length];rfl⟩
theorem yrs {f:Bool} (l:List Int) (n:Int) (hl:l.length≤4611686018427387904):y7 Tryz.prog 105 [.list f 1 (l.map zai),iv n] [] (fun r h'=>h'= []∧r=iv (zbq (fun a=>a==n) 0 l)):=by
 refine z6 Tryz.func105 rfl rfl rfl ?_
 refine rn ?_;refine zcj (l.length) (fun k:Nat=>zbq (fun a=>a==n) 0 l=zbq (fun a=>a==n) k (l.drop k)) (fun k=> [(8,iv k)]) [(0,_),(1,_),(7,_)] (by simp) ?_
 intro k lk zk
 refine rn ?_;refine z7 rfl (fun hc9=> ?_) (fun hc9=> ?_)
 ·have hk:=zay hc9
  have rk:=zag (f:=zai) hk
  refine rn ?_;refine z7 rfl (fun hc16=> ?_) (fun hc16=> ?_)
  ·refine rn ?_;refine rq 0 ?_
   exact ⟨rfl,congrArg iv (by rw [zk,List.drop_eq_getElem_cons hk,zbq,if_pos (by rw [beq_iff_eq] at hc16 ⊢;exact hc16.symm)])⟩
  ·refine rn ?_;exact ⟨hk,by rw [zk,List.drop_eq_getElem_cons hk,zbq,if_neg (fun q=>by rw [beq_iff_eq] at q;rw [q] at hc16;simp at hc16)],eA⟩
 ·have qk:=zaz hc9 lk
  refine rn ?_;refine rq 0 ?_
  exact ⟨rfl,congrArg iv (by rw [zk,qk,List.drop_length];rfl)⟩
theorem ztm {f:Bool} (l:List Int) (n:Int) (hl:l.length≤4611686018427387904):y7 Tryz.prog 44 [.list f 1 (l.map zai),iv n] [] (fun r h'=>h'= []∧r=bv (l.contains n)):=by
 refine z6 Tryz.func44 rfl rfl rfl ?_
 refine rn ?_;refine qv rfl rfl (y2 rfl rfl (u3 (yrs _ _ hl) (Sbs.refl _))) ?_
 refine rn ?_;refine rq 0 ?_
 exact ⟨rfl,congrArg bv (by rw [zen,ztl])⟩
theorem yqg (f:List Int) (t:Int) (b:Nat) (G:List Res) (hl:f.length≤4611686018427387904):y7 Tryz.prog 342 [iv t,pZ b] (.box b 29 [zaq f]::G) (fun r h'=>h'= .box b 29 [zaq f]::G∧r=bv (!f.contains t)):=by
 refine z6 Tryz.func342 rfl rfl rfl ?_
 refine rn ?_;refine qv rfl rfl (y2 rfl rfl (u3 (ztm _ _ hl) (Sbs.refl _))) ?_
 refine rn ?_;refine rq 0 ?_
 exact ⟨rfl,rfl⟩
theorem yqh (ts f:List Int) (hl:ts.length≤1000000) (hf:f.length≤4611686018427387904):y7 Tryz.prog 330 [zaq ts,zaq f] [] (fun r h'=>h'= []∧r=bv (zu0 ts f)):=by
 refine z6 Tryz.func330 rfl rfl rfl ?_
 have hl':ts.length≤4611686018427387904:=Nat.le_trans hl (by decide)
 refine rn ?_;refine z8 rfl (w8 rfl rfl rfl fun b3=> ?_)
 refine rn ?_;refine z8 rfl (v2 rfl rfl (y0.new (y0.of_fun (zn7 (ts.map zai) (by simp;omega) (fun r hr=>by obtain ⟨n,_,rfl⟩:=List.mem_map.1 hr;rfl)))) rfl ?_)
 rintro _ _ ⟨_,⟨s,rfl,rfl⟩,rfl⟩
 show zcr _ _ _ _ _ _ ⟨_,.row s 1 3 (ts.map zai):: [.box b3 29 [zaq f]],_⟩
 refine k7 s fun sv hsv=> ?_
 subst hsv
 refine rn ?_;refine z8 rfl (v2 rfl rfl (zgg (y0.of_fun (yay sv ts (by omega)))) rfl ?_)
 rintro _ _ ⟨rfl,rfl⟩
 refine rn ?_;refine z8 rfl (v2 rfl rfl (za3 (y0.of_fun (yeg sv (srt ts) (by rw [(zcx _).length_eq];omega)))) rfl ?_)
 rintro _ _ ⟨s',rfl,rfl⟩
 refine rn ?_;refine w7 (fun hg3_6=> ?_) (fun hg3_6=> ?_)
 ·refine rn ?_;refine qv rfl rfl (y2 rfl rfl (y0.of_fun (zh6 ts _ _ [.row s'.v 1 3 ((zb6 (srt ts)).map zai),.box b3 29 [zaq f]] (fun t _=>y0.qt (h2:= [_]) (y0.of_acall (fs:= []) (cs:= [pZ b3]) (yqg f t b3 [] hf)) (zdl [_] [_])) hl'))) ?_
  refine rn ?_;refine rq 2 ?_
  exact ⟨rfl,congrArg bv (by unfold zu0;by_cases e:(zb6 (srt ts)).length=ts.length <;> first|(simp_all;done)|(exfalso;simp at hg3_6;omega))⟩
 ·refine rn ?_;refine rq 2 ?_
  exact ⟨rfl,congrArg bv (by unfold zu0;by_cases e:(zb6 (srt ts)).length=ts.length <;> first|(simp_all;done)|(exfalso;simp at hg3_6;omega))⟩
theorem ymn {f:Bool} (l:List H.Ord) (fv:AV) (w:Nat→H.Ord→Bool) (G:List Res) (hp:∀k (hk:k < l.length),y0 Tryz.prog fv [iv k,.agg (zez l[k])] G (fun r h'=>h'=G∧r=bv (w k l[k]))) (hl:l.length≤1000000):y7 Tryz.prog 326 [.list f 2 (l.map zez),fv] G (fun r h'=>h'=G∧r=zbt (zdi w 0 l)):=by
 refine z6 Tryz.func326 rfl rfl rfl ?_
 refine rn ?_;refine zb7 l.length (fun k=>zdi w 0 l=zdi w k (l.drop k)) (fun k=>⟨[(10,iv k),(1,fv),(8,.list f 2 (l.map zez)),(9,iv (l.map zez).length)],G,[]⟩) (by simp) es ?_
 intro k lk zk
 refine rn ?_;refine z7 rfl (fun hc11=> ?_) (fun hc11=> ?_)
 ·have hk:=zay hc11
  have rk:=zag (f:=zez) hk
  refine rn ?_;refine z8 rfl (y5 rfl fun b7=> ?_)
  refine rn ?_;refine qv rfl rfl (y2 rfl rfl (y0.qt (h2:= [_]) (hp k hk) (zdl [_] _))) ?_
  refine rn ?_;refine z7 rfl (fun hc18=> ?_) (fun hc18=> ?_)
  ·refine rn ?_;refine rq 1 ?_
   exact ⟨rfl,by rw [zhr hk zk (by simpa using hc18)];rfl⟩
  ·refine rn ?_;exact ⟨hk,zd1 hk zk (by simpa using hc18),eA⟩
 ·have qk:=zaz hc11 lk
  refine rn ?_;refine rq 0 ?_
  exact ⟨rfl,by rw [zj1 qk zk];rfl⟩
theorem ymm {f:Bool} (l:List ByteArray) (fv:AV) (w:Nat→ByteArray→Bool) (G:List Res) (hp:∀k (hk:k < l.length),y0 Tryz.prog fv [iv k,sv l[k]] G (fun r h'=>h'=G∧r=bv (w k l[k]))) (hl:l.length≤1000000):y7 Tryz.prog 331 [.list f 1 (l.map zeh),fv] G (fun r h'=>h'=G∧r=zbt (zdi w 0 l)):=by
 refine z6 Tryz.func331 rfl rfl rfl ?_
 refine rn ?_;refine zb7 l.length (fun k=>zdi w 0 l=zdi w k (l.drop k)) (fun k=>⟨[(10,iv k),(1,fv),(8,.list f 1 (l.map zeh)),(9,iv (l.map zeh).length)],G,[]⟩) (by simp) es ?_
 intro k lk zk
 refine rn ?_;refine z7 rfl (fun hc11=> ?_) (fun hc11=> ?_)
 ·have hk:=zay hc11
  have rk:=zag (f:=zeh) hk
  refine rn ?_;refine qv rfl rfl (y2 rfl rfl (hp k hk)) ?_
  refine rn ?_;refine z7 rfl (fun hc18=> ?_) (fun hc18=> ?_)
  ·refine rn ?_;refine rq 0 ?_
   exact ⟨rfl,by rw [zhr hk zk (by simpa using hc18)];rfl⟩
  ·refine rn ?_;exact ⟨hk,zd1 hk zk (by simpa using hc18),eA⟩
 ·have qk:=zaz hc11 lk
  refine rn ?_;refine rq 0 ?_
  exact ⟨rfl,by rw [zj1 qk zk];rfl⟩
theorem ymo {f:Bool} (l:List Mat) (fv:AV) (w:Nat→Mat→Bool) (G:List Res) (hp:∀k (hk:k < l.length),y0 Tryz.prog fv [iv k,.agg (zeq l[k])] G (fun r h'=>h'=G∧r=bv (w k l[k]))) (hl:l.length≤1000000):y7 Tryz.prog 334 [.list f 4 (l.map zeq),fv] G (fun r h'=>h'=G∧r=zbt (zdi w 0 l)):=by
 refine z6 Tryz.func334 rfl rfl rfl ?_
 refine rn ?_;refine zb7 l.length (fun k=>zdi w 0 l=zdi w k (l.drop k)) (fun k=>⟨[(10,iv k),(1,fv),(8,.list f 4 (l.map zeq)),(9,iv (l.map zeq).length)],G,[]⟩) (by simp) es ?_
 intro k lk zk
 refine rn ?_;refine z7 rfl (fun hc11=> ?_) (fun hc11=> ?_)
 ·have hk:=zay hc11
  have rk:=zag (f:=zeq) hk
  refine rn ?_;refine z8 rfl (y5 rfl fun b7=> ?_)
  refine rn ?_;refine qv rfl rfl (y2 rfl rfl (y0.qt (h2:= [_]) (hp k hk) (zdl [_] _))) ?_
  refine rn ?_;refine z7 rfl (fun hc18=> ?_) (fun hc18=> ?_)
  ·refine rn ?_;refine rq 1 ?_
   exact ⟨rfl,by rw [zhr hk zk (by simpa using hc18)];rfl⟩
  ·refine rn ?_;exact ⟨hk,zd1 hk zk (by simpa using hc18),eA⟩
 ·have qk:=zaz hc11 lk
  refine rn ?_;refine rq 0 ?_
  exact ⟨rfl,by rw [zj1 qk zk];rfl⟩
theorem yml {f:Bool} (l:List Wan) (fv:AV) (w:Nat→Wan→Bool) (G:List Res) (hp:∀k (hk:k < l.length),y0 Tryz.prog fv [iv k,.agg (zf4 l[k])] G (fun r h'=>h'=G∧r=bv (w k l[k]))) (hl:l.length≤1000000):y7 Tryz.prog 337 [.list f 2 (l.map zf4),fv] G (fun r h'=>h'=G∧r=zbt (zdi w 0 l)):=by
 refine z6 Tryz.func337 rfl rfl rfl ?_
 refine rn ?_;refine zb7 l.length (fun k=>zdi w 0 l=zdi w k (l.drop k)) (fun k=>⟨[(10,iv k),(1,fv),(8,.list f 2 (l.map zf4)),(9,iv (l.map zf4).length)],G,[]⟩) (by simp) es ?_
 intro k lk zk
 refine rn ?_;refine z7 rfl (fun hc11=> ?_) (fun hc11=> ?_)
 ·have hk:=zay hc11
  have rk:=zag (f:=zf4) hk
  refine rn ?_;refine z8 rfl (y5 rfl fun b7=> ?_)
  refine rn ?_;refine qv rfl rfl (y2 rfl rfl (y0.qt (h2:= [_]) (hp k hk) (zdl [_] _))) ?_
  refine rn ?_;refine z7 rfl (fun hc18=> ?_) (fun hc18=> ?_)
  ·refine rn ?_;refine rq 1 ?_
   exact ⟨rfl,by rw [zhr hk zk (by simpa using hc18)];rfl⟩
  ·refine rn ?_;exact ⟨hk,zd1 hk zk (by simpa using hc18),eA⟩
 ·have qk:=zaz hc11 lk
  refine rn ?_;refine rq 0 ?_
  exact ⟨rfl,by rw [zj1 qk zk];rfl⟩
theorem yg2 (p r:H.Ord) (b:Nat) (G:List Res):y7 Tryz.prog 329 [.agg (zez p),pZ b] (.box b 87 (zez r)::G) (fun x h'=>h'= .box b 87 (zez r)::G∧x=bv (p.o==r.o)):=by
 refine z6 Tryz.func329 rfl rfl rfl ?_
 refine rn ?_;refine z8 rfl (w8 rfl rfl rfl fun b2=> ?_)
 refine rn ?_;refine rq 1 ?_
 exact ⟨rfl,congrArg bv (by first|rfl|(simp_all;done))⟩
theorem yg4 (p r:Mat) (b:Nat) (G:List Res):y7 Tryz.prog 336 [.agg (zeq p),pZ b] (.box b 109 (zeq r)::G) (fun x h'=>h'= .box b 109 (zeq r)::G∧x=bv (p.p==r.p && p.o==r.o)):=by
 refine z6 Tryz.func336 rfl rfl rfl ?_
 refine rn ?_;refine z8 rfl (w8 rfl rfl rfl fun b2=> ?_)
 refine rn ?_;refine w7 (fun hg1_5=> ?_) (fun hg1_5=> ?_)
 ·refine rn ?_;refine rq 1 ?_
  exact ⟨rfl,congrArg bv (by first|rfl|(simp_all;done))⟩
 ·refine rn ?_;refine rq 1 ?_
  exact ⟨rfl,congrArg bv (by first|rfl|(simp_all;done))⟩
theorem ymj (p r:Wan) (b:Nat) (G:List Res):y7 Tryz.prog 340 [.agg (zf4 p),pZ b] (.box b 111 (zf4 r)::G) (fun x h'=>h'= .box b 111 (zf4 r)::G∧x=bv (p.s==r.s)):=by
 refine z6 Tryz.func340 rfl rfl rfl ?_
 refine rn ?_;refine z8 rfl (w8 rfl rfl rfl fun b2=> ?_)
 refine rn ?_;refine rq 1 ?_
 exact ⟨rfl,congrArg bv (by first|rfl|(simp_all;done))⟩
theorem ymk (e:Ev) (r:Wan) (b:Nat) (G:List Res):y7 Tryz.prog 339 [.agg (evR e),pZ b] (.box b 111 (zf4 r)::G) (fun x h'=>h'= .box b 111 (zf4 r)::G∧x=bv (e.kind==1 && e.s==r.s)):=by
 refine z6 Tryz.func339 rfl rfl rfl ?_
 refine rn ?_;refine z8 rfl (w8 rfl rfl rfl fun b2=> ?_)
 refine rn ?_;refine w7 (fun hg1_3=> ?_) (fun hg1_3=> ?_)
 ·refine rn ?_;refine rq 1 ?_
  exact ⟨rfl,congrArg bv (by first|(simp_all;done)|(simp only [*];done))⟩
 ·refine rn ?_;refine rq 1 ?_
  exact ⟨rfl,congrArg bv (by first|(simp_all;done)|(simp only [*];done))⟩
theorem zy6 (r:H.Ord) (x:Int) (b:Nat) (G:List Res):y7 Tryz.prog 333 [.agg (zez r),pZ b] (.box b 3 [iv x]::G) (fun z h'=>h'= .box b 3 [iv x]::G∧z=bv (r.o==x)):=by
 refine z6 Tryz.func333 rfl rfl rfl ?_
 refine rn ?_;refine z8 rfl (w8 rfl rfl rfl fun b2=> ?_)
 refine rn ?_;refine rq 1 ?_
 exact ⟨rfl,congrArg bv (by first|rfl|(simp_all;done))⟩
theorem ymp (h:Hist) (la:Lim 3000 h) (i:Nat) (hi:i≤h.ords.length) (r:H.Ord) (hr:r.ts.length≤3000) (bl bp:Nat) (G:List Res):y7 Tryz.prog 327 [iv i,.agg (zez r),pZ bp] (.box bp 247 [pZ bl]:: .box bl 252 (zcd h)::G) (fun x h'=>h'=(.box bp 247 [pZ bl]:: .box bl 252 (zcd h)::G)∧x=bv (zhz h i r)):=by
 refine z6 Tryz.func327 rfl rfl rfl ?_
 have bo:=la.ords
 refine rn ?_;refine z8 rfl (w8 rfl rfl rfl fun b4=> ?_)
 refine rn ?_;refine qv rfl rfl (y2 rfl rfl (y0.qt (h2:= .box b4 87 (zez r):: .box bp 247 [pZ bl]::G) (y0.of_fun (zqv h la bl r.o [])) (pt2 _ _ _ _))) ?_
 refine q1 ?_;refine u4 (zac ?_)
 refine w9 (y6 ?_)
 refine q1 ?_;refine q1 ?_;refine q1 ?_;refine q1 ?_;refine q1 ?_;refine q1 ?_;refine qq rfl rfl (zcc (k:=i) rfl rfl (by rw [oM];omega)) ?_
 rw [←List.map_take]
 refine rn ?_;refine qv rfl rfl (y2 rfl rfl (y0.of_fun (zfi (h.ords.take i) _ _ (.box b4 87 (zez r):: .box bp 247 [pZ bl]:: .box bl 252 (zcd h)::G) (fun p _=>y0.of_acall (fs:= []) (cs:= [pZ b4]) (yg2 p r b4 (.box bp 247 [pZ bl]:: .box bl 252 (zcd h)::G))) (by rw [List.length_take];have:=la.ords;omega)))) ?_
 refine rn ?_;refine w7 (fun hg2_9=> ?_) (fun hg2_9=> ?_)
 ·refine rn ?_;refine rq 1 ?_
  exact ⟨rfl,congrArg bv (by unfold zhz;first|(simp only [hg2_9,hg2_16,oM,zk6,Bool.not_true,Bool.not_false,Bool.true_or,Bool.or_true,Bool.false_or];done)|(simp only [hg2_9,Bool.true_or];done)|(simp_all [zk6];done))⟩
 ·refine rn ?_;refine qv rfl rfl (y2 rfl rfl (u3 (yqh r.ts (za4 h.evs r.o) (Nat.le_trans hr (by decide)) (Nat.le_trans (zkq h.evs r.o) (Nat.le_trans la.evs (by decide)))) (Sbs.refl _))) ?_
  refine rn ?_;refine w7 (fun hg2_16=> ?_) (fun hg2_16=> ?_)
  ·refine rn ?_;refine rq 1 ?_
   exact ⟨rfl,congrArg bv (by unfold zhz;first|(simp only [hg2_9,hg2_16,oM,zk6,Bool.not_true,Bool.not_false,Bool.true_or,Bool.or_true,Bool.false_or];done)|(simp only [hg2_9,Bool.true_or];done)|(simp_all [zk6];done))⟩
  ·refine rn ?_;refine rq 1 ?_
   exact ⟨rfl,congrArg bv (by unfold zhz;first|(simp only [hg2_9,hg2_16,oM,zk6,Bool.not_true,Bool.not_false,Bool.true_or,Bool.or_true,Bool.false_or];done)|(simp only [hg2_9,Bool.true_or];done)|(simp_all [zk6];done))⟩
theorem ymq (h:Hist) (la:Lim 3000 h) (i:Nat) (hi:i≤h.mats.length) (r:Mat) (hr:r.ts.length≤3000) (bl bp:Nat) (G:List Res):y7 Tryz.prog 335 [iv i,.agg (zeq r),pZ bp] (.box bp 247 [pZ bl]:: .box bl 252 (zcd h)::G) (fun x h'=>h'=(.box bp 247 [pZ bl]:: .box bl 252 (zcd h)::G)∧x=bv (zlq h i r)):=by
 refine z6 Tryz.func335 rfl rfl rfl ?_
 have bo:=la.mats
 refine rn ?_;refine z8 rfl (w8 rfl rfl rfl fun b4=> ?_)
 refine rn ?_;refine j4 16 rfl ?_
 refine dq rfl rfl qrA ?_;refine dq rfl rfl qrA ?_;refine dq rfl rfl qrA ?_;refine dq rfl rfl qrA ?_;refine dq rfl rfl qrA ?_;refine dq rfl rfl qrA ?_;refine dq rfl rfl (zcc (k:=i) rfl rfl (by rw [oM];omega)) ?_
 rw [←List.map_take]
 refine rn ?_;refine dv rfl rfl (by exact y2 rfl rfl (y0.of_fun (zh5 (h.mats.take i) _ _ (.box b4 109 (zeq r):: .box bp 247 [pZ bl]:: .box bl 252 (zcd h)::G) (fun p _=>y0.of_acall (fs:= []) (cs:= [pZ b4]) (yg4 p r b4 (.box bp 247 [pZ bl]:: .box bl 252 (zcd h)::G))) (by rw [List.length_take];have:=la.mats;omega)))) ?_
 refine rn ?_;refine zc0 (fun hg2_9=> ?_) (fun hg2_9=> ?_)
 ·refine rn ?_;refine rq 1 ?_
  exact ⟨rfl,congrArg bv (by unfold zlq;simp_all)⟩
 ·refine rn ?_;refine dv rfl rfl (by exact y2 rfl rfl (y0.qt (h2:= .box b4 109 (zeq r):: .box bp 247 [pZ bl]::G) (y0.of_fun (zqv h la bl r.o [])) (pt2 _ _ _ _))) ?_
  refine rn ?_;refine qv rfl rfl (y2 rfl rfl (u3 (yqh r.ts (za4 h.evs r.o) (Nat.le_trans hr (by decide)) (Nat.le_trans (zkq h.evs r.o) (Nat.le_trans la.evs (by decide)))) (Sbs.refl _))) ?_
  refine rn ?_;refine rq 1 ?_
  exact ⟨rfl,congrArg bv (by unfold zlq;simp_all)⟩
theorem yp9 (h:Hist) (la:Lim 3000 h) (i:Nat) (hi:i≤h.wants.length) (r:Wan) (bl bp:Nat) (G:List Res):y7 Tryz.prog 338 [iv i,.agg (zf4 r),pZ bp] (.box bp 247 [pZ bl]:: .box bl 252 (zcd h)::G) (fun x h'=>h'=(.box bp 247 [pZ bl]:: .box bl 252 (zcd h)::G)∧x=bv (zkt h i r)):=by
 refine z6 Tryz.func338 rfl rfl rfl ?_
 have bo:=la.wants
 refine rn ?_;refine z8 rfl (w8 rfl rfl rfl fun b4=> ?_)
 refine q1 ?_;refine u4 (zac ?_)
 refine w9 (y6 ?_)
 refine q1 ?_;refine q1 ?_;refine u4 (zac ?_)
 refine w9 (y6 ?_)
 refine q1 ?_;refine q1 ?_;refine q1 ?_;refine q1 ?_;refine q1 ?_;refine q1 ?_;refine qq rfl rfl (zcc (k:=i) rfl rfl (by rw [oM];omega)) ?_
 rw [←List.map_take]
 refine rn ?_;refine qv rfl rfl (y2 rfl rfl (y0.of_fun (zh4 (h.wants.take i) _ _ (.box b4 111 (zf4 r):: .box bp 247 [pZ bl]:: .box bl 252 (zcd h)::G) (fun p _=>y0.of_acall (fs:= []) (cs:= [pZ b4]) (ymj p r b4 (.box bp 247 [pZ bl]:: .box bl 252 (zcd h)::G))) (by rw [List.length_take];have:=la.wants;omega)))) ?_
 refine rn ?_;refine w7 (fun hg2_9=> ?_) (fun hg2_9=> ?_)
 ·refine rn ?_;refine rq 1 ?_
  exact ⟨rfl,congrArg bv (by unfold zkt;simp_all)⟩
 ·refine rn ?_;refine qv rfl rfl (y2 rfl rfl (y0.of_fun (zi2 h.evs _ _ (.box b4 111 (zf4 r):: .box bp 247 [pZ bl]:: .box bl 252 (zcd h)::G) (fun e _=>y0.of_acall (fs:= []) (cs:= [pZ b4]) (ymk e r b4 (.box bp 247 [pZ bl]:: .box bl 252 (zcd h)::G))) (Nat.le_trans la.evs (by decide))))) ?_
  refine rn ?_;refine rq 1 ?_
  exact ⟨rfl,congrArg bv (by unfold zkt;simp_all)⟩
theorem yby (h:Hist) (la:Lim 3000 h) (x:Int) (s:ByteArray) (bl bp:Nat) (G:List Res):y7 Tryz.prog 332 [iv x,sv s,pZ bp] (.box bp 247 [pZ bl]:: .box bl 252 (zcd h)::G) (fun z h'=>h'=(.box bp 247 [pZ bl]:: .box bl 252 (zcd h)::G)∧z=bv (zq2 h x)):=by
 refine z6 Tryz.func332 rfl rfl rfl ?_
 refine rn ?_;refine z8 rfl (w8 rfl rfl rfl fun b3=> ?_)
 refine rn ?_;refine qv rfl rfl (y2 rfl rfl (y0.qt (h2:= .box b3 3 [iv x]:: .box bp 247 [pZ bl]::G) (y0.of_fun (zqv h la bl x [])) (pt2 _ _ _ _))) ?_
 refine rn ?_;refine w7 (fun hg1_5=> ?_) (fun hg1_5=> ?_)
 ·refine rn ?_;refine qv rfl rfl (y2 rfl rfl (y0.of_fun (zfi h.ords _ _ (.box b3 3 [iv x]:: .box bp 247 [pZ bl]:: .box bl 252 (zcd h)::G) (fun r _=>y0.of_acall (fs:= []) (cs:= [pZ b3]) (zy6 r x b3 (.box bp 247 [pZ bl]:: .box bl 252 (zcd h)::G))) (Nat.le_trans la.ords (by decide))))) ?_
  refine rn ?_;refine rq 1 ?_
  exact ⟨rfl,congrArg bv (by unfold zq2;by_cases e:1 < (za4 h.evs x).length <;> first|(simp_all;done)|(simp [e];done)|(exfalso;simp at hg1_5;omega))⟩
 ·refine rn ?_;refine rq 1 ?_
  exact ⟨rfl,congrArg bv (by unfold zq2;by_cases e:1 < (za4 h.evs x).length <;> first|(simp_all;done)|(simp [e];done)|(exfalso;simp at hg1_5;omega))⟩
theorem yqf (h:Hist) (la:Lim 3000 h) (bl:Nat) (G:List Res):y7 Tryz.prog 312 [pZ bl] (.box bl 252 (zcd h)::G) (fun r h'=>h'=G∧r=zbt (zcy h 7)):=by
 refine z6 Tryz.func312 rfl rfl rfl ?_
 refine rn ?_;refine z8 rfl (w8 rfl rfl rfl fun b1=> ?_)
 refine rn ?_;refine qv rfl rfl (y2 rfl rfl (y0.of_fun (ymn h.ords (.fn (.func 327) [] [pZ b1]) (zhz h) (.box b1 247 [pZ bl]:: .box bl 252 (zcd h)::G) (fun k hk=>y0.of_acall (fs:= []) (cs:= [pZ b1]) (ymp h la k (Nat.le_of_lt hk) _ (la.ordts _ (List.getElem_mem hk)) bl b1 G)) (Nat.le_trans la.ords (by decide))))) ?_
 obtain ⟨pi,pb,hpv⟩:∃i b,zbt (zdi (zhz h) 0 h.ords)= .tup [iv i,bv b]:=zd3 _
 rw [hpv]
 refine rn ?_;refine rq 2 ?_
 exact ⟨rfl,hpv.symm⟩
theorem yg3 (h:Hist) (la:Lim 3000 h) (bl:Nat) (G:List Res):y7 Tryz.prog 313 [pZ bl] (.box bl 252 (zcd h)::G) (fun r h'=>h'=G∧r=zbt (zcy h 8)):=by
 refine z6 Tryz.func313 rfl rfl rfl ?_
 refine rn ?_;refine z8 rfl (w8 rfl rfl rfl fun b1=> ?_)
 refine rn ?_;refine qv rfl rfl (y2 rfl rfl (y0.of_fun (ymm h.os (.fn (.func 332) [] [pZ b1]) (fun x _=>zq2 h (x:Nat)) (.box b1 247 [pZ bl]:: .box bl 252 (zcd h)::G) (fun k hk=>y0.of_acall (fs:= []) (cs:= [pZ b1]) (yby h la k _ bl b1 G)) (Nat.le_trans la.os (by decide))))) ?_
 obtain ⟨pi,pb,hpv⟩:∃i b,zbt (zdi (fun x _=>zq2 h (x:Nat)) 0 h.os)= .tup [iv i,bv b]:=zd3 _
 rw [hpv]
 refine rn ?_;refine rq 2 ?_
 exact ⟨rfl,hpv.symm⟩
theorem yqi (h:Hist) (la:Lim 3000 h) (bl:Nat) (G:List Res):y7 Tryz.prog 314 [pZ bl] (.box bl 252 (zcd h)::G) (fun r h'=>h'=G∧r=zbt (zcy h 9)):=by
 refine z6 Tryz.func314 rfl rfl rfl ?_
 refine rn ?_;refine z8 rfl (w8 rfl rfl rfl fun b1=> ?_)
 refine rn ?_;refine qv rfl rfl (y2 rfl rfl (y0.of_fun (ymo h.mats (.fn (.func 335) [] [pZ b1]) (zlq h) (.box b1 247 [pZ bl]:: .box bl 252 (zcd h)::G) (fun k hk=>y0.of_acall (fs:= []) (cs:= [pZ b1]) (ymq h la k (Nat.le_of_lt hk) _ (la.matts _ (List.getElem_mem hk)) bl b1 G)) (Nat.le_trans la.mats (by decide))))) ?_
 obtain ⟨pi,pb,hpv⟩:∃i b,zbt (zdi (zlq h) 0 h.mats)= .tup [iv i,bv b]:=zd3 _
 rw [hpv]
 refine rn ?_;refine rq 2 ?_
 exact ⟨rfl,hpv.symm⟩
theorem yt9 (h:Hist) (la:Lim 3000 h) (bl:Nat) (G:List Res):y7 Tryz.prog 315 [pZ bl] (.box bl 252 (zcd h)::G) (fun r h'=>h'=G∧r=zbt (zcy h 10)):=by
 refine z6 Tryz.func315 rfl rfl rfl ?_
 refine rn ?_;refine z8 rfl (w8 rfl rfl rfl fun b1=> ?_)
 refine rn ?_;refine qv rfl rfl (y2 rfl rfl (y0.of_fun (yml h.wants (.fn (.func 338) [] [pZ b1]) (zkt h) (.box b1 247 [pZ bl]:: .box bl 252 (zcd h)::G) (fun k hk=>y0.of_acall (fs:= []) (cs:= [pZ b1]) (yp9 h la k (Nat.le_of_lt hk) _ bl b1 G)) (Nat.le_trans la.wants (by decide))))) ?_
 obtain ⟨pi,pb,hpv⟩:∃i b,zbt (zdi (zkt h) 0 h.wants)= .tup [iv i,bv b]:=zd3 _
 rw [hpv]
 refine rn ?_;refine rq 2 ?_
 exact ⟨rfl,hpv.symm⟩
theorem zri (s:ByteArray) (hx:zaw (bt s 0).toNat=240):y7 Tryz.prog 284 [.v (.string s)] [.glob 4 305 y4,.glob 5 308 y1] (fun r h'=>h'= [.glob 4 305 y4,.glob 5 308 y1]∧r= .tup [.v (.int .i32 (w6 s).1),iv (w6 s).2]):=by
 refine z6 Tryz.func284 rfl rfl rfl ?_
 refine rn ?_;refine z7 rfl (fun hc16=> ?_) (fun hc16=> ?_)
 ·refine rn ?_;have hd:w6 s=(65533,0):=by
   unfold w6
   rw [if_pos (by simp at hc16;omega)]
  exact zbz rfl rfl (.refl _ _) ⟨rfl,by rw [hd];rfl⟩
 ·have h1:0 < s.size:=by simp at hc16;omega
  refine rn ?_;refine qq rfl rfl (u9 0 rfl rfl (by omega)) ?_
  refine rn ?_;refine qq rfl rfl (y8 rfl rfl (zg8 _ _) (zg7 _ _)) ?_
  refine qq rfl rfl (zap rfl (show _=some (.v (.int .u8 240)) from by rw [zdb (zg8 s 0) (zg7 s 0),hx])) ?_
  refine rn ?_;refine z7 rfl (fun hc23=> ?_) (fun hc23=> ?_)
  ·refine rn ?_;refine qq rfl rfl (u9 0 rfl rfl (by omega)) ?_
   refine rn ?_;have hd:w6 s=(bI .or .i32 (bI .andNot .i32 (IntKind.i32.wrap (bt s 0)) (zle 240)) (bI .and .i32 65533 (zle 240)),1):=by
    unfold w6
    rw [if_neg (by omega)]
    simp only [hx]
    rw [if_pos (by decide)]
   exact zbz rfl rfl (.refl _ _) ⟨rfl,by rw [hd];rfl⟩
  ·first|cases hc23|exact absurd hc23 (by decide)|(exfalso;simp_all;done)
theorem zrh (s:ByteArray) (hx:zaw (bt s 0).toNat=241):y7 Tryz.prog 284 [.v (.string s)] [.glob 4 305 y4,.glob 5 308 y1] (fun r h'=>h'= [.glob 4 305 y4,.glob 5 308 y1]∧r= .tup [.v (.int .i32 (w6 s).1),iv (w6 s).2]):=by
 refine z6 Tryz.func284 rfl rfl rfl ?_
 refine rn ?_;refine z7 rfl (fun hc16=> ?_) (fun hc16=> ?_)
 ·refine rn ?_;have hd:w6 s=(65533,0):=by
   unfold w6
   rw [if_pos (by simp at hc16;omega)]
  exact zbz rfl rfl (.refl _ _) ⟨rfl,by rw [hd];rfl⟩
 ·have h1:0 < s.size:=by simp at hc16;omega
  refine rn ?_;refine qq rfl rfl (u9 0 rfl rfl (by omega)) ?_
  refine rn ?_;refine qq rfl rfl (y8 rfl rfl (zg8 _ _) (zg7 _ _)) ?_
  refine qq rfl rfl (zap rfl (show _=some (.v (.int .u8 241)) from by rw [zdb (zg8 s 0) (zg7 s 0),hx])) ?_
  refine rn ?_;refine z7 rfl (fun hc23=> ?_) (fun hc23=> ?_)
  ·refine rn ?_;refine qq rfl rfl (u9 0 rfl rfl (by omega)) ?_
   refine rn ?_;have hd:w6 s=(bI .or .i32 (bI .andNot .i32 (IntKind.i32.wrap (bt s 0)) (zle 241)) (bI .and .i32 65533 (zle 241)),1):=by
    unfold w6
    rw [if_neg (by omega)]
    simp only [hx]
    rw [if_pos (by decide)]
   exact zbz rfl rfl (.refl _ _) ⟨rfl,by rw [hd];rfl⟩
  ·first|cases hc23|exact absurd hc23 (by decide)|(exfalso;simp_all;done)
theorem zvu (s:ByteArray) (hx:zaw (bt s 0).toNat=2):y7 Tryz.prog 284 [.v (.string s)] [.glob 4 305 y4,.glob 5 308 y1] (fun r h'=>h'= [.glob 4 305 y4,.glob 5 308 y1]∧r= .tup [.v (.int .i32 (w6 s).1),iv (w6 s).2]):=by
 refine z6 Tryz.func284 rfl rfl rfl ?_
 refine rn ?_;refine z7 rfl (fun hc16=> ?_) (fun hc16=> ?_)
 ·refine rn ?_;have hd:w6 s=(65533,0):=by
   unfold w6
   rw [if_pos (by simp at hc16;omega)]
  exact zbz rfl rfl (.refl _ _) ⟨rfl,by rw [hd];rfl⟩
 ·have h1:0 < s.size:=by simp at hc16;omega
  refine rn ?_;refine qq rfl rfl (u9 0 rfl rfl (by omega)) ?_
  refine rn ?_;refine qq rfl rfl (y8 rfl rfl (zg8 _ _) (zg7 _ _)) ?_
  refine qq rfl rfl (zap rfl (show _=some (.v (.int .u8 2)) from by rw [zdb (zg8 s 0) (zg7 s 0),hx])) ?_
  refine rn ?_;refine z7 rfl (fun hc23=> ?_) (fun hc23=> ?_)
  ·first|cases hc23|exact absurd hc23 (by decide)|(exfalso;simp_all;done)
  ·refine rn ?_;refine qq rfl rfl (y8 rfl rfl (by decide) (by decide)) ?_
   refine rn ?_;refine z8 rfl (y5 rfl fun b9=> ?_)
   refine rn ?_;refine z7 rfl (fun hc45=> ?_) (fun hc45=> ?_)
   ·refine rn ?_;have hd:w6 s=(65533,1):=by
     unfold w6
     rw [if_neg (by omega)]
     simp only [hx]
     rw [if_neg (by decide),if_pos (show (s.size:Int) < (2:Int) % 8 from oT hc45)]
    exact zbz rfl rfl (.drop1 _ _ _) ⟨rfl,by rw [hd];rfl⟩
   ·have h2:2≤s.size:=by
     have:¬((s.size:Int) < 2):=oF hc45
     omega
    refine rn ?_;refine qq rfl rfl (u9 1 rfl rfl (by omega)) ?_
    refine rn ?_;refine w7 (fun hg14_4=> ?_) (fun hg14_4=> ?_)
    ·refine rn ?_;refine z7 rfl (fun hc57=> ?_) (fun hc57=> ?_)
     ·refine rn ?_;have hd:w6 s=(65533,1):=by
       unfold w6
       rw [if_neg (by omega)]
       simp only [hx]
       rw [if_neg (by decide),if_neg (show ¬(s.size:Int) < (2:Int) % 8 from oF hc45),if_pos (show bt s 1 < zbu ((2:Int) / 16).toNat∨zbv ((2:Int) / 16).toNat < bt s 1 from by first|exact .inl (oT hg14_4)|exact .inr (oT hc57))]
      exact zbz rfl rfl (.drop1 _ _ _) ⟨rfl,by rw [hd];rfl⟩
     ·first|cases hc57|exact absurd hc57 (by decide)|(exfalso;simp_all;done)
    ·refine rn ?_;refine z7 rfl (fun hc57=> ?_) (fun hc57=> ?_)
     ·refine rn ?_;have hd:w6 s=(65533,1):=by
       unfold w6
       rw [if_neg (by omega)]
       simp only [hx]
       rw [if_neg (by decide),if_neg (show ¬(s.size:Int) < (2:Int) % 8 from oF hc45),if_pos (show bt s 1 < zbu ((2:Int) / 16).toNat∨zbv ((2:Int) / 16).toNat < bt s 1 from by first|exact .inl (oT hg14_4)|exact .inr (oT hc57))]
      exact zbz rfl rfl (.drop1 _ _ _) ⟨rfl,by rw [hd];rfl⟩
     ·refine rn ?_;refine z7 rfl (fun hc59=> ?_) (fun hc59=> ?_)
      ·refine rn ?_;have hd:w6 s=(bI .or .i32 (zdk (bt s 0) 31 6) (zdk (bt s 1) 63 0),2):=by
        unfold w6
        rw [if_neg (by omega)]
        simp only [hx]
        rw [if_neg (by decide),if_neg (show ¬(s.size:Int) < (2:Int) % 8 from oF hc45),if_neg (show ¬(bt s 1 < zbu ((2:Int) / 16).toNat∨zbv ((2:Int) / 16).toNat < bt s 1) from fun q=>q.elim (oF hg14_4) (oF hc57)),if_pos (by decide)]
       exact zbz rfl rfl (.drop1 _ _ _) ⟨rfl,by rw [hd];rfl⟩
      ·first|cases hc59|exact absurd hc59 (by decide)|(exfalso;simp_all;done)
theorem ztg (s:ByteArray) (hx:zaw (bt s 0).toNat=19):y7 Tryz.prog 284 [.v (.string s)] [.glob 4 305 y4,.glob 5 308 y1] (fun r h'=>h'= [.glob 4 305 y4,.glob 5 308 y1]∧r= .tup [.v (.int .i32 (w6 s).1),iv (w6 s).2]):=by
 refine z6 Tryz.func284 rfl rfl rfl ?_
 refine rn ?_;refine z7 rfl (fun hc16=> ?_) (fun hc16=> ?_)
 ·refine rn ?_;have hd:w6 s=(65533,0):=by
   unfold w6
   rw [if_pos (by simp at hc16;omega)]
  exact zbz rfl rfl (.refl _ _) ⟨rfl,by rw [hd];rfl⟩
 ·have h1:0 < s.size:=by simp at hc16;omega
  refine rn ?_;refine qq rfl rfl (u9 0 rfl rfl (by omega)) ?_
  refine rn ?_;refine qq rfl rfl (y8 rfl rfl (zg8 _ _) (zg7 _ _)) ?_
  refine qq rfl rfl (zap rfl (show _=some (.v (.int .u8 19)) from by rw [zdb (zg8 s 0) (zg7 s 0),hx])) ?_
  refine rn ?_;refine z7 rfl (fun hc23=> ?_) (fun hc23=> ?_)
  ·first|cases hc23|exact absurd hc23 (by decide)|(exfalso;simp_all;done)
  ·refine rn ?_;refine qq rfl rfl (y8 rfl rfl (by decide) (by decide)) ?_
   refine rn ?_;refine z8 rfl (y5 rfl fun b9=> ?_)
   refine rn ?_;refine z7 rfl (fun hc45=> ?_) (fun hc45=> ?_)
   ·refine rn ?_;have hd:w6 s=(65533,1):=by
     unfold w6
     rw [if_neg (by omega)]
     simp only [hx]
     rw [if_neg (by decide),if_pos (show (s.size:Int) < (19:Int) % 8 from oT hc45)]
    exact zbz rfl rfl (.drop1 _ _ _) ⟨rfl,by rw [hd];rfl⟩
   ·have h2:3≤s.size:=by
     have:¬((s.size:Int) < 3):=oF hc45
     omega
    refine rn ?_;refine qq rfl rfl (u9 1 rfl rfl (by omega)) ?_
    refine rn ?_;refine w7 (fun hg14_4=> ?_) (fun hg14_4=> ?_)
    ·refine rn ?_;refine z7 rfl (fun hc57=> ?_) (fun hc57=> ?_)
     ·refine rn ?_;have hd:w6 s=(65533,1):=by
       unfold w6
       rw [if_neg (by omega)]
       simp only [hx]
       rw [if_neg (by decide),if_neg (show ¬(s.size:Int) < (19:Int) % 8 from oF hc45),if_pos (show bt s 1 < zbu ((19:Int) / 16).toNat∨zbv ((19:Int) / 16).toNat < bt s 1 from by first|exact .inl (oT hg14_4)|exact .inr (oT hc57))]
      exact zbz rfl rfl (.drop1 _ _ _) ⟨rfl,by rw [hd];rfl⟩
     ·first|cases hc57|exact absurd hc57 (by decide)|(exfalso;simp_all;done)
    ·refine rn ?_;refine z7 rfl (fun hc57=> ?_) (fun hc57=> ?_)
     ·refine rn ?_;have hd:w6 s=(65533,1):=by
       unfold w6
       rw [if_neg (by omega)]
       simp only [hx]
       rw [if_neg (by decide),if_neg (show ¬(s.size:Int) < (19:Int) % 8 from oF hc45),if_pos (show bt s 1 < zbu ((19:Int) / 16).toNat∨zbv ((19:Int) / 16).toNat < bt s 1 from by first|exact .inl (oT hg14_4)|exact .inr (oT hc57))]
      exact zbz rfl rfl (.drop1 _ _ _) ⟨rfl,by rw [hd];rfl⟩
     ·refine rn ?_;refine z7 rfl (fun hc59=> ?_) (fun hc59=> ?_)
      ·first|cases hc59|exact absurd hc59 (by decide)|(exfalso;simp_all;done)
      ·refine rn ?_;refine qq rfl rfl (u9 2 rfl rfl (by omega)) ?_
       refine rn ?_;refine w7 (fun hg19_2=> ?_) (fun hg19_2=> ?_)
       ·refine rn ?_;refine z7 rfl (fun hc75=> ?_) (fun hc75=> ?_)
        ·refine rn ?_;have hd:w6 s=(65533,1):=by
          unfold w6
          rw [if_neg (by omega)]
          simp only [hx]
          rw [if_neg (by decide),if_neg (show ¬(s.size:Int) < (19:Int) % 8 from oF hc45),if_neg (show ¬(bt s 1 < zbu ((19:Int) / 16).toNat∨zbv ((19:Int) / 16).toNat < bt s 1) from fun q=>q.elim (oF hg14_4) (oF hc57)),if_neg (by decide),if_pos (show bt s 2 < 128∨191 < bt s 2 from by first|exact .inl (oT hg19_2)|exact .inr (oT hc75))]
         exact zbz rfl rfl (.drop1 _ _ _) ⟨rfl,by rw [hd];rfl⟩
        ·first|cases hc75|exact absurd hc75 (by decide)|(exfalso;simp_all;done)
       ·refine rn ?_;refine z7 rfl (fun hc75=> ?_) (fun hc75=> ?_)
        ·refine rn ?_;have hd:w6 s=(65533,1):=by
          unfold w6
          rw [if_neg (by omega)]
          simp only [hx]
          rw [if_neg (by decide),if_neg (show ¬(s.size:Int) < (19:Int) % 8 from oF hc45),if_neg (show ¬(bt s 1 < zbu ((19:Int) / 16).toNat∨zbv ((19:Int) / 16).toNat < bt s 1) from fun q=>q.elim (oF hg14_4) (oF hc57)),if_neg (by decide),if_pos (show bt s 2 < 128∨191 < bt s 2 from by first|exact .inl (oT hg19_2)|exact .inr (oT hc75))]
         exact zbz rfl rfl (.drop1 _ _ _) ⟨rfl,by rw [hd];rfl⟩
        ·refine rn ?_;refine z7 rfl (fun hc77=> ?_) (fun hc77=> ?_)
         ·refine rn ?_;have hd:w6 s=(bI .or .i32 (bI .or .i32 (zdk (bt s 0) 15 12) (zdk (bt s 1) 63 6)) (zdk (bt s 2) 63 0),3):=by
           unfold w6
           rw [if_neg (by omega)]
           simp only [hx]
           rw [if_neg (by decide),if_neg (show ¬(s.size:Int) < (19:Int) % 8 from oF hc45),if_neg (show ¬(bt s 1 < zbu ((19:Int) / 16).toNat∨zbv ((19:Int) / 16).toNat < bt s 1) from fun q=>q.elim (oF hg14_4) (oF hc57)),if_neg (by decide),if_neg (show ¬(bt s 2 < 128∨191 < bt s 2) from fun q=>q.elim (oF hg19_2) (oF hc75)),if_pos (by decide)]
          exact zbz rfl rfl (.drop1 _ _ _) ⟨rfl,by rw [hd];rfl⟩
         ·first|cases hc77|exact absurd hc77 (by decide)|(exfalso;simp_all;done)
theorem zvt (s:ByteArray) (hx:zaw (bt s 0).toNat=3):y7 Tryz.prog 284 [.v (.string s)] [.glob 4 305 y4,.glob 5 308 y1] (fun r h'=>h'= [.glob 4 305 y4,.glob 5 308 y1]∧r= .tup [.v (.int .i32 (w6 s).1),iv (w6 s).2]):=by
 refine z6 Tryz.func284 rfl rfl rfl ?_
 refine rn ?_;refine z7 rfl (fun hc16=> ?_) (fun hc16=> ?_)
 ·refine rn ?_;have hd:w6 s=(65533,0):=by
   unfold w6
   rw [if_pos (by simp at hc16;omega)]
  exact zbz rfl rfl (.refl _ _) ⟨rfl,by rw [hd];rfl⟩
 ·have h1:0 < s.size:=by simp at hc16;omega
  refine rn ?_;refine qq rfl rfl (u9 0 rfl rfl (by omega)) ?_
  refine rn ?_;refine qq rfl rfl (y8 rfl rfl (zg8 _ _) (zg7 _ _)) ?_
  refine qq rfl rfl (zap rfl (show _=some (.v (.int .u8 3)) from by rw [zdb (zg8 s 0) (zg7 s 0),hx])) ?_
  refine rn ?_;refine z7 rfl (fun hc23=> ?_) (fun hc23=> ?_)
  ·first|cases hc23|exact absurd hc23 (by decide)|(exfalso;simp_all;done)
  ·refine rn ?_;refine qq rfl rfl (y8 rfl rfl (by decide) (by decide)) ?_
   refine rn ?_;refine z8 rfl (y5 rfl fun b9=> ?_)
   refine rn ?_;refine z7 rfl (fun hc45=> ?_) (fun hc45=> ?_)
   ·refine rn ?_;have hd:w6 s=(65533,1):=by
     unfold w6
     rw [if_neg (by omega)]
     simp only [hx]
     rw [if_neg (by decide),if_pos (show (s.size:Int) < (3:Int) % 8 from oT hc45)]
    exact zbz rfl rfl (.drop1 _ _ _) ⟨rfl,by rw [hd];rfl⟩
   ·have h2:3≤s.size:=by
     have:¬((s.size:Int) < 3):=oF hc45
     omega
    refine rn ?_;refine qq rfl rfl (u9 1 rfl rfl (by omega)) ?_
    refine rn ?_;refine w7 (fun hg14_4=> ?_) (fun hg14_4=> ?_)
    ·refine rn ?_;refine z7 rfl (fun hc57=> ?_) (fun hc57=> ?_)
     ·refine rn ?_;have hd:w6 s=(65533,1):=by
       unfold w6
       rw [if_neg (by omega)]
       simp only [hx]
       rw [if_neg (by decide),if_neg (show ¬(s.size:Int) < (3:Int) % 8 from oF hc45),if_pos (show bt s 1 < zbu ((3:Int) / 16).toNat∨zbv ((3:Int) / 16).toNat < bt s 1 from by first|exact .inl (oT hg14_4)|exact .inr (oT hc57))]
      exact zbz rfl rfl (.drop1 _ _ _) ⟨rfl,by rw [hd];rfl⟩
     ·first|cases hc57|exact absurd hc57 (by decide)|(exfalso;simp_all;done)
    ·refine rn ?_;refine z7 rfl (fun hc57=> ?_) (fun hc57=> ?_)
     ·refine rn ?_;have hd:w6 s=(65533,1):=by
       unfold w6
       rw [if_neg (by omega)]
       simp only [hx]
       rw [if_neg (by decide),if_neg (show ¬(s.size:Int) < (3:Int) % 8 from oF hc45),if_pos (show bt s 1 < zbu ((3:Int) / 16).toNat∨zbv ((3:Int) / 16).toNat < bt s 1 from by first|exact .inl (oT hg14_4)|exact .inr (oT hc57))]
      exact zbz rfl rfl (.drop1 _ _ _) ⟨rfl,by rw [hd];rfl⟩
     ·refine rn ?_;refine z7 rfl (fun hc59=> ?_) (fun hc59=> ?_)
      ·first|cases hc59|exact absurd hc59 (by decide)|(exfalso;simp_all;done)
      ·refine rn ?_;refine qq rfl rfl (u9 2 rfl rfl (by omega)) ?_
       refine rn ?_;refine w7 (fun hg19_2=> ?_) (fun hg19_2=> ?_)
       ·refine rn ?_;refine z7 rfl (fun hc75=> ?_) (fun hc75=> ?_)
        ·refine rn ?_;have hd:w6 s=(65533,1):=by
          unfold w6
          rw [if_neg (by omega)]
          simp only [hx]
          rw [if_neg (by decide),if_neg (show ¬(s.size:Int) < (3:Int) % 8 from oF hc45),if_neg (show ¬(bt s 1 < zbu ((3:Int) / 16).toNat∨zbv ((3:Int) / 16).toNat < bt s 1) from fun q=>q.elim (oF hg14_4) (oF hc57)),if_neg (by decide),if_pos (show bt s 2 < 128∨191 < bt s 2 from by first|exact .inl (oT hg19_2)|exact .inr (oT hc75))]
         exact zbz rfl rfl (.drop1 _ _ _) ⟨rfl,by rw [hd];rfl⟩
        ·first|cases hc75|exact absurd hc75 (by decide)|(exfalso;simp_all;done)
       ·refine rn ?_;refine z7 rfl (fun hc75=> ?_) (fun hc75=> ?_)
        ·refine rn ?_;have hd:w6 s=(65533,1):=by
          unfold w6
          rw [if_neg (by omega)]
          simp only [hx]
          rw [if_neg (by decide),if_neg (show ¬(s.size:Int) < (3:Int) % 8 from oF hc45),if_neg (show ¬(bt s 1 < zbu ((3:Int) / 16).toNat∨zbv ((3:Int) / 16).toNat < bt s 1) from fun q=>q.elim (oF hg14_4) (oF hc57)),if_neg (by decide),if_pos (show bt s 2 < 128∨191 < bt s 2 from by first|exact .inl (oT hg19_2)|exact .inr (oT hc75))]
         exact zbz rfl rfl (.drop1 _ _ _) ⟨rfl,by rw [hd];rfl⟩
        ·refine rn ?_;refine z7 rfl (fun hc77=> ?_) (fun hc77=> ?_)
         ·refine rn ?_;have hd:w6 s=(bI .or .i32 (bI .or .i32 (zdk (bt s 0) 15 12) (zdk (bt s 1) 63 6)) (zdk (bt s 2) 63 0),3):=by
           unfold w6
           rw [if_neg (by omega)]
           simp only [hx]
           rw [if_neg (by decide),if_neg (show ¬(s.size:Int) < (3:Int) % 8 from oF hc45),if_neg (show ¬(bt s 1 < zbu ((3:Int) / 16).toNat∨zbv ((3:Int) / 16).toNat < bt s 1) from fun q=>q.elim (oF hg14_4) (oF hc57)),if_neg (by decide),if_neg (show ¬(bt s 2 < 128∨191 < bt s 2) from fun q=>q.elim (oF hg19_2) (oF hc75)),if_pos (by decide)]
          exact zbz rfl rfl (.drop1 _ _ _) ⟨rfl,by rw [hd];rfl⟩
         ·first|cases hc77|exact absurd hc77 (by decide)|(exfalso;simp_all;done)
theorem ztf (s:ByteArray) (hx:zaw (bt s 0).toNat=35):y7 Tryz.prog 284 [.v (.string s)] [.glob 4 305 y4,.glob 5 308 y1] (fun r h'=>h'= [.glob 4 305 y4,.glob 5 308 y1]∧r= .tup [.v (.int .i32 (w6 s).1),iv (w6 s).2]):=by
 refine z6 Tryz.func284 rfl rfl rfl ?_
 refine rn ?_;refine z7 rfl (fun hc16=> ?_) (fun hc16=> ?_)
 ·refine rn ?_;have hd:w6 s=(65533,0):=by
   unfold w6
   rw [if_pos (by simp at hc16;omega)]
  exact zbz rfl rfl (.refl _ _) ⟨rfl,by rw [hd];rfl⟩
 ·have h1:0 < s.size:=by simp at hc16;omega
  refine rn ?_;refine qq rfl rfl (u9 0 rfl rfl (by omega)) ?_
  refine rn ?_;refine qq rfl rfl (y8 rfl rfl (zg8 _ _) (zg7 _ _)) ?_
  refine qq rfl rfl (zap rfl (show _=some (.v (.int .u8 35)) from by rw [zdb (zg8 s 0) (zg7 s 0),hx])) ?_
  refine rn ?_;refine z7 rfl (fun hc23=> ?_) (fun hc23=> ?_)
  ·first|cases hc23|exact absurd hc23 (by decide)|(exfalso;simp_all;done)
  ·refine rn ?_;refine qq rfl rfl (y8 rfl rfl (by decide) (by decide)) ?_
   refine rn ?_;refine z8 rfl (y5 rfl fun b9=> ?_)
   refine rn ?_;refine z7 rfl (fun hc45=> ?_) (fun hc45=> ?_)
   ·refine rn ?_;have hd:w6 s=(65533,1):=by
     unfold w6
     rw [if_neg (by omega)]
     simp only [hx]
     rw [if_neg (by decide),if_pos (show (s.size:Int) < (35:Int) % 8 from oT hc45)]
    exact zbz rfl rfl (.drop1 _ _ _) ⟨rfl,by rw [hd];rfl⟩
   ·have h2:3≤s.size:=by
     have:¬((s.size:Int) < 3):=oF hc45
     omega
    refine rn ?_;refine qq rfl rfl (u9 1 rfl rfl (by omega)) ?_
    refine rn ?_;refine w7 (fun hg14_4=> ?_) (fun hg14_4=> ?_)
    ·refine rn ?_;refine z7 rfl (fun hc57=> ?_) (fun hc57=> ?_)
     ·refine rn ?_;have hd:w6 s=(65533,1):=by
       unfold w6
       rw [if_neg (by omega)]
       simp only [hx]
       rw [if_neg (by decide),if_neg (show ¬(s.size:Int) < (35:Int) % 8 from oF hc45),if_pos (show bt s 1 < zbu ((35:Int) / 16).toNat∨zbv ((35:Int) / 16).toNat < bt s 1 from by first|exact .inl (oT hg14_4)|exact .inr (oT hc57))]
      exact zbz rfl rfl (.drop1 _ _ _) ⟨rfl,by rw [hd];rfl⟩
     ·first|cases hc57|exact absurd hc57 (by decide)|(exfalso;simp_all;done)
    ·refine rn ?_;refine z7 rfl (fun hc57=> ?_) (fun hc57=> ?_)
     ·refine rn ?_;have hd:w6 s=(65533,1):=by
       unfold w6
       rw [if_neg (by omega)]
       simp only [hx]
       rw [if_neg (by decide),if_neg (show ¬(s.size:Int) < (35:Int) % 8 from oF hc45),if_pos (show bt s 1 < zbu ((35:Int) / 16).toNat∨zbv ((35:Int) / 16).toNat < bt s 1 from by first|exact .inl (oT hg14_4)|exact .inr (oT hc57))]
      exact zbz rfl rfl (.drop1 _ _ _) ⟨rfl,by rw [hd];rfl⟩
     ·refine rn ?_;refine z7 rfl (fun hc59=> ?_) (fun hc59=> ?_)
      ·first|cases hc59|exact absurd hc59 (by decide)|(exfalso;simp_all;done)
      ·refine rn ?_;refine qq rfl rfl (u9 2 rfl rfl (by omega)) ?_
       refine rn ?_;refine w7 (fun hg19_2=> ?_) (fun hg19_2=> ?_)
       ·refine rn ?_;refine z7 rfl (fun hc75=> ?_) (fun hc75=> ?_)
        ·refine rn ?_;have hd:w6 s=(65533,1):=by
          unfold w6
          rw [if_neg (by omega)]
          simp only [hx]
          rw [if_neg (by decide),if_neg (show ¬(s.size:Int) < (35:Int) % 8 from oF hc45),if_neg (show ¬(bt s 1 < zbu ((35:Int) / 16).toNat∨zbv ((35:Int) / 16).toNat < bt s 1) from fun q=>q.elim (oF hg14_4) (oF hc57)),if_neg (by decide),if_pos (show bt s 2 < 128∨191 < bt s 2 from by first|exact .inl (oT hg19_2)|exact .inr (oT hc75))]
         exact zbz rfl rfl (.drop1 _ _ _) ⟨rfl,by rw [hd];rfl⟩
        ·first|cases hc75|exact absurd hc75 (by decide)|(exfalso;simp_all;done)
       ·refine rn ?_;refine z7 rfl (fun hc75=> ?_) (fun hc75=> ?_)
        ·refine rn ?_;have hd:w6 s=(65533,1):=by
          unfold w6
          rw [if_neg (by omega)]
          simp only [hx]
          rw [if_neg (by decide),if_neg (show ¬(s.size:Int) < (35:Int) % 8 from oF hc45),if_neg (show ¬(bt s 1 < zbu ((35:Int) / 16).toNat∨zbv ((35:Int) / 16).toNat < bt s 1) from fun q=>q.elim (oF hg14_4) (oF hc57)),if_neg (by decide),if_pos (show bt s 2 < 128∨191 < bt s 2 from by first|exact .inl (oT hg19_2)|exact .inr (oT hc75))]
         exact zbz rfl rfl (.drop1 _ _ _) ⟨rfl,by rw [hd];rfl⟩
        ·refine rn ?_;refine z7 rfl (fun hc77=> ?_) (fun hc77=> ?_)
         ·refine rn ?_;have hd:w6 s=(bI .or .i32 (bI .or .i32 (zdk (bt s 0) 15 12) (zdk (bt s 1) 63 6)) (zdk (bt s 2) 63 0),3):=by
           unfold w6
           rw [if_neg (by omega)]
           simp only [hx]
           rw [if_neg (by decide),if_neg (show ¬(s.size:Int) < (35:Int) % 8 from oF hc45),if_neg (show ¬(bt s 1 < zbu ((35:Int) / 16).toNat∨zbv ((35:Int) / 16).toNat < bt s 1) from fun q=>q.elim (oF hg14_4) (oF hc57)),if_neg (by decide),if_neg (show ¬(bt s 2 < 128∨191 < bt s 2) from fun q=>q.elim (oF hg19_2) (oF hc75)),if_pos (by decide)]
          exact zbz rfl rfl (.drop1 _ _ _) ⟨rfl,by rw [hd];rfl⟩
         ·first|cases hc77|exact absurd hc77 (by decide)|(exfalso;simp_all;done)
theorem zte (s:ByteArray) (hx:zaw (bt s 0).toNat=52):y7 Tryz.prog 284 [.v (.string s)] [.glob 4 305 y4,.glob 5 308 y1] (fun r h'=>h'= [.glob 4 305 y4,.glob 5 308 y1]∧r= .tup [.v (.int .i32 (w6 s).1),iv (w6 s).2]):=by
 refine z6 Tryz.func284 rfl rfl rfl ?_
 refine rn ?_;refine z7 rfl (fun hc16=> ?_) (fun hc16=> ?_)
 ·refine rn ?_;have hd:w6 s=(65533,0):=by
   unfold w6
   rw [if_pos (by simp at hc16;omega)]
  exact zbz rfl rfl (.refl _ _) ⟨rfl,by rw [hd];rfl⟩
 ·have h1:0 < s.size:=by simp at hc16;omega
  refine rn ?_;refine qq rfl rfl (u9 0 rfl rfl (by omega)) ?_
  refine rn ?_;refine qq rfl rfl (y8 rfl rfl (zg8 _ _) (zg7 _ _)) ?_
  refine qq rfl rfl (zap rfl (show _=some (.v (.int .u8 52)) from by rw [zdb (zg8 s 0) (zg7 s 0),hx])) ?_
  refine rn ?_;refine z7 rfl (fun hc23=> ?_) (fun hc23=> ?_)
  ·first|cases hc23|exact absurd hc23 (by decide)|(exfalso;simp_all;done)
  ·refine rn ?_;refine qq rfl rfl (y8 rfl rfl (by decide) (by decide)) ?_
   refine rn ?_;refine z8 rfl (y5 rfl fun b9=> ?_)
   refine rn ?_;refine z7 rfl (fun hc45=> ?_) (fun hc45=> ?_)
   ·refine rn ?_;have hd:w6 s=(65533,1):=by
     unfold w6
     rw [if_neg (by omega)]
     simp only [hx]
     rw [if_neg (by decide),if_pos (show (s.size:Int) < (52:Int) % 8 from oT hc45)]
    exact zbz rfl rfl (.drop1 _ _ _) ⟨rfl,by rw [hd];rfl⟩
   ·have h2:4≤s.size:=by
     have:¬((s.size:Int) < 4):=oF hc45
     omega
    refine rn ?_;refine qq rfl rfl (u9 1 rfl rfl (by omega)) ?_
    refine rn ?_;refine w7 (fun hg14_4=> ?_) (fun hg14_4=> ?_)
    ·refine rn ?_;refine z7 rfl (fun hc57=> ?_) (fun hc57=> ?_)
     ·refine rn ?_;have hd:w6 s=(65533,1):=by
       unfold w6
       rw [if_neg (by omega)]
       simp only [hx]
       rw [if_neg (by decide),if_neg (show ¬(s.size:Int) < (52:Int) % 8 from oF hc45),if_pos (show bt s 1 < zbu ((52:Int) / 16).toNat∨zbv ((52:Int) / 16).toNat < bt s 1 from by first|exact .inl (oT hg14_4)|exact .inr (oT hc57))]
      exact zbz rfl rfl (.drop1 _ _ _) ⟨rfl,by rw [hd];rfl⟩
     ·first|cases hc57|exact absurd hc57 (by decide)|(exfalso;simp_all;done)
    ·refine rn ?_;refine z7 rfl (fun hc57=> ?_) (fun hc57=> ?_)
     ·refine rn ?_;have hd:w6 s=(65533,1):=by
       unfold w6
       rw [if_neg (by omega)]
       simp only [hx]
       rw [if_neg (by decide),if_neg (show ¬(s.size:Int) < (52:Int) % 8 from oF hc45),if_pos (show bt s 1 < zbu ((52:Int) / 16).toNat∨zbv ((52:Int) / 16).toNat < bt s 1 from by first|exact .inl (oT hg14_4)|exact .inr (oT hc57))]
      exact zbz rfl rfl (.drop1 _ _ _) ⟨rfl,by rw [hd];rfl⟩
     ·refine rn ?_;refine z7 rfl (fun hc59=> ?_) (fun hc59=> ?_)
      ·first|cases hc59|exact absurd hc59 (by decide)|(exfalso;simp_all;done)
      ·refine rn ?_;refine qq rfl rfl (u9 2 rfl rfl (by omega)) ?_
       refine rn ?_;refine w7 (fun hg19_2=> ?_) (fun hg19_2=> ?_)
       ·refine rn ?_;refine z7 rfl (fun hc75=> ?_) (fun hc75=> ?_)
        ·refine rn ?_;have hd:w6 s=(65533,1):=by
          unfold w6
          rw [if_neg (by omega)]
          simp only [hx]
          rw [if_neg (by decide),if_neg (show ¬(s.size:Int) < (52:Int) % 8 from oF hc45),if_neg (show ¬(bt s 1 < zbu ((52:Int) / 16).toNat∨zbv ((52:Int) / 16).toNat < bt s 1) from fun q=>q.elim (oF hg14_4) (oF hc57)),if_neg (by decide),if_pos (show bt s 2 < 128∨191 < bt s 2 from by first|exact .inl (oT hg19_2)|exact .inr (oT hc75))]
         exact zbz rfl rfl (.drop1 _ _ _) ⟨rfl,by rw [hd];rfl⟩
        ·first|cases hc75|exact absurd hc75 (by decide)|(exfalso;simp_all;done)
       ·refine rn ?_;refine z7 rfl (fun hc75=> ?_) (fun hc75=> ?_)
        ·refine rn ?_;have hd:w6 s=(65533,1):=by
          unfold w6
          rw [if_neg (by omega)]
          simp only [hx]
          rw [if_neg (by decide),if_neg (show ¬(s.size:Int) < (52:Int) % 8 from oF hc45),if_neg (show ¬(bt s 1 < zbu ((52:Int) / 16).toNat∨zbv ((52:Int) / 16).toNat < bt s 1) from fun q=>q.elim (oF hg14_4) (oF hc57)),if_neg (by decide),if_pos (show bt s 2 < 128∨191 < bt s 2 from by first|exact .inl (oT hg19_2)|exact .inr (oT hc75))]
         exact zbz rfl rfl (.drop1 _ _ _) ⟨rfl,by rw [hd];rfl⟩
        ·refine rn ?_;refine z7 rfl (fun hc77=> ?_) (fun hc77=> ?_)
         ·first|cases hc77|exact absurd hc77 (by decide)|(exfalso;simp_all;done)
         ·refine rn ?_;refine qq rfl rfl (u9 3 rfl rfl (by omega)) ?_
          refine rn ?_;refine w7 (fun hg24_2=> ?_) (fun hg24_2=> ?_)
          ·refine rn ?_;refine z7 rfl (fun hc98=> ?_) (fun hc98=> ?_)
           ·refine rn ?_;have hd:w6 s=(65533,1):=by
             unfold w6
             rw [if_neg (by omega)]
             simp only [hx]
             rw [if_neg (by decide),if_neg (show ¬(s.size:Int) < (52:Int) % 8 from oF hc45),if_neg (show ¬(bt s 1 < zbu ((52:Int) / 16).toNat∨zbv ((52:Int) / 16).toNat < bt s 1) from fun q=>q.elim (oF hg14_4) (oF hc57)),if_neg (by decide),if_neg (show ¬(bt s 2 < 128∨191 < bt s 2) from fun q=>q.elim (oF hg19_2) (oF hc75)),if_neg (by decide),if_pos (show bt s 3 < 128∨191 < bt s 3 from by first|exact .inl (oT hg24_2)|exact .inr (oT hc98))]
            exact zbz rfl rfl (.drop1 _ _ _) ⟨rfl,by rw [hd];rfl⟩
           ·first|cases hc98|exact absurd hc98 (by decide)|(exfalso;simp_all;done)
          ·refine rn ?_;refine z7 rfl (fun hc98=> ?_) (fun hc98=> ?_)
           ·refine rn ?_;have hd:w6 s=(65533,1):=by
             unfold w6
             rw [if_neg (by omega)]
             simp only [hx]
             rw [if_neg (by decide),if_neg (show ¬(s.size:Int) < (52:Int) % 8 from oF hc45),if_neg (show ¬(bt s 1 < zbu ((52:Int) / 16).toNat∨zbv ((52:Int) / 16).toNat < bt s 1) from fun q=>q.elim (oF hg14_4) (oF hc57)),if_neg (by decide),if_neg (show ¬(bt s 2 < 128∨191 < bt s 2) from fun q=>q.elim (oF hg19_2) (oF hc75)),if_neg (by decide),if_pos (show bt s 3 < 128∨191 < bt s 3 from by first|exact .inl (oT hg24_2)|exact .inr (oT hc98))]
            exact zbz rfl rfl (.drop1 _ _ _) ⟨rfl,by rw [hd];rfl⟩
           ·refine rn ?_;have hd:w6 s=(bI .or .i32 (bI .or .i32 (bI .or .i32 (zdk (bt s 0) 7 18) (zdk (bt s 1) 63 12)) (zdk (bt s 2) 63 6)) (zdk (bt s 3) 63 0),4):=by
             unfold w6
             rw [if_neg (by omega)]
             simp only [hx]
             rw [if_neg (by decide),if_neg (show ¬(s.size:Int) < (52:Int) % 8 from oF hc45),if_neg (show ¬(bt s 1 < zbu ((52:Int) / 16).toNat∨zbv ((52:Int) / 16).toNat < bt s 1) from fun q=>q.elim (oF hg14_4) (oF hc57)),if_neg (by decide),if_neg (show ¬(bt s 2 < 128∨191 < bt s 2) from fun q=>q.elim (oF hg19_2) (oF hc75)),if_neg (by decide),if_neg (show ¬(bt s 3 < 128∨191 < bt s 3) from fun q=>q.elim (oF hg24_2) (oF hc98))]
            exact zbz rfl rfl (.drop1 _ _ _) ⟨rfl,by rw [hd];rfl⟩
theorem zvs (s:ByteArray) (hx:zaw (bt s 0).toNat=4):y7 Tryz.prog 284 [.v (.string s)] [.glob 4 305 y4,.glob 5 308 y1] (fun r h'=>h'= [.glob 4 305 y4,.glob 5 308 y1]∧r= .tup [.v (.int .i32 (w6 s).1),iv (w6 s).2]):=by
 refine z6 Tryz.func284 rfl rfl rfl ?_
 refine rn ?_;refine z7 rfl (fun hc16=> ?_) (fun hc16=> ?_)
 ·refine rn ?_;have hd:w6 s=(65533,0):=by
   unfold w6
   rw [if_pos (by simp at hc16;omega)]
  exact zbz rfl rfl (.refl _ _) ⟨rfl,by rw [hd];rfl⟩
 ·have h1:0 < s.size:=by simp at hc16;omega
  refine rn ?_;refine qq rfl rfl (u9 0 rfl rfl (by omega)) ?_
  refine rn ?_;refine qq rfl rfl (y8 rfl rfl (zg8 _ _) (zg7 _ _)) ?_
  refine qq rfl rfl (zap rfl (show _=some (.v (.int .u8 4)) from by rw [zdb (zg8 s 0) (zg7 s 0),hx])) ?_
  refine rn ?_;refine z7 rfl (fun hc23=> ?_) (fun hc23=> ?_)
  ·first|cases hc23|exact absurd hc23 (by decide)|(exfalso;simp_all;done)
  ·refine rn ?_;refine qq rfl rfl (y8 rfl rfl (by decide) (by decide)) ?_
   refine rn ?_;refine z8 rfl (y5 rfl fun b9=> ?_)
   refine rn ?_;refine z7 rfl (fun hc45=> ?_) (fun hc45=> ?_)
   ·refine rn ?_;have hd:w6 s=(65533,1):=by
     unfold w6
     rw [if_neg (by omega)]
     simp only [hx]
     rw [if_neg (by decide),if_pos (show (s.size:Int) < (4:Int) % 8 from oT hc45)]
    exact zbz rfl rfl (.drop1 _ _ _) ⟨rfl,by rw [hd];rfl⟩
   ·have h2:4≤s.size:=by
     have:¬((s.size:Int) < 4):=oF hc45
     omega
    refine rn ?_;refine qq rfl rfl (u9 1 rfl rfl (by omega)) ?_
    refine rn ?_;refine w7 (fun hg14_4=> ?_) (fun hg14_4=> ?_)
    ·refine rn ?_;refine z7 rfl (fun hc57=> ?_) (fun hc57=> ?_)
     ·refine rn ?_;have hd:w6 s=(65533,1):=by
       unfold w6
       rw [if_neg (by omega)]
       simp only [hx]
       rw [if_neg (by decide),if_neg (show ¬(s.size:Int) < (4:Int) % 8 from oF hc45),if_pos (show bt s 1 < zbu ((4:Int) / 16).toNat∨zbv ((4:Int) / 16).toNat < bt s 1 from by first|exact .inl (oT hg14_4)|exact .inr (oT hc57))]
      exact zbz rfl rfl (.drop1 _ _ _) ⟨rfl,by rw [hd];rfl⟩
     ·first|cases hc57|exact absurd hc57 (by decide)|(exfalso;simp_all;done)
    ·refine rn ?_;refine z7 rfl (fun hc57=> ?_) (fun hc57=> ?_)
     ·refine rn ?_;have hd:w6 s=(65533,1):=by
       unfold w6
       rw [if_neg (by omega)]
       simp only [hx]
       rw [if_neg (by decide),if_neg (show ¬(s.size:Int) < (4:Int) % 8 from oF hc45),if_pos (show bt s 1 < zbu ((4:Int) / 16).toNat∨zbv ((4:Int) / 16).toNat < bt s 1 from by first|exact .inl (oT hg14_4)|exact .inr (oT hc57))]
      exact zbz rfl rfl (.drop1 _ _ _) ⟨rfl,by rw [hd];rfl⟩
     ·refine rn ?_;refine z7 rfl (fun hc59=> ?_) (fun hc59=> ?_)
      ·first|cases hc59|exact absurd hc59 (by decide)|(exfalso;simp_all;done)
      ·refine rn ?_;refine qq rfl rfl (u9 2 rfl rfl (by omega)) ?_
       refine rn ?_;refine w7 (fun hg19_2=> ?_) (fun hg19_2=> ?_)
       ·refine rn ?_;refine z7 rfl (fun hc75=> ?_) (fun hc75=> ?_)
        ·refine rn ?_;have hd:w6 s=(65533,1):=by
          unfold w6
          rw [if_neg (by omega)]
          simp only [hx]
          rw [if_neg (by decide),if_neg (show ¬(s.size:Int) < (4:Int) % 8 from oF hc45),if_neg (show ¬(bt s 1 < zbu ((4:Int) / 16).toNat∨zbv ((4:Int) / 16).toNat < bt s 1) from fun q=>q.elim (oF hg14_4) (oF hc57)),if_neg (by decide),if_pos (show bt s 2 < 128∨191 < bt s 2 from by first|exact .inl (oT hg19_2)|exact .inr (oT hc75))]
         exact zbz rfl rfl (.drop1 _ _ _) ⟨rfl,by rw [hd];rfl⟩
        ·first|cases hc75|exact absurd hc75 (by decide)|(exfalso;simp_all;done)
       ·refine rn ?_;refine z7 rfl (fun hc75=> ?_) (fun hc75=> ?_)
        ·refine rn ?_;have hd:w6 s=(65533,1):=by
          unfold w6
          rw [if_neg (by omega)]
          simp only [hx]
          rw [if_neg (by decide),if_neg (show ¬(s.size:Int) < (4:Int) % 8 from oF hc45),if_neg (show ¬(bt s 1 < zbu ((4:Int) / 16).toNat∨zbv ((4:Int) / 16).toNat < bt s 1) from fun q=>q.elim (oF hg14_4) (oF hc57)),if_neg (by decide),if_pos (show bt s 2 < 128∨191 < bt s 2 from by first|exact .inl (oT hg19_2)|exact .inr (oT hc75))]
         exact zbz rfl rfl (.drop1 _ _ _) ⟨rfl,by rw [hd];rfl⟩
        ·refine rn ?_;refine z7 rfl (fun hc77=> ?_) (fun hc77=> ?_)
         ·first|cases hc77|exact absurd hc77 (by decide)|(exfalso;simp_all;done)
         ·refine rn ?_;refine qq rfl rfl (u9 3 rfl rfl (by omega)) ?_
          refine rn ?_;refine w7 (fun hg24_2=> ?_) (fun hg24_2=> ?_)
          ·refine rn ?_;refine z7 rfl (fun hc98=> ?_) (fun hc98=> ?_)
           ·refine rn ?_;have hd:w6 s=(65533,1):=by
             unfold w6
             rw [if_neg (by omega)]
             simp only [hx]
             rw [if_neg (by decide),if_neg (show ¬(s.size:Int) < (4:Int) % 8 from oF hc45),if_neg (show ¬(bt s 1 < zbu ((4:Int) / 16).toNat∨zbv ((4:Int) / 16).toNat < bt s 1) from fun q=>q.elim (oF hg14_4) (oF hc57)),if_neg (by decide),if_neg (show ¬(bt s 2 < 128∨191 < bt s 2) from fun q=>q.elim (oF hg19_2) (oF hc75)),if_neg (by decide),if_pos (show bt s 3 < 128∨191 < bt s 3 from by first|exact .inl (oT hg24_2)|exact .inr (oT hc98))]
            exact zbz rfl rfl (.drop1 _ _ _) ⟨rfl,by rw [hd];rfl⟩
           ·first|cases hc98|exact absurd hc98 (by decide)|(exfalso;simp_all;done)
          ·refine rn ?_;refine z7 rfl (fun hc98=> ?_) (fun hc98=> ?_)
           ·refine rn ?_;have hd:w6 s=(65533,1):=by
             unfold w6
             rw [if_neg (by omega)]
             simp only [hx]
             rw [if_neg (by decide),if_neg (show ¬(s.size:Int) < (4:Int) % 8 from oF hc45),if_neg (show ¬(bt s 1 < zbu ((4:Int) / 16).toNat∨zbv ((4:Int) / 16).toNat < bt s 1) from fun q=>q.elim (oF hg14_4) (oF hc57)),if_neg (by decide),if_neg (show ¬(bt s 2 < 128∨191 < bt s 2) from fun q=>q.elim (oF hg19_2) (oF hc75)),if_neg (by decide),if_pos (show bt s 3 < 128∨191 < bt s 3 from by first|exact .inl (oT hg24_2)|exact .inr (oT hc98))]
            exact zbz rfl rfl (.drop1 _ _ _) ⟨rfl,by rw [hd];rfl⟩
           ·refine rn ?_;have hd:w6 s=(bI .or .i32 (bI .or .i32 (bI .or .i32 (zdk (bt s 0) 7 18) (zdk (bt s 1) 63 12)) (zdk (bt s 2) 63 6)) (zdk (bt s 3) 63 0),4):=by
             unfold w6
             rw [if_neg (by omega)]
             simp only [hx]
             rw [if_neg (by decide),if_neg (show ¬(s.size:Int) < (4:Int) % 8 from oF hc45),if_neg (show ¬(bt s 1 < zbu ((4:Int) / 16).toNat∨zbv ((4:Int) / 16).toNat < bt s 1) from fun q=>q.elim (oF hg14_4) (oF hc57)),if_neg (by decide),if_neg (show ¬(bt s 2 < 128∨191 < bt s 2) from fun q=>q.elim (oF hg19_2) (oF hc75)),if_neg (by decide),if_neg (show ¬(bt s 3 < 128∨191 < bt s 3) from fun q=>q.elim (oF hg24_2) (oF hc98))]
            exact zbz rfl rfl (.drop1 _ _ _) ⟨rfl,by rw [hd];rfl⟩
theorem ztd (s:ByteArray) (hx:zaw (bt s 0).toNat=68):y7 Tryz.prog 284 [.v (.string s)] [.glob 4 305 y4,.glob 5 308 y1] (fun r h'=>h'= [.glob 4 305 y4,.glob 5 308 y1]∧r= .tup [.v (.int .i32 (w6 s).1),iv (w6 s).2]):=by
 refine z6 Tryz.func284 rfl rfl rfl ?_
 refine rn ?_;refine z7 rfl (fun hc16=> ?_) (fun hc16=> ?_)
 ·refine rn ?_;have hd:w6 s=(65533,0):=by
   unfold w6
   rw [if_pos (by simp at hc16;omega)]
  exact zbz rfl rfl (.refl _ _) ⟨rfl,by rw [hd];rfl⟩
 ·have h1:0 < s.size:=by simp at hc16;omega
  refine rn ?_;refine qq rfl rfl (u9 0 rfl rfl (by omega)) ?_
  refine rn ?_;refine qq rfl rfl (y8 rfl rfl (zg8 _ _) (zg7 _ _)) ?_
  refine qq rfl rfl (zap rfl (show _=some (.v (.int .u8 68)) from by rw [zdb (zg8 s 0) (zg7 s 0),hx])) ?_
  refine rn ?_;refine z7 rfl (fun hc23=> ?_) (fun hc23=> ?_)
  ·first|cases hc23|exact absurd hc23 (by decide)|(exfalso;simp_all;done)
  ·refine rn ?_;refine qq rfl rfl (y8 rfl rfl (by decide) (by decide)) ?_
   refine rn ?_;refine z8 rfl (y5 rfl fun b9=> ?_)
   refine rn ?_;refine z7 rfl (fun hc45=> ?_) (fun hc45=> ?_)
   ·refine rn ?_;have hd:w6 s=(65533,1):=by
     unfold w6
     rw [if_neg (by omega)]
     simp only [hx]
     rw [if_neg (by decide),if_pos (show (s.size:Int) < (68:Int) % 8 from oT hc45)]
    exact zbz rfl rfl (.drop1 _ _ _) ⟨rfl,by rw [hd];rfl⟩
   ·have h2:4≤s.size:=by
     have:¬((s.size:Int) < 4):=oF hc45
     omega
    refine rn ?_;refine qq rfl rfl (u9 1 rfl rfl (by omega)) ?_
    refine rn ?_;refine w7 (fun hg14_4=> ?_) (fun hg14_4=> ?_)
    ·refine rn ?_;refine z7 rfl (fun hc57=> ?_) (fun hc57=> ?_)
     ·refine rn ?_;have hd:w6 s=(65533,1):=by
       unfold w6
       rw [if_neg (by omega)]
       simp only [hx]
       rw [if_neg (by decide),if_neg (show ¬(s.size:Int) < (68:Int) % 8 from oF hc45),if_pos (show bt s 1 < zbu ((68:Int) / 16).toNat∨zbv ((68:Int) / 16).toNat < bt s 1 from by first|exact .inl (oT hg14_4)|exact .inr (oT hc57))]
      exact zbz rfl rfl (.drop1 _ _ _) ⟨rfl,by rw [hd];rfl⟩
     ·first|cases hc57|exact absurd hc57 (by decide)|(exfalso;simp_all;done)
    ·refine rn ?_;refine z7 rfl (fun hc57=> ?_) (fun hc57=> ?_)
     ·refine rn ?_;have hd:w6 s=(65533,1):=by
       unfold w6
       rw [if_neg (by omega)]
       simp only [hx]
       rw [if_neg (by decide),if_neg (show ¬(s.size:Int) < (68:Int) % 8 from oF hc45),if_pos (show bt s 1 < zbu ((68:Int) / 16).toNat∨zbv ((68:Int) / 16).toNat < bt s 1 from by first|exact .inl (oT hg14_4)|exact .inr (oT hc57))]
      exact zbz rfl rfl (.drop1 _ _ _) ⟨rfl,by rw [hd];rfl⟩
     ·refine rn ?_;refine z7 rfl (fun hc59=> ?_) (fun hc59=> ?_)
      ·first|cases hc59|exact absurd hc59 (by decide)|(exfalso;simp_all;done)
      ·refine rn ?_;refine qq rfl rfl (u9 2 rfl rfl (by omega)) ?_
       refine rn ?_;refine w7 (fun hg19_2=> ?_) (fun hg19_2=> ?_)
       ·refine rn ?_;refine z7 rfl (fun hc75=> ?_) (fun hc75=> ?_)
        ·refine rn ?_;have hd:w6 s=(65533,1):=by
          unfold w6
          rw [if_neg (by omega)]
          simp only [hx]
          rw [if_neg (by decide),if_neg (show ¬(s.size:Int) < (68:Int) % 8 from oF hc45),if_neg (show ¬(bt s 1 < zbu ((68:Int) / 16).toNat∨zbv ((68:Int) / 16).toNat < bt s 1) from fun q=>q.elim (oF hg14_4) (oF hc57)),if_neg (by decide),if_pos (show bt s 2 < 128∨191 < bt s 2 from by first|exact .inl (oT hg19_2)|exact .inr (oT hc75))]
         exact zbz rfl rfl (.drop1 _ _ _) ⟨rfl,by rw [hd];rfl⟩
        ·first|cases hc75|exact absurd hc75 (by decide)|(exfalso;simp_all;done)
       ·refine rn ?_;refine z7 rfl (fun hc75=> ?_) (fun hc75=> ?_)
        ·refine rn ?_;have hd:w6 s=(65533,1):=by
          unfold w6
          rw [if_neg (by omega)]
          simp only [hx]
          rw [if_neg (by decide),if_neg (show ¬(s.size:Int) < (68:Int) % 8 from oF hc45),if_neg (show ¬(bt s 1 < zbu ((68:Int) / 16).toNat∨zbv ((68:Int) / 16).toNat < bt s 1) from fun q=>q.elim (oF hg14_4) (oF hc57)),if_neg (by decide),if_pos (show bt s 2 < 128∨191 < bt s 2 from by first|exact .inl (oT hg19_2)|exact .inr (oT hc75))]
         exact zbz rfl rfl (.drop1 _ _ _) ⟨rfl,by rw [hd];rfl⟩
        ·refine rn ?_;refine z7 rfl (fun hc77=> ?_) (fun hc77=> ?_)
         ·first|cases hc77|exact absurd hc77 (by decide)|(exfalso;simp_all;done)
         ·refine rn ?_;refine qq rfl rfl (u9 3 rfl rfl (by omega)) ?_
          refine rn ?_;refine w7 (fun hg24_2=> ?_) (fun hg24_2=> ?_)
          ·refine rn ?_;refine z7 rfl (fun hc98=> ?_) (fun hc98=> ?_)
           ·refine rn ?_;have hd:w6 s=(65533,1):=by
             unfold w6
             rw [if_neg (by omega)]
             simp only [hx]
             rw [if_neg (by decide),if_neg (show ¬(s.size:Int) < (68:Int) % 8 from oF hc45),if_neg (show ¬(bt s 1 < zbu ((68:Int) / 16).toNat∨zbv ((68:Int) / 16).toNat < bt s 1) from fun q=>q.elim (oF hg14_4) (oF hc57)),if_neg (by decide),if_neg (show ¬(bt s 2 < 128∨191 < bt s 2) from fun q=>q.elim (oF hg19_2) (oF hc75)),if_neg (by decide),if_pos (show bt s 3 < 128∨191 < bt s 3 from by first|exact .inl (oT hg24_2)|exact .inr (oT hc98))]
            exact zbz rfl rfl (.drop1 _ _ _) ⟨rfl,by rw [hd];rfl⟩
           ·first|cases hc98|exact absurd hc98 (by decide)|(exfalso;simp_all;done)
          ·refine rn ?_;refine z7 rfl (fun hc98=> ?_) (fun hc98=> ?_)
           ·refine rn ?_;have hd:w6 s=(65533,1):=by
             unfold w6
             rw [if_neg (by omega)]
             simp only [hx]
             rw [if_neg (by decide),if_neg (show ¬(s.size:Int) < (68:Int) % 8 from oF hc45),if_neg (show ¬(bt s 1 < zbu ((68:Int) / 16).toNat∨zbv ((68:Int) / 16).toNat < bt s 1) from fun q=>q.elim (oF hg14_4) (oF hc57)),if_neg (by decide),if_neg (show ¬(bt s 2 < 128∨191 < bt s 2) from fun q=>q.elim (oF hg19_2) (oF hc75)),if_neg (by decide),if_pos (show bt s 3 < 128∨191 < bt s 3 from by first|exact .inl (oT hg24_2)|exact .inr (oT hc98))]
            exact zbz rfl rfl (.drop1 _ _ _) ⟨rfl,by rw [hd];rfl⟩
           ·refine rn ?_;have hd:w6 s=(bI .or .i32 (bI .or .i32 (bI .or .i32 (zdk (bt s 0) 7 18) (zdk (bt s 1) 63 12)) (zdk (bt s 2) 63 6)) (zdk (bt s 3) 63 0),4):=by
             unfold w6
             rw [if_neg (by omega)]
             simp only [hx]
             rw [if_neg (by decide),if_neg (show ¬(s.size:Int) < (68:Int) % 8 from oF hc45),if_neg (show ¬(bt s 1 < zbu ((68:Int) / 16).toNat∨zbv ((68:Int) / 16).toNat < bt s 1) from fun q=>q.elim (oF hg14_4) (oF hc57)),if_neg (by decide),if_neg (show ¬(bt s 2 < 128∨191 < bt s 2) from fun q=>q.elim (oF hg19_2) (oF hc75)),if_neg (by decide),if_neg (show ¬(bt s 3 < 128∨191 < bt s 3) from fun q=>q.elim (oF hg24_2) (oF hc98))]
            exact zbz rfl rfl (.drop1 _ _ _) ⟨rfl,by rw [hd];rfl⟩
theorem zpz (s:ByteArray):y7 Tryz.prog 284 [.v (.string s)] [.glob 4 305 y4,.glob 5 308 y1] (fun r h'=>h'= [.glob 4 305 y4,.glob 5 308 y1]∧r= .tup [.v (.int .i32 (w6 s).1),iv (w6 s).2]):=by
 rcases zey (bt s 0).toNat with hx|hx|hx|hx|hx|hx|hx|hx|hx
 ·exact zri s hx
 ·exact zrh s hx
 ·exact zvu s hx
 ·exact ztg s hx
 ·exact zvt s hx
 ·exact ztf s hx
 ·exact zte s hx
 ·exact zvs s hx
 ·exact ztd s hx
theorem zzr (s:ByteArray):y7 Tryz.prog 281 [.v (.string s)] [.glob 4 305 y4,.glob 5 308 y1] (fun r h'=>h'= [.glob 4 305 y4,.glob 5 308 y1]∧r= .tup [.v (.int .i32 (zfh s).1),iv (zfh s).2]):=by
 refine z6 Tryz.func281 rfl rfl rfl ?_
 refine rn ?_;refine w7 (fun hg1_2=> ?_) (fun hg1_2=> ?_)
 ·refine rn ?_;have h1:0 < s.size:=yau hg1_2
  refine qq rfl rfl (u9 0 rfl rfl (by omega)) ?_
  refine rn ?_;refine z7 rfl (fun hc10=> ?_) (fun hc10=> ?_)
  ·refine rn ?_;refine qq rfl rfl (u9 0 rfl rfl (by omega)) ?_
   refine rn ?_;have hd:zfh s=(bt s 0,1):=by
    unfold zfh
    exact if_pos ⟨yau hg1_2,oT hc10⟩
   exact zbz rfl rfl (.refl _ _) ⟨rfl,by rw [hd];exact congrArg (fun c=>AV.tup [.v (.int .i32 c),iv 1]) (yer s 0)⟩
  ·refine rn ?_;refine qv rfl rfl (y2 rfl rfl (y0.of_fun (zpz s))) ?_
   refine rn ?_;have hd:zfh s=w6 s:=by
    unfold zfh
    exact if_neg fun q=>by first|exact yjr hg1_2 q.1|exact absurd q.2 (oF hc10)
   exact zbz rfl rfl (.refl _ _) ⟨rfl,by rw [hd];rfl⟩
 ·refine rn ?_;refine zd9 rfl ?_;refine rn ?_;refine qv rfl rfl (y2 rfl rfl (y0.of_fun (zpz s))) ?_
  refine rn ?_;have hd:zfh s=w6 s:=by
   unfold zfh
   exact if_neg fun q=>by first|exact yjr hg1_2 q.1|exact absurd q.2 (oF hc10)
  exact zbz rfl rfl (.refl _ _) ⟨rfl,by rw [hd];rfl⟩
theorem yd2 {f g:Bool} (l m:List Seen) (hl:l.length≤4611686018427387904) (hm:m.length≤4611686018427387904):y7 Tryz.prog 271 [.list f 3 (l.map zah),.list g 3 (m.map zah)] [] (fun r h'=>h'= []∧r=bv (eqF zf6 l m)):=by
 refine z6 Tryz.func271 rfl rfl rfl ?_
 refine rn ?_;refine z7 rfl (fun hc10=> ?_) (fun hc10=> ?_)
 ·refine rn ?_;have hne:(l.length==m.length)=false:=beq_eq_false_iff_ne.2 fun q=>by simp [q] at hc10
  exact j9 rfl (.refl _ _) ⟨rfl,by rw [eqF,hne,Bool.false_and];rfl⟩
 ·have hlm:l.length=m.length:=by simp at hc10;omega
  refine rn ?_;refine zab (fun k:Nat=>k≤l.length∧zrt zf6 l m=zrt zf6 (l.drop k) (m.drop k)) (fun k=>⟨[(13,iv k),(12,iv (l.map zah).length),(0,.list f 3 (l.map zah)),(1,.list g 3 (m.map zah))],[],[]⟩) (fun k=>l.length - k) 0 ⟨Nat.zero_le _,by simp⟩
   (v7 (.cons _ _ _ rfl (.cons _ _ _ rfl (.cons _ _ _ rfl (.cons _ _ _ rfl (.nil)))))) ?_
  rintro k ⟨hk,hz⟩
  refine rn ?_;refine z7 rfl (fun hc14=> ?_) (fun hc14=> ?_)
  ·have hk2:k < l.length:=by simpa using hc14
   have hk3:k < m.length:=by omega
   have hrow1:(l.map zah)[k]? =some (zah l[k]):=by simp [hk2]
   have hrow2:(m.map zah)[k]? =some (zah m[k]):=by simp [hk3]
   have hd1:=List.drop_eq_getElem_cons hk2
   have hd2:=List.drop_eq_getElem_cons hk3
   refine rn ?_;refine j4 8 rfl ?_
   refine rn ?_;refine z7 rfl (fun hc24=> ?_) (fun hc24=> ?_)
   ·refine rn ?_;exact j9 rfl (.refl _ _) ⟨rfl,by rw [eqF,hz,hd1,hd2,zrt,show zf6 l[k] m[k]=false from ycm hc24,Bool.false_and,Bool.and_false];rfl⟩
   ·refine rn ?_;exact ⟨k+1,⟨by omega,by rw [hz,hd1,hd2,zrt,show zf6 l[k] m[k]=true from ycn hc24,Bool.true_and]⟩,(v7 (.cons _ _ _ rfl (.cons _ _ _ rfl (.cons _ _ _ rfl (.cons _ _ _ rfl (.nil)))))),by omega⟩
  ·have hk3:k=l.length:=by
    have:l.length≤k:=by simpa using hc14
    omega
   refine rn ?_;exact j9 rfl (.refl _ _) ⟨rfl,by rw [eqF,hz,hk3,List.drop_length,zqd,hlm,beq_self_eq_true];rfl⟩
theorem zzg (l:Int):y7 Tryz.prog 232 [iv l] [] (fun r h'=>h'= []∧r=iv (yh1 l)):=by
 refine z6 Tryz.func232 rfl rfl rfl ?_
 refine rn ?_;refine w7 (fun hg1_2=> ?_) (fun hg1_2=> ?_)
 ·refine rn ?_;refine zfp rfl ?_;refine rn ?_;exact j9 rfl (.refl _ _) ⟨rfl,congrArg iv (by simp_all [yh1])⟩
 ·refine rn ?_;refine z7 rfl (fun hc8=> ?_) (fun hc8=> ?_)
  ·refine rn ?_;exact j9 rfl (.refl _ _) ⟨rfl,congrArg iv (by simp_all [yh1])⟩
  ·refine rn ?_;exact j9 rfl (.refl _ _) ⟨rfl,congrArg iv (by simp_all [yh1])⟩
theorem zsz (c:Int):y7 Tryz.prog 224 [.v (.int .i32 c)] [] (fun r h'=>h'= []∧r=bv (zko c)):=by
 refine z6 Tryz.func224 rfl rfl rfl ?_
 refine rn ?_;refine w7 (fun hg1_2=> ?_) (fun hg1_2=> ?_)
 ·refine rn ?_;exact j9 rfl (.refl _ _) ⟨rfl,congrArg bv (by first|(simp only [zko, *,Bool.true_and,Bool.false_and,Bool.and_false,Bool.and_true,Bool.true_or,Bool.or_false,Bool.false_or,Bool.or_true,if_true,if_false,Bool.false_eq_true,Bool.not_true,Bool.not_false];done)|(simp_all [zko];done)|(simp_all [zko] <;> omega))⟩
 ·refine rn ?_;exact j9 rfl (.refl _ _) ⟨rfl,congrArg bv (by first|(simp only [zko, *,Bool.true_and,Bool.false_and,Bool.and_false,Bool.and_true,Bool.true_or,Bool.or_false,Bool.false_or,Bool.or_true,if_true,if_false,Bool.false_eq_true,Bool.not_true,Bool.not_false];done)|(simp_all [zko];done)|(simp_all [zko] <;> omega))⟩
theorem bvz0_4692 {a b:Bool} (h:a=b:=by first|(simp only [zt0, *,Bool.true_and,Bool.false_and,Bool.and_false,Bool.and_true,Bool.true_or,Bool.or_false,Bool.false_or,Bool.or_true,if_true,if_false,Bool.false_eq_true,Bool.not_true,Bool.not_false];done)|(simp_all [zt0];done)|(simp_all [zt0] <;> omega)):bv a=bv b:=congrArg bv h
theorem yc3 (c:Int):y7 Tryz.prog 267 [.v (.int .i32 c)] [] (fun r h'=>h'= []∧r=bv (zt0 c)):=by
 refine z6 Tryz.func267 rfl rfl rfl ?_
 refine rn ?_;refine w7 (fun hg1_2=> ?_) (fun hg1_2=> ?_)
 ·refine rn ?_;exact j9 rfl (.refl _ _) ⟨rfl,bvz0_4692⟩
 ·refine rn ?_;refine w7 (fun hg1_5=> ?_) (fun hg1_5=> ?_)
  ·refine rn ?_;refine w7 (fun hg1_10=> ?_) (fun hg1_10=> ?_)
   ·refine rn ?_;exact j9 rfl (.refl _ _) ⟨rfl,bvz0_4692⟩
   ·refine rn ?_;refine w7 (fun hg1_13=> ?_) (fun hg1_13=> ?_)
    ·refine rn ?_;refine w7 (fun hg1_18=> ?_) (fun hg1_18=> ?_)
     ·refine rn ?_;exact j9 rfl (.refl _ _) ⟨rfl,bvz0_4692⟩
     ·refine rn ?_;exact j9 rfl (.refl _ _) ⟨rfl,bvz0_4692⟩
    ·refine rn ?_;exact j9 rfl (.refl _ _) ⟨rfl,bvz0_4692⟩
  ·refine rn ?_;refine w7 (fun hg1_13=> ?_) (fun hg1_13=> ?_)
   ·refine rn ?_;refine w7 (fun hg1_18=> ?_) (fun hg1_18=> ?_)
    ·refine rn ?_;exact j9 rfl (.refl _ _) ⟨rfl,bvz0_4692⟩
    ·refine rn ?_;exact j9 rfl (.refl _ _) ⟨rfl,bvz0_4692⟩
   ·refine rn ?_;exact j9 rfl (.refl _ _) ⟨rfl,bvz0_4692⟩
theorem yc4 (c:Int):y7 Tryz.prog 226 [.v (.int .i32 c)] [] (fun r h'=>h'= []∧r=bv (zt0 c||zko c)):=by
 refine z6 Tryz.func226 rfl rfl rfl ?_
 refine rn ?_;refine qv rfl rfl (y2 rfl rfl (u3 (yc3 _) (Sbs.refl _))) ?_
 refine rn ?_;refine w7 (fun hg1_2=> ?_) (fun hg1_2=> ?_)
 ·refine rn ?_;exact j9 rfl (.refl _ _) ⟨rfl,congrArg bv (by first|(simp only [*,Bool.true_and,Bool.false_and,Bool.and_false,Bool.and_true,Bool.true_or,Bool.or_false,Bool.false_or,Bool.or_true,if_true,if_false,Bool.false_eq_true,Bool.not_true,Bool.not_false];done)|(simp_all;done)|(simp_all <;> omega))⟩
 ·refine rn ?_;refine qv rfl rfl (y2 rfl rfl (u3 (zsz _) (Sbs.refl _))) ?_
  refine rn ?_;exact j9 rfl (.refl _ _) ⟨rfl,congrArg bv (by first|(simp only [*,Bool.true_and,Bool.false_and,Bool.and_false,Bool.and_true,Bool.true_or,Bool.or_false,Bool.false_or,Bool.or_true,if_true,if_false,Bool.false_eq_true,Bool.not_true,Bool.not_false];done)|(simp_all;done)|(simp_all <;> omega))⟩
theorem ym7 (h:Hist):y7 Tryz.prog 142 [.agg (y9 h)] [] (fun r h'=>h'= []∧r= .agg (zlp h)):=by
 refine z6 Tryz.func142 rfl rfl rfl ?_
 refine rn ?_;refine z8 rfl (w8 rfl rfl rfl fun b1=> ?_)
 refine z8 rfl (y5 rfl fun b2=> ?_)
 refine rn ?_;exact zef (.cons _ _ _ _ (.agg _ _ _ _ _ _ _ rfl inferInstance inferInstance inferInstance rfl) .nil) (.drop [_,_] _ _) ⟨rfl,rfl⟩
theorem zz1 (h:Hist) (sort:Nat) (n:Int) (l:List ByteArray) (hs:(zlp h)[sort]? =some (zdf l)) (hs4:sort < 4):y7 Tryz.prog 191 [.agg (y9 h),iv sort,iv n] [] (fun r h'=>h'= []∧r=bv (zcb l n)):=by
 refine z6 Tryz.func191 rfl rfl rfl ?_
 refine rn ?_;refine z8 rfl (w8 rfl rfl rfl fun b3=> ?_)
 refine rn ?_;refine w7 (fun hg1_2=> ?_) (fun hg1_2=> ?_)
 ·refine rn ?_;refine qv rfl rfl (y2 rfl rfl (u3 (ym7 _) (Sbs.refl _))) ?_
  refine q1 ?_;refine qq rfl rfl (zct rfl rfl (by omega) (by simpa using hs)) ?_
  refine rn ?_;exact j9 rfl (.drop1 _ _ _) ⟨rfl,congrArg bv (by first|(simp only [zcb, *,Bool.true_and,Bool.false_and,Bool.and_false,Bool.and_true,Bool.true_or,Bool.or_false,Bool.false_or,Bool.or_true,if_true,if_false,Bool.false_eq_true,Bool.not_true,Bool.not_false];done)|(simp_all [zcb];done)|(simp_all [zcb] <;> omega))⟩
 ·refine rn ?_;exact j9 rfl (.drop1 _ _ _) ⟨rfl,congrArg bv (by first|(simp only [zcb, *,Bool.true_and,Bool.false_and,Bool.and_false,Bool.and_true,Bool.true_or,Bool.or_false,Bool.false_or,Bool.or_true,if_true,if_false,Bool.false_eq_true,Bool.not_true,Bool.not_false];done)|(simp_all [zcb];done)|(simp_all [zcb] <;> omega))⟩
theorem bvz1_3028 {a b:Bool} (h:a=b:=by first|(simp only [zo1, *,Bool.true_and,Bool.false_and,Bool.and_false,Bool.and_true,Bool.true_or,Bool.or_false,Bool.false_or,Bool.or_true,if_true,if_false,Bool.false_eq_true,Bool.not_true,Bool.not_false];done)|(simp_all [zo1];done)|(simp_all [zo1] <;> omega)):bv a=bv b:=congrArg bv h
theorem zub (h:Hist) (v:Ver):y7 Tryz.prog 234 [.agg (y9 h),.agg (zyk v)] [] (fun r h'=>h'= []∧r=bv (zo1 h.ts v)):=by
 refine z6 Tryz.func234 rfl rfl rfl ?_
 refine rn ?_;refine z8 rfl (w8 rfl rfl rfl fun b2=> ?_)
 refine z8 rfl (w8 rfl rfl rfl fun b3=> ?_)
 refine rn ?_;refine z7 rfl (fun hc7=> ?_) (fun hc7=> ?_)
 ·refine rn ?_;exact j9 rfl (.drop [_,_] _ _) ⟨rfl,bvz1_3028⟩
 ·refine rn ?_;refine qv rfl rfl (y2 rfl rfl (u3 (zz1 _ 0 _ _ rfl (by decide)) (Sbs.refl _))) ?_
  refine rn ?_;refine w7 (fun hg3_4=> ?_) (fun hg3_4=> ?_)
  ·refine rn ?_;refine w7 (fun hg3_9=> ?_) (fun hg3_9=> ?_)
   ·refine rn ?_;exact j9 rfl (.drop [_,_] _ _) ⟨rfl,bvz1_3028⟩
   ·refine rn ?_;exact j9 rfl (.drop [_,_] _ _) ⟨rfl,bvz1_3028⟩
  ·refine rn ?_;exact j9 rfl (.drop [_,_] _ _) ⟨rfl,bvz1_3028⟩
theorem bvz2_8428 {a b:Bool} (h:a=b:=by first|(simp only [zkp, *,Bool.true_and,Bool.false_and,Bool.and_false,Bool.and_true,Bool.true_or,Bool.or_false,Bool.false_or,Bool.or_true,if_true,if_false,Bool.false_eq_true,Bool.not_true,Bool.not_false];done)|(simp_all [zkp];done)|(simp_all [zkp] <;> omega)):bv a=bv b:=congrArg bv h
theorem ybc (a b:Ev) (ha:a.scan.length≤4611686018427387904) (hb:b.scan.length≤4611686018427387904):y7 Tryz.prog 241 [.agg (evR a),.agg (evR b)] [] (fun r h'=>h'= []∧r=bv (zkp a b)):=by
 refine z6 Tryz.func241 rfl rfl rfl ?_
 refine rn ?_;refine z8 rfl (w8 rfl rfl rfl fun b2=> ?_)
 refine z8 rfl (w8 rfl rfl rfl fun b3=> ?_)
 refine rn ?_;refine w7 (fun hg1_5=> ?_) (fun hg1_5=> ?_)
 ·refine rn ?_;refine w7 (fun hg1_12=> ?_) (fun hg1_12=> ?_)
  ·refine rn ?_;refine w7 (fun hg1_19=> ?_) (fun hg1_19=> ?_)
   ·refine rn ?_;refine w7 (fun hg2_1=> ?_) (fun hg2_1=> ?_)
    ·refine rn ?_;refine w7 (fun hg2_8=> ?_) (fun hg2_8=> ?_)
     ·refine rn ?_;refine w7 (fun hg2_15=> ?_) (fun hg2_15=> ?_)
      ·refine rn ?_;refine w7 (fun hg2_22=> ?_) (fun hg2_22=> ?_)
       ·refine rn ?_;refine qv rfl rfl (y2 rfl rfl (u3 (yd2 _ _ ha hb) (Sbs.refl _))) ?_
        refine rn ?_;exact j9 rfl (.drop [_,_] _ _) ⟨rfl,bvz2_8428⟩
       ·refine rn ?_;exact j9 rfl (.drop [_,_] _ _) ⟨rfl,bvz2_8428⟩
      ·refine rn ?_;exact j9 rfl (.drop [_,_] _ _) ⟨rfl,bvz2_8428⟩
     ·refine rn ?_;exact j9 rfl (.drop [_,_] _ _) ⟨rfl,bvz2_8428⟩
    ·refine rn ?_;exact j9 rfl (.drop [_,_] _ _) ⟨rfl,bvz2_8428⟩
   ·refine rn ?_;exact j9 rfl (.drop [_,_] _ _) ⟨rfl,bvz2_8428⟩
  ·refine rn ?_;exact j9 rfl (.drop [_,_] _ _) ⟨rfl,bvz2_8428⟩
 ·refine rn ?_;exact j9 rfl (.drop [_,_] _ _) ⟨rfl,bvz2_8428⟩
theorem ygn (s:ByteArray) (i:Nat) (c:Int) (bs bi bc:Nat) (hi:i≤s.size):y7 Tryz.prog 280 [pZ bs,pZ bi,pZ bc] [.box bs 9 [sv s],.box bi 3 [iv (i:Nat)],.box bc 21 [.v (.int .i32 c)],.glob 4 305 y4,.glob 5 308 y1] (fun r h'=>h'= [.box bs 9 [sv s],.box bi 3 [iv (i:Nat)],.box bc 21 [.v (.int .i32 c)],.glob 4 305 y4,.glob 5 308 y1]∧r= .tup [.v (.int .i32 c),bv (zr0 s i c)]):=by
 refine z6 Tryz.func280 rfl rfl rfl ?_
 refine w9 (y6 ?_)
 refine q1 ?_;refine q1 ?_;refine u4 (zac ?_)
 refine w9 (y6 ?_)
 refine q1 ?_;refine q1 ?_;refine qq rfl rfl (zei rfl rfl hi) ?_
 refine qv rfl rfl (y2 rfl rfl (y0.quiet (R:=fun x=>x=_) (h2:= [_,_,_]) (List.perm_append_comm (l₁:= [_,_,_])) (y0.of_fun (zzr (s.extract i s.size))))) ?_
 refine rn ?_;refine w7 (fun hg2_3=> ?_) (fun hg2_3=> ?_)
 ·refine rn ?_;exact zbz rfl rfl (.refl _ _) ⟨rfl,congrArg (fun b=>AV.tup [.v (.int .i32 c),bv b]) (by first|(simp only [zr0, *,Bool.true_and,Bool.false_and,Bool.and_false,Bool.and_true,Bool.true_or,Bool.or_false,Bool.false_or,Bool.or_true,if_true,if_false,Bool.false_eq_true,Bool.not_true,Bool.not_false];done)|(simp_all [zr0];done))⟩
 ·refine rn ?_;exact zbz rfl rfl (.refl _ _) ⟨rfl,congrArg (fun b=>AV.tup [.v (.int .i32 c),bv b]) (by first|(simp only [zr0, *,Bool.true_and,Bool.false_and,Bool.and_false,Bool.and_true,Bool.true_or,Bool.or_false,Bool.false_or,Bool.or_true,if_true,if_false,Bool.false_eq_true,Bool.not_true,Bool.not_false];done)|(simp_all [zr0];done))⟩
theorem ybf (s:ByteArray) (bs:Nat) (y:AV) (p:Nat→Int→Bool) (I:List Res→Prop) (J:Nat→List Res→Prop) (hy:∀(i bi bc it:Nat) (L:List Res),i < s.size→I L→y0 Tryz.prog y [iv i,.fn (.func 280) [] [pZ bs,pZ bi,pZ bc]] (.box bc 21 [.v (.int .i32 (Utf8.decode s i).1)]:: .box bi 3 [iv (i:Nat)]:: .obj it (.stringIter s (i+(Utf8.decode s i).2)):: .box bs 9 [sv s]::L) (fun r h'=>∃L',h'= .box bc 21 [.v (.int .i32 (Utf8.decode s i).1)]:: .box bi 3 [iv (i:Nat)]:: .obj it (.stringIter s (i+(Utf8.decode s i).2)):: .box bs 9 [sv s]::L'∧((p i (Utf8.decode s i).1=true∧r=bv true∧I L')∨(p i (Utf8.decode s i).1=false∧r=bv false∧J i L')))) (L0:List Res) (h0:I L0):y7 Tryz.prog 279 [y,pZ bs] (.box bs 9 [sv s]::L0) (fun r h'=>∃L',h'= .box bs 9 [sv s]::L'∧((zec s p 0=s.size∧I L')∨(zec s p 0 < s.size∧J (zec s p 0) L'))):=by
 refine z6 Tryz.func279 rfl rfl rfl ?_
 refine rn ?_;refine z8 rfl (zln rfl rfl fun b7=> ?_)
 refine rn ?_;refine zab (fun x:Nat×List Res=>zec s p 0=zec s p x.1∧I x.2) (fun x=>⟨[(7,pZ b7),(0,y),(1,pZ bs)],.obj b7 (.stringIter s x.1):: .box bs 9 [sv s]::x.2,[]⟩) (fun x=>s.size - x.1) (0,L0) ⟨rfl,h0⟩
  (v7 (.cons _ _ _ rfl (.cons _ _ _ rfl (.cons _ _ _ rfl (.nil))))) ?_
 rintro ⟨k,L⟩ ⟨hw,hI⟩
 simp only at hw hI
 refine w9 (y6 ?_)
 refine z8 rfl (znn rfl rfl (fun hp=> ?_) (fun hp=> ?_))
 ·refine rn ?_;refine z7 rfl (fun hc9=> ?_) (fun hc9=> ?_)
  ·first|cases hc9|exact absurd hc9 (by decide)|(exfalso;simp_all;done)
  ·refine rn ?_;exact zd2 .nil (.drop1 _ _ _) ⟨_,rfl,.inl ⟨by rw [hw,zid hp],hI⟩⟩
 ·refine rn ?_;refine z7 rfl (fun hc9=> ?_) (fun hc9=> ?_)
  ·refine rn ?_;refine z8 rfl (y5 rfl fun b3=> ?_)
   refine z8 rfl (y5 rfl fun b4=> ?_)
   first|refine z8 rfl (j5 rfl rfl rfl ?_)|refine z8 rfl (zak rfl rfl rfl rfl (Nat.le_of_ble_eq_true rfl) ?_)
   first|refine z8 rfl (j5 rfl rfl rfl ?_)|refine z8 rfl (zak rfl rfl rfl rfl (Nat.le_of_ble_eq_true rfl) ?_)
   refine u4 (zac ?_)
   refine w9 (y6 ?_)
   refine q1 ?_;refine q1 ?_;refine u4 (zac ?_)
   refine w9 (y6 ?_)
   refine q1 ?_;refine q1 ?_;refine q1 ?_;refine z8 rfl (v2 rfl rfl (hy k b3 b4 b7 L hp hI) rfl ?_)
   rintro av h' ⟨L',rfl,⟨hp1,rfl,hI2⟩|⟨hp1,rfl,hJ⟩⟩
   ·refine rn ?_;refine z7 rfl (fun hc17=> ?_) (fun hc17=> ?_)
    ·first|cases hc17|exact absurd hc17 (by decide)|(exfalso;simp_all;done)
    ·refine rn ?_;exact ⟨(k+(Utf8.decode s k).2,L'),⟨hw.trans (zjt hp hp1),hI2⟩,(v8 (zcp (h1:= [_,_])) (v7 (.cons _ _ _ rfl (.cons _ _ _ rfl (.cons _ _ _ rfl (.nil)))))),by have:=zjs s k;simp only at hp ⊢;omega⟩
   ·refine rn ?_;refine z7 rfl (fun hc17=> ?_) (fun hc17=> ?_)
    ·refine rn ?_;exact zef .nil (.drop [_,_,_] _ _) ⟨_,rfl,.inr (by rw [hw,zi7 hp hp1];exact ⟨hp,hJ⟩)⟩
    ·first|cases hc17|exact absurd hc17 (by decide)|(exfalso;simp_all;done)
  ·first|cases hc9|exact absurd hc9 (by decide)|(exfalso;simp_all;done)
theorem yt5 (s:ByteArray) (h:List Res):y7 Tryz.prog 266 [sv s] h (fun r h'=>∃bs,h'= .box bs 9 [sv s]::h∧r= .fn (.func 279) [] [pZ bs]):=by
 refine z6 Tryz.func266 rfl rfl rfl ?_
 refine rn ?_;refine z8 rfl (w8 rfl rfl rfl fun b1=> ?_)
 refine rn ?_;exact j9 rfl (.refl _ _) ⟨_,rfl,rfl⟩
theorem yh0 (s:ByteArray) (fv:AV) (g:Int→Bool) (hone:fv.cellsOf=some [fv]) (hgo:∀c h,y0 Tryz.prog fv [.v (.int .i32 c)] h (fun r h'=>h'=h∧r=bv (g c))):y7 Tryz.prog 225 [sv s,fv] [.glob 4 305 y4,.glob 5 308 y1] (fun r h'=>h'= [.glob 4 305 y4,.glob 5 308 y1]∧r=iv (zec s (zd4 s g) 0:Nat)):=by
 refine z6 Tryz.func225 rfl rfl rfl ?_
 refine rn ?_;refine z8 rfl (w8 rfl hone rfl fun b3=> ?_)
 refine rn ?_;refine zkm ?_;refine rn ?_;refine z8 rfl (y5 rfl fun b5=> ?_)
 refine rn ?_;refine z8 rfl (v2 rfl rfl (y0.of_fun (yt5 s _)) rfl ?_)
 rintro _ _ ⟨bs,rfl,rfl⟩
 refine rn ?_;refine zl9 (fun pend h''=>(pend=none∨pend=some (.exit 0))∧h''= .box bs 9 [sv s]:: .box b5 3 [iv (zec s (zd4 s g) 0:Nat)]:: .box b3 270 [fv]:: [.glob 4 305 y4,.glob 5 308 y1]) rfl (fun fn l q lp hlp=> ?_) (fun q h'' hK=> ?_) (fun q h'' c hK=> ?_)
 ·suffices hy:∀(i bi bc it:Nat) (L:List Res),i < s.size→L=lp .ready none:: .defs q:: .box b5 3 [iv s.size]:: .box b3 270 [fv]:: [.glob 4 305 y4,.glob 5 308 y1]→y0 Tryz.prog (yv l) [iv i,.fn (.func 280) [] [pZ bs,pZ bi,pZ bc]] (.box bc 21 [.v (.int .i32 (Utf8.decode s i).1)]:: .box bi 3 [iv (i:Nat)]:: .obj it (.stringIter s (i+(Utf8.decode s i).2)):: .box bs 9 [sv s]::L)
   (fun r h'=>∃L',h'= .box bc 21 [.v (.int .i32 (Utf8.decode s i).1)]:: .box bi 3 [iv (i:Nat)]:: .obj it (.stringIter s (i+(Utf8.decode s i).2)):: .box bs 9 [sv s]::L'∧((zd4 s g i (Utf8.decode s i).1=true∧r=bv true∧L'=lp .ready none:: .defs q:: .box b5 3 [iv s.size]:: .box b3 270 [fv]:: [.glob 4 305 y4,.glob 5 308 y1])∨(zd4 s g i (Utf8.decode s i).1=false∧r=bv false∧L'=lp .done (some (.exit 0)):: .defs q:: .box b5 3 [iv (i:Nat)]:: .box b3 270 [fv]:: [.glob 4 305 y4,.glob 5 308 y1]))) by
   refine y7.mono (y7.perm (pt2 _ _ _ _) (ybf s bs (yv l) (zd4 s g) _ (fun i L=>L=lp .done (some (.exit 0)):: .defs q:: .box b5 3 [iv (i:Nat)]:: .box b3 270 [fv]:: [.glob 4 305 y4,.glob 5 308 y1]) hy _ rfl)) ?_
   rintro _ _ ⟨L',rfl,⟨hw,rfl⟩|⟨hw,rfl⟩⟩
   ·exact ⟨_,_,_,(pt2 _ _ _ _).symm,by simp,.inl rfl,by rw [hw]⟩
   ·exact ⟨_,_,_,(pt2 _ _ _ _).symm,by simp,.inr rfl,rfl⟩
  rintro i bi bc it _ hi rfl
  refine y0.perm (pt4 _ _ _ _ _ _) (y0.permR (zxs hlp rfl rfl ?_))
  refine rn ?_;refine ⟨[(6,iv (i:Nat)),(7,.fn (.func 280) [] [pZ bs,pZ bi,pZ bc]),(5,pZ b5),(3,pZ b3)],v7 (.cons _ _ _ rfl (.cons _ _ _ rfl (.cons _ _ _ rfl (.cons _ _ _ rfl .nil)))),?_⟩
  refine rn ?_;refine qv rfl rfl (y2 rfl rfl (y0.qt (y0.of_acall (fs:= []) (cs:= [pZ bs,pZ bi,pZ bc]) (ygn s i (Utf8.decode s i).1 bs bi bc (by omega))) ((pt4 _ _ _ _ _ _).trans (.cons _ ((pt2 _ _ _ _).trans (.cons _ ((pt1 _ _ _).trans (.cons _ ((pt5 _ _ _ _ _ _ _).trans (.cons _ (pt5 _ _ _ _ _ _ _))))))))))) ?_
  refine rn ?_;refine w7 (fun hg6_2=> ?_) (fun hg6_2=> ?_)
  ·refine rn ?_;refine zfp rfl ?_;refine rn ?_;exact ybj (.refl _) ⟨_,((pt1 _ _ _).trans (.cons _ ((pt1 _ _ _).trans (.cons _ ((pt1 _ _ _).trans (.cons _ (pt1 _ _ _))))))),_,rfl,.inr ⟨by simp_all [zd4],rfl,rfl⟩⟩
  ·refine rn ?_;refine qv rfl rfl (y2 rfl rfl (hgo _ _)) ?_
   refine rn ?_;refine z7 rfl (fun hc28=> ?_) (fun hc28=> ?_)
   ·refine rn ?_;exact ybj (.refl _) ⟨_,((pt1 _ _ _).trans (.cons _ ((pt1 _ _ _).trans (.cons _ ((pt1 _ _ _).trans (.cons _ (pt1 _ _ _))))))),_,rfl,.inr ⟨by simp_all [zd4],rfl,rfl⟩⟩
   ·refine rn ?_;exact zdg (.refl _) ⟨_,((pt1 _ _ _).trans (.cons _ ((pt1 _ _ _).trans (.cons _ ((pt1 _ _ _).trans (.cons _ (pt1 _ _ _))))))),_,rfl,.inl ⟨by simp_all [zd4],rfl,rfl⟩⟩
 ·obtain ⟨_,rfl⟩:=hK
  refine rn ?_;refine ⟨fun l h=>(by cases h),?_⟩
  exact zhu (.refl _) (.cons _ _ _ _ (.tmp _ _ rfl) .nil) (.drop [_,_,_] _ _) ⟨rfl,rfl⟩
 ·obtain ⟨hc,rfl⟩:=hK
  obtain rfl:c= .exit 0:=by simpa using hc
  refine rn ?_;refine ⟨fun l h=>(by cases h),?_⟩
  exact zhu (.refl _) (.cons _ _ _ _ (.tmp _ _ rfl) .nil) (.drop [_,_,_] _ _) ⟨rfl,rfl⟩
theorem bvz3_266 {a b:Bool} (h:a=b:=by first|(simp only [zhf, *,Bool.true_and,Bool.false_and,Bool.and_false,Bool.and_true,Bool.true_or,Bool.or_false,Bool.false_or,Bool.or_true,if_true,if_false,Bool.false_eq_true,Bool.not_true,Bool.not_false];done)|(simp_all [zhf,yer];done)):bv a=bv b:=congrArg bv h
theorem yv5 (s:ByteArray):y7 Tryz.prog 187 [sv s] [.glob 4 305 y4,.glob 5 308 y1] (fun r h'=>h'= [.glob 4 305 y4,.glob 5 308 y1]∧r=bv (zhf s)):=by
 refine z6 Tryz.func187 rfl rfl rfl ?_
 refine rn ?_;refine w7 (fun hg1_2=> ?_) (fun hg1_2=> ?_)
 ·refine rn ?_;refine w7 (fun hg1_7=> ?_) (fun hg1_7=> ?_)
  ·refine rn ?_;have h1:0 < s.size:=yau hg1_2
   refine qq rfl rfl (u9 0 rfl rfl (by omega)) ?_
   refine rn ?_;refine qv rfl rfl (y2 rfl rfl (u3 (zsz _) (Sbs.refl _))) ?_
   refine rn ?_;refine w7 (fun hg1_14=> ?_) (fun hg1_14=> ?_)
   ·refine rn ?_;refine qv rfl rfl (y2 rfl rfl (y0.of_fun (yh0 s (.fn (.func 226) [] []) zdt rfl (fun c h=>(u3 (yc4 c) (Sbs.refl _)))))) ?_
    refine rn ?_;exact j9 rfl (.refl _ _) ⟨rfl,bvz3_266⟩
   ·refine rn ?_;exact j9 rfl (.refl _ _) ⟨rfl,bvz3_266⟩
  ·refine rn ?_;exact j9 rfl (.refl _ _) ⟨rfl,bvz3_266⟩
 ·refine rn ?_;exact j9 rfl (.refl _ _) ⟨rfl,bvz3_266⟩
theorem ysc (e:Ev) (h:Hist) (be bh:Nat):y7 Tryz.prog 231 [pZ be,pZ bh] [.box be 60 (evR e),.box bh 28 (y9 h)] (fun r h'=>h'= [.box be 60 (evR e),.box bh 28 (y9 h)]∧r= .tup [.agg (evR ⟨0,0,e.s,e.l,0,⟨0,0⟩,0,[]⟩),bv (zep h e)]):=by
 refine z6 Tryz.func231 rfl rfl rfl ?_
 refine rn ?_;refine z8 rfl (y5 rfl fun b2=> ?_)
 refine rn ?_;refine zc1 16 [(b2,60,_)] rfl (List.perm_append_comm (l₁:= [_])) ?_
 refine rn ?_;refine dv rfl rfl (by exact y2 rfl rfl (u3 (zz1 _ 1 _ _ rfl (by decide)) (Sbs.refl _))) ?_
 refine rn ?_;refine zc0 (fun hg1_9=> ?_) (fun hg1_9=> ?_)
 ·refine rn ?_;refine dv rfl rfl (by exact y2 rfl rfl (u3 (zzg _) (Sbs.refl _))) ?_
  refine rn ?_;refine dw 0 rfl rfl rfl rfl rfl (Nat.le_of_ble_eq_true rfl) ?_
  refine rn2 ?_;show zcr _ _ _ _ _ _ ⟨_,.box b2 60 _::_,_⟩
  refine rn ?_;exact zef (.cons _ _ _ _ (.agg _ _ _ _ _ _ _ rfl inferInstance inferInstance inferInstance rfl) (.cons _ _ _ _ (.tmp _ _ rfl) .nil)) (.trans (.drop1 _ _ _) (zca (by exact Sb.aggs (by exact ⟨.refl _,.refl _,.refl _,.refl _,.refl _,.refl _,.refl _,.refl _,.nil _ _,trivial⟩)) (by exact .refl _))) ⟨rfl,congrArg (fun b=>AV.tup [.agg (evR ⟨0,0,e.s,e.l,0,⟨0,0⟩,0,[]⟩),bv b]) (by first|(simp only [zep, *,Bool.true_and,Bool.false_and,Bool.and_false,Bool.and_true,Bool.true_or,Bool.or_false,Bool.false_or,Bool.or_true,if_true,if_false,Bool.false_eq_true,Bool.not_true,Bool.not_false];done)|(simp_all [zep];done)|(simp_all [zep] <;> omega))⟩
 ·refine rn ?_;refine dw 0 rfl rfl rfl rfl rfl (Nat.le_of_ble_eq_true rfl) ?_
  refine rn2 ?_;show zcr _ _ _ _ _ _ ⟨_,.box b2 60 _::_,_⟩
  refine rn ?_;exact zef (.cons _ _ _ _ (.agg _ _ _ _ _ _ _ rfl inferInstance inferInstance inferInstance rfl) (.cons _ _ _ _ (.tmp _ _ rfl) .nil)) (.trans (.drop1 _ _ _) (zca (by exact Sb.aggs (by exact ⟨.refl _,.refl _,.refl _,.refl _,.refl _,.refl _,.refl _,.refl _,.nil _ _,trivial⟩)) (by exact .refl _))) ⟨rfl,congrArg (fun b=>AV.tup [.agg (evR ⟨0,0,e.s,e.l,0,⟨0,0⟩,0,[]⟩),bv b]) (by first|(simp only [zep, *,Bool.true_and,Bool.false_and,Bool.and_false,Bool.and_true,Bool.true_or,Bool.or_false,Bool.false_or,Bool.or_true,if_true,if_false,Bool.false_eq_true,Bool.not_true,Bool.not_false];done)|(simp_all [zep];done)|(simp_all [zep] <;> omega))⟩
theorem ysb (e:Ev) (h:Hist) (be bh:Nat):y7 Tryz.prog 233 [pZ be,pZ bh] [.box be 60 (evR e),.box bh 28 (y9 h)] (fun r h'=>h'= [.box be 60 (evR e),.box bh 28 (y9 h)]∧r= .tup [.agg (evR ⟨0,0,0,0,e.o,e.v,0,[]⟩),bv (zbx h e)]):=by
 refine z6 Tryz.func233 rfl rfl rfl ?_
 refine rn ?_;refine z8 rfl (y5 rfl fun b2=> ?_)
 refine rn ?_;refine zc1 30 [(b2,60,_)] rfl (List.perm_append_comm (l₁:= [_])) ?_
 refine rn ?_;refine dv rfl rfl (by exact y2 rfl rfl (u3 (zz1 _ 2 _ _ rfl (by decide)) (Sbs.refl _))) ?_
 refine rn ?_;refine zc0 (fun hg1_9=> ?_) (fun hg1_9=> ?_)
 ·refine rn ?_;refine dv rfl rfl (by exact y2 rfl rfl (u3 (zub h e.v) (Sbs.refl _))) ?_
  refine rn ?_;refine zc0 (fun hg1_15=> ?_) (fun hg1_15=> ?_)
  ·refine rn ?_;refine zc0 (fun hg1_23=> ?_) (fun hg1_23=> ?_)
   ·refine rn ?_;refine dw 0 rfl rfl rfl rfl rfl (Nat.le_of_ble_eq_true rfl) ?_
    refine rn2 ?_;show zcr _ _ _ _ _ _ ⟨_,.box b2 60 _::_,_⟩
    refine rn ?_;exact zef (.cons _ _ _ _ (.agg _ _ _ _ _ _ _ rfl inferInstance inferInstance inferInstance rfl) (.cons _ _ _ _ (.tmp _ _ rfl) .nil)) (.trans (.drop1 _ _ _) (zca (by exact Sb.aggs (by exact ⟨.refl _,.refl _,.refl _,.refl _,.refl _,.refl _,.refl _,.refl _,.nil _ _,trivial⟩)) (by exact .refl _))) ⟨rfl,congrArg (fun b=>AV.tup [.agg (evR ⟨0,0,0,0,e.o,e.v,0,[]⟩),bv b]) (by first|(simp only [zbx, *,Bool.true_and,Bool.false_and,Bool.and_false,Bool.and_true,Bool.true_or,Bool.or_false,Bool.false_or,Bool.or_true,if_true,if_false,Bool.false_eq_true,Bool.not_true,Bool.not_false];done)|(simp_all [zbx];done)|(simp_all [zbx] <;> omega))⟩
   ·refine rn ?_;refine dw 0 rfl rfl rfl rfl rfl (Nat.le_of_ble_eq_true rfl) ?_
    refine rn2 ?_;show zcr _ _ _ _ _ _ ⟨_,.box b2 60 _::_,_⟩
    refine rn ?_;exact zef (.cons _ _ _ _ (.agg _ _ _ _ _ _ _ rfl inferInstance inferInstance inferInstance rfl) (.cons _ _ _ _ (.tmp _ _ rfl) .nil)) (.trans (.drop1 _ _ _) (zca (by exact Sb.aggs (by exact ⟨.refl _,.refl _,.refl _,.refl _,.refl _,.refl _,.refl _,.refl _,.nil _ _,trivial⟩)) (by exact .refl _))) ⟨rfl,congrArg (fun b=>AV.tup [.agg (evR ⟨0,0,0,0,e.o,e.v,0,[]⟩),bv b]) (by first|(simp only [zbx, *,Bool.true_and,Bool.false_and,Bool.and_false,Bool.and_true,Bool.true_or,Bool.or_false,Bool.false_or,Bool.or_true,if_true,if_false,Bool.false_eq_true,Bool.not_true,Bool.not_false];done)|(simp_all [zbx];done)|(simp_all [zbx] <;> omega))⟩
  ·refine rn ?_;refine dw 0 rfl rfl rfl rfl rfl (Nat.le_of_ble_eq_true rfl) ?_
   refine rn2 ?_;show zcr _ _ _ _ _ _ ⟨_,.box b2 60 _::_,_⟩
   refine rn ?_;exact zef (.cons _ _ _ _ (.agg _ _ _ _ _ _ _ rfl inferInstance inferInstance inferInstance rfl) (.cons _ _ _ _ (.tmp _ _ rfl) .nil)) (.trans (.drop1 _ _ _) (zca (by exact Sb.aggs (by exact ⟨.refl _,.refl _,.refl _,.refl _,.refl _,.refl _,.refl _,.refl _,.nil _ _,trivial⟩)) (by exact .refl _))) ⟨rfl,congrArg (fun b=>AV.tup [.agg (evR ⟨0,0,0,0,e.o,e.v,0,[]⟩),bv b]) (by first|(simp only [zbx, *,Bool.true_and,Bool.false_and,Bool.and_false,Bool.and_true,Bool.true_or,Bool.or_false,Bool.false_or,Bool.or_true,if_true,if_false,Bool.false_eq_true,Bool.not_true,Bool.not_false];done)|(simp_all [zbx];done)|(simp_all [zbx] <;> omega))⟩
 ·refine rn ?_;refine dw 0 rfl rfl rfl rfl rfl (Nat.le_of_ble_eq_true rfl) ?_
  refine rn2 ?_;show zcr _ _ _ _ _ _ ⟨_,.box b2 60 _::_,_⟩
  refine rn ?_;exact zef (.cons _ _ _ _ (.agg _ _ _ _ _ _ _ rfl inferInstance inferInstance inferInstance rfl) (.cons _ _ _ _ (.tmp _ _ rfl) .nil)) (.trans (.drop1 _ _ _) (zca (by exact Sb.aggs (by exact ⟨.refl _,.refl _,.refl _,.refl _,.refl _,.refl _,.refl _,.refl _,.nil _ _,trivial⟩)) (by exact .refl _))) ⟨rfl,congrArg (fun b=>AV.tup [.agg (evR ⟨0,0,0,0,e.o,e.v,0,[]⟩),bv b]) (by first|(simp only [zbx, *,Bool.true_and,Bool.false_and,Bool.and_false,Bool.and_true,Bool.true_or,Bool.or_false,Bool.false_or,Bool.or_true,if_true,if_false,Bool.false_eq_true,Bool.not_true,Bool.not_false];done)|(simp_all [zbx];done)|(simp_all [zbx] <;> omega))⟩
theorem ysa (e:Ev) (h:Hist) (be bh:Nat):y7 Tryz.prog 235 [pZ be,pZ bh] [.box be 60 (evR e),.box bh 28 (y9 h)] (fun r h'=>h'= [.box be 60 (evR e),.box bh 28 (y9 h)]∧r= .tup [.agg (evR ⟨0,0,0,0,e.o,e.v,0,[]⟩),bv (zel h e)]):=by
 refine z6 Tryz.func235 rfl rfl rfl ?_
 refine rn ?_;refine z8 rfl (y5 rfl fun b2=> ?_)
 refine rn ?_;refine zc1 16 [(b2,60,_)] rfl (List.perm_append_comm (l₁:= [_])) ?_
 refine rn ?_;refine dv rfl rfl (by exact y2 rfl rfl (u3 (zz1 _ 2 _ _ rfl (by decide)) (Sbs.refl _))) ?_
 refine rn ?_;refine zc0 (fun hg1_9=> ?_) (fun hg1_9=> ?_)
 ·refine rn ?_;refine dv rfl rfl (by exact y2 rfl rfl (u3 (zub h e.v) (Sbs.refl _))) ?_
  refine rn ?_;refine dw 0 rfl rfl rfl rfl rfl (Nat.le_of_ble_eq_true rfl) ?_
  refine rn2 ?_;show zcr _ _ _ _ _ _ ⟨_,.box b2 60 _::_,_⟩
  refine rn ?_;exact zef (.cons _ _ _ _ (.agg _ _ _ _ _ _ _ rfl inferInstance inferInstance inferInstance rfl) (.cons _ _ _ _ (.tmp _ _ rfl) .nil)) (.trans (.drop1 _ _ _) (zca (by exact Sb.aggs (by exact ⟨.refl _,.refl _,.refl _,.refl _,.refl _,.refl _,.refl _,.refl _,.nil _ _,trivial⟩)) (by exact .refl _))) ⟨rfl,congrArg (fun b=>AV.tup [.agg (evR ⟨0,0,0,0,e.o,e.v,0,[]⟩),bv b]) (by first|(simp only [zel, *,Bool.true_and,Bool.false_and,Bool.and_false,Bool.and_true,Bool.true_or,Bool.or_false,Bool.false_or,Bool.or_true,if_true,if_false,Bool.false_eq_true,Bool.not_true,Bool.not_false];done)|(simp_all [zel];done)|(simp_all [zel] <;> omega))⟩
 ·refine rn ?_;refine dw 0 rfl rfl rfl rfl rfl (Nat.le_of_ble_eq_true rfl) ?_
  refine rn2 ?_;show zcr _ _ _ _ _ _ ⟨_,.box b2 60 _::_,_⟩
  refine rn ?_;exact zef (.cons _ _ _ _ (.agg _ _ _ _ _ _ _ rfl inferInstance inferInstance inferInstance rfl) (.cons _ _ _ _ (.tmp _ _ rfl) .nil)) (.trans (.drop1 _ _ _) (zca (by exact Sb.aggs (by exact ⟨.refl _,.refl _,.refl _,.refl _,.refl _,.refl _,.refl _,.refl _,.nil _ _,trivial⟩)) (by exact .refl _))) ⟨rfl,congrArg (fun b=>AV.tup [.agg (evR ⟨0,0,0,0,e.o,e.v,0,[]⟩),bv b]) (by first|(simp only [zel, *,Bool.true_and,Bool.false_and,Bool.and_false,Bool.and_true,Bool.true_or,Bool.or_false,Bool.false_or,Bool.or_true,if_true,if_false,Bool.false_eq_true,Bool.not_true,Bool.not_false];done)|(simp_all [zel];done)|(simp_all [zel] <;> omega))⟩
theorem yob (s:Seen) (h:Hist) (bh:Nat):y7 Tryz.prog 237 [.agg (zah s),pZ bh] [.box bh 28 (y9 h)] (fun r h'=>h'= [.box bh 28 (y9 h)]∧r=bv (zf7 h s)):=by
 refine z6 Tryz.func237 rfl rfl rfl ?_
 refine rn ?_;refine z8 rfl (w8 rfl rfl rfl fun b2=> ?_)
 refine rn ?_;refine qv rfl rfl (y2 rfl rfl (u3 (zz1 _ 2 _ _ rfl (by decide)) (Sbs.refl _))) ?_
 refine rn ?_;refine w7 (fun hg1_4=> ?_) (fun hg1_4=> ?_)
 ·refine rn ?_;refine qv rfl rfl (y2 rfl rfl (u3 (zub h s.v) (Sbs.refl _))) ?_
  refine rn ?_;exact j9 rfl (.drop1 _ _ _) ⟨rfl,congrArg bv (by first|(simp only [zf7, *,Bool.true_and,Bool.false_and,Bool.and_false,Bool.and_true,Bool.true_or,Bool.or_false,Bool.false_or,Bool.or_true,if_true,if_false,Bool.false_eq_true,Bool.not_true,Bool.not_false];done)|(simp_all [zf7];done)|(simp_all [zf7] <;> omega))⟩
 ·refine rn ?_;exact j9 rfl (.drop1 _ _ _) ⟨rfl,congrArg bv (by first|(simp only [zf7, *,Bool.true_and,Bool.false_and,Bool.and_false,Bool.and_true,Bool.true_or,Bool.or_false,Bool.false_or,Bool.or_true,if_true,if_false,Bool.false_eq_true,Bool.not_true,Bool.not_false];done)|(simp_all [zf7];done)|(simp_all [zf7] <;> omega))⟩
theorem yr9 (e:Ev) (h:Hist) (be bh:Nat) (hl:e.scan.length≤4611686018427387904):y7 Tryz.prog 236 [pZ bh,pZ be] [.box be 60 (evR e),.box bh 28 (y9 h)] (fun r h'=>h'= [.box be 60 (evR e),.box bh 28 (y9 h)]∧r= .tup [.agg (evR ⟨0,0,0,0,0,⟨0,0⟩,e.p,e.scan⟩),bv (zc7 h e)]):=by
 refine z6 Tryz.func236 rfl rfl rfl ?_
 refine rn ?_;refine z8 rfl (y5 rfl fun b2=> ?_)
 refine rn ?_;refine zc1 22 [(b2,60,_)] rfl (List.perm_append_comm (l₁:= [_])) ?_
 refine rn ?_;refine dv rfl rfl (by exact y2 rfl rfl (u3 (zz1 _ 3 _ _ rfl (by decide)) (Sbs.refl _))) ?_
 refine rn ?_;refine zc0 (fun hg2_9=> ?_) (fun hg2_9=> ?_)
 ·refine rn ?_;refine zc0 (fun hg2_15=> ?_) (fun hg2_15=> ?_)
  ·refine rn ?_;refine dv rfl rfl (by exact y2 rfl rfl (y0.of_fun (yot e.scan (.fn (.func 237) [] [pZ bh]) (zf7 h) [.box be 60 (evR e),.box bh 28 (y9 h)] rfl (fun s hs=>y0.quiet (R:=fun x=>x=bv (zf7 h s)) (h2:= [_]) (List.perm_append_comm (l₁:= [_])) (y0.of_acall (fs:= []) (cs:= [pZ bh]) (yob s h bh))) hl))) ?_
   refine rn ?_;refine dw 0 rfl rfl rfl rfl rfl (Nat.le_of_ble_eq_true rfl) ?_
   refine rn2 ?_;show zcr _ _ _ _ _ _ ⟨_,.box b2 60 _::_,_⟩
   refine rn ?_;exact zef (.cons _ _ _ _ (.agg _ _ _ _ _ _ _ rfl inferInstance inferInstance inferInstance rfl) (.cons _ _ _ _ (.tmp _ _ rfl) .nil)) (.trans (.drop1 _ _ _) (zca (by exact Sb.aggs (by exact ⟨.refl _,.refl _,.refl _,.refl _,.refl _,.refl _,.refl _,.refl _,.refl _,trivial⟩)) (by exact .refl _))) ⟨rfl,congrArg (fun b=>AV.tup [.agg (evR ⟨0,0,0,0,0,⟨0,0⟩,e.p,e.scan⟩),bv b]) (by first|(simp only [zc7, *,Bool.true_and,Bool.false_and,Bool.and_false,Bool.and_true,Bool.true_or,Bool.or_false,Bool.false_or,Bool.or_true,if_true,if_false,Bool.false_eq_true,Bool.not_true,Bool.not_false];done)|(simp_all [zc7];done)|(simp_all [zc7] <;> omega))⟩
  ·refine rn ?_;refine dw 0 rfl rfl rfl rfl rfl (Nat.le_of_ble_eq_true rfl) ?_
   refine rn2 ?_;show zcr _ _ _ _ _ _ ⟨_,.box b2 60 _::_,_⟩
   refine rn ?_;exact zef (.cons _ _ _ _ (.agg _ _ _ _ _ _ _ rfl inferInstance inferInstance inferInstance rfl) (.cons _ _ _ _ (.tmp _ _ rfl) .nil)) (.trans (.drop1 _ _ _) (zca (by exact Sb.aggs (by exact ⟨.refl _,.refl _,.refl _,.refl _,.refl _,.refl _,.refl _,.refl _,.refl _,trivial⟩)) (by exact .refl _))) ⟨rfl,congrArg (fun b=>AV.tup [.agg (evR ⟨0,0,0,0,0,⟨0,0⟩,e.p,e.scan⟩),bv b]) (by first|(simp only [zc7, *,Bool.true_and,Bool.false_and,Bool.and_false,Bool.and_true,Bool.true_or,Bool.or_false,Bool.false_or,Bool.or_true,if_true,if_false,Bool.false_eq_true,Bool.not_true,Bool.not_false];done)|(simp_all [zc7];done)|(simp_all [zc7] <;> omega))⟩
 ·refine rn ?_;refine dw 0 rfl rfl rfl rfl rfl (Nat.le_of_ble_eq_true rfl) ?_
  refine rn2 ?_;show zcr _ _ _ _ _ _ ⟨_,.box b2 60 _::_,_⟩
  refine rn ?_;exact zef (.cons _ _ _ _ (.agg _ _ _ _ _ _ _ rfl inferInstance inferInstance inferInstance rfl) (.cons _ _ _ _ (.tmp _ _ rfl) .nil)) (.trans (.drop1 _ _ _) (zca (by exact Sb.aggs (by exact ⟨.refl _,.refl _,.refl _,.refl _,.refl _,.refl _,.refl _,.refl _,.refl _,trivial⟩)) (by exact .refl _))) ⟨rfl,congrArg (fun b=>AV.tup [.agg (evR ⟨0,0,0,0,0,⟨0,0⟩,e.p,e.scan⟩),bv b]) (by first|(simp only [zc7, *,Bool.true_and,Bool.false_and,Bool.and_false,Bool.and_true,Bool.true_or,Bool.or_false,Bool.false_or,Bool.or_true,if_true,if_false,Bool.false_eq_true,Bool.not_true,Bool.not_false];done)|(simp_all [zc7];done)|(simp_all [zc7] <;> omega))⟩
theorem yr8  :y7 Tryz.prog 239 [] [] (fun r h'=>h'= []∧r= .tup [.agg (evR ⟨0,0,0,0,0,⟨0,0⟩,0,[]⟩),bv true]):=by
 refine z6 Tryz.func239 rfl rfl rfl ?_
 refine rn ?_;refine z8 rfl (y5 rfl fun b0=> ?_)
 refine rn ?_;exact zef (.cons _ _ _ _ (.agg _ _ _ _ _ _ _ rfl inferInstance inferInstance inferInstance rfl) (.cons _ _ _ _ (.tmp _ _ rfl) .nil)) (.trans (.drop1 _ _ _) (zca (by exact Sb.aggs (by exact ⟨.refl _,.refl _,.refl _,.refl _,.refl _,.refl _,.refl _,.refl _,.nil _ _,trivial⟩)) (by exact .refl _))) ⟨rfl,congrArg (fun b=>AV.tup [.agg (evR ⟨0,0,0,0,0,⟨0,0⟩,0,[]⟩),bv b]) (by rfl)⟩
theorem yr7  :y7 Tryz.prog 240 [] [] (fun r h'=>h'= []∧r= .tup [.agg (evR ⟨0,0,0,0,0,⟨0,0⟩,0,[]⟩),bv true]):=by
 refine z6 Tryz.func240 rfl rfl rfl ?_
 refine rn ?_;refine z8 rfl (y5 rfl fun b0=> ?_)
 refine rn ?_;exact zef (.cons _ _ _ _ (.agg _ _ _ _ _ _ _ rfl inferInstance inferInstance inferInstance rfl) (.cons _ _ _ _ (.tmp _ _ rfl) .nil)) (.trans (.drop1 _ _ _) (zca (by exact Sb.aggs (by exact ⟨.refl _,.refl _,.refl _,.refl _,.refl _,.refl _,.refl _,.refl _,.nil _ _,trivial⟩)) (by exact .refl _))) ⟨rfl,congrArg (fun b=>AV.tup [.agg (evR ⟨0,0,0,0,0,⟨0,0⟩,0,[]⟩),bv b]) (by rfl)⟩
theorem yiq (h:Hist) (e:Ev) (b2 b3 k:Nat) (hl:e.scan.length≤4611686018427387904) (hk:e.kind=k) (h1:1≤k) (h7:k < 7):
 ∃av,(([.v .nilFunc,.fn (.func 231) [] [pZ b3,pZ b2],.fn (.func 233) [] [pZ b3,pZ b2],.fn (.func 235) [] [pZ b3,pZ b2],.fn (.func 236) [] [pZ b2,pZ b3],.fn (.func 239) [] [],.fn (.func 240) [] []]):List AV)[k * 1]? =some av∧y0 Tryz.prog av [] [.box b3 60 (evR e),.box b2 28 (y9 h)] (fun r h'=>h'= [.box b3 60 (evR e),.box b2 28 (y9 h)]∧r= .tup [.agg (evR (zf5 h e).1),bv (zf5 h e).2]):=by
 rcases (by omega:k=1∨k=2∨k=3∨k=4∨k=5∨k=6) with rfl|rfl|rfl|rfl|rfl|rfl
 ·refine ⟨_,rfl,?_⟩
  have hc:zf5 h e=(⟨0,0,e.s,e.l,0,⟨0,0⟩,0,[]⟩,zep h e):=by unfold zf5;rw [hk];rfl
  rw [hc]
  exact y0.of_acall (fs:= []) (cs:= [pZ b3,pZ b2]) (ysc e h b3 b2)
 ·refine ⟨_,rfl,?_⟩
  have hc:zf5 h e=(⟨0,0,0,0,e.o,e.v,0,[]⟩,zbx h e):=by unfold zf5;rw [hk];rfl
  rw [hc]
  exact y0.of_acall (fs:= []) (cs:= [pZ b3,pZ b2]) (ysb e h b3 b2)
 ·refine ⟨_,rfl,?_⟩
  have hc:zf5 h e=(⟨0,0,0,0,e.o,e.v,0,[]⟩,zel h e):=by unfold zf5;rw [hk];rfl
  rw [hc]
  exact y0.of_acall (fs:= []) (cs:= [pZ b3,pZ b2]) (ysa e h b3 b2)
 ·refine ⟨_,rfl,?_⟩
  have hc:zf5 h e=(⟨0,0,0,0,0,⟨0,0⟩,e.p,e.scan⟩,zc7 h e):=by unfold zf5;rw [hk];rfl
  rw [hc]
  exact y0.of_acall (fs:= []) (cs:= [pZ b2,pZ b3]) (yr9 e h b3 b2 hl)
 ·refine ⟨_,rfl,?_⟩
  have hc:zf5 h e=(⟨0,0,0,0,0,⟨0,0⟩,0,[]⟩,true):=by unfold zf5;rw [hk];rfl
  rw [hc]
  exact y0.pure (R:=fun x=>x=_) (y0.of_acall (fs:= []) (cs:= []) yr8)
 ·refine ⟨_,rfl,?_⟩
  have hc:zf5 h e=(⟨0,0,0,0,0,⟨0,0⟩,0,[]⟩,true):=by unfold zf5;rw [hk];rfl
  rw [hc]
  exact y0.pure (R:=fun x=>x=_) (y0.of_acall (fs:= []) (cs:= []) yr7)
theorem bvz4_3859 {a b:Bool} (h:a=b:=by first|(simp only [zb5, *,Bool.true_and,Bool.false_and,Bool.and_false,Bool.and_true,Bool.true_or,Bool.or_false,Bool.false_or,Bool.or_true,if_true,if_false,Bool.false_eq_true,Bool.not_true,Bool.not_false];done)|(simp_all [zb5];done)|(simp_all [zb5] <;> omega)):bv a=bv b:=congrArg bv h
theorem yoc (h:Hist) (e:Ev) (hl:e.scan.length≤4611686018427387904):y7 Tryz.prog 194 [.agg (y9 h),.agg (evR e)] [] (fun r h'=>h'= []∧r=bv (zb5 h e)):=by
 refine z6 Tryz.func194 rfl rfl rfl ?_
 refine rn ?_;refine z8 rfl (w8 rfl rfl rfl fun b2=> ?_)
 refine z8 rfl (w8 rfl rfl rfl fun b3=> ?_)
 refine rn ?_;refine z8 rfl (y5 rfl fun b5=> ?_)
 refine rn ?_;refine w7 (fun hg2_3=> ?_) (fun hg2_3=> ?_)
 ·refine rn ?_;refine zfp rfl ?_;refine rn ?_;exact j9 rfl (.drop [_,_,_] _ _) ⟨rfl,bvz4_3859⟩
 ·refine rn ?_;refine w7 (fun hg2_8=> ?_) (fun hg2_8=> ?_)
  ·refine rn ?_;refine zfp rfl ?_;refine rn ?_;exact j9 rfl (.drop [_,_,_] _ _) ⟨rfl,bvz4_3859⟩
  ·refine rn ?_;refine qv rfl rfl (y2 rfl rfl (u3 (zz1 h 0 e.t _ rfl (by decide)) (Sbs.refl _))) ?_
   refine rn ?_;refine z7 rfl (fun hc27=> ?_) (fun hc27=> ?_)
   ·refine rn ?_;exact j9 rfl (.drop [_,_,_] _ _) ⟨rfl,bvz4_3859⟩
   ·have hlo:1≤e.kind:=by simpa using hg2_3
    have hhi:e.kind < 7:=by simpa using hg2_8
    obtain ⟨k,hk⟩:=Int.eq_ofNat_of_zero_le (show 0≤e.kind by omega)
    obtain ⟨av,hav,hfc⟩:=yiq h e b2 b3 k hl hk (by omega) (by omega)
    refine za7 ?_;refine zac ?_;refine w9 (y6 ?_)
    refine q1 ?_;refine q1 ?_;refine qq rfl rfl (zav rfl (by rw [←hk];rfl) (by omega)) ?_
    refine qq rfl rfl (zap rfl (by simpa using hav)) ?_
    refine qv rfl rfl (y2 rfl rfl (y0.quiet (R:=fun x=>x=_) (h2:= [_]) (List.perm_append_comm (l₁:= [_])) hfc)) ?_
    refine rn ?_;refine z8 rfl (y5 rfl fun b6=> ?_)
    refine rn ?_;refine zc1 6 [(b6,60,_)] rfl (List.perm_append_comm (l₁:= [_])) ?_
    refine rn ?_;refine dw 0 rfl rfl rfl rfl rfl (Nat.le_of_ble_eq_true rfl) ?_
    refine rn2 ?_;show zcr _ _ _ _ _ _ ⟨_,[.box b6 60 _,.box b5 _ _,.box b3 60 (evR e),.box b2 28 (y9 h)],_⟩
    refine rn ?_;refine w7 (fun hg6_1=> ?_) (fun hg6_1=> ?_)
    ·refine rn ?_;refine qv rfl rfl (y2 rfl rfl (u3 (ybc {(zf5 h e).1 with kind:=e.kind,t:=e.t} e (yeq h e hl) hl) (by exact Sbs.refl _))) ?_
     refine rn ?_;exact j9 rfl (.drop [_,_,_,_] _ _) ⟨rfl,bvz4_3859⟩
    ·refine rn ?_;exact j9 rfl (.drop [_,_,_,_] _ _) ⟨rfl,bvz4_3859⟩
theorem ygj (h:Hist) (b:Nat) (t:Int):y7 Tryz.prog 190 [iv t,pZ b] [.box b 28 (y9 h)] (fun r h'=>h'= [.box b 28 (y9 h)]∧r=bv (zcb h.ts t)):=by
 refine z6 Tryz.func190 rfl rfl rfl ?_
 refine rn ?_;refine qv rfl rfl (y2 rfl rfl (u3 (zz1 h 0 _ _ rfl (by decide)) (Sbs.refl _))) ?_
 refine rn ?_;exact j9 rfl (.refl _ _) ⟨rfl,congrArg bv (by rfl)⟩
theorem ya6 {full:Bool} (h:Hist) (b:Nat) (ts:List Int) (hl:ts.length≤4611686018427387904):y7 Tryz.prog 188 [.list full 1 (ts.map zai),pZ b] [.box b 28 (y9 h)] (fun r h'=>h'= [.box b 28 (y9 h)]∧r=bv (tsB h ts)):=by
 refine z6 Tryz.func188 rfl rfl rfl ?_
 refine rn ?_;refine w7 (fun hg1_3=> ?_) (fun hg1_3=> ?_)
 ·refine rn ?_;refine qv rfl rfl (y2 rfl rfl (y0.of_fun (ysx ts (.fn (.func 190) [] [pZ b]) (zcb h.ts) [.box b 28 (y9 h)] rfl (fun t _=>y0.of_acall (fs:= []) (cs:= [pZ b]) (ygj h b t)) hl))) ?_
  refine rn ?_;exact j9 rfl (.refl _ _) ⟨rfl,congrArg bv (by first|(simp only [tsB, *,Bool.true_and,Bool.false_and,Bool.and_false,Bool.and_true,Bool.true_or,Bool.or_false,Bool.false_or,Bool.or_true,if_true,if_false,Bool.false_eq_true,Bool.not_true,Bool.not_false];done)|(simp_all [tsB];done)|(simp_all [tsB] <;> omega))⟩
 ·refine rn ?_;exact j9 rfl (.refl _ _) ⟨rfl,congrArg bv (by first|(simp only [tsB, *,Bool.true_and,Bool.false_and,Bool.and_false,Bool.and_true,Bool.true_or,Bool.or_false,Bool.false_or,Bool.or_true,if_true,if_false,Bool.false_eq_true,Bool.not_true,Bool.not_false];done)|(simp_all [tsB];done)|(simp_all [tsB] <;> omega))⟩
theorem yl5 (h:Hist) (b:Nat) (e:Ev) (hl:e.scan.length≤4611686018427387904):y7 Tryz.prog 193 [.agg (evR e),pZ b] [.box b 28 (y9 h)] (fun r h'=>h'= [.box b 28 (y9 h)]∧r=bv (zb5 h e)):=by
 refine z6 Tryz.func193 rfl rfl rfl ?_
 refine rn ?_;refine z8 rfl (w8 rfl rfl rfl fun b2=> ?_)
 refine rn ?_;refine qv rfl rfl (y2 rfl rfl (u3 (yoc h e hl) (Sbs.refl _))) ?_
 refine rn ?_;exact j9 rfl (.drop1 _ _ _) ⟨rfl,congrArg bv (by rfl)⟩
theorem yl4 (h:Hist) (b c:Nat) (m:H.Ord) (hl:m.ts.length≤4611686018427387904):y7 Tryz.prog 196 [.agg (zez m),pZ b,pZ c] [.box b 28 (y9 h),.box c 231 [.fn (.func 188) [] [pZ b]]] (fun r h'=>h'= [.box b 28 (y9 h),.box c 231 [.fn (.func 188) [] [pZ b]]]∧r=bv (zrr h m)):=by
 refine z6 Tryz.func196 rfl rfl rfl ?_
 refine rn ?_;refine z8 rfl (w8 rfl rfl rfl fun b3=> ?_)
 refine rn ?_;refine qv rfl rfl (y2 rfl rfl (u3 (zz1 h 2 _ _ rfl (by decide)) (Sbs.refl _))) ?_
 refine rn ?_;refine w7 (fun hg1_4=> ?_) (fun hg1_4=> ?_)
 ·refine rn ?_;refine qv rfl rfl (y2 rfl rfl (y0.quiet (R:=fun x=>x=bv (tsB h m.ts)) (h2:= [_,_]) (List.Perm.swap _ _ _) (y0.of_acall (fs:= []) (cs:= [pZ b]) (ya6 h b m.ts hl)))) ?_
  refine rn ?_;exact j9 rfl (.drop1 _ _ _) ⟨rfl,congrArg bv (by first|(simp only [zrr, *,Bool.true_and,Bool.false_and,Bool.and_false,Bool.and_true,Bool.true_or,Bool.or_false,Bool.false_or,Bool.or_true,if_true,if_false,Bool.false_eq_true,Bool.not_true,Bool.not_false];done)|(simp_all [zrr];done)|(simp_all [zrr] <;> omega))⟩
 ·refine rn ?_;exact j9 rfl (.drop1 _ _ _) ⟨rfl,congrArg bv (by first|(simp only [zrr, *,Bool.true_and,Bool.false_and,Bool.and_false,Bool.and_true,Bool.true_or,Bool.or_false,Bool.false_or,Bool.or_true,if_true,if_false,Bool.false_eq_true,Bool.not_true,Bool.not_false];done)|(simp_all [zrr];done)|(simp_all [zrr] <;> omega))⟩
theorem bvz5_2497 {a b:Bool} (h:a=b:=by first|(simp only [zu6, *,Bool.true_and,Bool.false_and,Bool.and_false,Bool.and_true,Bool.true_or,Bool.or_false,Bool.false_or,Bool.or_true,if_true,if_false,Bool.false_eq_true,Bool.not_true,Bool.not_false];done)|(simp_all [zu6];done)|(simp_all [zu6] <;> omega)):bv a=bv b:=congrArg bv h
theorem yl3 (h:Hist) (b c:Nat) (m:Mat) (hl:m.ts.length≤4611686018427387904):y7 Tryz.prog 198 [.agg (zeq m),pZ b,pZ c] [.box b 28 (y9 h),.box c 231 [.fn (.func 188) [] [pZ b]]] (fun r h'=>h'= [.box b 28 (y9 h),.box c 231 [.fn (.func 188) [] [pZ b]]]∧r=bv (zu6 h m)):=by
 refine z6 Tryz.func198 rfl rfl rfl ?_
 refine rn ?_;refine z8 rfl (w8 rfl rfl rfl fun b3=> ?_)
 refine rn ?_;refine qv rfl rfl (y2 rfl rfl (u3 (zz1 h 3 _ _ rfl (by decide)) (Sbs.refl _))) ?_
 refine rn ?_;refine w7 (fun hg1_4=> ?_) (fun hg1_4=> ?_)
 ·refine rn ?_;refine qv rfl rfl (y2 rfl rfl (u3 (zz1 h 2 _ _ rfl (by decide)) (Sbs.refl _))) ?_
  refine rn ?_;refine w7 (fun hg1_10=> ?_) (fun hg1_10=> ?_)
  ·refine rn ?_;refine qv rfl rfl (y2 rfl rfl (y0.quiet (R:=fun x=>x=bv (tsB h m.ts)) (h2:= [_,_]) (List.Perm.swap _ _ _) (y0.of_acall (fs:= []) (cs:= [pZ b]) (ya6 h b m.ts hl)))) ?_
   refine rn ?_;exact j9 rfl (.drop1 _ _ _) ⟨rfl,bvz5_2497⟩
  ·refine rn ?_;exact j9 rfl (.drop1 _ _ _) ⟨rfl,bvz5_2497⟩
 ·refine rn ?_;exact j9 rfl (.drop1 _ _ _) ⟨rfl,bvz5_2497⟩
theorem bvz6_3258 {a b:Bool} (h:a=b:=by first|(simp only [zwh, *,Bool.true_and,Bool.false_and,Bool.and_false,Bool.and_true,Bool.true_or,Bool.or_false,Bool.false_or,Bool.or_true,if_true,if_false,Bool.false_eq_true,Bool.not_true,Bool.not_false];done)|(simp_all [zwh];done)|(simp_all [zwh] <;> omega)):bv a=bv b:=congrArg bv h
theorem yl2 (h:Hist) (b:Nat) (w:Wan):y7 Tryz.prog 200 [.agg (zf4 w),pZ b] [.box b 28 (y9 h)] (fun r h'=>h'= [.box b 28 (y9 h)]∧r=bv (zwh h w)):=by
 refine z6 Tryz.func200 rfl rfl rfl ?_
 refine rn ?_;refine z8 rfl (w8 rfl rfl rfl fun b2=> ?_)
 refine rn ?_;refine qv rfl rfl (y2 rfl rfl (u3 (zz1 h 1 _ _ rfl (by decide)) (Sbs.refl _))) ?_
 refine rn ?_;refine w7 (fun hg1_4=> ?_) (fun hg1_4=> ?_)
 ·refine rn ?_;refine w7 (fun hg1_9=> ?_) (fun hg1_9=> ?_)
  ·refine rn ?_;exact j9 rfl (.drop1 _ _ _) ⟨rfl,bvz6_3258⟩
  ·refine rn ?_;exact j9 rfl (.drop1 _ _ _) ⟨rfl,bvz6_3258⟩
 ·refine rn ?_;exact j9 rfl (.drop1 _ _ _) ⟨rfl,bvz6_3258⟩
theorem bvz7_9207 {a b:Bool} (h:a=b:=by first|(simp only [zae, *,Bool.true_and,Bool.false_and,Bool.and_false,Bool.and_true,Bool.true_or,Bool.or_false,Bool.false_or,Bool.or_true,if_true,if_false,Bool.false_eq_true,Bool.not_true,Bool.not_false];done)|(simp_all [zae];done)):bv a=bv b:=congrArg bv h
theorem ypq (h:Hist) (la:Lim 4611686018427387904 h):y7 Tryz.prog 140 [.agg (y9 h)] [.glob 2 156 y3,.glob 4 305 y4,.glob 5 308 y1] (fun r h'=>h'= [.glob 2 156 y3,.glob 4 305 y4,.glob 5 308 y1]∧r=bv (zae h)):=by
 refine z6 Tryz.func140 rfl rfl rfl ?_
 refine rn ?_;refine z8 rfl (w8 rfl rfl rfl fun b1=> ?_)
 refine rn ?_;refine zkm ?_;refine zp9 (⟨[(1,pZ b1),(3,bv (okK h 0))],.box b1 28 (y9 h):: [.glob 2 156 y3,.glob 4 305 y4,.glob 5 308 y1],[]⟩) ?_ ?_
 ·refine rn ?_;refine w7 (fun hg1_4=> ?_) (fun hg1_4=> ?_)
  ·refine rn ?_;rw [show okK h 0=_ from zww h,hg1_4]
   exact (v7 (.cons _ _ _ rfl (.cons _ _ _ rfl (.nil))))
  ·refine rn ?_;rw [show okK h 0=_ from zww h,hg1_4]
   exact (v7 (.cons _ _ _ rfl (.cons _ _ _ rfl (.nil))))
 ·refine w9 ?_;refine zx6 ?_;refine rn0 ?_;refine zp9 (⟨[(3,bv (okK h 4)),(1,pZ b1)],.box b1 28 (y9 h):: [.glob 2 156 y3,.glob 4 305 y4,.glob 5 308 y1],[]⟩) ?_ ?_
  ·refine rn ?_;refine qv rfl rfl (y2 rfl rfl (u3 (ym7 _) (Sbs.refl _))) ?_
   refine rn ?_;refine zab (fun k:Nat=>k≤4) (fun k=>⟨[(29,iv k),(28,.agg (zlp h)),(1,pZ b1),(3,bv (okK h k))],.box b1 28 (y9 h):: [.glob 2 156 y3,.glob 4 305 y4,.glob 5 308 y1],[]⟩) (fun k=>4 - k) 0 (by omega)
    (v7 (.cons _ _ _ rfl (.cons _ _ _ rfl (.cons _ _ _ rfl (.cons _ _ _ rfl (.nil)))))) ?_
   rintro k hk
   refine rn ?_;refine z7 rfl (fun hc30=> ?_) (fun hc30=> ?_)
   ·have hk4:k < 4:=by simp at hc30;omega
    refine za7 ?_;refine zac ?_;refine w9 ?_;refine zb9 ?_;refine w9 (y6 ?_)
    refine q1 ?_;refine qq rfl rfl (zct rfl rfl (by omega) (by have:=yco h hk4;simpa using this)) ?_
    refine rn ?_;refine z8 rfl (zax (enc:=yav) rfl fun b33=> ?_)
    refine rn0 ?_;refine zp9 (⟨[(5,zdf (nmK h k)),(3,bv (okj h k 0)),(6,.v (.map (some b33))),(29,iv k),(28,.agg (zlp h)),(1,pZ b1)],.map b33 (zal yav []):: .box b1 28 (y9 h):: [.glob 2 156 y3,.glob 4 305 y4,.glob 5 308 y1],[]⟩) ?_ ?_
    ·refine rn ?_;refine w7 (fun hg6_1=> ?_) (fun hg6_1=> ?_)
     ·refine q1 ?_;refine q1 ?_;refine q1 ?_;refine qq rfl rfl (zav rfl rfl (by omega)) ?_
      refine qq rfl rfl (zap rfl (zvb hk4)) ?_
      refine rn ?_;rw [yj8 h k,hg6_1]
      first|exact (v7 (.cons _ _ _ rfl (.cons _ _ _ rfl (.cons _ _ _ rfl (.cons _ _ _ rfl (.cons _ _ _ rfl (.cons _ _ _ rfl (.nil))))))))|(rw [Bool.true_and];exact (v7 (.cons _ _ _ rfl (.cons _ _ _ rfl (.cons _ _ _ rfl (.cons _ _ _ rfl (.cons _ _ _ rfl (.cons _ _ _ rfl (.nil)))))))))
     ·refine rn ?_;rw [yj8 h k,hg6_1]
      first|exact (v7 (.cons _ _ _ rfl (.cons _ _ _ rfl (.cons _ _ _ rfl (.cons _ _ _ rfl (.cons _ _ _ rfl (.cons _ _ _ rfl (.nil))))))))|(rw [Bool.true_and];exact (v7 (.cons _ _ _ rfl (.cons _ _ _ rfl (.cons _ _ _ rfl (.cons _ _ _ rfl (.cons _ _ _ rfl (.cons _ _ _ rfl (.nil)))))))))
    ·refine rn ?_;refine zab (fun j:Nat=>j≤(nmK h k).length∧(0 < j→okj h k 0=true)∧zbo [] (nmK h k)=zbo ((nmK h k).take j) ((nmK h k).drop j)) (fun j=>⟨[(45,iv j),(43,zdf (nmK h k)),(44,iv ((nmK h k).map zeh).length),(3,bv (okj h k 0)),(6,.v (.map (some b33))),(29,iv k),(28,.agg (zlp h)),(1,pZ b1)],.map b33 (zal yav (yka ((nmK h k).take j))):: .box b1 28 (y9 h):: [.glob 2 156 y3,.glob 4 305 y4,.glob 5 308 y1],[]⟩) (fun j=>(nmK h k).length - j) 0 ⟨by omega,by omega,by simp⟩
      (v7 (.cons _ _ _ rfl (.cons _ _ _ rfl (.cons _ _ _ rfl (.cons _ _ _ rfl (.cons _ _ _ rfl (.cons _ _ _ rfl (.cons _ _ _ rfl (.cons _ _ _ rfl (.nil)))))))))) ?_
     rintro j ⟨hj,hok,hf⟩
     have hlk:=la.nm k
     refine rn ?_;refine z7 rfl (fun hc46=> ?_) (fun hc46=> ?_)
     ·have hj2:j < (nmK h k).length:=by simpa using hc46
      have hrow:(zdf (nmK h k))= .list false 1 ((nmK h k).map zeh):=rfl
      have hrow2:((nmK h k).map zeh)[j]? =some (zeh (nmK h k)[j]):=by simp [hj2]
      have hd:=List.drop_eq_getElem_cons hj2
      refine za7 ?_;refine rn0 ?_;refine w9 ?_;refine zb9 ?_;refine w9 (y6 ?_)
      refine rn0 ?_;refine w9 ?_;refine zp9 (⟨[(3,bv (okj h k 0 && zhf (nmK h k)[j] && !zz3 (nmK h k)[j] ((nmK h k).take j))),(8,sv (nmK h k)[j]),(45,iv j),(43,zdf (nmK h k)),(44,iv ((nmK h k).map zeh).length),(6,.v (.map (some b33))),(29,iv k),(28,.agg (zlp h)),(1,pZ b1)],.map b33 (zal yav (yka ((nmK h k).take j))):: .box b1 28 (y9 h):: [.glob 2 156 y3,.glob 4 305 y4,.glob 5 308 y1],[]⟩) ?_ ?_
      ·refine rn ?_;refine w7 (fun hg10_1=> ?_) (fun hg10_1=> ?_)
       ·refine rn ?_;refine qv rfl rfl (y2 rfl rfl (y0.qt (y0.of_fun (yv5 ((nmK h k)[j]))) ((pt3 _ _ _ _ _).trans (.cons _ (pt3 _ _ _ _ _))))) ?_
        refine rn ?_;refine w7 (fun hg10_5=> ?_) (fun hg10_5=> ?_)
        ·refine rn ?_;refine qq rfl rfl (zsl (enc:=yav) (k:=(nmK h k)[j]) rfl rfl (zzf _ _)) ?_
         refine rn ?_;first|(rw [hg10_1,hg10_5];exact (v7 (.cons _ _ _ rfl (.cons _ _ _ rfl (.cons _ _ _ rfl (.cons _ _ _ rfl (.cons _ _ _ rfl (.cons _ _ _ rfl (.cons _ _ _ rfl (.cons _ _ _ rfl (.cons _ _ _ rfl (.nil))))))))))))|(rw [hg10_1];exact (v7 (.cons _ _ _ rfl (.cons _ _ _ rfl (.cons _ _ _ rfl (.cons _ _ _ rfl (.cons _ _ _ rfl (.cons _ _ _ rfl (.cons _ _ _ rfl (.cons _ _ _ rfl (.cons _ _ _ rfl (.nil))))))))))))
        ·refine rn ?_;first|(rw [hg10_1,hg10_5];exact (v7 (.cons _ _ _ rfl (.cons _ _ _ rfl (.cons _ _ _ rfl (.cons _ _ _ rfl (.cons _ _ _ rfl (.cons _ _ _ rfl (.cons _ _ _ rfl (.cons _ _ _ rfl (.cons _ _ _ rfl (.nil))))))))))))|(rw [hg10_1];exact (v7 (.cons _ _ _ rfl (.cons _ _ _ rfl (.cons _ _ _ rfl (.cons _ _ _ rfl (.cons _ _ _ rfl (.cons _ _ _ rfl (.cons _ _ _ rfl (.cons _ _ _ rfl (.cons _ _ _ rfl (.nil))))))))))))
       ·refine rn ?_;first|(rw [hg10_1,hg10_5];exact (v7 (.cons _ _ _ rfl (.cons _ _ _ rfl (.cons _ _ _ rfl (.cons _ _ _ rfl (.cons _ _ _ rfl (.cons _ _ _ rfl (.cons _ _ _ rfl (.cons _ _ _ rfl (.cons _ _ _ rfl (.nil))))))))))))|(rw [hg10_1];exact (v7 (.cons _ _ _ rfl (.cons _ _ _ rfl (.cons _ _ _ rfl (.cons _ _ _ rfl (.cons _ _ _ rfl (.cons _ _ _ rfl (.cons _ _ _ rfl (.cons _ _ _ rfl (.cons _ _ _ rfl (.nil))))))))))))
      ·refine rn ?_;refine z7 rfl (fun hc61=> ?_) (fun hc61=> ?_)
       ·have hfl:(okj h k 0 && zhf (nmK h k)[j] && !zz3 (nmK h k)[j] ((nmK h k).take j))=false:=ycm hc61
        have hbad:okK h 4=false:=yq0 hk4 (yuo (hf.trans (by rw [hd])) hfl)
        refine rn ?_;first
         |exact (v7 (.cons _ _ _ rfl (.cons _ _ _ rfl (.nil))))
         |(rw [hbad,←hfl];exact (v8 (zcp (h1:= [_])) (v7 (.cons _ _ _ rfl (.cons _ _ _ rfl (.nil))))))
       ·obtain ⟨hok2,hw,hfresh⟩:=yq1 (ycn hc61)
        refine rn ?_;refine z8 rfl (zlo (enc:=yav) (k:=(nmK h k)[j]) rfl rfl rfl ?_)
        refine rn ?_;have hu:=zwj ((nmK h k)[j]) ((nmK h k).take j) (yra.1 hfresh)
        rw [←List.take_succ_eq_append_getElem hj2] at hu
        exact ⟨j+1,⟨by omega,fun _=>hok2,by rw [hf,hd,zbo,hw,List.take_succ_eq_append_getElem hj2];simp [hfresh]⟩,by simp only [hu,hok2,hw,hfresh,Bool.true_and,Bool.not_false];exact (v7 (.cons _ _ _ rfl (.cons _ _ _ rfl (.cons _ _ _ rfl (.cons _ _ _ rfl (.cons _ _ _ rfl (.cons _ _ _ rfl (.cons _ _ _ rfl (.cons _ _ _ rfl (.nil)))))))))),by omega⟩
     ·have hj3:j=(nmK h k).length:=by
       have:(nmK h k).length≤j:=by simpa using hc46
       omega
      refine rn ?_;have hend:=yqz (h:=h) (k:=k) (by rw [hf,hj3,List.drop_length];rfl)
      exact ⟨k+1,by omega,by rw [←hend];exact (v8 (zcp (h1:= [_])) (v7 (.cons _ _ _ rfl (.cons _ _ _ rfl (.cons _ _ _ rfl (.cons _ _ _ rfl (.nil))))))),by omega⟩
   ·have hk4:k=4:=by simp at hc30;omega
    subst hk4
    refine rn ?_;first
     |exact (v7 (.cons _ _ _ rfl (.cons _ _ _ rfl (.nil))))
     |(rw [hbad,←hfl];exact (v8 (zcp (h1:= [_])) (v7 (.cons _ _ _ rfl (.cons _ _ _ rfl (.nil))))))
  ·refine rn ?_;refine z8 rfl (y5 rfl fun b9=> ?_)
   refine rn ?_;refine w7 (fun hg16_1=> ?_) (fun hg16_1=> ?_)
   ·refine rn ?_;refine qv rfl rfl (y2 rfl rfl (y0.of_fun (yvl h.evs (.fn (.func 193) [] [pZ b1]) (zb5 h) (.box b9 231 [.fn (.func 188) [] [pZ b1]]:: .box b1 28 (y9 h):: [.glob 2 156 y3,.glob 4 305 y4,.glob 5 308 y1]) rfl (fun e he=>y0.qt (y0.of_acall (fs:= []) (cs:= [pZ b1]) (yl5 h b1 e (la.scans e he))) (pt1 _ _ _)) la.evs))) ?_
    refine rn ?_;refine w7 (fun hg16_7=> ?_) (fun hg16_7=> ?_)
    ·refine rn ?_;refine qv rfl rfl (y2 rfl rfl (y0.of_fun (ysv h.ords (.fn (.func 196) [] [pZ b1,pZ b9]) (zrr h) (.box b9 231 [.fn (.func 188) [] [pZ b1]]:: .box b1 28 (y9 h):: [.glob 2 156 y3,.glob 4 305 y4,.glob 5 308 y1]) rfl (fun e he=>y0.qt (y0.of_acall (fs:= []) (cs:= [pZ b1,pZ b9]) (yl4 h b1 b9 e (la.ordts e he))) (pt1 _ _ _)) la.ords))) ?_
     refine rn ?_;refine w7 (fun hg16_13=> ?_) (fun hg16_13=> ?_)
     ·refine rn ?_;refine qv rfl rfl (y2 rfl rfl (y0.of_fun (ysw h.mats (.fn (.func 198) [] [pZ b1,pZ b9]) (zu6 h) (.box b9 231 [.fn (.func 188) [] [pZ b1]]:: .box b1 28 (y9 h):: [.glob 2 156 y3,.glob 4 305 y4,.glob 5 308 y1]) rfl (fun e he=>y0.qt (y0.of_acall (fs:= []) (cs:= [pZ b1,pZ b9]) (yl3 h b1 b9 e (la.matts e he))) (pt1 _ _ _)) la.mats))) ?_
      refine rn ?_;refine w7 (fun hg16_19=> ?_) (fun hg16_19=> ?_)
      ·refine rn ?_;refine qv rfl rfl (y2 rfl rfl (y0.of_fun (ysu h.wants (.fn (.func 200) [] [pZ b1]) (zwh h) (.box b9 231 [.fn (.func 188) [] [pZ b1]]:: .box b1 28 (y9 h):: [.glob 2 156 y3,.glob 4 305 y4,.glob 5 308 y1]) rfl (fun e he=>y0.qt (y0.of_acall (fs:= []) (cs:= [pZ b1]) (yl2 h b1 e)) (pt1 _ _ _)) la.wants))) ?_
       refine rn ?_;refine ⟨fun l h=>(by cases h),?_⟩
       exact j9 rfl (.drop [_,_] _ _) ⟨rfl,bvz7_9207⟩
      ·refine rn ?_;refine ⟨fun l h=>(by cases h),?_⟩
       exact j9 rfl (.drop [_,_] _ _) ⟨rfl,bvz7_9207⟩
     ·refine rn ?_;refine ⟨fun l h=>(by cases h),?_⟩
      exact j9 rfl (.drop [_,_] _ _) ⟨rfl,bvz7_9207⟩
    ·refine rn ?_;refine ⟨fun l h=>(by cases h),?_⟩
     exact j9 rfl (.drop [_,_] _ _) ⟨rfl,bvz7_9207⟩
   ·refine rn ?_;refine ⟨fun l h=>(by cases h),?_⟩
    exact j9 rfl (.drop [_,_] _ _) ⟨rfl,bvz7_9207⟩
end Go.Proofs
